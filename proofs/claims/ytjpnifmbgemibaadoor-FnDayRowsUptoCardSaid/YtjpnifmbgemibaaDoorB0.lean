/-
  What is laid for good in this seat: arrays of the program, if any; the library's table of the powers of ten; some number in the library's variable of a greatest length; an error in its variable of faults in texts.
-/
import Derived.WalkKit
import Derived.WalkSpells
import Derived.Lib.LaidTab
import Derived.Lib.ItoaNum
import Derived.Test.YtjpnifmbgemibaaDoorProg
namespace Go.Proofs.YtjpnifmbgemibaaDoor
open Go.RowKit
/-- What is known of the blocks GB, which nobody writes. -/
def Lw (GB : Nat → Prop) (w : World) : Prop :=
  ((GB 0 ∧ GB 1 ∧ ∃ te pe, w.cell? ⟨1, 0, none⟩ = some (.iface te pe)) ∧ ∃ m : Int, w.cell? ⟨0, 0, none⟩ = some (.int .i64 m)) ∧
  (GB 3 ∧ ∃ t fr, w.heap[3]? = some (.cells (Lib.pow10Tab.map fun z => Value.int .u64 z).toArray t fr))
theorem Lw_mono {GB : Nat → Prop} {w w' : World} (h : Lw GB w) (_hl : ∀ b, GB b → b < w.heap.size) (hk : ∀ b, GB b → w'.heap[b]? = w.heap[b]?) (_hs : w.heap.size ≤ w'.heap.size) (_ho : w'.os = w.os) (_ht : w'.tape = w.tape) : Lw GB w' := by
  obtain ⟨⟨⟨h1, h5, te, pe, h6⟩, m, h2⟩, h3, t, fr, h4⟩ := h
  exact ⟨⟨⟨h1, h5, te, pe, (World.cell?_of_block (a := ⟨_, 0, none⟩) (hk _ h5)).trans h6⟩, m, (World.cell?_of_block (a := ⟨_, 0, none⟩) (hk _ h1)).trans h2⟩, h3, t, fr, (hk _ h3).trans h4⟩
/-- The cells of arrays that are laid for good. -/
def gval (_g : Nat) : Option (List Value) := none
theorem Lw_gval {GB : Nat → Prop} {w : World} {g : Nat} {vs : List Value} (_h : Lw GB w) (e : gval g = some vs) : GB g ∧ ∀ j x, vs[j]? = some x → w.cell? ⟨g, j, none⟩ = some x ∧ x.oneCell' = true := by cases e
end Go.Proofs.YtjpnifmbgemibaaDoor
