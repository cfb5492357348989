/-
  What is laid for good in this seat: the library's table of the powers of ten.
-/
import Derived.WalkKit
import Derived.WalkSpells
import Derived.Lib.LaidTab
import Derived.Lib.ItoaNum
import Derived.Test.YtpmmaohaahbphaaDoorProg
namespace Go.Proofs.YtpmmaohaahbphaaDoor
open Go.RowKit
/-- What is known of the blocks GB, which nobody writes. -/
def Lw (GB : Nat → Prop) (w : World) : Prop :=
  True ∧ (GB 0 ∧ ∃ t fr, w.heap[0]? = some (.cells (Lib.pow10Tab.map fun z => Value.int .u64 z).toArray t fr))
theorem Lw_mono {GB : Nat → Prop} {w w' : World} (h : Lw GB w) (_hl : ∀ b, GB b → b < w.heap.size) (hk : ∀ b, GB b → w'.heap[b]? = w.heap[b]?) (_hs : w.heap.size ≤ w'.heap.size) (_ho : w'.os = w.os) (_ht : w'.tape = w.tape) : Lw GB w' := by
  obtain ⟨_, h3, t, fr, h4⟩ := h
  exact ⟨trivial, h3, t, fr, (hk _ h3).trans h4⟩
/-- The cells of arrays that are laid for good. -/
def gval (_g : Nat) : Option (List Value) := none
theorem Lw_gval {GB : Nat → Prop} {w : World} {g : Nat} {vs : List Value} (_h : Lw GB w) (e : gval g = some vs) : GB g ∧ ∀ j x, vs[j]? = some x → w.cell? ⟨g, j, none⟩ = some x ∧ x.oneCell' = true := by cases e
end Go.Proofs.YtpmmaohaahbphaaDoor
