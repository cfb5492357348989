/-
  What is laid for good in this seat: arrays of the program, if any; the library's table of the powers of ten; some number in the library's variable of a greatest length; an error in its variable of faults in texts.
-/
import Derived.WalkKit
import Derived.WalkSpells
import Derived.Lib.LaidTab
import Derived.Lib.ItoaNum
import Derived.Test.YtaajchikfgbecaaGreatDoorProg
namespace Go.Proofs.YtaajchikfgbecaaGreatDoor
open Go.RowKit
def arr0 : List Value := [.int .i64 0, .int .i64 500, .int .i64 866, .int .i64 1000]
/-- What is known of the blocks GB, which nobody writes. -/
def Lw (GB : Nat → Prop) (w : World) : Prop :=
  ((GB 1 ∧ (GB 4 ∧ (GB 0 ∧ ∃ t fr, w.heap[0]? = some (.cells arr0.toArray t fr))) ∧ ∃ te pe, w.cell? ⟨4, 0, none⟩ = some (.iface te pe)) ∧ ∃ m : Int, w.cell? ⟨1, 0, none⟩ = some (.int .i64 m)) ∧
  (GB 6 ∧ ∃ t fr, w.heap[6]? = some (.cells (Lib.pow10Tab.map fun z => Value.int .u64 z).toArray t fr))
theorem Lw_mono {GB : Nat → Prop} {w w' : World} (h : Lw GB w) (_hl : ∀ b, GB b → b < w.heap.size) (hk : ∀ b, GB b → w'.heap[b]? = w.heap[b]?) (_hs : w.heap.size ≤ w'.heap.size) (_ho : w'.os = w.os) (_ht : w'.tape = w.tape) : Lw GB w' := by
  obtain ⟨⟨⟨h1, ⟨h5, a0, t0, f0, c0⟩, te, pe, h6⟩, m, h2⟩, h3, t, fr, h4⟩ := h
  exact ⟨⟨⟨h1, ⟨h5, ⟨a0, t0, f0, (hk _ a0).trans c0⟩⟩, te, pe, (World.cell?_of_block (a := ⟨_, 0, none⟩) (hk _ h5)).trans h6⟩, m, (World.cell?_of_block (a := ⟨_, 0, none⟩) (hk _ h1)).trans h2⟩, h3, t, fr, (hk _ h3).trans h4⟩
/-- The cells of arrays that are laid for good. -/
def gval : Nat → Option (List Value)
  | 0 => some [.int .i64 0, .int .i64 500, .int .i64 866, .int .i64 1000]
  | _ => none
theorem laid_arr {GB : Nat → Prop} {w : World} {g : Nat} {l : List Value} (h : GB g ∧ ∃ t fr, w.heap[g]? = some (.cells l.toArray t fr)) (h1 : ∀ x ∈ l, x.oneCell' = true) : GB g ∧ ∀ j x, l[j]? = some x → w.cell? ⟨g, j, none⟩ = some x ∧ x.oneCell' = true := by
  obtain ⟨h0, t, fr, h2⟩ := h
  refine ⟨h0, fun j x hx => ⟨?_, h1 x (List.mem_of_getElem? hx)⟩⟩
  unfold World.cell?
  rw [h2]
  exact (List.getElem?_toArray (xs := l) (i := j)).trans hx
theorem Lw_gval {GB : Nat → Prop} {w : World} {g : Nat} {vs : List Value} (h : Lw GB w) (e : gval g = some vs) : GB g ∧ ∀ j x, vs[j]? = some x → w.cell? ⟨g, j, none⟩ = some x ∧ x.oneCell' = true := by
  obtain ⟨⟨⟨_, ⟨_, q0⟩, _⟩, _⟩, _⟩ := h
  unfold gval at e
  split at e
  · obtain rfl := Option.some.inj e
    exact laid_arr (l := arr0) q0 (fun x hx => by
      simp only [arr0, List.mem_cons, List.not_mem_nil, or_false] at hx
      rcases hx with rfl | rfl | rfl | rfl <;> rfl)
  · cases e
end Go.Proofs.YtaajchikfgbecaaGreatDoor
