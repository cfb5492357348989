/-
  What is laid for good in this seat: the kinds of events at a platform; the library's table of the powers of ten.
-/
import Derived.WalkKit
import Derived.WalkSpells
import Derived.Lib.LaidTab
import Derived.Lib.ItoaNum
import Derived.Test.YteckiilljhdkpaaDoorProg
namespace Go.Proofs.YteckiilljhdkpaaDoor
open Go.RowKit
/-- The eight kinds, as they are laid. -/
def kindVs : List Value := [.string (ByteArray.mk #[99, 111, 109, 101]), .string (ByteArray.mk #[111, 112, 101, 110]), .string (ByteArray.mk #[115, 104, 117, 116]), .string (ByteArray.mk #[101, 110, 116, 101, 114]), .string (ByteArray.mk #[108, 101, 97, 118, 101]), .string (ByteArray.mk #[97, 114, 114, 105, 118, 101]), .string (ByteArray.mk #[108, 101, 118, 101, 108]), .string (ByteArray.mk #[103, 111])]
/-- What is known of the blocks GB, which nobody writes. -/
def Lw (GB : Nat → Prop) (w : World) : Prop :=
  (GB 0 ∧ ∃ t fr, w.heap[0]? = some (.cells kindVs.toArray t fr)) ∧
  (GB 1 ∧ ∃ t fr, w.heap[1]? = some (.cells (Lib.pow10Tab.map fun z => Value.int .u64 z).toArray t fr))
theorem Lw_mono {GB : Nat → Prop} {w w' : World} (h : Lw GB w) (_hl : ∀ b, GB b → b < w.heap.size) (hk : ∀ b, GB b → w'.heap[b]? = w.heap[b]?) (_hs : w.heap.size ≤ w'.heap.size) (_ho : w'.os = w.os) (_ht : w'.tape = w.tape) : Lw GB w' := by
  obtain ⟨⟨h1, t1, fr1, h2⟩, h3, t, fr, h4⟩ := h
  exact ⟨⟨h1, t1, fr1, (hk _ h1).trans h2⟩, h3, t, fr, (hk _ h3).trans h4⟩
/-- The cells of arrays that are laid for good. -/
def gval : Nat → Option (List Value)
  | 0 => some [.string (ByteArray.mk #[99, 111, 109, 101]), .string (ByteArray.mk #[111, 112, 101, 110]), .string (ByteArray.mk #[115, 104, 117, 116]), .string (ByteArray.mk #[101, 110, 116, 101, 114]), .string (ByteArray.mk #[108, 101, 97, 118, 101]), .string (ByteArray.mk #[97, 114, 114, 105, 118, 101]), .string (ByteArray.mk #[108, 101, 118, 101, 108]), .string (ByteArray.mk #[103, 111])]
  | _ => none
theorem Lw_gval {GB : Nat → Prop} {w : World} {g : Nat} {vs : List Value} (h : Lw GB w) (e : gval g = some vs) : GB g ∧ ∀ j x, vs[j]? = some x → w.cell? ⟨g, j, none⟩ = some x ∧ x.oneCell' = true := by
  unfold gval at e
  split at e
  · obtain rfl := Option.some.inj e
    obtain ⟨⟨h1, t, fr, h2⟩, _⟩ := h
    refine ⟨h1, fun j x hx => ⟨?_, ?_⟩⟩
    · unfold World.cell?
      rw [h2]
      exact (List.getElem?_toArray (xs := kindVs) (i := j)).trans hx
    · have hm := List.mem_of_getElem? hx
      simp only [List.mem_cons, List.not_mem_nil, or_false] at hm
      rcases hm with rfl | rfl | rfl | rfl | rfl | rfl | rfl | rfl <;> rfl
  · cases e
end Go.Proofs.YteckiilljhdkpaaDoor
