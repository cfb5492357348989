/-
  What is laid for good in this seat: the library's table of the powers of ten.
-/
import Derived.WalkKit
import Derived.WalkSpells
import Derived.Lib.LaidTab
import Derived.Lib.ItoaNum
import Derived.Test.YteckiilljhdkpaaDoorProg
namespace Go.Proofs.YteckiilljhdkpaaDoor
open Go.RowKit
/-- What is known of the blocks GB, which nobody writes. -/
def Lw (GB : Nat → Prop) (w : World) : Prop :=
  GB 1 ∧ ∃ t fr, w.heap[1]? = some (.cells (Lib.pow10Tab.map fun z => Value.int .u64 z).toArray t fr)
theorem Lw_mono {GB : Nat → Prop} {w w' : World} (h : Lw GB w) (_hl : ∀ b, GB b → b < w.heap.size) (hk : ∀ b, GB b → w'.heap[b]? = w.heap[b]?) (_hs : w.heap.size ≤ w'.heap.size) (_ho : w'.os = w.os) (_ht : w'.tape = w.tape) : Lw GB w' := by
  obtain ⟨h3, t, fr, h4⟩ := h
  exact ⟨h3, t, fr, (hk _ h3).trans h4⟩
end Go.Proofs.YteckiilljhdkpaaDoor
