/-
  What is laid for good in this seat: nothing.
-/
import Derived.WalkKit
namespace Go.Proofs.Ytaajchikfgbecaa
open Go.RowKit
/-- What is known of the blocks GB, which nobody writes. -/
def Lw (_GB : Nat → Prop) (_w : World) : Prop := True
theorem Lw_mono {GB : Nat → Prop} {w w' : World} (_h : Lw GB w) (_hl : ∀ b, GB b → b < w.heap.size) (_hk : ∀ b, GB b → w'.heap[b]? = w.heap[b]?) (_hs : w.heap.size ≤ w'.heap.size) (_ho : w'.os = w.os) (_ht : w'.tape = w.tape) : Lw GB w' := trivial
/-- The cells of arrays that are laid for good. -/
def gval (_g : Nat) : Option (List Value) := none
theorem Lw_gval {GB : Nat → Prop} {w : World} {g : Nat} {vs : List Value} (_h : Lw GB w) (e : gval g = some vs) : GB g ∧ ∀ j x, vs[j]? = some x → w.cell? ⟨g, j, none⟩ = some x ∧ x.oneCell' = true := by cases e
end Go.Proofs.Ytaajchikfgbecaa
