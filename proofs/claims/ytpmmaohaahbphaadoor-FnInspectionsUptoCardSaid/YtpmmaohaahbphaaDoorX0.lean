/-
  Contracts of functions of Go's library, brought into the form of these texts.
-/
import Derived.Test.YtpmmaohaahbphaaDoorTy
import Derived.Sort.Grow
import Derived.Deep.Draws
namespace Go.Proofs.YtpmmaohaahbphaaDoor
open Go.RowKit

theorem below_grow (w : World) (k : Nat) (os : Array Obj) : Below w.heap.size w (Sort.grow (w.drewN k) os) := by
  refine ⟨rfl, rfl, rfl, ?_, fun i hi => ?_⟩
  · simp [Sort.grow, World.drewN]
  · simp only [Sort.grow, World.drewN]
    rw [Array.getElem?_append_left hi]
theorem below_draw (w : World) (k : Nat) : Below w.heap.size w (w.drewN k) := ⟨rfl, rfl, rfl, Nat.le_refl _, fun _ _ => rfl⟩
theorem spec_ext {P : Program} {f : FuncId} {vs : List Value} {r : AV}
    (hc : ∀ (w : World) (GB : Nat → Prop), Lw GB w → (∀ b, GB b → b < w.heap.size) → Calls P f vs.toArray w fun e w' => ∃ x, e = .returned x ∧ (∀ w S, Rt w S r x) ∧ Below w.heap.size w w') :
    Spec P f (vs.map AV.v) [] r [] := by
  intro w GB V S0 args hLw hGB hHR hsz hargs
  have e : args = vs.toArray := by
    apply Array.ext'
    apply List.ext_getElem?
    intro i
    simp only [Array.getElem?_toList]
    rcases Nat.lt_or_ge i args.size with h | h
    · have e1 : args[i]? = some args[i] := Array.getElem?_eq_getElem h
      have h2 : i < vs.length := by rw [hsz, List.length_map] at h; exact h
      have e2 : (vs.map AV.v)[i]? = some (.v vs[i]) := by simp [h2]
      rw [e1, (hargs i _ _ e2 e1).v_inv]
      simp [h2]
    · rw [Array.getElem?_eq_none h]
      rw [hsz, List.length_map] at h
      simp [h]
  subst e
  refine (hc w GB hLw (fun b hb => (hGB b hb).1)).mono ?_
  rintro e w' ⟨x, rfl, hx, hb⟩
  refine ⟨x, V, rfl, (Kept.refl _ w).below hb, Nat.le_refl _, fun _ _ => rfl, ?_, .imm _ _ (hx _ _)⟩
  exact ⟨fun i j li lj e => by simp at e, fun id lb e => by simp at e, fun id lb e => by simp at e⟩
/-- Values that hold nothing of memory. -/
theorem rt_tup {w : World} {S : Nat → Prop} {cs : List AV} {vs : List Value} (hl : vs.length = cs.length) (h : ∀ (i : Nat) (c : AV) (x : Value), cs[i]? = some c → vs[i]? = some x → Rt w S c x) : Rt w S (.tup cs) (.tuple vs.toArray) :=
  .tup cs vs.toArray (by simpa using hl) (fun i c x e1 e2 => h i c x e1 (by simpa using e2))
end Go.Proofs.YtpmmaohaahbphaaDoor
