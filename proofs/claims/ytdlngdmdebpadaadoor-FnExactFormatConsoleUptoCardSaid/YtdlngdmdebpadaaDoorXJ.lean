/-
  The contract of the library's function that joins texts.
-/
import Derived.Test.YtdlngdmdebpadaaDoorX1
namespace Go.Proofs
open Go.Shelf
theorem Tryd.Builder_Extra_156 : Builder.Extra Tryd.prog Tryd.lays156_ren := {
  sizeBuilder := by kernel_rfl
  liesBuilder := by kernel_rfl
  t5 := Tryd.underlying5
  a5 := Tryd.isAgg5
  z5 := Tryd.sizeOf5
  v5 := Tryd.zeroValue5
  infoByte := by kernel_rfl
  cellsByte := by kernel_rfl
  sizeByte := by kernel_rfl
  neB5 := by decide }
end Go.Proofs
namespace Go.Proofs.YtdlngdmdebpadaaDoor
open Go.RowKit

def joinB (xs : List ByteArray) (sep : ByteArray) : ByteArray := ⟨(Lib.join (xs.map (·.data.toList)) sep.data.toList).toArray⟩
theorem lt_size_of_cell {w : World} {b o : Nat} {x : Value} (h : w.cell? ⟨b, o, none⟩ = some x) : b < w.heap.size := by
  rcases Nat.lt_or_ge b w.heap.size with h1 | h1
  · exact h1
  · exfalso
    unfold World.cell? at h
    rw [Array.getElem?_eq_none h1] at h
    simp at h
/-- A function of the library over whatever lies at rest. -/
theorem spec_ext2 {P : Program} {f : FuncId} {az : List AV} {r : AV}
    (hc : ∀ (w : World) (GB : Nat → Prop) (S : Nat → Prop) (V : Nat → Info) (vs : Array Value), Lw GB w → (∀ b, GB b → b < w.heap.size) → vs.size = az.length → (∀ (i : Nat) (c : AV) (x : Value), az[i]? = some c → vs[i]? = some x → R w S V 0 c x) →
      Calls P f vs w fun e w' => ∃ x, e = .returned x ∧ (∀ w S, Rt w S r x) ∧ Below w.heap.size w w') :
    Spec P f az [] r [] := by
  intro w GB V S0 args hLw hGB hHR hsz hargs
  refine (hc w GB _ V args hLw (fun b hb => (hGB b hb).1) hsz hargs).mono ?_
  rintro e w' ⟨x, rfl, hx, hb⟩
  refine ⟨x, V, rfl, (Kept.refl _ w).below hb, Nat.le_refl _, fun _ _ => rfl, ?_, .imm _ _ (hx _ _)⟩
  exact ⟨fun i j li lj e => by simp at e, fun id lb e => by simp at e, fun id lb e => by simp at e⟩
theorem two_args {vs : Array Value} {x y : Value} (h : vs.size = 2) (h0 : vs[0]? = some x) (h1 : vs[1]? = some y) : vs = #[x, y] := by
  apply Array.ext'
  apply List.ext_getElem?
  intro i
  match i with
  | 0 => simpa using h0
  | 1 => simpa using h1
  | i + 2 => rw [Array.getElem?_toList, Array.getElem?_eq_none (by omega)]; rfl
theorem ext_strings_Join (xs : List ByteArray) (sep : ByteArray) (h : (joinB xs sep).size ≤ 140737488355328) : Spec Tryd.prog 23 [.tree .str xs, .v (.string sep)] [] (.v (.string (joinB xs sep))) [] :=
  spec_ext2 fun w GB S V vs hL hB hsz hargs => by
    have hsz : vs.size = 2 := hsz
    obtain ⟨x0, h0⟩ : ∃ x, vs[0]? = some x := ⟨_, Array.getElem?_eq_getElem (by omega)⟩
    obtain ⟨x1, h1⟩ : ∃ x, vs[1]? = some x := ⟨_, Array.getElem?_eq_getElem (by omega)⟩
    have r0 := (hargs 0 _ _ rfl h0).tree_inv
    have r1 := (hargs 1 _ _ rfl h1).v_inv
    rw [r1] at h1
    cases r0 with
    | tree _ _ a len cap b o X hlen hb hc hm ha hx hh =>
      subst hlen
      rw [two_args hsz h0 h1]
      rcases Nat.eq_zero_or_pos xs.length with hz | hz
      · obtain rfl := List.length_eq_zero_iff.1 hz
        refine (Any.strings_Join_none Tryd.lays156 Tryd.Builder_Extra_156 a cap sep w).mono ?_
        rintro e w' ⟨rfl, rfl⟩
        exact ⟨_, rfl, fun w S => .v _, Below.refl _ _⟩
      · obtain ⟨rfl, hS⟩ := ha hz
        have cells : ∀ (j : Nat) x, xs[j]? = some x → w.cell? ⟨b, o + j, none⟩ = some (.string x) := fun j x e => by
          obtain ⟨hj, ej⟩ := List.getElem?_eq_some_iff.1 e
          have e0 : (rowT .str xs j)[0]? = some (.v (.string x)) := by
            have e1 : ∀ d : ByteArray, xs.getD j d = x := fun d => by rw [List.getD_eq_getElem?_getD, e]; rfl
            exact congrArg (fun z => some (AV.v (.string z))) (e1 _)
          have q1 := (hx j 0 _ hj e0).1
          have q2 := hh j 0 _ hj e0
          generalize X j 0 = y at q1 q2
          cases q2
          simpa [Ty.n] using q1
        have hbk : b < w.heap.size := lt_size_of_cell (cells 0 xs[0] (List.getElem?_eq_getElem hz))
        refine (Any.strings_Join Tryd.lays156 Tryd.Builder_Extra_156 b o cap xs sep w cells hbk hb hc (by simpa [joinB, ByteArray.size] using h)).mono ?_
        rintro e w' ⟨rfl, hbel⟩
        exact ⟨_, rfl, fun w S => .v _, hbel⟩
end Go.Proofs.YtdlngdmdebpadaaDoor
