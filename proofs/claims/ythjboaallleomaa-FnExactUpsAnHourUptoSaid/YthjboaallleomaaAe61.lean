/-
  The abstract evaluator, part 6a: composite literals, of structs and of slices.
-/
import Derived.Test.YthjboaallleomaaAe6
import Derived.Laws.Tables
import Derived.Great.FillDense
namespace Go.Proofs.Ythjboaallleomaa
open Go.RowKit

/-- Cells into places, one part after the other. -/
def fillA (place : Nat → Option (Nat × Nat)) (acc : List AV) : List (Nat × Option (List AV)) → Option (List AV)
  | [] => some acc
  | (i, o) :: rest =>
    match place i, o with
    | some (off, size), some cs =>
      match Nat.beq cs.length size && Nat.ble (off + size) acc.length with
      | true => fillA place (splice acc off cs) rest
      | false => none
    | _, _ => none
/-- Cells that stand for others. -/
def RelC (Rel : AV → Value → Prop) (l : List AV) (cs : Array Value) : Prop := cs.size = l.length ∧ ∀ (i : Nat) (c : AV) (y : Value), l[i]? = some c → cs[i]? = some y → y.oneCell' = true ∧ Rel c y
theorem fill_rel {Rel : AV → Value → Prop} {place place' : Nat → Option (Nat × Nat)} (hp : ∀ i p, place i = some p → place' i = some p) : ∀ (ps : List (Nat × Option (List AV))) (vs : List (Nat × Value)) (acc res : List AV) (cells : Array Value),
    RelC Rel acc cells → vs.length = ps.length → (∀ (j : Nat) (i i' : Nat) (o : Option (List AV)) (v : Value), ps[j]? = some (i, o) → vs[j]? = some (i', v) → i' = i ∧ ∀ cs, o = some cs → RelC Rel cs v.cells) →
    fillA place acc ps = some res → ∃ r, Instr.fill place' cells vs = some r ∧ RelC Rel res r
  | [], [], acc, res, cells, h, _, _, hf => by
    simp only [fillA, Option.some.injEq] at hf
    subst hf
    exact ⟨cells, rfl, h⟩
  | (i, o) :: ps, (i', v) :: vs, acc, res, cells, h, hl, hv, hf => by
    obtain ⟨rfl, hcs⟩ := hv 0 i i' o v rfl rfl
    unfold fillA at hf
    split at hf
    · rename_i off size cs hpl
      split at hf
      · rename_i hb
        simp only [Bool.and_eq_true] at hb
        have hb1 := Nat.eq_of_beq_eq_true hb.1
        have hb2 := Nat.le_of_ble_eq_true hb.2
        have hc := hcs cs rfl
        have hsz : v.cells.size = size := by rw [hc.1, hb1]
        obtain ⟨g1, g2⟩ := Great.foldl_set off v.cells.toList 0 cells
        have hnew : RelC Rel (splice acc off cs) ((v.cells.toList.zipIdx 0).foldl (fun cs (x : Value × Nat) => cs.setIfInBounds (off + x.2) x.1) cells) := by
          refine ⟨by rw [g1, splice_length (by omega), h.1], fun k c y e1 e2 => ?_⟩
          rw [splice_get (by omega)] at e1
          rw [g2 k] at e2
          simp only [Nat.add_zero, Array.length_toList, hsz] at e2
          by_cases hk : off ≤ k ∧ k < off + cs.length
          · rw [if_pos hk] at e1
            have hk2 : k < cells.size := by rw [h.1]; omega
            rw [if_pos ⟨hk.1, by omega, hk2⟩] at e2
            exact hc.2 (k - off) c y e1 (by simpa using e2)
          · rw [if_neg hk] at e1
            rw [if_neg (by omega)] at e2
            exact h.2 k c y e1 e2
        obtain ⟨r, hr, hrel⟩ := fill_rel hp ps vs _ res _ hnew (by simpa using hl) (fun j i i' o v e1 e2 => hv (j + 1) i i' o v (by simpa using e1) (by simpa using e2)) hf
        refine ⟨r, ?_, hrel⟩
        unfold Instr.fill
        simp only [hp _ _ hpl, hsz]
        rw [if_neg (by rw [h.1]; simp; omega)]
        rw [← hr]
        congr 1
        rw [← Array.foldl_toList, Array.toList_zipIdx]
      · cases hf
    · cases hf
  | [], _ :: _, _, _, _, _, hl, _, _ => by simp at hl
  | _ :: _, [], _, _, _, _, hl, _, _ => by simp at hl

section
variable {P : Program} {o : Oper} {st : St} {T : Nat → Option TI}
def partsA (st : St) (ps : List (Nat × Operand)) : List (Nat × Option (List AV)) := ps.map fun p => (p.1, memCells st.h (st.ev p.2))
def placesA (i : TI) (j : Nat) : Option (Nat × Nat) := match i.offs[j]? with
  | some (o, s, _) => some (o, s)
  | none => none
def evBuildO (o : Option (List AV)) (K : AV → Prop) : Prop := match o with
  | some cs => K (.agg cs)
  | none => False
def evBuild (i : Option TI) (st : St) (ps : List (Nat × Operand)) (K : AV → Prop) : Prop :=
  match i with
  | some i => (i.zero.cells.toList.all Value.oneCell') = true ∧ i.offs.isEmpty = false ∧ evBuildO (fillA (placesA i) (i.zero.cells.toList.map AV.v) (partsA st ps)) K
  | none => False
theorem parts_rel {C : Ctx} {V st a w} (h : SRV C V st a w) (ps : List (Nat × Operand)) (j i i' : Nat) (o : Option (List AV)) (v : Value) (e1 : (partsA st ps)[j]? = some (i, o)) (e2 : (ps.map fun x => (x.1, a.eval x.2))[j]? = some (i', v)) :
    i' = i ∧ ∀ cs, o = some cs → RelC (R w (Stb C.A w st.h V) V st.h.length) cs v.cells := by
  unfold partsA at e1
  rw [List.getElem?_map] at e1 e2
  obtain ⟨p, f1, f2⟩ := Option.map_eq_some_iff.1 e1
  rw [f1] at e2
  simp only [Option.map_some, Option.some.injEq, Prod.mk.injEq] at e2 f2
  obtain ⟨rfl, rfl⟩ := e2
  obtain ⟨rfl, f3⟩ := f2
  refine ⟨rfl, fun cs hcs => ?_⟩
  obtain ⟨c1, c2, c3⟩ := h.memCells (h.ev p.2) (f3.trans hcs)
  exact ⟨c1, fun i c y g1 g2 => ⟨c3 y (Array.mem_toList_iff.2 (Array.mem_of_getElem? g2)), c2 i c y g1 g2⟩⟩
theorem zero_rel {Rel : AV → Value → Prop} (hv : ∀ x, Rel (.v x) x) {z : Array Value} (hz : z.toList.all Value.oneCell' = true) : RelC Rel (z.toList.map AV.v) z := by
  refine ⟨by simp, fun i c y e1 e2 => ?_⟩
  simp only [List.getElem?_map, Array.getElem?_toList, e2, Option.map_some, Option.some.injEq] at e1
  subst e1
  exact ⟨List.all_eq_true.1 hz y (Array.mem_toList_iff.2 (Array.mem_of_getElem? e2)), hv y⟩
theorem vdoes_build {K : AV → Prop} (hT : TOk P T) (t : TypeId) (ps : Array (Nat × Operand)) (ho : o.op = .build t ps) (hk : evBuild (T t) st ps.toList K) : VDoes P o st K := by
  unfold evBuild at hk
  split at hk
  · rename_i i hi
    obtain ⟨hz, hagg, hk⟩ := hk
    unfold evBuildO at hk
    split at hk
    · rename_i cs hcs
      intro C V a w h
      obtain ⟨ti, hti, hzero, _, _⟩ := (hT t i hi).info
      obtain ⟨fs, hu, hpl⟩ := (hT t i hi).places hagg
      obtain ⟨r, hr, hrel⟩ := fill_rel (place' := fun j => ((i.offs.map fun x => (x.1, x.2.1)).toArray)[j]?) (Rel := R w (Stb C.A w st.h V) V st.h.length) (fun j p hp => by
        unfold placesA at hp
        simp only [List.getElem?_toArray, List.getElem?_map]
        split at hp
        · rename_i e; rw [e]; exact hp
        · cases hp) (partsA st ps.toList) (ps.toList.map fun x => (x.1, a.eval x.2)) _ cs i.zero.cells (zero_rel (fun x => .imm _ _ (.v x)) hz) (by simp [partsA]) (fun j i i' o v e1 e2 => parts_rel h _ j i i' o v e1 e2) hcs
      refine ⟨_, .agg r, hk, .agg _ r hrel.1 (fun j c y e1 e2 => (hrel.2 j c y e1 e2).2), fun w' _ => ?_⟩
      have hb : P.built t (ps.toList.map fun x => (x.1, a.eval x.2)) = some r := by
        unfold Program.built
        rw [hti, hu]
        simp only [hzero, hpl]
        exact hr
      have hb2 : P.built t (ps.map fun x => (x.1, a.eval x.2)).toList = some r := by simpa using hb
      have := run_build w' t _ r hb2
      simp [execOp, ho, this]
    · exact hk.elim
  · exact hk.elim
end
end Go.Proofs.Ythjboaallleomaa
