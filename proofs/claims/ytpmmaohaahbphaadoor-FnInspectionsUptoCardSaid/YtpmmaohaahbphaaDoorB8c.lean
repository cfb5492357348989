/-
  The abstract evaluator, part 8c: a part of an own slice is cleared.
-/
import Derived.Test.YtpmmaohaahbphaaDoorB8t
namespace Go.Proofs.YtpmmaohaahbphaaDoor
open Go.RowKit

def clr {α : Type} (xs : List α) (lo n : Nat) (z : α) : List α := xs.take lo ++ List.replicate n z ++ xs.drop (lo + n)
theorem clr_length {α : Type} (xs : List α) (lo n : Nat) (z : α) (h : lo + n ≤ xs.length) : (clr xs lo n z).length = xs.length := by
  simp [clr]; omega
theorem clr_get {α : Type} (xs : List α) (lo n : Nat) (z d : α) (h : lo + n ≤ xs.length) (k : Nat) (hk : k < xs.length) : (clr xs lo n z).getD k d = if lo ≤ k ∧ k < lo + n then z else xs.getD k d := by
  simp only [clr, List.getD_eq_getElem?_getD]
  by_cases h1 : k < lo
  · rw [if_neg (by omega), List.append_assoc, List.getElem?_append_left (by simp; omega), List.getElem?_take, if_pos h1]
  · by_cases h2 : k < lo + n
    · rw [if_pos ⟨by omega, h2⟩, List.getElem?_append_left (by simp; omega), List.getElem?_append_right (by simp; omega)]
      simp only [List.length_take, List.getElem?_replicate]
      rw [if_pos (by omega)]; rfl
    · rw [if_neg (by omega), List.getElem?_append_right (by simp; omega), List.getElem?_drop]
      simp only [List.length_append, List.length_take, List.length_replicate]
      rw [show lo + n + (k - (min lo xs.length + n)) = k by omega]
theorem clr_zero {α : Type} (xs : List α) (lo : Nat) (z : α) : clr xs lo 0 z = xs := by
  simp [clr]

section
variable {P : Program} {M : Nat → List Bool} {o : Oper} {st : St} {T : Nat → Option TI}
def evClearZ (ty : Nat) (t : Ty) (xs : List t.den) (lo n id : Nat) (z : Option t.den) (st : St) (K : AV → St → Prop) : Prop :=
  match z with
  | some z => K (.v (.tuple #[])) ⟨st.s, st.h.set id (some (.arr ty t (clr xs lo n z)))⟩
  | none => False
def evClear (T : Nat → Option TI) (i : Option TI) (st : St) (x : AV) (K : AV → St → Prop) : Prop :=
  match i with
  | some ti => match elemT T (some ti) with
    | some te => match x with
      | .view id lo n => match st.h[id]? with
        | some (some (.arr ty t xs)) => (te.zero.cells.toList.all Value.oneCell' && Nat.beq t.n te.size && Nat.beq te.zero.cells.size te.size && Nat.blt 0 te.size) = true ∧ evClearZ ty t xs lo n id (t.dec (te.zero.cells.toList.map AV.v)) st K
        | _ => False
      | _ => False
    | none => False
  | none => False
theorem zeroCells_get (z : Array Value) (n k s j : Nat) (hz : z.size = s) (hj : j < s) (hk : k < n) : (Builtin.zeroCells z n)[k * s + j]? = z[j]? := by
  subst hz
  have hlt : k * z.size + j < n * z.size := by
    have : (k + 1) * z.size ≤ n * z.size := Nat.mul_le_mul_right _ hk
    rw [Nat.succ_mul] at this; omega
  have hm : (k * z.size + j) % z.size = j := by rw [Nat.mul_add_mod_self_right, Nat.mod_eq_of_lt hj]
  simp [Builtin.zeroCells, hlt, hm, hj]
theorem edoes_clear {K : AV → St → Prop} (hT : TOk P T) (t : TypeId) (x : Operand) (ho : o.op = .call { callee := .builtin .clear, args := #[x], argTypes := #[t] }) (hk : evClear T (T t) st (st.ev x) K) (hM : belB M o.op = false) : EDoes P M o st K := by
  unfold evClear at hk
  split at hk
  · rename_i ti hti
    split at hk
    · rename_i te hte
      split at hk
      · rename_i id lo n hx
        split at hk
        · rename_i ty tt xs hlb
          obtain ⟨hz, hk⟩ := hk
          simp only [Bool.and_eq_true, Nat.blt_eq] at hz
          obtain ⟨⟨⟨hz1, hz0⟩, hz2⟩, hz3⟩ := hz
          have hz0 := Nat.eq_of_beq_eq_true hz0
          have hz2 := Nat.eq_of_beq_eq_true hz2
          unfold evClearZ at hk
          split at hk
          · rename_i z hdec
            obtain ⟨d1, d2⟩ := dec_sound tt _ z hdec
            obtain ⟨ti', hi, hel, hte'⟩ := elemT_sound hte
            cases hi
            have hu := (hT t ti hti).elem hel
            have hzv := (hT _ te hte').zero
            intro C V a w h next Q hn
            obtain ⟨hle, cap, hcl, hcm, ev⟩ := h.part hlb (hx ▸ h.ev x)
            have hnb : ∀ {p : Prop}, belA M o.op a → p := fun e => belA_no hM (fun _ _ _ e => by rw [ho] at e; cases e) e
            rcases Nat.eq_zero_or_pos n with hn0 | hnp
            · subst hn0
              have hrun : (execOp a.eval o).run P w = .ok (.value (.tuple #[])) w := by
                simp [execOp, ho, ev, resolve, invoke, builtin, Builtin.clear_, run_underlying hu]
              unfold Oper.wp
              rw [hrun]
              have hset : st.h.set id (some (.arr ty tt (clr xs lo 0 z))) = st.h := by
                rw [clr_zero]
                apply List.ext_getElem?
                intro i
                rw [List.getElem?_set]
                by_cases hi : id = i
                · subst hi
                  rw [if_pos rfl, if_pos (List.getElem?_eq_some_iff.1 hlb).1, hlb]
                · rw [if_neg hi]
              rw [hset] at hk
              exact hn _ st.h V _ w hk h (.imm _ _ (.v _)) hnb
            · obtain ⟨cur, hcur⟩ := h.hr.blk id _ hlb
              obtain ⟨cap2, g1, g2, g3, g4, g5⟩ := hcur.own rfl
              have g2 : xs.length ≤ cap2 := g2
              have g4 : cur.size = cap2 * tt.n := g4
              have g5 : xs.length ≤ bigLen := g5
              have hne : ¬ cap = lo := by omega
              rw [if_neg hne] at ev
              have hvl : (Builtin.zeroCells te.zero.cells n).toList.length = n * tt.n := by simp [Builtin.zeroCells, hz2, hz0]
              have hfit : lo * tt.n + 0 + (Builtin.zeroCells te.zero.cells n).toList.length ≤ cur.size := by
                rw [hvl, g4]
                have : (lo + n) * tt.n ≤ cap2 * tt.n := Nat.mul_le_mul_right _ (by omega)
                rw [Nat.add_mul] at this; omega
              have hone : ∀ v ∈ (Builtin.zeroCells te.zero.cells n).toList, v.oneCell' = true := fun v hv => by
                obtain ⟨i, hi, rfl⟩ := List.mem_iff_getElem.1 hv
                simp only [Builtin.zeroCells] at hi ⊢
                simp only [Array.getElem_toList, Array.getElem_map, Array.getElem_range]
                have hsz : 0 < te.zero.cells.size := by omega
                have hm := Nat.mod_lt i hsz
                rw [getElem!_pos te.zero.cells (i % te.zero.cells.size) hm]
                exact List.all_eq_true.1 hz1 _ (by simp)
              obtain ⟨fr, hheap, hfr⟩ := hcur.heap rfl
              have hst := run_storeCells_fr P (V id).blk (lo * tt.n) ty fr (Builtin.zeroCells te.zero.cells n).toList 0 cur w hheap hfr hfit hone
              simp only [Nat.add_zero] at hst
              obtain ⟨m, rfl⟩ : ∃ m, n = m + 1 := ⟨n - 1, by omega⟩
              have hrun : (execOp a.eval o).run P w = .ok (.value (.tuple #[])) (w.setRow (V id).blk (cur.toList.take (lo * tt.n) ++ (Builtin.zeroCells te.zero.cells (m + 1)).toList ++ cur.toList.drop (lo * tt.n + (Builtin.zeroCells te.zero.cells (m + 1)).toList.length)).toArray) := by
                simp [execOp, ho, ev, resolve, invoke, builtin, Builtin.clear_, run_underlying hu, hzv, hst]
              unfold Oper.wp
              rw [hrun]
              refine hn _ _ V _ _ hk ?_ (.imm _ _ (.v _)) hnb
              have hget : ∀ k j, k < xs.length → j < tt.n → (cur.toList.take (lo * tt.n) ++ (Builtin.zeroCells te.zero.cells (m + 1)).toList ++ cur.toList.drop (lo * tt.n + (Builtin.zeroCells te.zero.cells (m + 1)).toList.length)).toArray[k * tt.n + j]? = if lo ≤ k ∧ k < lo + (m + 1) then te.zero.cells[j]? else cur[k * tt.n + j]? := fun k j hk hj => by
                have hcap : lo * tt.n ≤ cur.toList.length := by
                  have : (lo + (m + 1)) * tt.n ≤ cap2 * tt.n := Nat.mul_le_mul_right _ (by omega)
                  rw [Nat.add_mul] at this; simp; omega
                have htl : (cur.toList.take (lo * tt.n)).length = lo * tt.n := by rw [List.length_take]; omega
                rw [List.getElem?_toArray]
                by_cases h1 : k < lo
                · have : (k + 1) * tt.n ≤ lo * tt.n := Nat.mul_le_mul_right _ h1
                  rw [Nat.succ_mul] at this
                  rw [if_neg (by omega), List.append_assoc, List.getElem?_append_left (by rw [htl]; omega), List.getElem?_take, if_pos (by omega)]
                  simp
                · have h1' : lo * tt.n ≤ k * tt.n := Nat.mul_le_mul_right _ (by omega)
                  by_cases h2 : k < lo + (m + 1)
                  · have h3 : (k + 1) * tt.n ≤ (lo + (m + 1)) * tt.n := Nat.mul_le_mul_right _ (by omega)
                    rw [Nat.succ_mul, Nat.add_mul] at h3
                    rw [if_pos ⟨by omega, h2⟩, List.getElem?_append_left (by rw [List.length_append, htl, hvl]; omega), List.getElem?_append_right (by rw [htl]; omega), htl]
                    have := zeroCells_get te.zero.cells (m + 1) (k - lo) tt.n j (by omega) hj (by omega)
                    rw [Nat.sub_mul] at this
                    rw [Array.getElem?_toList, ← this]
                    congr 1; omega
                  · have h3 : (lo + (m + 1)) * tt.n ≤ k * tt.n := Nat.mul_le_mul_right _ (by omega)
                    rw [Nat.add_mul] at h3
                    rw [if_neg (by omega), List.getElem?_append_right (by rw [List.length_append, htl, hvl]; omega), List.getElem?_drop, List.length_append, htl, hvl]
                    rw [show lo * tt.n + (m + 1) * tt.n + (k * tt.n + j - (lo * tt.n + (m + 1) * tt.n)) = k * tt.n + j by omega]
                    simp
              refine h.write hlb (lb' := .arr ty tt (clr xs lo (m + 1) z)) (w' := w.setRow (V id).blk _) (cur' := (cur.toList.take (lo * tt.n) ++ (Builtin.zeroCells te.zero.cells (m + 1)).toList ++ cur.toList.drop (lo * tt.n + (Builtin.zeroCells te.zero.cells (m + 1)).toList.length)).toArray) rfl rfl rfl (by simp) (fun k hk => setRow_other w _ k _ hk) (fun hS => ?_)
              have hcl2 := clr_length xs lo (m + 1) z hle
              have hcell : ∀ (k j : Nat) (c : AV), k < xs.length → (rowT tt (clr xs lo (m + 1) z) k)[j]? = some c → j < tt.n ∧ ((lo ≤ k ∧ k < lo + (m + 1) ∧ (tt.enc z)[j]? = some c) ∨ (¬ (lo ≤ k ∧ k < lo + (m + 1)) ∧ (rowT tt xs k)[j]? = some c)) := fun k j c hk hj => by
                refine ⟨by rw [← rowT_length tt (clr xs lo (m + 1) z) k]; exact (List.getElem?_eq_some_iff.1 hj).1, ?_⟩
                simp only [rowT, clr_get xs lo (m + 1) z tt.dflt hle k hk] at hj
                by_cases hin : lo ≤ k ∧ k < lo + (m + 1)
                · rw [if_pos hin] at hj; exact .inl ⟨hin.1, hin.2, hj⟩
                · rw [if_neg hin] at hj; exact .inr ⟨hin, hj⟩
              refine ⟨hcur.sz, ?_, fun _ => ⟨fr, setRow_heap w _ cur _ _ _ hheap, ?_⟩, fun k j c hk hj => ?_, fun _ k j c y hk hj hy => ?_, (fun e => by simp [LB.isArr] at e), fun _ => ⟨cap2, ?_, ?_, g3, ?_, ?_⟩, trivial⟩
              · rw [hcur.ln]; exact hcl2.symm
              · have hsz2 : (cur.toList.take (lo * tt.n) ++ (Builtin.zeroCells te.zero.cells (m + 1)).toList ++ cur.toList.drop (lo * tt.n + (Builtin.zeroCells te.zero.cells (m + 1)).toList.length)).toArray.size = cur.size := by
                  rw [List.size_toArray, List.length_append, List.length_append, List.length_take, List.length_drop, Array.length_toList]
                  omega
                rw [hsz2]; exact hfr
              · have hk : k < xs.length := by rw [← hcl2]; exact hk
                obtain ⟨hjn, hor⟩ := hcell k j c hk hj
                show ∃ y, _[k * tt.n + j]? = some y ∧ _
                rw [hget k j hk hjn]
                rcases hor with ⟨q1, q2, q3⟩ | ⟨q1, q3⟩
                · rw [if_pos ⟨q1, q2⟩]
                  have hx' : te.zero.cells[j]? = some te.zero.cells[j] := Array.getElem?_eq_getElem (by omega)
                  exact ⟨_, hx', List.all_eq_true.1 hz1 _ (by simp), .imm _ _ (d2 j (.v te.zero.cells[j]) c (by simp [hx']) q3 _ _ _ (.v _))⟩
                · rw [if_neg q1]
                  obtain ⟨y, f1, f2, f3⟩ := hcur.cell k j c hk q3
                  exact ⟨y, f1, f2, f3.mono hS (fun _ _ => rfl) (Nat.le_refl _)⟩
              · have hk : k < xs.length := by rw [← hcl2]; exact hk
                obtain ⟨hjn, hor⟩ := hcell k j c hk hj
                have hy : _[k * tt.n + j]? = some y := hy
                rw [hget k j hk hjn] at hy
                rcases hor with ⟨q1, q2, q3⟩ | ⟨q1, q3⟩
                · rw [if_pos ⟨q1, q2⟩] at hy
                  exact d2 j (.v y) c (by simp [hy]) q3 _ _ _ (.v _)
                · rw [if_neg q1] at hy
                  exact (hcur.still rfl k j c y hk q3 hy).mono hS
              · show (V id).val = .slice _ (clr xs lo (m + 1) z).length cap2
                rw [hcl2]; exact g1
              · show (clr xs lo (m + 1) z).length ≤ cap2
                rw [hcl2]; exact g2
              · show (List.toArray _).size = cap2 * tt.n
                rw [List.size_toArray, List.length_append, List.length_append, List.length_take, List.length_drop, hvl]
                have : (lo + (m + 1)) * tt.n ≤ cap2 * tt.n := Nat.mul_le_mul_right _ (by omega)
                rw [Nat.add_mul] at this
                simp; omega
              · show (clr xs lo (m + 1) z).length ≤ bigLen
                rw [hcl2]; exact g5
          · exact hk.elim
        · exact hk.elim
      · exact hk.elim
    · exact hk.elim
  · exact hk.elim
end
end Go.Proofs.YtpmmaohaahbphaaDoor
