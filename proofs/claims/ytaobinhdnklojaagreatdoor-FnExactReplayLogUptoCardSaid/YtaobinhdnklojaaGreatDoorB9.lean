/-
  The abstract evaluator, part 9: the evaluator itself, over regions and code; its soundness.
-/
import Derived.Test.YtaobinhdnklojaaGreatDoorB8t
import Derived.Laws.BytesString
import Derived.Lib.ConvBytes
import Derived.StillTail
namespace Go.Proofs.YtaobinhdnklojaaGreatDoor
open Go.RowKit

def clr {α : Type} (xs : List α) (lo n : Nat) (z : α) : List α := xs.take lo ++ List.replicate n z ++ xs.drop (lo + n)
theorem clr_length {α : Type} (xs : List α) (lo n : Nat) (z : α) (h : lo + n ≤ xs.length) : (clr xs lo n z).length = xs.length := by
  simp [clr]; omega
theorem clr_get {α : Type} (xs : List α) (lo n : Nat) (z d : α) (h : lo + n ≤ xs.length) (k : Nat) (hk : k < xs.length) : (clr xs lo n z).getD k d = if lo ≤ k ∧ k < lo + n then z else xs.getD k d := by
  simp only [clr, List.getD_eq_getElem?_getD]
  by_cases h1 : k < lo
  · rw [if_neg (by omega), List.append_assoc, List.getElem?_append_left (by simp; omega), List.getElem?_take, if_pos h1]
  · by_cases h2 : k < lo + n
    · rw [if_pos ⟨by omega, h2⟩, List.getElem?_append_left (by simp; omega), List.getElem?_append_right (by simp; omega)]
      simp only [List.length_take, List.getElem?_replicate]
      rw [if_pos (by omega)]; rfl
    · rw [if_neg (by omega), List.getElem?_append_right (by simp; omega), List.getElem?_drop]
      simp only [List.length_append, List.length_take, List.length_replicate]
      rw [show lo + n + (k - (min lo xs.length + n)) = k by omega]
theorem clr_zero {α : Type} (xs : List α) (lo : Nat) (z : α) : clr xs lo 0 z = xs := by
  simp [clr]

section
variable {P : Program} {M : Nat → List Bool} {o : Oper} {st : St} {T : Nat → Option TI}
def evClearZ (ty : Nat) (t : Ty) (xs : List t.den) (lo n id : Nat) (z : Option t.den) (st : St) (K : AV → St → Prop) : Prop :=
  match z with
  | some z => K (.v (.tuple #[])) ⟨st.s, st.h.set id (some (.arr ty t (clr xs lo n z)))⟩
  | none => False
def evClear (T : Nat → Option TI) (i : Option TI) (st : St) (x : AV) (K : AV → St → Prop) : Prop :=
  match i with
  | some ti => match elemT T (some ti) with
    | some te => match x with
      | .view id lo n => match st.h[id]? with
        | some (some (.arr ty t xs)) => (te.zero.cells.toList.all Value.oneCell' && Nat.beq t.n te.size && Nat.beq te.zero.cells.size te.size && Nat.blt 0 te.size) = true ∧ evClearZ ty t xs lo n id (t.dec (te.zero.cells.toList.map AV.v)) st K
        | _ => False
      | _ => False
    | none => False
  | none => False
theorem zeroCells_get (z : Array Value) (n k s j : Nat) (hz : z.size = s) (hj : j < s) (hk : k < n) : (Builtin.zeroCells z n)[k * s + j]? = z[j]? := by
  subst hz
  have hlt : k * z.size + j < n * z.size := by
    have : (k + 1) * z.size ≤ n * z.size := Nat.mul_le_mul_right _ hk
    rw [Nat.succ_mul] at this; omega
  have hm : (k * z.size + j) % z.size = j := by rw [Nat.mul_add_mod_self_right, Nat.mod_eq_of_lt hj]
  simp [Builtin.zeroCells, hlt, hm, hj]
theorem edoes_clear {K : AV → St → Prop} (hT : TOk P T) (t : TypeId) (x : Operand) (ho : o.op = .call { callee := .builtin .clear, args := #[x], argTypes := #[t] }) (hk : evClear T (T t) st (st.ev x) K) (hM : belB M o.op = false) : EDoes P M o st K := by
  unfold evClear at hk
  split at hk
  · rename_i ti hti
    split at hk
    · rename_i te hte
      split at hk
      · rename_i id lo n hx
        split at hk
        · rename_i ty tt xs hlb
          obtain ⟨hz, hk⟩ := hk
          simp only [Bool.and_eq_true, Nat.blt_eq] at hz
          obtain ⟨⟨⟨hz1, hz0⟩, hz2⟩, hz3⟩ := hz
          have hz0 := Nat.eq_of_beq_eq_true hz0
          have hz2 := Nat.eq_of_beq_eq_true hz2
          unfold evClearZ at hk
          split at hk
          · rename_i z hdec
            obtain ⟨d1, d2⟩ := dec_sound tt _ z hdec
            obtain ⟨ti', hi, hel, hte'⟩ := elemT_sound hte
            cases hi
            have hu := (hT t ti hti).elem hel
            have hzv := (hT _ te hte').zero
            intro C V a w h next Q hn
            obtain ⟨hle, cap, hcl, hcm, ev⟩ := h.part hlb (hx ▸ h.ev x)
            have hnb : ∀ {p : Prop}, belA M o.op a → p := fun e => belA_no hM (fun _ _ _ e => by rw [ho] at e; cases e) e
            rcases Nat.eq_zero_or_pos n with hn0 | hnp
            · subst hn0
              have hrun : (execOp a.eval o).run P w = .ok (.value (.tuple #[])) w := by
                simp [execOp, ho, ev, resolve, invoke, builtin, Builtin.clear_, run_underlying hu]
              unfold Oper.wp
              rw [hrun]
              have hset : st.h.set id (some (.arr ty tt (clr xs lo 0 z))) = st.h := by
                rw [clr_zero]
                apply List.ext_getElem?
                intro i
                rw [List.getElem?_set]
                by_cases hi : id = i
                · subst hi
                  rw [if_pos rfl, if_pos (List.getElem?_eq_some_iff.1 hlb).1, hlb]
                · rw [if_neg hi]
              rw [hset] at hk
              exact hn _ st.h V _ w hk h (.imm _ _ (.v _)) hnb
            · obtain ⟨cur, hcur⟩ := h.hr.blk id _ hlb
              obtain ⟨cap2, g1, g2, g3, g4, g5⟩ := hcur.own rfl
              have g2 : xs.length ≤ cap2 := g2
              have g4 : cur.size = cap2 * tt.n := g4
              have g5 : xs.length ≤ bigLen := g5
              have hne : ¬ cap = lo := by omega
              rw [if_neg hne] at ev
              have hvl : (Builtin.zeroCells te.zero.cells n).toList.length = n * tt.n := by simp [Builtin.zeroCells, hz2, hz0]
              have hfit : lo * tt.n + 0 + (Builtin.zeroCells te.zero.cells n).toList.length ≤ cur.size := by
                rw [hvl, g4]
                have : (lo + n) * tt.n ≤ cap2 * tt.n := Nat.mul_le_mul_right _ (by omega)
                rw [Nat.add_mul] at this; omega
              have hone : ∀ v ∈ (Builtin.zeroCells te.zero.cells n).toList, v.oneCell' = true := fun v hv => by
                obtain ⟨i, hi, rfl⟩ := List.mem_iff_getElem.1 hv
                simp only [Builtin.zeroCells] at hi ⊢
                simp only [Array.getElem_toList, Array.getElem_map, Array.getElem_range]
                have hsz : 0 < te.zero.cells.size := by omega
                have hm := Nat.mod_lt i hsz
                rw [getElem!_pos te.zero.cells (i % te.zero.cells.size) hm]
                exact List.all_eq_true.1 hz1 _ (by simp)
              obtain ⟨fr, hheap, hfr⟩ := hcur.heap
              have hst := run_storeCells_fr P (V id).blk (lo * tt.n) ty fr (Builtin.zeroCells te.zero.cells n).toList 0 cur w hheap hfr hfit hone
              simp only [Nat.add_zero] at hst
              obtain ⟨m, rfl⟩ : ∃ m, n = m + 1 := ⟨n - 1, by omega⟩
              have hrun : (execOp a.eval o).run P w = .ok (.value (.tuple #[])) (w.setRow (V id).blk (cur.toList.take (lo * tt.n) ++ (Builtin.zeroCells te.zero.cells (m + 1)).toList ++ cur.toList.drop (lo * tt.n + (Builtin.zeroCells te.zero.cells (m + 1)).toList.length)).toArray) := by
                simp [execOp, ho, ev, resolve, invoke, builtin, Builtin.clear_, run_underlying hu, hzv, hst]
              unfold Oper.wp
              rw [hrun]
              refine hn _ _ V _ _ hk ?_ (.imm _ _ (.v _)) hnb
              have hget : ∀ k j, k < xs.length → j < tt.n → (cur.toList.take (lo * tt.n) ++ (Builtin.zeroCells te.zero.cells (m + 1)).toList ++ cur.toList.drop (lo * tt.n + (Builtin.zeroCells te.zero.cells (m + 1)).toList.length)).toArray[k * tt.n + j]? = if lo ≤ k ∧ k < lo + (m + 1) then te.zero.cells[j]? else cur[k * tt.n + j]? := fun k j hk hj => by
                have hcap : lo * tt.n ≤ cur.toList.length := by
                  have : (lo + (m + 1)) * tt.n ≤ cap2 * tt.n := Nat.mul_le_mul_right _ (by omega)
                  rw [Nat.add_mul] at this; simp; omega
                have htl : (cur.toList.take (lo * tt.n)).length = lo * tt.n := by rw [List.length_take]; omega
                rw [List.getElem?_toArray]
                by_cases h1 : k < lo
                · have : (k + 1) * tt.n ≤ lo * tt.n := Nat.mul_le_mul_right _ h1
                  rw [Nat.succ_mul] at this
                  rw [if_neg (by omega), List.append_assoc, List.getElem?_append_left (by rw [htl]; omega), List.getElem?_take, if_pos (by omega)]
                  simp
                · have h1' : lo * tt.n ≤ k * tt.n := Nat.mul_le_mul_right _ (by omega)
                  by_cases h2 : k < lo + (m + 1)
                  · have h3 : (k + 1) * tt.n ≤ (lo + (m + 1)) * tt.n := Nat.mul_le_mul_right _ (by omega)
                    rw [Nat.succ_mul, Nat.add_mul] at h3
                    rw [if_pos ⟨by omega, h2⟩, List.getElem?_append_left (by rw [List.length_append, htl, hvl]; omega), List.getElem?_append_right (by rw [htl]; omega), htl]
                    have := zeroCells_get te.zero.cells (m + 1) (k - lo) tt.n j (by omega) hj (by omega)
                    rw [Nat.sub_mul] at this
                    rw [Array.getElem?_toList, ← this]
                    congr 1; omega
                  · have h3 : (lo + (m + 1)) * tt.n ≤ k * tt.n := Nat.mul_le_mul_right _ (by omega)
                    rw [Nat.add_mul] at h3
                    rw [if_neg (by omega), List.getElem?_append_right (by rw [List.length_append, htl, hvl]; omega), List.getElem?_drop, List.length_append, htl, hvl]
                    rw [show lo * tt.n + (m + 1) * tt.n + (k * tt.n + j - (lo * tt.n + (m + 1) * tt.n)) = k * tt.n + j by omega]
                    simp
              refine h.write hlb (lb' := .arr ty tt (clr xs lo (m + 1) z)) (w' := w.setRow (V id).blk _) (cur' := (cur.toList.take (lo * tt.n) ++ (Builtin.zeroCells te.zero.cells (m + 1)).toList ++ cur.toList.drop (lo * tt.n + (Builtin.zeroCells te.zero.cells (m + 1)).toList.length)).toArray) rfl rfl rfl (by simp) (fun k hk => setRow_other w _ k _ hk) (fun hS => ?_)
              have hcl2 := clr_length xs lo (m + 1) z hle
              have hcell : ∀ (k j : Nat) (c : AV), k < xs.length → (rowT tt (clr xs lo (m + 1) z) k)[j]? = some c → j < tt.n ∧ ((lo ≤ k ∧ k < lo + (m + 1) ∧ (tt.enc z)[j]? = some c) ∨ (¬ (lo ≤ k ∧ k < lo + (m + 1)) ∧ (rowT tt xs k)[j]? = some c)) := fun k j c hk hj => by
                refine ⟨by rw [← rowT_length tt (clr xs lo (m + 1) z) k]; exact (List.getElem?_eq_some_iff.1 hj).1, ?_⟩
                simp only [rowT, clr_get xs lo (m + 1) z tt.dflt hle k hk] at hj
                by_cases hin : lo ≤ k ∧ k < lo + (m + 1)
                · rw [if_pos hin] at hj; exact .inl ⟨hin.1, hin.2, hj⟩
                · rw [if_neg hin] at hj; exact .inr ⟨hin, hj⟩
              refine ⟨hcur.sz, ?_, ⟨fr, setRow_heap w _ cur _ _ _ hheap, ?_⟩, fun k j c hk hj => ?_, fun _ k j c y hk hj hy => ?_, fun e => by simp [LB.isArr] at e, fun _ => ⟨cap2, ?_, ?_, g3, ?_, ?_⟩⟩
              · rw [hcur.ln]; exact hcl2.symm
              · have hsz2 : (cur.toList.take (lo * tt.n) ++ (Builtin.zeroCells te.zero.cells (m + 1)).toList ++ cur.toList.drop (lo * tt.n + (Builtin.zeroCells te.zero.cells (m + 1)).toList.length)).toArray.size = cur.size := by
                  rw [List.size_toArray, List.length_append, List.length_append, List.length_take, List.length_drop, Array.length_toList]
                  omega
                rw [hsz2]; exact hfr
              · have hk : k < xs.length := by rw [← hcl2]; exact hk
                obtain ⟨hjn, hor⟩ := hcell k j c hk hj
                show ∃ y, _[k * tt.n + j]? = some y ∧ _
                rw [hget k j hk hjn]
                rcases hor with ⟨q1, q2, q3⟩ | ⟨q1, q3⟩
                · rw [if_pos ⟨q1, q2⟩]
                  have hx' : te.zero.cells[j]? = some te.zero.cells[j] := Array.getElem?_eq_getElem (by omega)
                  exact ⟨_, hx', List.all_eq_true.1 hz1 _ (by simp), .imm _ _ (d2 j (.v te.zero.cells[j]) c (by simp [hx']) q3 _ _ _ (.v _))⟩
                · rw [if_neg q1]
                  obtain ⟨y, f1, f2, f3⟩ := hcur.cell k j c hk q3
                  exact ⟨y, f1, f2, f3.mono hS (fun _ _ => rfl) (Nat.le_refl _)⟩
              · have hk : k < xs.length := by rw [← hcl2]; exact hk
                obtain ⟨hjn, hor⟩ := hcell k j c hk hj
                have hy : _[k * tt.n + j]? = some y := hy
                rw [hget k j hk hjn] at hy
                rcases hor with ⟨q1, q2, q3⟩ | ⟨q1, q3⟩
                · rw [if_pos ⟨q1, q2⟩] at hy
                  exact d2 j (.v y) c (by simp [hy]) q3 _ _ _ (.v _)
                · rw [if_neg q1] at hy
                  exact (hcur.still rfl k j c y hk q3 hy).mono hS
              · show (V id).val = .slice _ (clr xs lo (m + 1) z).length cap2
                rw [hcl2]; exact g1
              · show (clr xs lo (m + 1) z).length ≤ cap2
                rw [hcl2]; exact g2
              · show (List.toArray _).size = cap2 * tt.n
                rw [List.size_toArray, List.length_append, List.length_append, List.length_take, List.length_drop, hvl]
                have : (lo + (m + 1)) * tt.n ≤ cap2 * tt.n := Nat.mul_le_mul_right _ (by omega)
                rw [Nat.add_mul] at this
                simp; omega
              · show (clr xs lo (m + 1) z).length ≤ bigLen
                rw [hcl2]; exact g5
          · exact hk.elim
        · exact hk.elim
      · exact hk.elim
    · exact hk.elim
  · exact hk.elim
end
end Go.Proofs.YtaobinhdnklojaaGreatDoor
namespace Go.Proofs.YtaobinhdnklojaaGreatDoor
open Go.RowKit

section
variable {P : Program} {M : Nat → List Bool} {o : Oper} {st : St} {T : Nat → Option TI}

theorem zeroCells_size (z : Array Value) (n : Nat) : (Builtin.zeroCells z n).size = n * z.size := by simp [Builtin.zeroCells]
theorem zeroC_get (z : Array Value) (n k s j : Nat) (hz : z.size = s) (hj : j < s) (hk : k < n) : (Builtin.zeroCells z n)[k * s + j]? = z[j]? := by
  have hjz : j < z.size := by omega
  have e : (k * s + j) % z.size = j := by rw [hz, Nat.mul_add_mod_self_right, Nat.mod_eq_of_lt hj]
  have hlt : k * s + j < n * z.size := by
    have h2 : (k + 1) * s ≤ n * s := Nat.mul_le_mul_right _ hk
    rw [Nat.succ_mul] at h2; rw [hz]; omega
  simp [Builtin.zeroCells, hlt, e, hjz]
theorem run_append_nil_zeros (w : World) (t u ty e : TypeId) (i : TypeInfo) (z : Value) (k : IntKind) (ht : P.underlying t = some (.slice e)) (hu : P.underlying u = some (.int k)) (hi : P.info? e = some i) (hz : i.zero = some z)
    (n : Nat) (h0 : 0 < n) (h63 : (n : Int) ≤ 9223372036854775807) (h48 : n * i.bytes ≤ 281474976710656) (hsz : 0 < i.size) :
    (Builtin.append_ #[t, u] ty #[.slice none 0 0, .int .i64 n]).run P w =
      .ok (.slice (some ⟨w.heap.size, 0, none⟩) n (grownCap w n 0 e)) (w.drew.alloc (.cells (Builtin.zeroCells z.cells n ++ Builtin.zeroCells z.cells (grownCap w n 0 e - n)) e)) := by
  have hn : n ≠ 0 := by omega
  have h63' : ¬ (9223372036854775807 < (n : Int)) := by omega
  have h48' : ¬ (281474976710656 < Builtin.nextslicecap n 0 * i.bytes) := by rw [nextslicecap_zero h0]; omega
  have hw : IntKind.i64.wrap (n : Int) = n := by rw [IntKind.wrap_i64]; omega
  have hneg : ¬ ((n : Int) < 0) := by omega
  have h48'' : ¬ ((281474976710656 : Int) < (n : Int) * (i.bytes : Int)) := by
    have : ((n * i.bytes : Nat) : Int) ≤ 281474976710656 := by omega
    rw [Int.natCast_mul] at this; omega
  have hns : i.size ≠ 0 := by omega
  simp [Builtin.append_, run_underlying ht, run_underlying hu, sizeOf, typeInfo, zeroValue, hi, hz, hn, h63', h48', hw, hneg, h48'', hns, Question.forced, run_firstCells_none, newRow, grownCap, asInt, asIntOf]
  exact fun h => absurd h (Nat.mul_ne_zero hn hns)

def evAppZ (T : Nat → Option TI) (i : Option TI) (st : St) (x y : AV) (K : AV → St → Prop) : Prop :=
  match i, elemT T i, x, y with
  | some ti, some te, .v (.slice none 0 0), .v (.int .i64 n) => match te.cod with
    | some t => (te.zero.cells.toList.all Value.oneCell' && Nat.beq t.n te.size && Nat.beq te.zero.cells.size te.size && Nat.blt 0 te.size) = true ∧ Ob (0 < n ∧ te.bytes * n ≤ 140737488355328 ∧ n ≤ 140737488355328) ∧
      evMakeT ti.elem t (t.dec (te.zero.cells.toList.map AV.v)) n st K
    | none => False
  | _, _, _, _ => False
theorem edoes_appZ {K : AV → St → Prop} (hT : TOk P T) (t u : TypeId) (tu : TI) (k : IntKind) (hu : T u = some tu) (hku : tu.kind = some k) (x y : Operand) (ho : o.op = .call { callee := .builtin .append, args := #[x, y], argTypes := #[t, u] }) (hk : evAppZ T (T t) st (st.ev x) (st.ev y) K) : EDoes P M o st K := by
  have hund := (hT u tu hu).kind k hku
  unfold evAppZ at hk
  split at hk
  case h_2 => exact hk.elim
  rename_i ti te n hti hte hx hy
  split at hk
  case h_2 => exact hk.elim
  rename_i tt hcod
  obtain ⟨hz, hb, hk⟩ := hk
  simp only [Bool.and_eq_true, Nat.blt_eq] at hz
  obtain ⟨⟨⟨hz1, hz0⟩, hz2⟩, hz3⟩ := hz
  have hz0 := Nat.eq_of_beq_eq_true hz0
  have hz2 := Nat.eq_of_beq_eq_true hz2
  unfold evMakeT at hk
  split at hk
  case h_2 => exact hk.elim
  rename_i z hdec
  obtain ⟨d1, d2⟩ := dec_sound tt _ z hdec
  obtain ⟨h0, hbytes, hm⟩ := hb.out
  obtain ⟨ti', hi, hel, hte'⟩ := elemT_sound hte
  rw [hti] at hi; cases hi
  have hu' := (hT t ti hti).elem hel
  obtain ⟨inf, hinf, hzero, hsize, hby⟩ := (hT _ te hte').info
  intro C V a w h next Q hn
  have ex : a.eval x = .slice none 0 0 := h.evv hx
  have ey : a.eval y = .int .i64 n := h.evv hy
  obtain ⟨m, rfl⟩ : ∃ m : Nat, n = m := ⟨n.toNat, by omega⟩
  have hm0 : 0 < m := by omega
  have hby2 : m * inf.bytes ≤ 281474976710656 := by
    rw [hby]
    have : ((m * te.bytes : Nat) : Int) ≤ 140737488355328 := by rw [Int.natCast_mul, Int.mul_comm]; exact hbytes
    omega
  have hr := run_append_nil_zeros (P := P) w t u o.type ti.elem inf te.zero k hu' hund hinf hzero m hm0 (by omega) hby2 (by omega)
  have hge := grownCap_ge w m 0 ti.elem
  have hcm : grownCap w m 0 ti.elem ≤ maxLen := grownCap_le_maxLen w m 0 ti.elem (by have := maxLen_eq'; omega)
  have hsz : (Builtin.zeroCells te.zero.cells m ++ Builtin.zeroCells te.zero.cells (grownCap w m 0 ti.elem - m)).size = grownCap w m 0 ti.elem * te.size := by
    rw [Array.size_append, zeroCells_size, zeroCells_size, hz2, ← Nat.add_mul]
    congr 1; omega
  have hgr : w.grownBy (w.drew.alloc (.cells (Builtin.zeroCells te.zero.cells m ++ Builtin.zeroCells te.zero.cells (grownCap w m 0 ti.elem - m)) ti.elem)) none :=
    ⟨rfl, rfl, rfl, by simp, fun k hk _ => heap_alloc_old w.drew _ hk⟩
  have hnew : (w.drew.alloc (.cells (Builtin.zeroCells te.zero.cells m ++ Builtin.zeroCells te.zero.cells (grownCap w m 0 ti.elem - m)) ti.elem)).heap[w.heap.size]? = some (.cells (Builtin.zeroCells te.zero.cells m ++ Builtin.zeroCells te.zero.cells (grownCap w m 0 ti.elem - m)) ti.elem (0, 0)) := heap_alloc_new w.drew _
  have hlr : (List.replicate m z).length = m := by simp
  have hs := h.regrow (dead := none) (row := none) (I := ⟨w.heap.size, tt.n, m, .slice (some ⟨w.heap.size, 0, none⟩) m (grownCap w m 0 ti.elem)⟩) (lb := .arr ti.elem tt (List.replicate m z))
    (cur' := Builtin.zeroCells te.zero.cells m ++ Builtin.zeroCells te.zero.cells (grownCap w m 0 ti.elem - m)) (fun i hi => by cases hi) (fun k hk => by cases hk) hgr (.inr rfl) (by simp) (fun hS => by
      refine BlkR.newArr (L := (Builtin.zeroCells te.zero.cells m).toList) hnew hlr (by rw [hlr]; exact hge) hcm (by rw [hz0]; exact hsz) (by rw [hlr]; simp only [bigLen]; omega) (by
        rw [hlr, hz0, Array.toList_append, List.take_left' (by rw [Array.length_toList, zeroCells_size, hz2])]) (fun k j c' g1 g2 => ?_)
      have hk : k < m := by simpa using g1
      have e3 : rowT tt (List.replicate m z) k = tt.enc z := by simp [rowT, List.getD, hk]
      rw [e3] at g2
      have hj : j < te.size := by rw [← hz0, ← enc_length tt z]; exact (List.getElem?_eq_some_iff.1 g2).1
      have hxx : te.zero.cells[j]? = some te.zero.cells[j] := Array.getElem?_eq_getElem (by omega)
      refine ⟨te.zero.cells[j], ?_, List.all_eq_true.1 hz1 _ (by simp), d2 j (.v te.zero.cells[j]) c' (by simp [hxx]) g2 _ _ _ (.v _)⟩
      rw [Array.getElem?_toList, hz0, zeroC_get _ _ _ _ _ hz2 hj hk, hxx])
  have hrun : (execOp a.eval o).run P w = .ok (.value (.slice (some ⟨w.heap.size, 0, none⟩) m (grownCap w m 0 ti.elem))) (w.drew.alloc (.cells (Builtin.zeroCells te.zero.cells m ++ Builtin.zeroCells te.zero.cells (grownCap w m 0 ti.elem - m)) ti.elem)) := by
    unfold execOp
    simp only [ho, resolve, invoke, builtin, Sem.run_bind, Sem.run_pure, Result.andThen_ok, List.map_toArray, List.map_cons, List.map_nil, ex, ey, hr]
  unfold Oper.wp
  rw [hrun]
  refine hn _ _ _ _ _ hk hs ?_ (fun _ => (Below.refl _ _).drew.alloc (Nat.le_refl _) _)
  have := R.own (w := w.drew.alloc (.cells (Builtin.zeroCells te.zero.cells m ++ Builtin.zeroCells te.zero.cells (grownCap w m 0 ti.elem - m)) ti.elem)) (S := Stb C.A (w.drew.alloc (.cells (Builtin.zeroCells te.zero.cells m ++ Builtin.zeroCells te.zero.cells (grownCap w m 0 ti.elem - m)) ti.elem)) (st.h ++ [some (.arr ti.elem tt (List.replicate m z))]) (updV V st.h.length ⟨w.heap.size, tt.n, m, .slice (some ⟨w.heap.size, 0, none⟩) m (grownCap w m 0 ti.elem)⟩)) (V := updV V st.h.length ⟨w.heap.size, tt.n, m, .slice (some ⟨w.heap.size, 0, none⟩) m (grownCap w m 0 ti.elem)⟩) (N := (st.h ++ [some (LB.arr ti.elem tt (List.replicate m z))]).length) st.h.length (by simp)
  simpa [updV, dropId] using this

def evSliceN (e : Option TI) (lo hi : Option Int) (K : AV → Prop) : Prop :=
  match e, lo, hi with
  | some _, some l, some h => Ob (0 ≤ l ∧ l ≤ h ∧ h ≤ 0) ∧ K (.v (.slice none 0 0))
  | _, _, _ => False
def evSliceA (T : Nat → Option TI) (i : Option TI) (cs : List AV) (lo hi : Option AV) (K : AV → Prop) : Prop :=
  match i, lo, hi with
  | some i, none, none => match T i.arr.2, strsOf cs with
    | some e, some l => Nat.beq e.size 1 = true ∧ Nat.beq cs.length i.arr.1 = true ∧ Nat.beq i.arr.1 0 = false ∧ Nat.ble cs.length 1000 = true ∧ K (.tree .str l)
    | _, _ => False
  | _, _, _ => False
def evSlice2 (T : Nat → Option TI) (i : Option TI) (hp : List (Option LB)) (x : AV) (lo hi : Option AV) (K : AV → Prop) : Prop :=
  match x with
  | .bptr cs 0 => evSliceA T i cs lo hi K
  | .v (.slice none 0 0) => evSliceN (elemT T i) (bnd lo 0) (bnd hi 0) K
  | x => evSlice T i hp x lo hi K
theorem vdoes_slice2 {K : AV → Prop} (hT : TOk P T) (t : TypeId) (x : Operand) (lo hi : Option Operand) (ho : o.op = .slice t x lo hi none) (hk : evSlice2 T (T t) st.h (st.ev x) (lo.map st.ev) (hi.map st.ev) K) : VDoes P o st K := by
  unfold evSlice2 at hk
  split at hk
  · rename_i cs hx
    unfold evSliceA at hk
    split at hk
    · rename_i ti hT1 hlo hhi
      split at hk
      · rename_i e l he hl
        obtain ⟨hsz, hlen, hne, hle, hk⟩ := hk
        have hlen := Nat.eq_of_beq_eq_true hlen
        have hle := Nat.le_of_ble_eq_true hle
        have hcs := strsOf_eq hl
        have hll : l.length = cs.length := by rw [hcs, List.length_map]
        have hs := (hT _ e he).size
        rw [Nat.eq_of_beq_eq_true hsz] at hs
        have hpos : ti.arr.1 ≠ 0 := fun e0 => by rw [e0] at hne; cases hne
        intro C V a w h
        have hr' := (hx ▸ h.ev x).bptr_inv
        generalize hv : a.eval x = v at hr'
        cases hr' with
        | bptr _ _ b o' X ha hx2 hh2 =>
          have hcell : ∀ (k j : Nat) (c : AV), k < l.length → (rowT .str l k)[j]? = some c → j = 0 ∧ cs[k]? = some c := fun k j c hk' hj => by
            have hrow : rowT .str l k = [.v (.string l[k])] := by
              exact congrArg (fun s : ByteArray => [AV.v (Value.string s)]) (show l.getD k (⟨#[]⟩ : ByteArray) = l[k] by simp [List.getD_eq_getElem?_getD, List.getElem?_eq_getElem hk'])
            rw [hrow] at hj
            cases j with
            | zero =>
              refine ⟨rfl, ?_⟩
              rw [hcs, List.getElem?_map, List.getElem?_eq_getElem hk']
              exact hj
            | succ j => simp at hj
          refine ⟨_, .slice (some ⟨b, o', none⟩) l.length l.length, hk, .imm _ _ ?_, fun w' _ => ?_⟩
          · refine .tree .str l _ _ _ b o' (fun k _ => X k) rfl (by show @List.length ByteArray l ≤ 140737488355328; omega) (Nat.le_refl _) (by have := maxLen_eq'; omega) (fun _ => ⟨rfl, ha⟩) (fun k j c e1 e2 => ?_) (fun k j c e1 e2 => ?_)
            · obtain ⟨rfl, e3⟩ := hcell k j c e1 e2
              have := hx2 k c e3
              rw [show o' + k * Ty.str.n + 0 = o' + k from by rw [show Ty.str.n = 1 from rfl]; omega]
              exact this
            · obtain ⟨rfl, e3⟩ := hcell k j c e1 e2
              exact hh2 k c e3
          · cases lo with
            | some _ => simp at hlo
            | none =>
              cases hi with
              | some _ => simp at hhi
              | none =>
                have hb := run_sliceBounds (P := P) false ti.arr.1 ti.arr.1 none none 0 (ti.arr.1 : Int) w' a rfl rfl (by omega) (by omega) (by omega) (Nat.le_refl _)
                have hu := run_underlying (w := w') ((hT t ti hT1).arr hne)
                simp only [Option.map_none] at hb
                simp [execOp, ho, hv, Instr.sliceAt, hu, Instr.sureAddr, hb, hs, hpos, hll, hlen, Addr.add_lit]
      · exact hk.elim
    · exact hk.elim
  · rename_i hx
    unfold evSliceN at hk
    split at hk
    · rename_i te l h hte hl hh
      obtain ⟨ti, hi', hel, hte⟩ := elemT_sound hte
      obtain ⟨hob, hk⟩ := hk
      obtain ⟨h0, h1, h2⟩ := hob.out
      obtain rfl : l = 0 := by omega
      obtain rfl : h = 0 := by omega
      refine vdoes_plain _ (fun C V a w hs w' => ?_) hk
      have hbd := run_sliceBounds (P := P) true 0 0 lo hi 0 0 w' a (bnd_sound hs hl) (bnd_sound hs hh) (by omega) (by omega) (by omega) (by omega)
      have hsize := (hT ti.elem te hte).size
      simp [execOp, ho, hs.evv hx, Instr.sliceAt, Instr.slice, run_underlying ((hT t ti hi').elem hel), hbd, hsize]
    · exact hk.elim
  · exact vdoes_slice hT t x lo hi ho hk
def evCap (i : Option TI) (x : AV) (K : AV → Prop) : Prop :=
  match i with
  | some i => match x with
    | .v (.slice none 0 0) => (i.elem != 0) = true ∧ K (.v (.int .i64 0))
    | _ => False
  | none => False
theorem vdoes_cap {K : AV → Prop} (hT : TOk P T) (x : Operand) (t : TypeId) (ho : o.op = .call { callee := .builtin .cap, args := #[x], argTypes := #[t] }) (hk : evCap (T t) (st.ev x) K) : VDoes P o st K := by
  unfold evCap at hk
  split at hk
  · rename_i i hi
    split at hk
    · rename_i hx
      obtain ⟨hel, hk⟩ := hk
      exact vdoes_plain _ (fun C V a w h w' => by
        simp [execOp, ho, h.evv hx, resolve, invoke, builtin, Builtin.cap_, run_underlying ((hT t i hi).elem (by simpa using hel)), goInt]) hk
    · exact hk.elim
  · exact hk.elim
def strOfN (xs : List Int) : ByteArray := ⟨(xs.map fun n => UInt8.ofNat n.toNat).toArray⟩
theorem foldl_pushN : ∀ (ns : List Int) (s : ByteArray), ns.foldl (fun r n => r.push (UInt8.ofNat n.toNat)) s = ⟨s.data ++ (ns.map fun n => UInt8.ofNat n.toNat).toArray⟩
  | [], s => by simp
  | n :: ns, s => by
    rw [List.foldl_cons, foldl_pushN ns]
    simp [ByteArray.push]
def byteNs : List (Int × Unit) → List Int
  | [] => []
  | z :: l => z.1 :: byteNs l
theorem byteNs_length : ∀ zs, (byteNs zs).length = zs.length
  | [] => rfl
  | _ :: l => congrArg (· + 1) (byteNs_length l)
theorem byteNs_get : ∀ (zs : List (Ty.den (.st [.int .u8]))) (j : Nat), (byteNs zs).getD j (0 : Int) = (zs.getD j ((0 : Int), ())).1
  | [], _ => rfl
  | _ :: _, 0 => rfl
  | _ :: l, j + 1 => byteNs_get l j
def evConvB (h : List (Option LB)) (x : AV) (K : AV → Prop) : Prop :=
  match srcA h x with
  | some ⟨.int .u8, xs⟩ => K (.v (.string (strOfN xs)))
  | some ⟨.st [.int .u8], xs⟩ => K (.v (.string (strOfN (byteNs xs))))
  | _ => False
def byteSl (T : Nat → Option TI) (s : Option TI) : Bool := match elemT T s with
  | some te => match te.kind with
    | some .u8 => true
    | _ => false
  | none => false
def isStrT (d : Option TI) : Bool := match d with
  | some i => i.str
  | none => false
def evConv2 (T : Nat → Option TI) (s d : Option TI) (h : List (Option LB)) (x : AV) (K : AV → Prop) : Prop :=
  match byteSl T s with
  | true => isStrT d = true ∧ evConvB h x K
  | false => evConv s d x K
theorem vdoes_convS {K : AV → Prop} (_hT : TOk P T) (src dst : TypeId) (x : Operand) (ho : o.op = .convert src dst x) (ti : TI) (hus : P.underlying src = some (.slice ti.elem)) (hue : P.underlying ti.elem = some (.int .u8)) (hud : P.underlying dst = some .string)
    (xs : List Int) (hsrc : srcA st.h (st.ev x) = some ⟨.int .u8, xs⟩) (hk : K (.v (.string (strOfN xs)))) : VDoes P o st K := by
  intro C V a w h
  obtain ⟨ad, c, news, ex, hl, hnews, h1, hcell⟩ := h.src (h.ev x) hsrc (by decide)
  have hgot : ∀ j, j < xs.length → news[j]? = some (.int .u8 (xs.getD j 0)) := fun j hj => by
    obtain ⟨u, hu, hr⟩ := hcell j 0 (.v (.int .u8 (xs.getD j 0))) hj rfl
    have hu0 : u = .int .u8 (xs.getD j 0) := by cases hr; rfl
    have e0 : j * (Ty.int .u8).n + 0 = j := by simp [Ty.n]
    rw [e0] at hu
    rw [hu, hu0]
  refine ⟨_, _, hk, .imm _ _ (.v _), fun w' hbl => ?_⟩
  have hrun : (convert src dst (.slice ad xs.length c)).run P w' = .ok (.string (strOfN xs)) w' := by
    rw [run_convert_bytes_string w' src dst ti.elem ad xs.length c hus hue hud]
    cases ad with
    | none =>
      have h0 : xs = [] := by
        rcases Nat.eq_zero_or_pos xs.length with e | e
        · exact List.length_eq_zero_iff.1 e
        · obtain ⟨a', ha', _⟩ := hnews e; cases ha'
      subst h0
      simp [Conv.bytesToString, strOfN]
      rfl
    | some a' =>
      have hload : (loadCells a' xs.length).run P w' = .ok (xs.map (Value.int .u8)).toArray w' := by
        have := run_loadCells_list (P := P) w' a' (xs.map (Value.int .u8)) (fun j v hj => by
          rw [List.getElem?_map] at hj
          obtain ⟨z, hz, rfl⟩ := Option.map_eq_some_iff.1 hj
          have hjl : j < xs.length := (List.getElem?_eq_some_iff.1 hz).1
          obtain ⟨a2, ha2, hn⟩ := hnews (show 0 < xs.length by omega)
          cases ha2
          have h3 := hn j _ (hgot j hjl)
          have hlt : (a'.add j).block < w.heap.size := by
            rcases Nat.lt_or_ge (a'.add j).block w.heap.size with h | h
            · exact h
            · exfalso
              unfold World.cell? at h3
              rw [Array.getElem?_eq_none h] at h3
              simp at h3
          rw [hbl.cell hlt, h3]
          simp [List.getD, hz])
        simpa using this
      rw [run_bytesToString w' a' xs.length c xs hload, foldl_pushN]
      simp [strOfN, ByteArray.empty, ByteArray.emptyWithCapacity]
      rfl
  simp only [execOp, ho]
  rw [show a.eval x = .slice ad xs.length c from ex]
  simp [hrun]
theorem vdoes_convM {K : AV → Prop} (_hT : TOk P T) (src dst : TypeId) (x : Operand) (ho : o.op = .convert src dst x) (ti : TI) (hus : P.underlying src = some (.slice ti.elem)) (hue : P.underlying ti.elem = some (.int .u8)) (hud : P.underlying dst = some .string)
    (zs : List (Ty.den (.st [.int .u8]))) (hsrc : srcA st.h (st.ev x) = some ⟨.st [.int .u8], zs⟩) (hk : K (.v (.string (strOfN (byteNs zs))))) : VDoes P o st K := by
  intro C V a w h
  obtain ⟨ad, c, news, ex, hl, hnews, h1, hcell⟩ := h.src (h.ev x) hsrc (by decide)
  have hlz : zs.length = (byteNs zs).length := (byteNs_length zs).symm
  have hgot : ∀ j, j < (byteNs zs).length → news[j]? = some (.int .u8 ((byteNs zs).getD j (0 : Int))) := fun j hj => by
    have hj : j < zs.length := by rw [hlz]; exact hj
    obtain ⟨u, hu, hr⟩ := hcell j 0 (.v (.int .u8 (zs.getD j ((0 : Int), ())).1)) hj rfl
    have hu0 : u = .int .u8 (zs.getD j ((0 : Int), ())).1 := by cases hr; rfl
    have e0 : j * (Ty.st [.int .u8]).n + 0 = j := by simp [Ty.n, Ty.ns]
    rw [e0] at hu
    rw [hu, hu0, byteNs_get]
  rw [hlz] at ex hnews
  generalize byteNs zs = xs at *
  refine ⟨_, _, hk, .imm _ _ (.v _), fun w' hbl => ?_⟩
  have hrun : (convert src dst (.slice ad xs.length c)).run P w' = .ok (.string (strOfN xs)) w' := by
    rw [run_convert_bytes_string w' src dst ti.elem ad xs.length c hus hue hud]
    cases ad with
    | none =>
      have h0 : xs = [] := by
        rcases Nat.eq_zero_or_pos xs.length with e | e
        · exact List.length_eq_zero_iff.1 e
        · obtain ⟨a', ha', _⟩ := hnews e; cases ha'
      subst h0
      simp [Conv.bytesToString, strOfN]
      rfl
    | some a' =>
      have hload : (loadCells a' xs.length).run P w' = .ok (xs.map (Value.int .u8)).toArray w' := by
        have := run_loadCells_list (P := P) w' a' (xs.map (Value.int .u8)) (fun j v hj => by
          rw [List.getElem?_map] at hj
          obtain ⟨z, hz, rfl⟩ := Option.map_eq_some_iff.1 hj
          have hjl : j < xs.length := (List.getElem?_eq_some_iff.1 hz).1
          obtain ⟨a2, ha2, hn⟩ := hnews (show 0 < xs.length by omega)
          cases ha2
          have h3 := hn j _ (hgot j hjl)
          have hlt : (a'.add j).block < w.heap.size := by
            rcases Nat.lt_or_ge (a'.add j).block w.heap.size with h | h
            · exact h
            · exfalso
              unfold World.cell? at h3
              rw [Array.getElem?_eq_none h] at h3
              simp at h3
          rw [hbl.cell hlt, h3]
          simp [List.getD, hz])
        simpa using this
      rw [run_bytesToString w' a' xs.length c xs hload, foldl_pushN]
      simp [strOfN, ByteArray.empty, ByteArray.emptyWithCapacity]
      rfl
  simp only [execOp, ho]
  rw [show a.eval x = .slice ad xs.length c from ex]
  simp [hrun]
theorem vdoes_conv2 {K : AV → Prop} (hT : TOk P T) (src dst : TypeId) (x : Operand) (ho : o.op = .convert src dst x) (hk : evConv2 T (T src) (T dst) st.h (st.ev x) K) : VDoes P o st K := by
  unfold evConv2 at hk
  split at hk
  case h_2 => exact vdoes_conv hT src dst x ho hk
  rename_i hb
  obtain ⟨hd, hk⟩ := hk
  obtain ⟨td, htd, hds⟩ : ∃ td, T dst = some td ∧ td.str = true := by
    unfold isStrT at hd
    split at hd
    · rename_i i e; exact ⟨i, e, hd⟩
    · cases hd
  obtain ⟨te, hte, hkind⟩ : ∃ te, elemT T (T src) = some te ∧ te.kind = some .u8 := by
    unfold byteSl at hb
    split at hb
    · rename_i te e
      split at hb
      · rename_i e2; exact ⟨te, e, e2⟩
      · cases hb
    · cases hb
  obtain ⟨ti, hti, hel, hte'⟩ := elemT_sound hte
  have hus := (hT src ti hti).elem hel
  have hue := (hT _ te hte').kind .u8 hkind
  have hud := (hT dst td htd).str hds
  unfold evConvB at hk
  split at hk
  case h_3 => exact hk.elim
  · rename_i xs hsrc
    exact vdoes_convS hT src dst x ho ti hus hue hud xs hsrc hk
  · rename_i xs hsrc
    exact vdoes_convM hT src dst x ho ti hus hue hud xs hsrc hk
abbrev mbyte : Type := Int × Unit
def mkL : List UInt8 → List (Ty.den (.st [.int .u8]))
  | [] => []
  | b :: l => ((b.toNat : Int), ()) :: mkL l
theorem mkL_length : ∀ l, (mkL l).length = l.length
  | [] => rfl
  | _ :: l => congrArg (· + 1) (mkL_length l)
theorem mkL_get : ∀ (l : List UInt8) (k : Nat) (h : k < l.length), ((mkL l).getD k ((0 : Int), ())).1 = (l[k].toNat : Int)
  | _ :: _, 0, _ => rfl
  | _ :: l, k + 1, h => mkL_get l k (by simpa using h)
def mkRow (s : ByteArray) : List mbyte := mkL s.data.toList
def strSl (T : Nat → Option TI) (s d : Option TI) : Bool :=
  match byteSl T d with
  | true => isStrT s
  | false => false
def evBytes (_T : Nat → Option TI) (i : Option TI) (st : St) (x : AV) (K : AV → St → Prop) : Prop :=
  match i, x with
  | some ti, .v (.string s) => Ob (s.size ≤ 140737488355328) ∧ K (.own st.h.length) ⟨st.s, st.h ++ [some (.arr ti.elem (.st [.int .u8]) (mkRow s))]⟩
  | _, _ => False
theorem edoes_bytes {K : AV → St → Prop} (hT : TOk P T) (src dst : TypeId) (x : Operand) (ho : o.op = .convert src dst x) (hb : strSl T (T src) (T dst) = true) (hk : evBytes T (T dst) st (st.ev x) K) : EDoes P M o st K := by
  unfold strSl at hb
  split at hb
  case h_2 => cases hb
  rename_i hbs
  obtain ⟨tsr, htsr, hss⟩ : ∃ td, T src = some td ∧ td.str = true := by
    unfold isStrT at hb
    split at hb
    · rename_i i e; exact ⟨i, e, hb⟩
    · cases hb
  obtain ⟨te, hte, hkind⟩ : ∃ te, elemT T (T dst) = some te ∧ te.kind = some .u8 := by
    unfold byteSl at hbs
    split at hbs
    · rename_i te e
      split at hbs
      · rename_i e2; exact ⟨te, e, e2⟩
      · cases hbs
    · cases hbs
  obtain ⟨ti, hti, hel, hte'⟩ := elemT_sound hte
  have hud := (hT dst ti hti).elem hel
  have hue := (hT _ te hte').kind .u8 hkind
  have hus := (hT src tsr htsr).str hss
  unfold evBytes at hk
  rw [hti] at hk
  split at hk
  case h_2 => exact hk.elim
  rename_i ti' s hi hx
  cases hi
  obtain ⟨hob, hk⟩ := hk
  have hsz := hob.out
  intro C V a w h next Q hn
  have ex : a.eval x = .string s := h.evv hx
  have hr := Lib.run_convert_string_bytes (P := P) w src dst ti.elem s hus hud hue
  have hge := grownCap_ge w s.size 0 ti.elem
  have hcm : grownCap w s.size 0 ti.elem ≤ maxLen := grownCap_le_maxLen w s.size 0 ti.elem (by have := maxLen_eq'; omega)
  have hnew := Lib.bytesWorld_at_new w ti.elem s
  have hcs : (Lib.bytesCells w ti.elem s).size = grownCap w s.size 0 ti.elem := by
    have : s.data.size = s.size := rfl
    show ((s.data.map _) ++ Array.replicate _ _).size = _
    rw [Array.size_append, Array.size_map, Array.size_replicate, this]; omega
  have hlr : (mkRow s).length = s.size := (mkL_length _).trans Array.length_toList
  have hgr : w.grownBy (Lib.bytesWorld w ti.elem s) none := ⟨rfl, rfl, rfl, by rw [Lib.bytesWorld_size]; omega, fun k hk _ => Lib.bytesWorld_at_old w ti.elem s k hk⟩
  have hget : ∀ k, k < s.size → (Lib.bytesCells w ti.elem s)[k]? = some (.int .u8 (((mkRow s).getD k ((0 : Int), ())).1)) := fun k hk => by
    have hk' : k < s.data.size := hk
    have e := mkL_get s.data.toList k (by rw [Array.length_toList]; exact hk')
    have e : ((mkRow s).getD k ((0 : Int), ())).1 = _ := e
    rw [e]
    show ((s.data.map _) ++ Array.replicate _ _)[k]? = _
    rw [Array.getElem?_append_left (by rw [Array.size_map]; exact hk'), Array.getElem?_map, Array.getElem?_eq_getElem hk']
    rfl
  have hs := h.regrow (dead := none) (row := none) (I := ⟨w.heap.size, 1, s.size, .slice (some ⟨w.heap.size, 0, none⟩) s.size (grownCap w s.size 0 ti.elem)⟩) (lb := .arr ti.elem (.st [.int .u8]) (mkRow s))
    (cur' := Lib.bytesCells w ti.elem s) (fun i hi => by cases hi) (fun k hk => by cases hk) hgr (.inr rfl) (by rw [Lib.bytesWorld_size]; simp) (fun hS => by
      refine ⟨rfl, hlr.symm, ⟨_, hnew, .inr ⟨rfl, Nat.le_refl _⟩⟩, fun k j c' g1 g2 => ?_, fun _ k j c' y g1 g2 g3 => ?_, (fun e => by cases e), fun _ => ⟨grownCap w s.size 0 ti.elem, by show Value.slice _ _ _ = Value.slice _ (mkRow s).length _; rw [hlr], by show (mkRow s).length ≤ _; rw [hlr]; exact hge, hcm, by show (Lib.bytesCells w ti.elem s).size = _ * 1; rw [hcs, Nat.mul_one], by show (mkRow s).length ≤ _; rw [hlr]; exact hsz⟩⟩
      · have g1 : k < (mkRow s).length := g1
        have g2 : (rowT (.st [.int .u8]) (mkRow s) k)[j]? = some c' := g2
        have hj : j < 1 := by
          have h1 := (List.getElem?_eq_some_iff.1 g2).1
          have h2 : (rowT (.st [.int .u8]) (mkRow s) k).length = 1 := rowT_length (.st [.int .u8]) (mkRow s) k
          omega
        obtain rfl : j = 0 := by omega
        have hc : c' = .v (.int .u8 (((mkRow s).getD k ((0 : Int), ())).1)) := by
          have : some (AV.v (.int .u8 (((mkRow s).getD k ((0 : Int), ())).1))) = some c' := g2
          exact (Option.some.inj this).symm
        subst hc
        refine ⟨_, ?_, rfl, .imm _ _ (.v _)⟩
        show (Lib.bytesCells w ti.elem s)[k * 1 + 0]? = _
        rw [Nat.mul_one, Nat.add_zero]
        exact hget k (by rw [← hlr]; exact g1)
      · have g1 : k < (mkRow s).length := g1
        have g2 : (rowT (.st [.int .u8]) (mkRow s) k)[j]? = some c' := g2
        have hj : j < 1 := by
          have h1 := (List.getElem?_eq_some_iff.1 g2).1
          have h2 : (rowT (.st [.int .u8]) (mkRow s) k).length = 1 := rowT_length (.st [.int .u8]) (mkRow s) k
          omega
        obtain rfl : j = 0 := by omega
        have hc : c' = .v (.int .u8 (((mkRow s).getD k ((0 : Int), ())).1)) := by
          have : some (AV.v (.int .u8 (((mkRow s).getD k ((0 : Int), ())).1))) = some c' := g2
          exact (Option.some.inj this).symm
        subst hc
        have g3 : (Lib.bytesCells w ti.elem s)[k * 1 + 0]? = some y := g3
        rw [Nat.mul_one, Nat.add_zero, hget k (by rw [← hlr]; exact g1)] at g3
        cases g3
        exact .v _)
  have hrun : (execOp a.eval o).run P w = .ok (.value (.slice (some ⟨w.heap.size, 0, none⟩) s.size (grownCap w s.size 0 ti.elem))) (Lib.bytesWorld w ti.elem s) := by
    simp only [execOp, ho]
    rw [show a.eval x = .string s from ex]
    simp [hr]
  unfold Oper.wp
  rw [hrun]
  refine hn _ _ _ _ _ hk hs ?_ (fun _ => ⟨rfl, rfl, rfl, by rw [Lib.bytesWorld_size]; omega, fun k hk => Lib.bytesWorld_at_old w ti.elem s k hk⟩)
  have := R.own (w := Lib.bytesWorld w ti.elem s) (S := Stb C.A (Lib.bytesWorld w ti.elem s) (st.h ++ [some (.arr ti.elem (.st [.int .u8]) (mkRow s))]) (updV V st.h.length ⟨w.heap.size, 1, s.size, .slice (some ⟨w.heap.size, 0, none⟩) s.size (grownCap w s.size 0 ti.elem)⟩)) (V := updV V st.h.length ⟨w.heap.size, 1, s.size, .slice (some ⟨w.heap.size, 0, none⟩) s.size (grownCap w s.size 0 ti.elem)⟩) (N := (st.h ++ [some (LB.arr ti.elem (.st [.int .u8]) (mkRow s))]).length) st.h.length (by simp)
  simpa [updV, dropId] using this
def intT (i : Option TI) : Bool := match i with
  | some i => match i.kind with
    | some _ => true
    | none => false
  | none => false
theorem intT_out {i : Option TI} (h : intT i = true) : ∃ ti k, i = some ti ∧ ti.kind = some k := by
  cases i with
  | none => simp [intT] at h
  | some ti =>
    cases e : ti.kind with
    | none => simp [intT, e] at h
    | some k => exact ⟨ti, k, rfl, e⟩
end
end Go.Proofs.YtaobinhdnklojaaGreatDoor
namespace Go.Proofs.YtaobinhdnklojaaGreatDoor
open Go.RowKit

def evV (T : Nat → Option TI) (st : St) (o : Op) (K : AV → Prop) : Prop :=
  match o with
  | .move x => K (st.ev x)
  | .assign x => K (st.ev x)
  | .pick c x y => evPick (st.ev c) (st.ev x) (st.ev y) K
  | .binOp op t x y _ => evBin2 (T t) st.h op (st.ev x) (st.ev y) K
  | .unOp op _ x => evUn op (st.ev x) K
  | .convert s d x => evConv2 T (T s) (T d) st.h (st.ev x) K
  | .load t p => evLoad (T t) (cellsAt st.h (st.ev p)) K
  | .fieldAddr t x f => evFieldAddr (offOf (T t) f) (st.ev x) K
  | .field t x f => evField (offOf (T t) f) (st.ev x) K
  | .indexAddr t x i => evIndexAddr (elemT T (T t)) st.h (st.ev x) (st.ev i) K
  | .index t x i => evIndex T (T t) (st.ev x) (st.ev i) K
  | .extract x j => evExtract (st.ev x) j K
  | .build t ps => evBuild T (T t) st ps.toList K
  | .nilCheck x => evNil (st.ev x) K
  | .slice t x lo hi none => evSlice2 T (T t) st.h (st.ev x) (lo.map st.ev) (hi.map st.ev) K
  | .makeFunc (.func f) ⟨[]⟩ cap => K (.fn f (cap.toList.map st.ev))
  | .call ⟨.builtin .len, ⟨[x]⟩, ⟨[t]⟩⟩ => evLen (T t) st.h (st.ev x) K
  | .call ⟨.builtin .cap, ⟨[x]⟩, ⟨[t]⟩⟩ => evCap (T t) (st.ev x) K
  | .call ⟨.builtin .min, ⟨[x, y]⟩, _⟩ => evMinMax true [st.ev x, st.ev y] K
  | .call ⟨.builtin .max, ⟨[x, y]⟩, _⟩ => evMinMax false [st.ev x, st.ev y] K
  | .call ⟨.builtin .min, ⟨[x, y, z]⟩, _⟩ => evMinMax3 true [st.ev x, st.ev y, st.ev z] K
  | .call ⟨.builtin .max, ⟨[x, y, z]⟩, _⟩ => evMinMax3 false [st.ev x, st.ev y, st.ev z] K
  | _ => False

section
variable {P : Program} {T : Nat → Option TI}

theorem evV_sound (hT : TOk P T) {o : Oper} {st : St} {K : AV → Prop} (h : evV T st o.op K) : VDoes P o st K := by
  unfold evV at h
  split at h
  · rename_i x ho; exact vdoes_same x (.inl ho) h
  · rename_i x ho; exact vdoes_same x (.inr ho) h
  · rename_i ho; exact vdoes_pick' _ _ _ ho h
  · rename_i ho; exact vdoes_bin2 hT _ _ _ _ _ ho h
  · rename_i ho; exact vdoes_un _ _ _ ho h
  · rename_i ho; exact vdoes_conv2 hT _ _ _ ho h
  · rename_i ho; exact vdoes_load hT _ _ ho h
  · rename_i ho; exact vdoes_fieldAddr hT _ _ _ ho h
  · rename_i ho; exact vdoes_field hT _ _ _ ho h
  · rename_i ho; exact vdoes_indexAddr hT _ _ _ ho h
  · rename_i ho; exact vdoes_index hT _ _ _ ho h
  · rename_i ho; exact vdoes_extract _ _ ho h
  · rename_i ho; exact vdoes_build hT _ _ ho h
  · rename_i ho; exact vdoes_nil _ ho h
  · rename_i ho; exact vdoes_slice2 hT _ _ _ _ ho h
  · rename_i ho; exact vdoes_makeFunc _ _ ho h
  · rename_i ho; exact vdoes_len hT _ _ ho h
  · rename_i ho; exact vdoes_cap hT _ _ ho h
  · rename_i ho; exact vdoes_min _ _ _ ho h
  · rename_i ho; exact vdoes_max _ _ _ ho h
  · rename_i ho; exact vdoes_min3 _ _ _ _ ho h
  · rename_i ho; exact vdoes_max3 _ _ _ _ ho h
  · exact h.elim

structure Env where
  T : Nat → Option TI
  M : Nat → List Bool
  S : Nat → List AV → List (Option LB) → AV → List (Option LB) → Prop
  tr : List Nat
structure EnvOk (P : Program) (G : Env) : Prop where
  T : TOk P G.T
  mix : P.follows .mixedOrders = true
  S : ∀ f az h r h1, G.S f az h r h1 → Enters P f ∧ Spec P f az h r h1

def liveAll (h : List (Option LB)) : List Nat → Bool
  | [] => true
  | i :: is => match h[i]? with
    | some (some _) => liveAll h is
    | _ => false
theorem liveAll_get {h : List (Option LB)} : ∀ {is : List Nat}, liveAll h is = true → ∀ i ∈ is, ∃ lb, h[i]? = some (some lb)
  | [], _, i, hi => by simp at hi
  | j :: is, hl, i, hi => by
    unfold liveAll at hl
    split at hl
    · rename_i lb e
      rcases List.mem_cons.1 hi with e2 | e2
      · subst e2; exact ⟨lb, e⟩
      · exact liveAll_get hl i e2
    · cases hl
def innerIds (h : List (Option LB)) : List Nat → List Nat
  | [] => []
  | i :: is => boxIds h[i]? ++ innerIds h is
def callIds (h : List (Option LB)) (ms : List Bool) (cs : List AV) : List Nat := dedup (wIds ms cs ++ innerIds h (wIds ms cs))
def safeB (ms : List Bool) (cs : List AV) (r : AV) (h1 : List (Option LB)) : Bool :=
  match bImm ms cs with
  | true => true
  | false => match r.noTree with
    | true => heapNoTree h1
    | false => false
def forceC (c : AV) (K : AV → Prop) : Prop :=
  match c with
  | .any => K .any
  | .v x => K (.v x)
  | .bl b => K (.bl b)
  | .agg cs => K (.agg cs)
  | .tup cs => K (.tup cs)
  | .tree t xs => K (.tree t xs)
  | .tptr t xs row off => K (.tptr t xs row off)
  | .bptr cs off => K (.bptr cs off)
  | .loc id row off => K (.loc id row off)
  | .own id => K (.own id)
  | .view id lo n => K (.view id lo n)
  | .fn f cap => K (.fn f cap)
theorem forceC_eq (c : AV) (K : AV → Prop) : forceC c K = K c := by cases c <;> rfl
def forceL : List AV → (List AV → Prop) → Prop
  | [], K => K []
  | c :: cs, K => forceC c fun c => forceL cs fun cs => K (c :: cs)
theorem forceL_eq : ∀ (cs : List AV) (K : List AV → Prop), forceL cs K = K cs
  | [], _ => rfl
  | c :: cs, K => by simp only [forceL, forceC_eq, forceL_eq cs]
def forceN : Nat → (Nat → Prop) → Prop
  | 0, K => K 0
  | n + 1, K => forceN n fun m => K (m + 1)
theorem forceN_eq : ∀ (n : Nat) (K : Nat → Prop), forceN n K = K n
  | 0, _ => rfl
  | n + 1, K => by simp only [forceN, forceN_eq n]
mutual
def forceI : AV → (AV → Prop) → Prop
  | .any, K => K .any
  | .v x, K => K (.v x)
  | .bl b, K => K (.bl b)
  | .agg cs, K => forceIL cs fun cs => K (.agg cs)
  | .tup cs, K => forceIL cs fun cs => K (.tup cs)
  | .tree t xs, K => K (.tree t xs)
  | .tptr t xs row off, K => K (.tptr t xs row off)
  | .bptr cs off, K => K (.bptr cs off)
  | .loc id row off, K => forceN id fun id => K (.loc id row off)
  | .own id, K => forceN id fun id => K (.own id)
  | .view id lo n, K => forceN id fun id => K (.view id lo n)
  | .fn f cap, K => forceIL cap fun cap => K (.fn f cap)
def forceIL : List AV → (List AV → Prop) → Prop
  | [], K => K []
  | c :: cs, K => forceI c fun c => forceIL cs fun cs => K (c :: cs)
end
mutual
theorem forceI_eq : ∀ (c : AV) (K : AV → Prop), forceI c K = K c
  | .any, K => by simp only [forceI]
  | .v x, K => by simp only [forceI]
  | .bl b, K => by simp only [forceI]
  | .agg cs, K => by simp only [forceI, forceIL_eq cs]
  | .tup cs, K => by simp only [forceI, forceIL_eq cs]
  | .tree t xs, K => by simp only [forceI]
  | .tptr t xs row off, K => by simp only [forceI]
  | .bptr cs off, K => by simp only [forceI]
  | .loc id row off, K => by simp only [forceI, forceN_eq]
  | .own id, K => by simp only [forceI, forceN_eq]
  | .view id lo n, K => by simp only [forceI, forceN_eq]
  | .fn f cap, K => by simp only [forceI, forceIL_eq cap]
theorem forceIL_eq : ∀ (cs : List AV) (K : List AV → Prop), forceIL cs K = K cs
  | [], K => by simp only [forceIL]
  | c :: cs, K => by simp only [forceIL, forceI_eq c, forceIL_eq cs]
end
def forceB (o : Option LB) (K : Option LB → Prop) : Prop :=
  match o with
  | none => K none
  | some (.box ty cs) => forceIL cs fun cs => K (some (.box ty cs))
  | some (.arr ty t xs) => K (some (.arr ty t xs))
theorem forceB_eq (o : Option LB) (K : Option LB → Prop) : forceB o K = K o := by
  cases o with
  | none => rfl
  | some b => cases b <;> simp only [forceB, forceIL_eq]
def forceH : List (Option LB) → (List (Option LB) → Prop) → Prop
  | [], K => K []
  | o :: h, K => forceB o fun o => forceH h fun h => K (o :: h)
theorem forceH_eq : ∀ (h : List (Option LB)) (K : List (Option LB) → Prop), forceH h K = K h
  | [], _ => rfl
  | o :: h, K => by simp only [forceH, forceB_eq, forceH_eq h]
def forceNs : List Nat → (List Nat → Prop) → Prop
  | [], K => K []
  | n :: l, K => forceN n fun n => forceNs l fun l => K (n :: l)
theorem forceNs_eq : ∀ (l : List Nat) (K : List Nat → Prop), forceNs l K = K l
  | [], _ => rfl
  | n :: l, K => by simp only [forceNs, forceN_eq, forceNs_eq l]
def whenB (b : Bool) (p : Prop) : Prop :=
  match b with
  | true => p
  | false => False
theorem whenB_out {b : Bool} {p : Prop} (h : whenB b p) : b = true ∧ p := by
  cases b
  · exact h.elim
  · exact ⟨rfl, h⟩
def CallW (p : Prop) : Prop := p
theorem CallW.mk {p : Prop} (h : p) : CallW p := h
def evCallS (G : Env) (st : St) (f : Nat) (cs : List AV) (ids : List Nat) (K : AV → St → Prop) : Prop :=
  forceNs ids fun ids => whenB (liveAll st.h ids) (whenB (closedIds st.h ids ids) (forceIL (passL (fun i => posOf i ids) (killIds st.h ids) (G.M f) cs) fun ar => forceH (renH (fun i => posOf i ids) (lentH st.h ids)) fun hh => CallW (∃ r h1, G.S f ar hh r h1 ∧
    Nat.ble ids.length h1.length = true ∧ safeB (G.M f) cs r h1 = true ∧ K (r.ren (backId ids st.h.length ids.length)) ⟨st.s, backH st.h ids h1⟩)))
def maskW : List Bool → List AV → List AV
  | [], cs => cs
  | _ :: _, [] => []
  | true :: ms, _ :: cs => .any :: maskW ms cs
  | false :: ms, c :: cs => c :: maskW ms cs
def unmask : List Bool → List AV → List AV → List AV
  | [], _, ds => ds
  | true :: ms, c :: cs, _ :: ds => c :: unmask ms cs ds
  | false :: ms, _ :: cs, d :: ds => d :: unmask ms cs ds
  | _ :: _, _, _ => []
theorem maskW_length : ∀ (ms : List Bool) (cs : List AV), (maskW ms cs).length = cs.length
  | [], _ => rfl
  | _ :: _, [] => rfl
  | true :: ms, _ :: cs => by simp [maskW, maskW_length ms cs]
  | false :: ms, _ :: cs => by simp [maskW, maskW_length ms cs]
theorem maskW_get : ∀ (ms : List Bool) (cs : List AV) (i : Nat) (c : AV), (maskW ms cs)[i]? = some c → c = .any ∨ cs[i]? = some c
  | [], _, _, _, h => .inr h
  | _ :: _, [], _, _, h => by simp [maskW] at h
  | true :: ms, _ :: cs, 0, c, h => by simp [maskW] at h; exact .inl h.symm
  | false :: ms, _ :: cs, 0, c, h => by simp [maskW] at h; exact .inr (by simpa using h)
  | true :: ms, _ :: cs, i + 1, c, h => by simpa using maskW_get ms cs i c (by simpa [maskW] using h)
  | false :: ms, _ :: cs, i + 1, c, h => by simpa using maskW_get ms cs i c (by simpa [maskW] using h)
theorem unmask_length : ∀ (ms : List Bool) (cs ds : List AV), cs.length = ds.length → (unmask ms cs ds).length = cs.length
  | [], _, _, h => h.symm
  | true :: _, [], [], _ => rfl
  | false :: _, [], [], _ => rfl
  | true :: ms, _ :: cs, _ :: ds, h => by simp [unmask, unmask_length ms cs ds (by simpa using h)]
  | false :: ms, _ :: cs, _ :: ds, h => by simp [unmask, unmask_length ms cs ds (by simpa using h)]
  | _ :: _, [], _ :: _, h => by simp at h
  | _ :: _, _ :: _, [], h => by simp at h
theorem unmask_get : ∀ (ms : List Bool) (cs ds : List AV) (i : Nat) (c : AV), (unmask ms cs ds)[i]? = some c → cs[i]? = some c ∨ ds[i]? = some c
  | [], _, _, _, _, h => .inr h
  | true :: _, [], _, _, _, h => by simp [unmask] at h
  | false :: _, [], _, _, _, h => by simp [unmask] at h
  | true :: _, _ :: _, [], _, _, h => by simp [unmask] at h
  | false :: _, _ :: _, [], _, _, h => by simp [unmask] at h
  | true :: ms, c' :: cs, d :: ds, 0, c, h => by simp [unmask] at h; exact .inl (by simpa using h)
  | false :: ms, c' :: cs, d :: ds, 0, c, h => by simp [unmask] at h; exact .inr (by simpa using h)
  | true :: ms, c' :: cs, d :: ds, i + 1, c, h => by simpa using unmask_get ms cs ds i c (by simpa [unmask] using h)
  | false :: ms, c' :: cs, d :: ds, i + 1, c, h => by simpa using unmask_get ms cs ds i c (by simpa [unmask] using h)
def evCallF (G : Env) (st : St) (c : AV) (az : List AV) (K : AV → St → Prop) : Prop :=
  match c with
  | .fn f cap => forceIL (az ++ cap) fun cs => match allF (G.M f) with
    | true => evCallS G st f cs (callIds st.h (G.M f) cs) K
    | false => forceIL (unmask (G.M f) cs (frzV st.h st.h (maskW (G.M f) cs)).1) fun cs' => forceH (frzV st.h st.h (maskW (G.M f) cs)).2 fun h' => evCallS G ⟨st.s, h'⟩ f cs' (callIds h' (G.M f) cs') K
  | _ => False
def evQCallS (G : Env) (st : St) (f : Nat) (cs : List AV) (K : AV → Prop) : Prop :=
  forceIL (AV.lendL st.h cs) fun ar => CallW (∃ r h1, G.S f ar [] r h1 ∧ Nat.ble 0 0 = true ∧ ((match h1 with | [] => true | _ => false) && allFalse (G.M f) && plainB r) = true ∧ K r)
where
  allFalse : List Bool → Bool
    | [] => true
    | true :: _ => false
    | false :: l => allFalse l
  plainB : AV → Bool
    | .v _ => true
    | .bl _ => true
    | .agg cs => plainBs cs
    | .tup cs => plainBs cs
    | _ => false
  plainBs : List AV → Bool
    | [] => true
    | c :: cs => plainB c && plainBs cs
def evQCallF (G : Env) (st : St) (c : AV) (az : List AV) (K : AV → Prop) : Prop :=
  match c with
  | .fn f cap => evQCallS G st f (az ++ cap) K
  | _ => False
def evCall (G : Env) (st : St) (x : Operand) (az : List Operand) (K : AV → St → Prop) : Prop := evCallF G st (st.ev x) (az.map st.ev) K
def evQCall (G : Env) (st : St) (x : Operand) (az : List Operand) (K : AV → Prop) : Prop := evQCallF G st (st.ev x) (az.map st.ev) K
def atSt (L : AV → St → Prop) (st : St) (c : AV) : Prop := L c st

variable {G : Env}
def forceK (K : AV → St → Prop) (c : AV) (st : St) : Prop :=
  match st with
  | ⟨s, h⟩ => forceI c fun c => forceH h fun h => K c ⟨s, h⟩
theorem forceK_eq (K : AV → St → Prop) : forceK K = K := by
  funext c st; simp only [forceK, forceH_eq, forceI_eq]
def evOp (G : Env) (st : St) (o : Op) (K : AV → St → Prop) : Prop :=
  match o with
  | .box t x => evBox st t (memCells st.h (st.ev x)) (forceK K)
  | .alloc t => evAlloc st t (G.T t) (forceK K)
  | .buildSlice t len ps => evBuildSlice G.T (G.T t) st len ps.toList (forceK K)
  | .call ⟨.builtin .append, ⟨[x, y]⟩, ⟨[t, t']⟩⟩ => match intT (G.T t') with
    | true => evAppZ G.T (G.T t) st (st.ev x) (st.ev y) (forceK K)
    | false => t = t' ∧ evAppend G.T (G.T t) st (st.ev x) (st.ev y) (forceK K)
  | .makeSlice t l c => evMake G.T (G.T t) st (st.ev l) (st.ev c) (forceK K)
  | .store t p x => evStore (G.T t) st (st.ev p) (memCells st.h (st.ev x)) (forceK K)
  | .call ⟨.builtin .clear, ⟨[x]⟩, ⟨[t]⟩⟩ => evClear G.T (G.T t) st (st.ev x) (forceK K)
  | .makeInterface _ _ => Ob False
  | .convert s d x => match strSl G.T (G.T s) (G.T d) with
    | true => evBytes G.T (G.T d) st (st.ev x) (forceK K)
    | false => evV G.T st (.convert s d x) (atSt K st)
  | .call ⟨.value x, az, _⟩ => evCall G st x az.toList (forceK K)
  | o => evV G.T st o (atSt K st)
theorem callee_of {st : St} {x : Operand} {az : Array Operand} {ts : Array TypeId} {f : FuncId} {cap : List AV} (h : st.ev x = .fn f cap) : st.callee ⟨.value x, az, ts⟩ = some (f, az.toList.map st.ev ++ cap) := by
  simp [St.callee, h]


theorem allF_wIds : ∀ (ms : List Bool) (cs : List AV), allF ms = true → wIds ms cs = []
  | [], _, _ => by simp [wIds]
  | false :: ms, [], _ => by simp [wIds]
  | false :: ms, c :: cs, h => by simpa [wIds] using allF_wIds ms cs (by simpa [allF] using h)
  | true :: _, _, h => by simp [allF] at h
theorem evOp_sound (hG : EnvOk P G) {o : Oper} {st : St} {K : AV → St → Prop} (h : evOp G st o.op K) : EDoes P G.M o st K := by
  unfold evOp at h
  simp only [forceK_eq] at h
  split at h
  · rename_i ho; exact edoes_box _ _ ho h
  · rename_i ho; exact edoes_alloc hG.T _ ho h
  · rename_i ho; exact edoes_buildSlice hG.T _ _ _ ho h
  · rename_i ho
    split at h
    · rename_i hi; obtain ⟨tu, k, e1, e2⟩ := intT_out hi; exact edoes_appZ hG.T _ _ tu k e1 e2 _ _ ho h
    · obtain ⟨rfl, h⟩ := h; exact edoes_append hG.T _ _ _ ho h
  · rename_i ho; exact edoes_make hG.T _ _ _ ho h
  · rename_i ho; exact edoes_store hG.T _ _ _ ho h
  · rename_i ho; exact edoes_clear hG.T _ _ ho h (by rw [ho]; rfl)
  · exact h.out.elim
  · rename_i ho
    split at h
    · rename_i hb; exact edoes_bytes hG.T _ _ _ ho hb h
    · rw [← ho] at h; exact (evV_sound hG.T h).toE
  · rename_i x az ts ho
    unfold evCall evCallF at h
    split at h
    · rename_i f cap hx
      rw [forceIL_eq] at h
      have main : ∀ (C : Ctx) V a w, SRV C V st a w → ∀ (h' : List (Option LB)) (cs : List AV) (vs : Array Value), SRV C V ⟨st.s, h'⟩ a w → (∀ w', (execOp a.eval o).run P w' = .ok (.enter f vs) w') → vs.size = cs.length →
          (∀ (i : Nat) (c : AV) (x : Value), cs[i]? = some c → vs[i]? = some x → R w (Stb C.A w h' V) V h'.length c x) → evCallS G ⟨st.s, h'⟩ f cs (callIds h' (G.M f) cs) K →
          ∀ (next : Act → World → Prop) (Q : Exit → Act → World → Prop), (∀ c h' V' x w', K c ⟨st.s, h'⟩ → SRV C V' ⟨st.s, h'⟩ a w' → R w' (Stb C.A w' h' V') V' h'.length c x → (belA G.M o.op a → Below w.heap.size w w') → next (a.put o.dst x) w') → o.wp P a w next Q := by
        intro C V a w _ h' cs vs hsr hrun hvl hvr h next Q hn
        simp only [evCallS, forceIL_eq, forceNs_eq, forceH_eq] at h
        obtain ⟨hl, h⟩ := whenB_out h
        obtain ⟨hcl, h⟩ := whenB_out h
        obtain ⟨r, h1, hs, hlen, hsafe, hk⟩ := h
        obtain ⟨_, hs⟩ := hG.S _ _ _ _ _ hs
        unfold Oper.wp
        rw [hrun w]
        have hsafe' : bImm (G.M f) cs = true ∨ (r.noTree = true ∧ rowsNoTree h1) := by
          unfold safeB at hsafe
          split at hsafe
          · rename_i e; exact .inl e
          · split at hsafe
            · rename_i e; exact .inr ⟨e, heapNoTree_out hsafe⟩
            · cases hsafe
        refine (hsr.callG hvl hvr (dedup_nodup _) (fun k hk => dedup_mem (List.mem_append_left _ hk)) (liveAll_get hl) (closedIds_out hcl) hs (Nat.le_of_ble_eq_true hlen) hsafe').mono ?_
        rintro e w' ⟨y, V2, rfl, hs', hr', hk2⟩
        refine hn _ _ _ _ _ hk hs' hr' fun hb => ?_
        replace hb := belA_bel (fun _ _ _ e => by rw [ho] at e; cases e) hb
        rw [ho] at hb
        simp only [belB] at hb
        split at hb
        · rename_i f'
          have hf : f' = f ∧ [] = cap := by simpa [St.ev] using hx
          obtain ⟨rfl, rfl⟩ := hf
          have hw0 : wIds (G.M f') cs = [] := allF_wIds _ _ hb
          (try unfold callIds at hk2)
          rw [hw0] at hk2
          exact ⟨hk2.os, hk2.tape, hk2.output, hk2.size, fun k hk' => hk2.block k hk' fun ⟨i, hi, _⟩ => by simp [innerIds, dedup] at hi⟩
        · cases hb
      have hent : ∀ {h' : List (Option LB)} {cs : List AV} {ids : List Nat}, evCallS G ⟨st.s, h'⟩ f cs ids K → Enters P f := fun h => by
        simp only [evCallS, forceIL_eq, forceNs_eq, forceH_eq] at h
        obtain ⟨_, h⟩ := whenB_out h
        obtain ⟨_, h⟩ := whenB_out h
        obtain ⟨r, h1, hs, _⟩ := h
        exact (hG.S _ _ _ _ _ hs).1
      split at h
      · intro C V a w hsr next Q hn
        obtain ⟨vs, hrun, hvl, hvr⟩ := hsr.callee (callee_of hx) ho (hent h)
        exact main C V a w hsr st.h _ vs hsr hrun hvl hvr h next Q hn
      · rw [forceIL_eq, forceH_eq] at h
        intro C V a w hsr next Q hn
        obtain ⟨vs, hrun, hvl, hvr⟩ := hsr.callee (callee_of hx) ho (hent h)
        have hml := maskW_length (G.M f) (az.toList.map st.ev ++ cap)
        obtain ⟨g1, g2, g3, g4, g5⟩ := SRV.frzV (s := st.s) (h0 := st.h) hsr (maskW (G.M f) (az.toList.map st.ev ++ cap)) st.h vs.toList hsr rfl (fun _ _ e => e) (by rw [hml]; simpa using hvl) fun i c y e1 e2 => by
          rcases maskW_get _ _ i c e1 with rfl | e1
          · exact .imm _ _ (.any _)
          · exact hvr i c y e1 (by simpa using e2)
        have hul := unmask_length (G.M f) (az.toList.map st.ev ++ cap) (frzV st.h st.h (maskW (G.M f) (az.toList.map st.ev ++ cap))).1 (by rw [g2, hml])
        refine main C V a w hsr _ _ vs g1 hrun (by rw [hul]; exact hvl) (fun i c y e1 e2 => ?_) h next Q hn
        rcases unmask_get _ _ _ i c e1 with e1 | e1
        · exact (hvr i c y e1 e2).mono (fun b hb => ⟨Stb.sub g4 b hb, rfl⟩) (fun _ _ => rfl) (by omega)
        · have := g5 i c y e1 (by simpa using e2)
          first
            | exact this
            | (rw [g3]; exact this)
    · exact h.elim
  · exact (evV_sound hG.T h).toE

def evQ (G : Env) (st : St) (o : Op) (K : AV → Prop) : Prop :=
  match o with
  | .call ⟨.value x, az, _⟩ => evQCall G st x az.toList K
  | o => evV G.T st o K

def QDoes (P : Program) (o : Oper) (st : St) (K : AV → Prop) : Prop :=
  ∀ C V a w, SRV C V st a w → ∃ c x, K c ∧ R w (Stb C.A w st.h V) V st.h.length c x ∧ ∀ w', Below w.heap.size w w' → o.quietAt P a (Below w.heap.size w) w' x

theorem VDoes.toQ {o : Oper} {st : St} {K : AV → Prop} (h : VDoes P o st K) : QDoes P o st K := by
  intro C V a w hs
  obtain ⟨c, x, hk, hr, hrun⟩ := h C V a w hs
  refine ⟨c, x, hk, hr, fun w' hb => ?_⟩
  unfold Oper.quietAt
  rw [hrun w' hb]
  exact ⟨rfl, rfl⟩


theorem plain_one : ∀ (c : AV), evQCallS.plainB c = true → ∃ y, (∀ w S V N x, R w S V N c x → x = y) ∧ (∀ w S V N, R w S V N c y) := by
  intro c h
  exact go c h
where
  go : ∀ (c : AV), evQCallS.plainB c = true → ∃ y, (∀ w S V N x, R w S V N c x → x = y) ∧ (∀ w S V N, R w S V N c y)
    | .v x, _ => ⟨x, fun _ _ _ _ _ h => h.v_inv, fun _ _ _ _ => .imm _ _ (.v x)⟩
    | .bl b, _ => ⟨.bool b, fun _ _ _ _ _ h => b_inv (c := .bl b) rfl h, fun _ _ _ _ => .imm _ _ (.bl b)⟩
    | .agg cs, h => by
      obtain ⟨ys, hl, h1, h2⟩ := gos cs (by simpa [evQCallS.plainB] using h)
      refine ⟨.agg ys.toArray, fun w S V N x hx => ?_, fun w S V N => .agg _ _ (by simpa using hl) fun i c x e1 e2 => h2 i c x e1 (by simpa using e2) w S V N⟩
      obtain ⟨vs, rfl, hvl, hr⟩ := hx.agg_inv
      have := h1 vs.toList (by simpa using hvl) fun i c x e1 e2 => ⟨w, S, V, N, hr i c x e1 (by simpa using e2)⟩
      rw [← this]
    | .tup cs, h => by
      obtain ⟨ys, hl, h1, h2⟩ := gos cs (by simpa [evQCallS.plainB] using h)
      refine ⟨.tuple ys.toArray, fun w S V N x hx => ?_, fun w S V N => .tup _ _ (by simpa using hl) fun i c x e1 e2 => h2 i c x e1 (by simpa using e2) w S V N⟩
      obtain ⟨vs, rfl, hvl, hr⟩ := hx.tup_inv
      have := h1 vs.toList (by simpa using hvl) fun i c x e1 e2 => ⟨w, S, V, N, hr i c x e1 (by simpa using e2)⟩
      rw [← this]
    | .any, h => by simp [evQCallS.plainB] at h
    | .tree _ _, h => by simp [evQCallS.plainB] at h
    | .tptr _ _ _ _, h => by simp [evQCallS.plainB] at h
    | .bptr _ _, h => by simp [evQCallS.plainB] at h
    | .loc _ _ _, h => by simp [evQCallS.plainB] at h
    | .own _, h => by simp [evQCallS.plainB] at h
    | .view _ _ _, h => by simp [evQCallS.plainB] at h
    | .fn _ _, h => by simp [evQCallS.plainB] at h
  gos : ∀ (cs : List AV), evQCallS.plainBs cs = true → ∃ ys : List Value, ys.length = cs.length ∧
      (∀ vs : List Value, vs.length = cs.length → (∀ (i : Nat) (c : AV) (x : Value), cs[i]? = some c → vs[i]? = some x → ∃ w S V N, R w S V N c x) → vs = ys) ∧
      ∀ (i : Nat) (c : AV) (x : Value), cs[i]? = some c → ys[i]? = some x → ∀ w S V N, R w S V N c x
    | [], _ => ⟨[], rfl, fun vs h _ => List.length_eq_zero_iff.1 h, fun i c x e => by simp at e⟩
    | c :: cs, h => by
      simp only [evQCallS.plainBs, Bool.and_eq_true] at h
      obtain ⟨y, g1, g2⟩ := go c h.1
      obtain ⟨ys, hl, h1, h2⟩ := gos cs h.2
      refine ⟨y :: ys, by simp [hl], fun vs hv hr => ?_, fun i d x e1 e2 w S V N => ?_⟩
      · cases vs with
        | nil => simp at hv
        | cons v vs =>
          obtain ⟨w, S, V, N, hr0⟩ := hr 0 c v rfl rfl
          rw [g1 _ _ _ _ _ hr0, h1 vs (by simpa using hv) fun i d x e1 e2 => hr (i + 1) d x (by simpa using e1) (by simpa using e2)]
      · cases i with
        | zero => simp at e1 e2; subst e1 e2; exact g2 w S V N
        | succ i => exact h2 i d x (by simpa using e1) (by simpa using e2) w S V N

theorem allFalse_pass (ρ : Nat → Nat) (hl : List (Option LB)) : ∀ (ms : List Bool) (cs : List AV), evQCallS.allFalse ms = true → passL ρ hl ms cs = AV.lendL hl cs
  | ms, [], _ => by cases ms <;> simp [passL, AV.lendL]
  | [], c :: cs, h => by simp [passL, AV.lendL, allFalse_pass ρ hl [] cs h]
  | false :: ms, c :: cs, h => by simp [passL, AV.lendL, allFalse_pass ρ hl ms cs (by simpa [evQCallS.allFalse] using h)]
  | true :: _, _, h => by simp [evQCallS.allFalse] at h
theorem plain_noTree : ∀ (c : AV), evQCallS.plainB c = true → c.noTree = true := by
  intro c h; exact go c h
where
  go : ∀ (c : AV), evQCallS.plainB c = true → c.noTree = true
    | .v _, _ => rfl
    | .bl _, _ => rfl
    | .agg cs, h => by simpa [AV.noTree] using gos cs (by simpa [evQCallS.plainB] using h)
    | .tup cs, h => by simpa [AV.noTree] using gos cs (by simpa [evQCallS.plainB] using h)
    | .any, h => by simp [evQCallS.plainB] at h
    | .tree _ _, h => by simp [evQCallS.plainB] at h
    | .tptr _ _ _ _, h => by simp [evQCallS.plainB] at h
    | .bptr _ _, h => by simp [evQCallS.plainB] at h
    | .loc _ _ _, h => by simp [evQCallS.plainB] at h
    | .own _, h => by simp [evQCallS.plainB] at h
    | .view _ _ _, h => by simp [evQCallS.plainB] at h
    | .fn _ _, h => by simp [evQCallS.plainB] at h
  gos : ∀ (cs : List AV), evQCallS.plainBs cs = true → AV.noTreeL cs = true
    | [], _ => rfl
    | c :: cs, h => by
      simp only [evQCallS.plainBs, Bool.and_eq_true] at h
      simp [AV.noTreeL, go c h.1, gos cs h.2]

theorem plain_ren (ρ : Nat → Nat) : ∀ (c : AV), evQCallS.plainB c = true → c.ren ρ = c := by
  intro c h; exact go c h
where
  go : ∀ (c : AV), evQCallS.plainB c = true → c.ren ρ = c
    | .v _, _ => rfl
    | .bl _, _ => rfl
    | .agg cs, h => by simp only [AV.ren]; rw [gos cs (by simpa [evQCallS.plainB] using h)]
    | .tup cs, h => by simp only [AV.ren]; rw [gos cs (by simpa [evQCallS.plainB] using h)]
    | .any, h => by simp [evQCallS.plainB] at h
    | .tree _ _, h => by simp [evQCallS.plainB] at h
    | .tptr _ _ _ _, h => by simp [evQCallS.plainB] at h
    | .bptr _ _, h => by simp [evQCallS.plainB] at h
    | .loc _ _ _, h => by simp [evQCallS.plainB] at h
    | .own _, h => by simp [evQCallS.plainB] at h
    | .view _ _ _, h => by simp [evQCallS.plainB] at h
    | .fn _ _, h => by simp [evQCallS.plainB] at h
  gos : ∀ (cs : List AV), evQCallS.plainBs cs = true → AV.renL ρ cs = cs
    | [], _ => rfl
    | c :: cs, h => by
      simp only [evQCallS.plainBs, Bool.and_eq_true] at h
      simp only [AV.renL]; rw [go c h.1, gos cs h.2]

theorem qdoes_call {o : Oper} {st : St} {K : AV → Prop} (c : Call) (f : FuncId) (cs : List AV) {r : AV} (ho : o.op = .call c) (hc : st.callee c = some (f, cs)) (hent : Enters P f) (hs : Spec P f (AV.lendL st.h cs) [] r []) (hp : evQCallS.plainB r = true) (hk : K r) : QDoes P o st K := by
  intro C V a w h
  obtain ⟨vs, hrun, hl, hr⟩ := h.callee hc ho hent
  obtain ⟨y, hy1, hy2⟩ := plain_one r hp
  refine ⟨r, y, hk, hy2 .., fun w' hb => ?_⟩
  unfold Oper.quietAt
  rw [hrun w']
  refine ⟨rfl, ?_⟩
  have h' := h.below hb
  have hpass : passL (fun i => posOf i []) (killIds st.h []) [] cs = AV.lendL st.h cs := allFalse_pass _ _ [] cs rfl
  refine (h'.callG (ms := []) (ids := []) (r := r) (h1 := []) hl (fun i c x h1 h2 => (hr i c x h1 h2).mono (fun b hb' => ⟨⟨hb'.1, Nat.lt_of_lt_of_le hb'.2.1 hb.size, hb'.2.2⟩, hb.block b hb'.2.1⟩) (fun _ _ => rfl) (Nat.le_refl _)) List.nodup_nil (fun k hk => by simp [wIds] at hk) (fun i hi => by simp at hi) (fun i hi => by simp at hi)
    (by rw [hpass]; exact hs) (Nat.le_refl _) (.inr ⟨plain_noTree r hp, fun i lb e => by simp at e⟩)).mono ?_
  rintro e w'' ⟨x, V2, rfl, _, hr', hk⟩
  have hren : ∀ w S V N x, R w S V N (r.ren (backId [] st.h.length ([] : List Nat).length)) x → x = y := fun w S V N x hx => hy1 w S V N x ((plain_ren _ r hp) ▸ hx)
  rw [hren _ _ _ _ _ hr']
  exact ⟨rfl, hb.trans ((⟨hk.os, hk.tape, hk.output, hk.size, fun k hk' => hk.block k hk' fun ⟨i, hi, _⟩ => by simp at hi⟩ : Below w'.heap.size w' w'').mono hb.size)⟩

theorem evQ_sound (hG : EnvOk P G) {o : Oper} {st : St} {K : AV → Prop} (h : evQ G st o.op K) : QDoes P o st K := by
  unfold evQ at h
  split at h
  · rename_i x az ts ho
    unfold evQCall evQCallF at h
    split at h
    · rename_i f cap hx
      simp only [evQCallS, forceIL_eq] at h
      obtain ⟨r, h1, hs, _, hb, hk⟩ := h
      simp only [Bool.and_eq_true] at hb
      obtain ⟨⟨hb1, hb2⟩, hb3⟩ := hb
      obtain ⟨hent, hs⟩ := hG.S _ _ _ _ _ hs
      cases h1 with
      | nil => exact qdoes_call _ f _ ho (callee_of hx) hent hs hb3 hk
      | cons _ _ => cases hb1
    · exact h.elim
  · exact (evV_sound hG.T h).toQ

end
end Go.Proofs.YtaobinhdnklojaaGreatDoor
