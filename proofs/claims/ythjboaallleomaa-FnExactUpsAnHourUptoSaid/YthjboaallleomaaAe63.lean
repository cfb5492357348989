/-
  The abstract evaluator, part 6c: append; composite literals of slices.
-/
import Derived.Test.YthjboaallleomaaAe62
namespace Go.Proofs.Ythjboaallleomaa
open Go.RowKit

section
variable {P : Program} {o : Oper} {st : St} {T : Nat → Option TI}
theorem BlkR.newArr {w : World} {S : Nat → Prop} {V : Nat → Info} {N : Nat} {g sz n cap ty : Nat} {rows : Nat → List AV} {cur : Array Value} {L : List Value} (hheap : w.heap[g]? = some (.cells cur ty (0, 0)))
    (hnc : n ≤ cap) (hcm : cap ≤ maxLen) (hcs : cur.size = cap * sz) (hbl : n ≤ bigLen) (hL : cur.toList.take (n * sz) = L) (hrl : ∀ k, k < n → (rows k).length = sz)
    (hrow : ∀ (k j : Nat) (c : AV), k < n → (rows k)[j]? = some c → ∃ u, L[k * sz + j]? = some u ∧ u.oneCell' = true ∧ Rt w S c u) :
    BlkR w S V N ⟨g, sz, .slice (some ⟨g, 0, none⟩) n cap⟩ ⟨ty, sz, n, rows, true⟩ cur := by
  have hcell : ∀ (k j : Nat) (c : AV), k < n → (rows k)[j]? = some c → ∃ u, cur[k * sz + j]? = some u ∧ u.oneCell' = true ∧ Rt w S c u := fun k j c hk hj => by
    obtain ⟨u, e1, e2, e3⟩ := hrow k j c hk hj
    refine ⟨u, ?_, e2, e3⟩
    rw [← hL, List.getElem?_take] at e1
    split at e1
    · simpa using e1
    · cases e1
  refine ⟨rfl, hheap, hrl, fun k j c hk hj => ?_, fun _ k j c x hk hj hx => ?_, (fun e => by cases e), fun _ => ⟨cap, rfl, hnc, hcm, hcs, hbl⟩⟩
  · obtain ⟨u, e1, e2, e3⟩ := hcell k j c hk hj
    exact ⟨u, e1, e2, .imm _ _ e3⟩
  · obtain ⟨u, e1, e2, e3⟩ := hcell k j c hk hj
    simp only at hx
    rw [e1] at hx; cases hx; exact e3

theorem run_appendOp {t : TypeId} {x y : Operand} {a : Act} {w w' : World} {vx vy v : Value} (ho : o.op = .call { callee := .builtin .append, args := #[x, y], argTypes := #[t, t] }) (hx : a.eval x = vx) (hy : a.eval y = vy)
    (hr : (Builtin.append_ #[t, t] o.type #[vx, vy]).run P w = .ok v w') : (execOp a.eval o).run P w = .ok (.value v) w' := by
  unfold execOp
  simp only [ho, resolve, invoke, builtin, Sem.run_bind, Sem.run_pure, Result.andThen_ok, List.map_toArray, List.map_cons, List.map_nil, hx, hy, hr]

theorem edoes_append {K : AV → St → Prop} (hT : TOk P T) (t : TypeId) (x y : Operand) (ho : o.op = .call { callee := .builtin .append, args := #[x, y], argTypes := #[t, t] }) (hk : evAppend T (T t) st (st.ev x) (st.ev y) K) : EDoes P o st K := by
  unfold evAppend at hk
  split at hk
  · rename_i ti te sz2 m rows2 hti hte hsrc
    obtain ⟨ti', hi, hel, hte'⟩ := elemT_sound hte
    rw [hti] at hi; cases hi
    have hu := (hT t ti hti).elem hel
    obtain ⟨inf, hinf, hzero, hsize, hby⟩ := (hT _ te hte').info
    split at hk
    · rename_i id hx
      split at hk
      · rename_i ty sz n rows hlb
        obtain ⟨hc, hob, hk⟩ := hk
        simp only [Bool.and_eq_true, Nat.blt_eq] at hc
        obtain ⟨⟨⟨⟨c1, c2⟩, c3⟩, hsz⟩, c5⟩ := hc
        obtain rfl := Nat.eq_of_beq_eq_true c1
        obtain rfl := Nat.eq_of_beq_eq_true c2
        obtain rfl := Nat.eq_of_beq_eq_true c3
        have c5 := Nat.eq_of_beq_eq_true c5
        obtain ⟨hm, hbytes, hnm⟩ := hob.out
        intro C V a w h next Q hn
        obtain ⟨ad, c, news, ey, hl, hnews, h1, hrl2, hcell2⟩ := h.src (h.ev y) hsrc hsz hm
        obtain ⟨cur, hcur⟩ := h.hr.blk id _ hlb
        obtain ⟨cap, eV, hlc, hcm, hcs, hbl⟩ := hcur.own rfl
        simp only at eV hlc hcs hbl
        have e0 : R w (Stb C.A w st.h V) V st.h.length (.own id) (a.eval x) := by rw [← hx]; exact h.ev x
        have ex : a.eval x = .slice (some ⟨(V id).blk, 0, none⟩) n cap := by rw [e0.own_inv, eV]
        obtain ⟨g', cap', cur', w', hr, hgg, hh, k1, k2, k3, k4, hgr⟩ := run_append_at (P := P) w t o.type ti.elem inf te.zero te.size hu hinf hzero hsize c5 hsz (V id).blk n cap cur hcur.heap hlc hcm hcs ad m c news hl hnews h1 hm (by have := maxLen_eq'; omega) (by rw [hby]; omega)
        have hs := h.regrow (dead := some id) (row := some (V id).blk) (I := ⟨g', te.size, .slice (some ⟨g', 0, none⟩) (n + m) cap'⟩) (lb := ⟨ti.elem, te.size, n + m, catRows n rows rows2, true⟩) (cur' := cur') (w' := w') (fun i hi => by cases hi; exact ⟨_, hlb, rfl⟩) (fun k _ => ⟨id, rfl⟩) hgr
          (by rcases hgg with e | e <;> simp [e]) (Array.getElem?_eq_some_iff.1 hh).1 (fun hS => by
            refine BlkR.newArr hh k1 k2 k3 (by simp only [bigLen]; omega) k4 (fun k hk => ?_) (fun k j c hk hj => ?_)
            · unfold catRows; split
              · rename_i hkn; exact hcur.rows k hkn
              · exact hrl2 _ (by omega)
            · unfold catRows at hj
              split at hj
              · rename_i hkn
                have hj2 : j < te.size := by have := hcur.rows k hkn; simp only at this; rw [← this]; exact (List.getElem?_eq_some_iff.1 hj).1
                have hlt : k * te.size + j < n * te.size := by
                  have h2 : (k + 1) * te.size ≤ n * te.size := Nat.mul_le_mul_right _ hkn
                  rw [Nat.succ_mul] at h2; omega
                obtain ⟨u, e1, e2, _⟩ := hcur.cell k j c hkn hj
                have hnl : n * te.size ≤ cur.size := by rw [hcs]; exact Nat.mul_le_mul_right _ hlc
                refine ⟨u, ?_, e2, (hcur.still rfl k j c u hkn hj e1).mono hS⟩
                rw [List.getElem?_append_left (by simp; omega), List.getElem?_take, if_pos hlt]
                simpa using e1
              · rename_i hkn
                obtain ⟨u, e1, e2⟩ := hcell2 (k - n) j c (by omega) hj
                have hnl : n * te.size ≤ cur.size := by rw [hcs]; exact Nat.mul_le_mul_right _ hlc
                refine ⟨u, ?_, h1 u (List.mem_of_getElem? e1), e2.mono hS⟩
                have e3 : n * te.size + (k - n) * te.size = k * te.size := by rw [← Nat.add_mul]; congr 1; omega
                rw [List.getElem?_append_right (by simp; omega)]
                rw [show k * te.size + j - (cur.toList.take (n * te.size)).length = (k - n) * te.size + j by simp; omega]
                exact e1)
        have hrun := run_appendOp ho ex ey hr
        unfold Oper.wp
        rw [hrun]
        refine hn _ _ _ _ _ hk hs ?_
        have := R.own (w := w') (S := Stb C.A w' (dropId st.h (some id) ++ [some ⟨ti.elem, te.size, n + m, catRows n rows rows2, true⟩]) (updV V st.h.length ⟨g', te.size, .slice (some ⟨g', 0, none⟩) (n + m) cap'⟩)) (V := updV V st.h.length ⟨g', te.size, .slice (some ⟨g', 0, none⟩) (n + m) cap'⟩) (N := (dropId st.h (some id) ++ [some (⟨ti.elem, te.size, n + m, catRows n rows rows2, true⟩ : LB)]).length) st.h.length (by simp [dropId])
        simpa [updV, dropId] using this
      · exact hk.elim
    · rename_i hx
      obtain ⟨hc, hob, hk⟩ := hk
      simp only [Bool.and_eq_true, Nat.blt_eq] at hc
      obtain ⟨⟨c3, hsz⟩, c5⟩ := hc
      obtain rfl := Nat.eq_of_beq_eq_true c3
      have c5 := Nat.eq_of_beq_eq_true c5
      obtain ⟨hm, hbytes, hnm⟩ := hob.out
      intro C V a w h next Q hn
      obtain ⟨ad, c, news, ey, hl, hnews, h1, hrl2, hcell2⟩ := h.src (h.ev y) hsrc hsz hm
      have ex : a.eval x = .slice none 0 0 := h.evv hx
      obtain ⟨g', cap', cur', w', hr, hgg, hh, k1, k2, k3, k4, hgr⟩ := run_append_at_nil (P := P) w t o.type ti.elem inf te.zero te.size hu hinf hzero hsize c5 hsz ad m c news hl hnews h1 hm (by have := maxLen_eq'; omega) (by rw [hby]; omega)
      have hs := h.regrow (dead := none) (row := none) (I := ⟨g', te.size, .slice (some ⟨g', 0, none⟩) m cap'⟩) (lb := ⟨ti.elem, te.size, m, rows2, true⟩) (cur' := cur') (w' := w') (fun i hi => by cases hi) (fun k hk => by cases hk) hgr
        (.inr hgg) (Array.getElem?_eq_some_iff.1 hh).1 (fun hS => by
          refine BlkR.newArr hh k1 k2 k3 (by simp only [bigLen]; omega) k4 hrl2 (fun k j c hk hj => ?_)
          obtain ⟨u, e1, e2⟩ := hcell2 k j c hk hj
          exact ⟨u, e1, h1 u (List.mem_of_getElem? e1), e2.mono hS⟩)
      have hrun := run_appendOp ho ex ey hr
      unfold Oper.wp
      rw [hrun]
      refine hn _ _ _ _ _ hk hs ?_
      have := R.own (w := w') (S := Stb C.A w' (dropId st.h none ++ [some ⟨ti.elem, te.size, m, rows2, true⟩]) (updV V st.h.length ⟨g', te.size, .slice (some ⟨g', 0, none⟩) m cap'⟩)) (V := updV V st.h.length ⟨g', te.size, .slice (some ⟨g', 0, none⟩) m cap'⟩) (N := (dropId st.h none ++ [some (⟨ti.elem, te.size, m, rows2, true⟩ : LB)]).length) st.h.length (by simp [dropId])
      simpa [updV, dropId] using this
    · exact hk.elim
  · exact hk.elim

/-! ### []T{..} -/
def zerosA (z : List AV) (n : Nat) : List AV := (List.range n).map fun k => (z[k % z.length]?).getD .any
def cutRows (sz : Nat) (res : List AV) (k : Nat) : List AV := (res.drop (k * sz)).take sz
def evBuildS (ty sz len : Nat) (o : Option (List AV)) (st : St) (K : AV → St → Prop) : Prop := match o with
  | some res => (res.all AV.isImm) = true ∧ K (.own st.h.length) ⟨st.s, st.h ++ [some ⟨ty, sz, len, cutRows sz res, true⟩]⟩
  | none => False
def evBuildSlice (T : Nat → Option TI) (i : Option TI) (st : St) (len : Nat) (ps : List (Nat × Operand)) (K : AV → St → Prop) : Prop :=
  match i, elemT T i with
  | some ti, some te => (te.zero.cells.toList.all Value.oneCell' && Nat.beq te.zero.cells.size te.size && Nat.blt 0 te.size && Nat.ble (len * te.size) 16777216) = true ∧
    evBuildS ti.elem te.size len (fillA (fun j => some (j * te.size, te.size)) (zerosA (te.zero.cells.toList.map AV.v) (len * te.size)) (partsA st ps)) st K
  | _, _ => False
theorem fillA_length {place : Nat → Option (Nat × Nat)} : ∀ {ps : List (Nat × Option (List AV))} {acc res : List AV}, fillA place acc ps = some res → res.length = acc.length
  | [], acc, res, h => by simp only [fillA, Option.some.injEq] at h; rw [h]
  | (i, o) :: ps, acc, res, h => by
    unfold fillA at h
    split at h
    · split at h
      · rename_i hb
        simp only [Bool.and_eq_true] at hb
        have hb1 := Nat.eq_of_beq_eq_true hb.1
        have hb2 := Nat.le_of_ble_eq_true hb.2
        rw [fillA_length h, splice_length (by omega)]
      · cases h
    · cases h
theorem edoes_buildSlice {K : AV → St → Prop} (hT : TOk P T) (t : TypeId) (len : Nat) (ps : Array (Nat × Operand)) (ho : o.op = .buildSlice t len ps) (hk : evBuildSlice T (T t) st len ps.toList K) : EDoes P o st K := by
  unfold evBuildSlice at hk
  split at hk
  · rename_i ti te hti hte
    obtain ⟨hc, hk⟩ := hk
    simp only [Bool.and_eq_true, Nat.blt_eq] at hc
    obtain ⟨⟨⟨hz1, hz2⟩, hz3⟩, hz4⟩ := hc
    have hz2 := Nat.eq_of_beq_eq_true hz2
    have hz4 := Nat.le_of_ble_eq_true hz4
    obtain ⟨ti', hi, hel, hte'⟩ := elemT_sound hte
    rw [hti] at hi; cases hi
    have hu := (hT t ti hti).elem hel
    obtain ⟨inf, hinf, hzero, hsize, hby⟩ := (hT _ te hte').info
    unfold evBuildS at hk
    split at hk
    · rename_i res hres
      obtain ⟨himm, hk⟩ := hk
      intro C V a w h next Q hn
      have hzr : RelC (R w (Stb C.A w st.h V) V st.h.length) (zerosA (te.zero.cells.toList.map AV.v) (len * te.size)) (madeCells te.zero.cells (len * te.size)) := by
        refine ⟨by simp [zerosA, size_madeCells], fun k c y e1 e2 => ?_⟩
        have hkl : k < len * te.size := by have := (Array.getElem?_eq_some_iff.1 e2).1; rwa [size_madeCells] at this
        obtain ⟨d1, d2, d3⟩ := divmod hz3 hkl
        rw [← d3, made_get _ _ _ _ _ hz2 d2 (by rw [d3]; exact hkl)] at e2
        unfold zerosA at e1
        rw [List.getElem?_map, List.getElem?_range hkl] at e1
        simp only [Option.map_some, List.length_map, Array.length_toList, hz2, List.getElem?_map, Array.getElem?_toList, e2, Option.getD_some, Option.some.injEq] at e1
        subst e1
        exact ⟨List.all_eq_true.1 hz1 y (Array.mem_toList_iff.2 (Array.mem_of_getElem? e2)), .imm _ _ (.v y)⟩
      obtain ⟨r, hr, hrel⟩ := fill_rel (place' := fun j => some (j * te.size, te.size)) (Rel := R w (Stb C.A w st.h V) V st.h.length) (fun j p hp => hp) (partsA st ps.toList) (ps.toList.map fun x => (x.1, a.eval x.2)) _ res _ hzr (by simp [partsA]) (fun j i i' o v e1 e2 => parts_rel h _ j i i' o v e1 e2) hres
      have hlen : res.length = len * te.size := by rw [fillA_length hres]; simp [zerosA]
      have hrs : r.size = len * te.size := by rw [hrel.1, hlen]
      have hget : ∀ (k j : Nat) (c : AV), k < len → (cutRows te.size res k)[j]? = some c → ∃ u, r.toList[k * te.size + j]? = some u ∧ u.oneCell' = true ∧ Rt w (Stb C.A w st.h V) c u := fun k j c hk hj => by
        unfold cutRows at hj
        rw [List.getElem?_take] at hj
        split at hj
        · rename_i hjs
          rw [List.getElem?_drop] at hj
          have hlt : k * te.size + j < r.size := by rw [hrel.1]; exact (List.getElem?_eq_some_iff.1 hj).1
          have hu : r[k * te.size + j]? = some r[k * te.size + j] := Array.getElem?_eq_getElem hlt
          obtain ⟨g1, g2⟩ := hrel.2 _ c _ hj hu
          exact ⟨_, by simp, g1, g2.toImm (List.all_eq_true.1 himm c (List.mem_of_getElem? hj))⟩
        · cases hj
      have hsz16 : len ≤ len * te.size := Nat.le_mul_of_pos_right _ hz3
      have hs := h.alloc ⟨w.heap.size, te.size, .slice (some ⟨w.heap.size, 0, none⟩) len len⟩ ⟨ti.elem, te.size, len, cutRows te.size res, true⟩ r rfl (fun S' V' N' hS hV hN => by
        refine BlkR.newArr (L := r.toList) (heap_alloc_new w _) (Nat.le_refl _) (by have := maxLen_eq'; omega) hrs (by simp only [bigLen]; omega) (List.take_of_length_le (by rw [Array.length_toList, hrs]; exact Nat.le_refl _)) (fun k hk => ?_) (fun k j c hk hj => ?_)
        · unfold cutRows
          have h2 : (k + 1) * te.size ≤ len * te.size := Nat.mul_le_mul_right _ hk
          rw [Nat.succ_mul] at h2
          simp; omega
        · obtain ⟨u, e1, e2, e3⟩ := hget k j c hk hj
          exact ⟨u, e1, e2, e3.mono fun b hb => ⟨hS b hb, heap_alloc_old w _ hb.2.1⟩⟩)
      have hrun : (execOp a.eval o).run P w = .ok (.value (.slice (some ⟨w.heap.size, 0, none⟩) len len)) (w.alloc (.cells r ti.elem)) := by
        have hfill : Instr.fill (fun j => some (j * te.size, te.size)) (madeCells te.zero.cells (len * te.size)) (ps.map fun x => (x.1, a.eval x.2)).toList = some r := by simpa using hr
        have hns : ¬ (len * te.size > 16777216) := by omega
        by_cases h0 : len * te.size = 0
        · have e0 : madeCells te.zero.cells (len * te.size) = #[] := by simp [h0, madeCells, Array.range_zero']
          have hr0 := hr
          rw [e0] at hr0
          simp [execOp, ho, Instr.buildSlice, run_underlying hu, sizeOf, typeInfo, hinf, hsize, h0, hr0, newRow, Array.range_zero']
        · simp [execOp, ho, Instr.buildSlice, run_underlying hu, sizeOf, typeInfo, hinf, hsize, hns, h0, zeroValue, hzero, newRow]
          have hr0 := hr
          unfold madeCells at hr0
          simp [hr0]
      unfold Oper.wp
      rw [hrun]
      refine hn _ _ _ _ _ hk hs ?_
      have := R.own (w := w.alloc (.cells r ti.elem)) (S := Stb C.A (w.alloc (.cells r ti.elem)) (st.h ++ [some ⟨ti.elem, te.size, len, cutRows te.size res, true⟩]) (updV V st.h.length ⟨w.heap.size, te.size, .slice (some ⟨w.heap.size, 0, none⟩) len len⟩)) (V := updV V st.h.length ⟨w.heap.size, te.size, .slice (some ⟨w.heap.size, 0, none⟩) len len⟩) (N := (st.h ++ [some (⟨ti.elem, te.size, len, cutRows te.size res, true⟩ : LB)]).length) st.h.length (by simp)
      simpa [updV] using this
    · exact hk.elim
  · exact hk.elim
end
end Go.Proofs.Ythjboaallleomaa
