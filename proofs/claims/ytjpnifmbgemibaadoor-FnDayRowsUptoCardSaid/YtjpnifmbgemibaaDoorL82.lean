/-
  Plain laws of what draws a day, a list of days, a day's line.
-/
import Derived.Test.YtjpnifmbgemibaaDoorL81
namespace Go.Proofs.YtjpnifmbgemibaaDoor
open Go.RowKit

theorem rInts_eq (l : List Int) (h : l.length ≤ 1048576) : laws_rInts l l = some true := by
  unfold laws_rInts
  rw [cond_ndt rfl]
  have H : iter (fun s => laws_rInts_loop1 l l s) (0 : Int) = some (Sum.inr ()) :=
    iter_for l.length (fun k => (k : Int)) (fun k hk => by
      show laws_rInts_loop1 l l (k : Int) = _
      unfold laws_rInts_loop1
      rw [cond_dt (by omega), grd_pos (by omega), grd_pos (by omega), cond_ndt rfl, w64_nat (by omega)]) (by
      show laws_rInts_loop1 l l (l.length : Int) = _
      unfold laws_rInts_loop1
      rw [cond_df (by omega)]) rfl
  rw [H]; rfl
theorem rTable_eq (l : List (List Int)) (h : l.length ≤ 1048576) (hr : ∀ r ∈ l, r.length ≤ 1048576) : laws_rTable l l = some true := by
  unfold laws_rTable
  rw [cond_ndt rfl]
  have H : iter (fun s => laws_rTable_loop1 l l s) (0 : Int) = some (Sum.inr ()) :=
    iter_for l.length (fun k => (k : Int)) (fun k hk => by
      show laws_rTable_loop1 l l (k : Int) = _
      unfold laws_rTable_loop1
      have hm : l.getD k [] ∈ l := by rw [getD_eq l k _ hk]; exact List.getElem_mem hk
      rw [cond_dt (by omega), grd_pos (by omega), grd_pos (by omega), Int.toNat_natCast, rInts_eq _ (hr _ hm), Option.bind_some, w64_nat (by omega)]
      rfl) (by
      show laws_rTable_loop1 l l (l.length : Int) = _
      unfold laws_rTable_loop1
      rw [cond_df (by omega)]) rfl
  rw [H]; rfl
theorem of_ok (c : l1Cur) (n : Int) (l : List ByteArray) (hl : l ≠ []) (h : CG c n) (hn : n ≤ 100000000000) : Gives (spec_l1Cur_of c l) (n + 2) (fun v => v ∈ l) := by
  obtain ⟨code, at', seed, u⟩ := c
  unfold spec_l1Cur_of
  refine gives_bind (pick_ok _ n _ h hn) fun a code1 at1 seed1 ha hc => ?_
  dsimp only
  have hpos : 0 < l.length := List.length_pos_iff.2 hl
  have hlt : a < (l.length : Int) := by omega
  refine gives_grd ⟨ha.1, hlt⟩ (Gives.ret hc ?_)
  have hi : a.toNat < l.length := by omega
  show l.getD a.toNat _ ∈ l
  rw [getD_eq _ _ _ hi]; exact List.getElem_mem hi
def RS (r : DayRow) : Prop := r.2.2.2.2.2.1.size ≤ 100
theorem RS_mk (a b c d e : Int) (s : ByteArray) (h : s.size ≤ 100) : RS ((a, b, c, d, e, s, ()) : DayRow) := h
theorem dayRow_ok (c : l1Cur) (n d : Int) (h : CG c n) (hn : n ≤ 100000000) : Gives (spec_l1Cur_dayRow c d) (n + 30) RS := by
  obtain ⟨code, at', seed, u⟩ := c
  unfold spec_l1Cur_dayRow
  have key : ∃ (c1 : List Int) (t1 s1 u1 d1 h1 k1 : Int) (w : ByteArray), ((spec_l1Cur_one (code, at', seed, ()) (4 : Int)).bind fun y1 => (cond (!y1.1) ((spec_l1Cur_among (y1.2.1, y1.2.2.1, y1.2.2.2.1, ()) [(1 : Int), (8 : Int), (8 : Int), (24 : Int)]).bind fun y2 => ((spec_l1Cur_among (y2.2.1, y2.2.2.1, y2.2.2.2.1, ()) [(0 : Int), (100 : Int), (100 : Int), (2500 : Int), (99999 : Int)]).bind fun y3 => ((spec_l1Cur_among (y3.2.1, y3.2.2.1, y3.2.2.2.1, ()) [(0 : Int), (100 : Int), (100 : Int), (2400 : Int), (99999 : Int)]).bind fun y4 => ((spec_l1Cur_among (y4.2.1, y4.2.2.1, y4.2.2.2.1, ()) [(0 : Int), (0 : Int), (1 : Int), (3 : Int), (99 : Int)]).bind fun y5 => (cond (decide ((0 : Int) < y5.1)) ((spec_l1Cur_of (y5.2.1, y5.2.2.1, y5.2.2.2.1, ()) [(ByteArray.mk #[119, 105, 110, 100]), (ByteArray.mk #[119, 105, 110, 100]), (ByteArray.mk #[100, 111, 111, 114]), (ByteArray.mk #[112, 111, 119, 101, 114])]).bind fun y6 => (some (y6.2.1, y6.2.2.1, y6.2.2.2.1, y3.1, y4.1, y2.1, y5.1, y6.1))) ((some (y5.2.1, y5.2.2.1, y5.2.2.2.1, y3.1, y4.1, y2.1, y5.1, (ByteArray.mk #[]))))))))) ((some (y1.2.1, y1.2.2.1, y1.2.2.2.1, (0 : Int), (0 : Int), (0 : Int), (0 : Int), (ByteArray.mk #[])))))) = some (c1, t1, s1, u1, d1, h1, k1, w) ∧ CG (c1, t1, s1, ()) (n + 14) ∧ w.size ≤ 100 := by
    obtain ⟨b, ⟨c1, t1, s1, u1⟩, e1, h1, _⟩ := one_ok (code, at', seed, ()) n 4 h (by omega)
    rw [e1, Option.bind_some]
    cases b with
    | true =>
      refine ⟨_, _, _, _, _, _, _, _, rfl, h1.up (by omega), ?_⟩
      show (ByteArray.mk #[]).size ≤ 100
      decide
    | false =>
      simp only [Bool.not_false, cond_true]
      obtain ⟨v2, ⟨c2, t2, s2, u2⟩, e2, h2, _⟩ := among_ok (c1, t1, s1, ()) _ [(1 : Int), (8 : Int), (8 : Int), (24 : Int)] (by simp) h1 (by omega)
      rw [e2, Option.bind_some]
      obtain ⟨v3, ⟨c3, t3, s3, u3⟩, e3, h3, _⟩ := among_ok (c2, t2, s2, ()) _ [(0 : Int), (100 : Int), (100 : Int), (2500 : Int), (99999 : Int)] (by simp) h2 (by omega)
      rw [e3, Option.bind_some]
      obtain ⟨v4, ⟨c4, t4, s4, u4⟩, e4, h4, _⟩ := among_ok (c3, t3, s3, ()) _ [(0 : Int), (100 : Int), (100 : Int), (2400 : Int), (99999 : Int)] (by simp) h3 (by omega)
      rw [e4, Option.bind_some]
      obtain ⟨v5, ⟨c5, t5, s5, u5⟩, e5, h5, _⟩ := among_ok (c4, t4, s4, ()) _ [(0 : Int), (0 : Int), (1 : Int), (3 : Int), (99 : Int)] (by simp) h4 (by omega)
      rw [e5, Option.bind_some]
      by_cases h0 : 0 < v5
      · dsimp only
        rw [cond_dt h0]
        obtain ⟨v6, ⟨c6, t6, s6, u6⟩, e6, h6, hv⟩ := of_ok (c5, t5, s5, ()) _ [(ByteArray.mk #[119, 105, 110, 100]), (ByteArray.mk #[119, 105, 110, 100]), (ByteArray.mk #[100, 111, 111, 114]), (ByteArray.mk #[112, 111, 119, 101, 114])] (by simp) h5 (by omega)
        rw [e6, Option.bind_some]
        refine ⟨_, _, _, _, _, _, _, _, rfl, h6.up (by omega), ?_⟩
        simp only [List.mem_cons, List.not_mem_nil, or_false] at hv
        show v6.size ≤ 100
        rcases hv with rfl | rfl | rfl | rfl <;> decide
      · dsimp only
        rw [cond_df h0]
        refine ⟨_, _, _, _, _, _, _, _, rfl, h5.up (by omega), ?_⟩
        show (ByteArray.mk #[]).size ≤ 100
        decide
  obtain ⟨c1, t1, s1, u1, d1, h1, k1, w, e, hc, hw⟩ := key
  dsimp only
  rw [e, Option.bind_some]
  refine gives_bind (pick_ok _ _ _ hc (by omega)) fun a2 c1 t1 s1 _ h => ?_
  dsimp only
  refine gives_cond (fun _ => ?_) (fun _ => gives_cond (fun _ => ?_) (fun _ => gives_cond (fun _ => ?_) (fun _ => gives_cond (fun _ => ?_) (fun _ => gives_cond (fun _ => ?_) (fun _ => gives_cond (fun _ => ?_) (fun _ => Gives.ret (h.up (by omega)) (RS_mk _ _ _ _ _ _ hw)))))))
  · exact gives_bind (among_ok _ _ _ (by simp) h (by omega)) fun a6 c1 t1 s1 _ h => Gives.ret (h.up (by omega)) (RS_mk _ _ _ _ _ _ hw)
  · exact gives_bind (among_ok _ _ _ (by simp) h (by omega)) fun a6 c1 t1 s1 _ h => Gives.ret (h.up (by omega)) (RS_mk _ _ _ _ _ _ hw)
  · exact gives_bind (among_ok _ _ _ (by simp) h (by omega)) fun a6 c1 t1 s1 _ h => Gives.ret (h.up (by omega)) (RS_mk _ _ _ _ _ _ hw)
  · exact gives_bind (among_ok _ _ _ (by simp) h (by omega)) fun a6 c1 t1 s1 _ h => Gives.ret (h.up (by omega)) (RS_mk _ _ _ _ _ _ hw)
  · exact gives_bind (among_ok _ _ _ (by simp) h (by omega)) fun a6 c1 t1 s1 _ h => Gives.ret (h.up (by omega)) (RS_mk _ _ _ _ _ _ hw)
  · refine gives_bind (of_ok _ _ _ (by simp) h (by omega)) fun a6 c1 t1 s1 hv h => Gives.ret (h.up (by omega)) (RS_mk _ _ _ _ _ _ ?_)
    simp only [List.mem_cons, List.not_mem_nil, or_false] at hv
    show a6.size ≤ 100
    rcases hv with rfl | rfl | rfl | rfl <;> decide
def RL (l : List DayRow) : Prop := ∀ k, RS (l.getD k d_DayRow)
theorem RL_nil : RL [] := fun k => by
  show ((([] : List DayRow).getD k d_DayRow).2.2.2.2.2.1).size ≤ 100
  simp only [List.getD_eq_getElem?_getD, List.getElem?_nil, Option.getD_none]
  show (ByteArray.mk #[]).size ≤ 100
  decide
theorem RL_snoc {l : List DayRow} {r : DayRow} (h : RL l) (hr : RS r) : RL (l ++ [r]) := fun k => by
  rcases Nat.lt_trichotomy k l.length with h1 | h1 | h1
  · have := h k
    rw [List.getD_eq_getElem?_getD] at this ⊢
    rw [List.getElem?_append_left h1]; exact this
  · subst h1
    rw [List.getD_eq_getElem?_getD]
    simpa using hr
  · have := h k
    rw [List.getD_eq_getElem?_getD, List.getElem?_eq_none (by omega)] at this
    rw [List.getD_eq_getElem?_getD, List.getElem?_eq_none (by simp; omega)]
    exact this
theorem rows_loop1 : ∀ (d : Nat) (day : Int) (code : List Int) (at' seed : Int) (acc : List DayRow) (n : Int), CG (code, at', seed, ()) n → n + 40 * d ≤ 10000000 → acc.length + d ≤ 1000 → d ≤ 1000 → RL acc →
    ∃ code' at2 seed' acc', iter (fun s => spec_l1Cur_dayRows_loop1 s.1 s.2.1 s.2.2.1 s.2.2.2.1 s.2.2.2.2.1 s.2.2.2.2.2) (day, (d : Int), code, at', seed, acc) = some (code', at2, seed', acc') ∧ CG (code', at2, seed', ()) (n + 40 * d) ∧ acc'.length = acc.length + d ∧ RL acc'
  | 0, day, code, at', seed, acc, n, h, _, _, _, hr => ⟨code, at', seed, acc, iter_out (by
      show spec_l1Cur_dayRows_loop1 day (0 : Int) code at' seed acc = _
      unfold spec_l1Cur_dayRows_loop1
      rw [cond_df (by omega)]), h.up (by omega), rfl, hr⟩
  | d + 1, day, code, at', seed, acc, n, h, hn, ha, hd, hr => by
    obtain ⟨⟨r1, r2, r3, r4, r5, r6, r7⟩, ⟨c1, t1, s1, u1⟩, e, hc, hrow⟩ := dayRow_ok (code, at', seed, ()) n day h (by omega)
    obtain ⟨v, ⟨c2, t2, s2, u2⟩, e2, hc2, hv⟩ := among_ok (c1, t1, s1, ()) (n + 30) [(1 : Int), (1 : Int), (1 : Int), (2 : Int)] (by simp) hc (by omega)
    obtain ⟨p, ⟨c3, t3, s3, u3⟩, e3, hc3, hp⟩ := pick_ok (c2, t2, s2, ()) (n + 30 + 2) 80 hc2 (by omega)
    obtain ⟨c4, t4, s4, acc4, e4, h4, l4, q4⟩ := rows_loop1 d (w64 ((w64 (day + v)) - (w64 (Int.tdiv p (79 : Int))))) c3 t3 s3 (acc ++ [(r1, r2, r3, r4, r5, r6, ())]) (n + 40) (hc3.up (by omega)) (by omega) (by simp; omega) (by omega) (RL_snoc hr hrow)
    refine ⟨c4, t4, s4, acc4, (iter_go ?_).trans e4, h4.up (by omega), by simp at l4; omega, q4⟩
    show spec_l1Cur_dayRows_loop1 day ((d + 1 : Nat) : Int) code at' seed acc = _
    unfold spec_l1Cur_dayRows_loop1
    rw [cond_dt (by omega), e, Option.bind_some, grd_pos (by simp; omega), e2, Option.bind_some, e3, Option.bind_some, grd_pos (by omega), w64_id (x := ((d + 1 : Nat) : Int) - 1) (by omega) (by omega)]
    rw [show ((d + 1 : Nat) : Int) - 1 = (d : Int) by omega]
theorem rows_loop2 : ∀ (d : Nat) (code : List Int) (at' seed : Int) (acc : List DayRow) (n : Int), CG (code, at', seed, ()) n → n + 2 * d ≤ 10000000 → 16 ≤ acc.length + d → acc.length ≤ 1000 → RL acc →
    ∃ code' at2 seed' acc', iter (fun s => spec_l1Cur_dayRows_loop2 s.1 s.2.1 s.2.2.1 s.2.2.2) (code, at', seed, acc) = some (code', at2, seed', acc') ∧ CG (code', at2, seed', ()) (n + 2 * d + 2) ∧ acc'.length ≤ 1000 ∧ RL acc'
  | d, code, at', seed, acc, n, h, hn, ha, hb, hr => by
    obtain ⟨v, ⟨c1, t1, s1, u1⟩, e, hc, hv⟩ := pick_ok (code, at', seed, ()) n 2 h (by omega)
    have hv : 0 ≤ v ∧ v < 2 := by omega
    have hw : w64 ((14 : Int) + v) = 14 + v := w64_id (by omega) (by omega)
    by_cases hl : (acc.length : Int) < 14 + v
    · cases d with
      | zero => omega
      | succ d =>
        obtain ⟨c2, t2, s2, acc2, e2, h2, l2, q2⟩ := rows_loop2 d c1 t1 s1 (acc ++ [((w64 ((980 : Int) + (acc.length : Int))), (5 : Int), (0 : Int), (2 : Int), (0 : Int), (ByteArray.mk #[]), ())]) (n + 2) hc (by omega) (by simp; omega) (by simp; omega) (RL_snoc hr (RS_mk _ _ _ _ _ _ (by decide)))
        refine ⟨c2, t2, s2, acc2, (iter_go ?_).trans e2, h2.up (by omega), l2, q2⟩
        show spec_l1Cur_dayRows_loop2 code at' seed acc = _
        unfold spec_l1Cur_dayRows_loop2
        rw [e, Option.bind_some, hw, cond_dt hl, grd_pos (by simp; omega)]
    · refine ⟨c1, t1, s1, acc, iter_out ?_, hc.up (by omega), hb, hr⟩
      show spec_l1Cur_dayRows_loop2 code at' seed acc = _
      unfold spec_l1Cur_dayRows_loop2
      rw [e, Option.bind_some, hw, cond_df hl]
theorem dayRows_ok (c : l1Cur) (n : Int) (h : CG c n) (hn : n ≤ 1000000) : Gives (spec_l1Cur_dayRows c) (n + 1000) (fun l => l.length ≤ 1000 ∧ RL l) := by
  obtain ⟨code, at', seed, u⟩ := c
  unfold spec_l1Cur_dayRows
  refine gives_bind (among_ok _ n _ (by simp) h (by omega)) fun a0 c1 t1 s1 _ h => ?_
  dsimp only
  refine gives_bind (pick_ok _ _ _ h (by omega)) fun a1 c1 t1 s1 ha h => ?_
  dsimp only
  obtain ⟨d, rfl⟩ : ∃ d : Nat, a1 = (d : Int) := ⟨a1.toNat, by omega⟩
  obtain ⟨c2, t2, s2, acc2, e2, h2, l2, q2⟩ := rows_loop1 d a0 c1 t1 s1 [] _ h (by omega) (by simp; omega) (by omega) RL_nil
  rw [e2, Option.bind_some]
  have l2 : acc2.length ≤ 8 := by simp at l2; omega
  dsimp only
  refine gives_bind (one_ok _ _ _ h2 (by omega)) fun a1 c1 t1 s1 _ h => ?_
  dsimp only
  refine gives_cond (fun _ => ?_) (fun _ => Gives.ret (h.up (by omega)) ⟨by omega, q2⟩)
  obtain ⟨c3, t3, s3, acc3, e3, h3, l3, q3⟩ := rows_loop2 20 c1 t1 s1 acc2 _ h (by omega) (by omega) (by omega) q2
  rw [e3, Option.bind_some]
  exact Gives.ret (h3.up (by omega)) ⟨l3, q3⟩
theorem small_RL {l : List DayRow} (h : l.length ≤ 1000) (hr : RL l) : Small l := ⟨by omega, fun k => by
  have : (l.getD k d_DayRow).2.2.2.2.2.1.size ≤ 100 := hr k
  exact Nat.le_trans this (by omega)⟩
theorem cg0 (code : List Int) (hb : ∀ x ∈ code, 0 ≤ x ∧ x ≤ 255) (hl : code.length ≤ 1048576) : CG (code, (0 : Int), (0 : Int), ()) 0 := ⟨hb, hl, by show (0 : Int) ≤ 0; omega, by show (0 : Int) ≤ 0; omega⟩
theorem drawAre_ok (code : List Int) (hb : ∀ x ∈ code, 0 ≤ x ∧ x ≤ 255) (hl : code.length ≤ 1048576) : ∃ l, spec_DrawAreDayRows code = some l ∧ l.length ≤ 1000 ∧ RL l := by
  unfold spec_DrawAreDayRows
  obtain ⟨l, c, e, _, h1, h2⟩ := dayRows_ok _ 0 (cg0 code hb hl) (by omega)
  rw [e]
  exact ⟨l, rfl, h1, h2⟩
theorem spoilt_ok (c : l1Cur) (n : Int) (A Q : List UInt8) (hA : A.length ≤ 100000) (hQ : Q.length = 6) (h : CG c n) (hn : n ≤ 100000000) : Gives (spec_l1Cur_spoilt c (bs A) (bs Q)) (n + 10) (fun s => s.size ≤ A.length + 6) := by
  obtain ⟨code, at', seed, u⟩ := c
  unfold spec_l1Cur_spoilt
  simp only [bs_size, bsub_bs, bs_app]
  refine gives_cond (fun _ => ?_) (fun h0 => ?_)
  · refine gives_grd (by omega) (Gives.ret (h.up (by omega)) ?_)
    show (bs _).size ≤ _
    rw [bs_size]; simp; omega
  · have hne : A ≠ [] := fun e => by subst e; exact absurd h0 (by decide)
    have hpos : 0 < A.length := List.length_pos_iff.2 hne
    refine gives_bind (pick_ok _ n _ h (by omega)) fun i code1 at1 seed1 hi hc => ?_
    dsimp only
    refine gives_bind (pick_ok _ (n + 2) _ hc (by omega)) fun j code2 at2 seed2 hj hc => ?_
    dsimp only
    have hi1 : i < (A.length : Int) := by omega
    have hj1 : j < (Q.length : Int) := by omega
    have hw : w64 (i + 1) = i + 1 := w64_id (by omega) (by omega)
    refine gives_grd (by omega) (gives_grd (by simp only [List.length_take, List.length_drop]; omega) ?_)
    refine gives_bind (pick_ok _ (n + 2 + 2) _ hc (by omega)) fun q code3 at3 seed3 hq hc => ?_
    dsimp only
    rw [hw]
    refine gives_cond (fun _ => ?_) (fun _ => gives_cond (fun _ => ?_) (fun _ => ?_))
    · refine gives_grd (by omega) (gives_grd (by simp only [List.length_take, List.length_drop]; omega) (gives_grd (by omega) (gives_grd (by simp only [List.length_append, List.length_take, List.length_drop]; omega) (Gives.ret (hc.up (by omega)) ?_))))
      rw [bs_size]; simp only [List.length_append, List.length_take, List.length_drop]; omega
    · refine gives_grd (by omega) (gives_grd (by simp only [List.length_take, List.length_drop]; omega) (gives_grd (by omega) (gives_grd (by simp only [List.length_append, List.length_take, List.length_drop]; omega) (Gives.ret (hc.up (by omega)) ?_))))
      rw [bs_size]; simp only [List.length_append, List.length_take, List.length_drop]; omega
    · refine gives_grd (by omega) (gives_grd (by omega) (gives_grd (by simp only [List.length_take, List.length_drop]; omega) (Gives.ret (hc.up (by omega)) ?_)))
      rw [bs_size]; simp only [List.length_append, List.length_take, List.length_drop]; omega
theorem isDay_ok (code : List Int) (hb : ∀ x ∈ code, 0 ≤ x ∧ x ≤ 255) (hl : code.length ≤ 1048576) : ∃ r, spec_DrawDayLine code = some r ∧ RS r := by
  unfold spec_DrawDayLine spec_DrawIsDayRow
  obtain ⟨v, ⟨c1, t1, s1, u1⟩, e1, hc1, _⟩ := among_ok (code, (0 : Int), (0 : Int), ()) 0 [(0 : Int), (42 : Int), (999 : Int)] (by simp) (cg0 code hb hl) (by omega)
  rw [e1, Option.bind_some]
  obtain ⟨⟨r1, r2, r3, r4, r5, r6, r7⟩, ⟨c2, t2, s2, u2⟩, e2, hc2, hr⟩ := dayRow_ok (c1, t1, s1, ()) _ v hc1 (by omega)
  dsimp only
  rw [e2]
  exact ⟨_, rfl, hr⟩
end Go.Proofs.YtjpnifmbgemibaaDoor
