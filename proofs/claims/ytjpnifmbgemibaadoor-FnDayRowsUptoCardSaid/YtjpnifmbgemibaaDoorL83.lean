/-
  The law of the days' rows: lines, texts of weeks, open runs.
-/
import Derived.Test.YtjpnifmbgemibaaDoorL82
namespace Go.Proofs.YtjpnifmbgemibaaDoor
open Go.RowKit

theorem take_next {α : Type} (l : List α) (k : Nat) (h : k < l.length) (d : α) : l.take (k + 1) = l.take k ++ [l.getD k d] := by
  rw [List.take_add_one, List.getElem?_eq_getElem h, getD_eq l k d h]; rfl
/-! ## A day's line -/
theorem row_size {r : DayRow} (h : RS r) : r.2.2.2.2.2.1.size ≤ 1000000000 := Nat.le_trans (show r.2.2.2.2.2.1.size ≤ 100 from h) (by omega)
theorem dayLines (r : DayRow) (h : RS r) : (rowB r = true ∧ impl_DayLine r = some (bs (lineR r), true) ∧ spec_DayLine r = some (bs (lineR r), true)) ∨
    (rowB r = false ∧ impl_DayLine r = some (bs [], false) ∧ spec_DayLine r = some (bs [], false)) := by
  unfold impl_DayLine spec_DayLine
  simp only [row_eta]
  rw [isRow_eq r (row_size h), one_eq r (row_size h)]
  simp only [Option.bind_some]
  cases hr : rowB r
  · exact .inr ⟨rfl, rfl, rfl⟩
  · obtain ⟨e1, e2⟩ := lines_eq r hr (row_size h)
    simp only [Bool.not_true, cond_false]
    rw [e1, e2]
    exact .inl ⟨by simp, rfl, rfl⟩
theorem lineR_len (r : DayRow) (h : rowB r = true) : (lineR r).length ≤ 80 := by
  obtain ⟨d, u, dn, hh, s, why, rfl, ok, e⟩ := row_out r h
  rw [e]; exact line_len d u dn hh s why ok
theorem round (r : DayRow) (h : rowB r = true) : impl_ParseDayLine (bs (lineR r)) = some (r, true) := by
  have hl := lineR_len r h
  obtain ⟨d, u, dn, hh, s, why, rfl, ok, e⟩ := row_out r h
  rw [e] at hl ⊢
  exact impl_yes d u dn hh s why ok h e (by omega)
theorem drawLine_ok (code : List Int) (hb : ∀ x ∈ code, 0 ≤ x ∧ x ≤ 255) (hl : code.length ≤ 1048576) : ∃ s, spec_DrawParseDayLine code = some (bs s) ∧ s.length ≤ 2000000 := by
  unfold spec_DrawParseDayLine
  obtain ⟨v, ⟨c1, t1, s1, u1⟩, e1, hc1, _⟩ := among_ok (code, (0 : Int), (0 : Int), ()) 0 [(0 : Int), (42 : Int), (999 : Int)] (by simp) (cg0 code hb hl) (by omega)
  rw [e1, Option.bind_some]
  obtain ⟨r, ⟨c2, t2, s2, u2⟩, e2, hc2, hr⟩ := dayRow_ok (c1, t1, s1, ()) _ v hc1 (by omega)
  dsimp only
  rw [e2, Option.bind_some]
  simp only [row_eta]
  have key : ∃ A b, spec_DayLine r = some (bs A, b) ∧ A.length ≤ 80 := by
    rcases dayLines r hr with ⟨h1, _, h3⟩ | ⟨h1, _, h3⟩
    · exact ⟨_, _, h3, lineR_len r h1⟩
    · exact ⟨_, _, h3, by simp⟩
  obtain ⟨A, b, eA, lA⟩ := key
  rw [eA, Option.bind_some]
  obtain ⟨q, ⟨c3, t3, s3, u3⟩, e3, hc3, _⟩ := one_ok (c2, t2, s2, ()) _ 4 hc2 (by omega)
  rw [e3, Option.bind_some]
  cases q
  · exact ⟨A, rfl, by omega⟩
  · obtain ⟨w, c4, e4, _, hw⟩ := spoilt_ok (c3, t3, s3, ()) _ A [48, 32, 58, 44, 115, 49] (by omega) rfl hc3 (by omega)
    obtain ⟨W, rfl⟩ := bs_ex w
    simp only [cond_true]
    have e4' : spec_l1Cur_spoilt (c3, t3, s3, ()) (bs A) (ByteArray.mk #[48, 32, 58, 44, 115, 49]) = some (bs W, c4) := e4
    rw [e4', Option.bind_some]
    rw [bs_size] at hw
    exact ⟨W, rfl, by omega⟩
/-! ## The text of a week -/
theorem dec_c10 (n : Nat) : (Lib.decDigits n).count 10 = 0 := List.count_eq_zero.2 (dec_no 10 (by decide) n)
theorem line_c10 (r : DayRow) (h : rowB r = true) : (lineR r).count 10 = 0 := by
  obtain ⟨d, u, dn, hh, s, why, rfl, ok, e⟩ := row_out r h
  rw [e]
  have hw : why.count 10 = 0 := by
    by_cases h0 : s = 0
    · rw [ok.none h0]; rfl
    · exact List.count_eq_zero.2 (word_no 10 (by decide) (ok.word h0).1)
  unfold lineL lineT
  repeat' split
  all_goals simp [List.count_append, dec_c10, hw]
theorem txtK_c10 (l : List DayRow) (n : Nat) (hr : ∀ k, k < n → rowB (l.getD k d_DayRow) = true) : ∀ k, k ≤ n → (txtK l k).count 10 = k
  | 0, _ => rfl
  | k + 1, hk => by
    rw [txtK, List.count_append, List.count_append, txtK_c10 l n hr k (by omega), line_c10 _ (hr k (by omega))]
    rfl
theorem weeks (l : List DayRow) (h : Small l) : (okL l = false ∧ impl_WeekText l = some (bs [], false) ∧ spec_WeekText l = some (bs [], false)) ∨
    ∃ X, okL l = true ∧ impl_WeekText l = some (bs X, true) ∧ spec_WeekText l = some (bs X, true) ∧ X.count 10 = l.length ∧ X.length ≤ 100000000 := by
  unfold spec_WeekText impl_WeekText
  rw [rows_eq l h, are_eq l h, Option.bind_some, Option.bind_some]
  cases ho : okL l with
  | false => exact .inl ⟨rfl, rfl, rfl⟩
  | true =>
    obtain ⟨hn, hr⟩ := okL_out ho
    obtain ⟨u1, u2, _⟩ := ups_in hr
    have e1 := txtK_le l h l.length hr l.length (by omega)
    have e3 := sumK_range (fun r => r.2.1) l l.length u1 l.length (by omega)
    have e4 := sumK_range (fun r => r.2.2.1) l l.length u2 l.length (by omega)
    have e5 := sumK_pos (fun r => r.2.1) l l.length (fun k hk => (nums_out (hr k hk)).1.2.1) l.length (by omega)
    have e6 := sumK_pos (fun r => r.2.2.1) l l.length (fun k hk => (nums_out (hr k hk)).2.1.1.1) l.length (by omega)
    simp only [Bool.not_true, cond_false, week_spec l h ho, week_impl l h ho, sums_eq l ho, Option.bind_some]
    obtain ⟨u, hu⟩ := Int.eq_ofNat_of_zero_le e5
    obtain ⟨d, hd⟩ := Int.eq_ofNat_of_zero_le e6
    rw [hu] at e3
    rw [hd] at e4
    rw [hu, hd]
    have q1 := dec_length 7 u (by omega)
    have q2 := dec_length 7 d (by omega)
    simp only [l1Num_eq u (by omega), l1Num_eq d (by omega), itoa_eq u (by omega), itoa_eq d (by omega), Option.bind_some, k4, k12, k13, bs_app, bs_size]
    rw [grd_pos (by simp only [List.length_cons, List.length_nil]; omega), grd_pos (by simp only [List.length_append, List.length_cons, List.length_nil]; omega), grd_pos (by simp only [List.length_append, List.length_cons, List.length_nil]; omega), grd_pos (by simp only [List.length_append, List.length_cons, List.length_nil]; omega), grd_pos (by simp only [List.length_append, List.length_cons, List.length_nil]; omega)]
    refine .inr ⟨_, by simp, rfl, rfl, ?_, ?_⟩
    · simp [List.count_append, dec_c10, txtK_c10 l l.length hr l.length (Nat.le_refl _)]
    · simp only [List.length_append, List.length_cons, List.length_nil]; omega
theorem nl_loop (X : List UInt8) (ok : Bool) (l : List DayRow) (h : X.length ≤ 100000000) :
    iter (fun s => laws_FnDayRows_loop1 s.1 s.2.1 s.2.2.1 s.2.2.2.1 s.2.2.2.2) (bs X, ok, (0 : Int), (0 : Int), l) = some (ok, ((X.count 10 : Nat) : Int), l) :=
  iter_for X.length (fun k => (bs X, ok, (((X.take k).count 10 : Nat) : Int), (k : Int), l)) (fun k hk => by
    show laws_FnDayRows_loop1 (bs X) ok (((X.take k).count 10 : Nat) : Int) (k : Int) l = _
    have hc : (X.take k).count 10 ≤ (X.take k).length := List.count_le_length
    have hc2 : (X.take k).length ≤ k := by rw [List.length_take]; omega
    unfold laws_FnDayRows_loop1
    rw [bs_size, cond_dt (by omega), grd_pos (by omega), bAt_get, list_bs, take_next X k hk 0, List.count_append, w64_nat (by omega)]
    by_cases e : X.getD k 0 = 10
    · rw [e, cond_dt (by decide), w64_nat (by omega)]; rfl
    · have e2 : ¬ (((X.getD k 0).toNat : Nat) : Int) = 10 := fun e3 => e (UInt8.toNat_inj.1 (by show (X.getD k 0).toNat = 10; omega))
      rw [cond_df e2, List.count_eq_zero.2 (fun hm => e (List.mem_singleton.1 hm).symm), w64_nat (by omega)]
      rfl) (by
    show laws_FnDayRows_loop1 (bs X) ok (((X.take X.length).count 10 : Nat) : Int) (X.length : Int) l = _
    unfold laws_FnDayRows_loop1
    rw [bs_size, cond_df (by omega), List.take_length]) rfl
/-! ## Open runs -/
def orK (l : List DayRow) : Nat → List (List Int)
  | 0 => []
  | k + 1 => if (l.getD k d_DayRow).2.2.2.1 = 0 then orK l k else
      if 0 < (orK l k).length ∧ ((orK l k).getD ((orK l k).length - 1) []).getD 1 0 = w64 ((l.getD k d_DayRow).1 - 1) then (orK l k).set ((orK l k).length - 1) [((orK l k).getD ((orK l k).length - 1) []).getD 0 0, (l.getD k d_DayRow).1]
      else orK l k ++ [[(l.getD k d_DayRow).1, (l.getD k d_DayRow).1]]
theorem orK_zero {l : List DayRow} {k : Nat} (h : (l.getD k d_DayRow).2.2.2.1 = 0) : orK l (k + 1) = orK l k := by rw [orK, if_pos h]
theorem orK_nil {l : List DayRow} {k : Nat} (h : ¬ (l.getD k d_DayRow).2.2.2.1 = 0) (e : orK l k = []) : orK l (k + 1) = orK l k ++ [[(l.getD k d_DayRow).1, (l.getD k d_DayRow).1]] := by
  rw [orK, if_neg h, if_neg (fun q => by rw [e] at q; exact absurd q.1 (by simp))]
theorem orK_on {l : List DayRow} {k : Nat} (h : ¬ (l.getD k d_DayRow).2.2.2.1 = 0) {init : List (List Int)} {a b : Int} (e : orK l k = init ++ [[a, b]]) (hb : b = w64 ((l.getD k d_DayRow).1 - 1)) : orK l (k + 1) = init ++ [[a, (l.getD k d_DayRow).1]] := by
  have hl : (init ++ [[a, b]]).length - 1 = init.length := by simp
  rw [orK, if_neg h, e, hl, getD_mid, if_pos ⟨by simp, hb⟩, set_mid]
  rfl
theorem orK_new {l : List DayRow} {k : Nat} (h : ¬ (l.getD k d_DayRow).2.2.2.1 = 0) {init : List (List Int)} {a b : Int} (e : orK l k = init ++ [[a, b]]) (hb : ¬ b = w64 ((l.getD k d_DayRow).1 - 1)) : orK l (k + 1) = orK l k ++ [[(l.getD k d_DayRow).1, (l.getD k d_DayRow).1]] := by
  have hl : (init ++ [[a, b]]).length - 1 = init.length := by simp
  rw [orK, if_neg h, e, hl, getD_mid, if_neg (fun q => hb q.2)]
def sumR : List (List Int) → Int
  | [] => 0
  | r :: rs => (r.getD 1 0 - r.getD 0 0 + 1) + sumR rs
theorem sumR_app (x y : List (List Int)) : sumR (x ++ y) = sumR x + sumR y := by
  induction x with
  | nil => simp [sumR]
  | cons a x ih => simp only [List.cons_append, sumR, ih]; omega
def opK (l : List DayRow) : Nat → Nat
  | 0 => 0
  | k + 1 => if 0 < (l.getD k d_DayRow).2.2.2.1 then opK l k + 1 else opK l k
theorem opK_le (l : List DayRow) : ∀ k, opK l k ≤ k
  | 0 => Nat.le_refl _
  | k + 1 => by have := opK_le l k; rw [opK]; split <;> omega
def Pair (row : List Int) : Prop := ∃ a b, row = [a, b] ∧ 0 ≤ a ∧ a ≤ b ∧ b ≤ 999
theorem orK_inv {l : List DayRow} (ho : okL l = true) : ∀ k, k ≤ l.length → (orK l k).length ≤ k ∧ (∀ row ∈ orK l k, Pair row) ∧ sumR (orK l k) = (opK l k : Nat) := by
  obtain ⟨hn, hr⟩ := okL_out ho
  intro k
  induction k with
  | zero => intro _; exact ⟨by simp [orK], fun row h => (by simp [orK] at h), rfl⟩
  | succ k ih =>
    intro hk
    obtain ⟨i1, i2, i3⟩ := ih (by omega)
    obtain ⟨⟨n1, n2⟩, ⟨n3, n4⟩, n5⟩ := nums_out (hr k (by omega))
    rw [opK]
    by_cases h0 : (l.getD k d_DayRow).2.2.2.1 = 0
    · rw [orK_zero h0, if_neg (by omega)]
      exact ⟨by omega, i2, i3⟩
    · rw [if_pos (by omega)]
      have new : orK l (k + 1) = orK l k ++ [[(l.getD k d_DayRow).1, (l.getD k d_DayRow).1]] → (orK l (k + 1)).length ≤ k + 1 ∧ (∀ row ∈ orK l (k + 1), Pair row) ∧ sumR (orK l (k + 1)) = ((opK l k + 1 : Nat) : Int) := fun e => by
        rw [e]
        refine ⟨by simp; omega, fun row h => ?_, ?_⟩
        · rcases List.mem_append.1 h with h | h
          · exact i2 row h
          · rw [List.mem_singleton.1 h]; exact ⟨_, _, rfl, by omega, by omega, by omega⟩
        · rw [sumR_app, i3]
          show _ + (((l.getD k d_DayRow).1 - (l.getD k d_DayRow).1 + 1) + 0) = _
          omega
      rcases List.eq_nil_or_concat (orK l k) with e | ⟨init, row, e⟩
      · exact new (orK_nil h0 e)
      · have e : orK l k = init ++ [row] := by rw [e]; simp
        obtain ⟨a, b, rfl, p1, p2, p3⟩ := i2 row (by rw [e]; simp)
        by_cases hb : b = w64 ((l.getD k d_DayRow).1 - 1)
        · have hb2 : b = (l.getD k d_DayRow).1 - 1 := by rw [hb, w64_id (by omega) (by omega)]
          rw [orK_on h0 e hb]
          rw [e, sumR_app] at i3
          have i3 : sumR init + ((b - a + 1) + 0) = _ := i3
          rw [e] at i1
          refine ⟨by simp at i1 ⊢; omega, fun row h => ?_, ?_⟩
          · rcases List.mem_append.1 h with h | h
            · exact i2 row (by rw [e]; exact List.mem_append_left _ h)
            · rw [List.mem_singleton.1 h]; exact ⟨_, _, rfl, by omega, by omega, by omega⟩
          · rw [sumR_app]
            show _ + (((l.getD k d_DayRow).1 - a + 1) + 0) = _
            omega
        · exact new (orK_new h0 e hb)
theorem runs_impl {l : List DayRow} (ho : okL l = true) : iter (fun s => impl_OpenRuns_loop1 l s.1 s.2) ((0 : Int), ([] : List (List Int))) = some (orK l l.length) := by
  obtain ⟨hn, hr⟩ := okL_out ho
  refine iter_for l.length (fun k => ((k : Int), orK l k)) (fun k hk => ?_) ?_ rfl
  · show impl_OpenRuns_loop1 l (k : Int) (orK l k) = _
    obtain ⟨i1, i2, i3⟩ := orK_inv ho k (by omega)
    unfold impl_OpenRuns_loop1
    rw [cond_dt (by omega), grd_pos (by omega)]
    simp only [Int.toNat_natCast]
    rw [w64_nat (by omega)]
    by_cases h0 : (l.getD k d_DayRow).2.2.2.1 = 0
    · rw [cond_dt h0, orK_zero h0]
    · rw [cond_df h0]
      rcases List.eq_nil_or_concat (orK l k) with e | ⟨init, row, e⟩
      · rw [orK_nil h0 e, e, cond_df (by show ¬ (0 : Int) ≤ w64 (-1); rw [w64_id (by omega) (by omega)]; omega), grd_pos (by simp)]
      · have e : orK l k = init ++ [row] := by rw [e]; simp
        obtain ⟨a, b, rfl, p1, p2, p3⟩ := i2 row (by rw [e]; simp)
        have hl : (init ++ [[a, b]]).length = init.length + 1 := by simp
        have hw : w64 (((init.length + 1 : Nat) : Int) - 1) = (init.length : Int) := by rw [w64_id (by rw [e] at i1; simp at i1; omega) (by rw [e] at i1; simp at i1; omega)]; omega
        by_cases hb : b = w64 ((l.getD k d_DayRow).1 - 1)
        · rw [orK_on h0 e hb, e, hl, hw, cond_dt (by omega), grd_pos (by omega), Int.toNat_natCast, getD_mid, grd_pos (by simp), cond_dt (show ([a, b].getD (1 : Int).toNat 0) = _ from hb), grd_pos (by omega), grd_pos (by simp), set_mid]
          rfl
        · rw [orK_new h0 e hb, e, hl, hw, cond_dt (by omega), grd_pos (by omega), Int.toNat_natCast, getD_mid, grd_pos (by simp), cond_df (show ¬ ([a, b].getD (1 : Int).toNat 0) = _ from hb), grd_pos (by rw [e, hl] at i1; simp only [List.length_singleton]; omega)]
  · show impl_OpenRuns_loop1 l (l.length : Int) (orK l l.length) = _
    unfold impl_OpenRuns_loop1
    rw [cond_df (by omega)]
theorem runs_spec {l : List DayRow} (ho : okL l = true) : iter (fun s => spec_OpenRuns_loop1 l s.1 s.2) ((0 : Int), ([] : List (List Int))) = some (orK l l.length) := by
  obtain ⟨hn, hr⟩ := okL_out ho
  refine iter_for l.length (fun k => ((k : Int), orK l k)) (fun k hk => ?_) ?_ rfl
  · show spec_OpenRuns_loop1 l (k : Int) (orK l k) = _
    obtain ⟨i1, i2, i3⟩ := orK_inv ho k (by omega)
    unfold spec_OpenRuns_loop1
    rw [cond_dt (by omega), grd_pos (by omega), grd_pos (by omega)]
    simp only [Int.toNat_natCast]
    rw [w64_nat (by omega)]
    by_cases h0 : (l.getD k d_DayRow).2.2.2.1 = 0
    · rw [cond_dt h0, orK_zero h0]
    · rw [cond_df h0]
      rcases List.eq_nil_or_concat (orK l k) with e | ⟨init, row, e⟩
      · rw [orK_nil h0 e, e, cond_df (by simp), grd_pos (by simp)]
      · have e : orK l k = init ++ [row] := by rw [e]; simp
        obtain ⟨a, b, rfl, p1, p2, p3⟩ := i2 row (by rw [e]; simp)
        have hl : (init ++ [[a, b]]).length = init.length + 1 := by simp
        have hw : w64 (((init.length + 1 : Nat) : Int) - 1) = (init.length : Int) := by rw [w64_id (by rw [e] at i1; simp at i1; omega) (by rw [e] at i1; simp at i1; omega)]; omega
        by_cases hb : b = w64 ((l.getD k d_DayRow).1 - 1)
        · rw [orK_on h0 e hb, e, hl, hw, cond_dt (by omega), grd_pos (by omega), Int.toNat_natCast, getD_mid, grd_pos (by simp), cond_dt (show ([a, b].getD (1 : Int).toNat 0) = _ from hb), grd_pos (by omega), grd_pos (by simp), grd_pos (by omega), set_mid]
          rfl
        · rw [orK_new h0 e hb, e, hl, hw, cond_dt (by omega), grd_pos (by omega), Int.toNat_natCast, getD_mid, grd_pos (by simp), cond_df (show ¬ ([a, b].getD (1 : Int).toNat 0) = _ from hb), grd_pos (by rw [e, hl] at i1; simp only [List.length_singleton]; omega)]
  · show spec_OpenRuns_loop1 l (l.length : Int) (orK l l.length) = _
    unfold spec_OpenRuns_loop1
    rw [cond_df (by omega)]
theorem runs_eq (l : List DayRow) (h : Small l) : (impl_OpenRuns l = some (.inl ()) ∧ spec_OpenRuns l = some ([], false, l)) ∨ (okL l = true ∧ impl_OpenRuns l = some (.inr (orK l l.length)) ∧ spec_OpenRuns l = some (orK l l.length, true, l)) := by
  unfold impl_OpenRuns spec_OpenRuns
  rw [rows_eq l h, are_eq l h, Option.bind_some, Option.bind_some]
  cases ho : okL l with
  | false => exact .inl ⟨rfl, rfl⟩
  | true =>
    simp only [Bool.not_true, cond_false]
    rw [runs_impl ho, runs_spec ho]; exact .inr ⟨by simp, rfl, rfl⟩
theorem sum_loop (p : List (List Int)) (ok : Bool) (l : List DayRow) (h : p.length ≤ 100) (hp : ∀ row ∈ p, Pair row) :
    iter (fun s => laws_FnDayRows_loop2 s.1 s.2.1 s.2.2.1 s.2.2.2.1 s.2.2.2.2) (p, ok, (0 : Int), (0 : Int), l) = some (ok, sumR p, l) := by
  have hb : ∀ k, k ≤ p.length → 0 ≤ sumR (p.take k) ∧ sumR (p.take k) ≤ 1000 * (k : Int) := by
    intro k
    induction k with
    | zero => intro _; simp [sumR]
    | succ k ih =>
      intro hk
      have := ih (by omega)
      have hm : p.getD k [] ∈ p := by rw [getD_eq p k _ (by omega)]; exact List.getElem_mem _
      obtain ⟨a, b, e, q1, q2, q3⟩ := hp _ hm
      rw [take_next p k (by omega) [], sumR_app, e]
      have e2 : sumR [[a, b]] = (b - a + 1) + 0 := rfl
      rw [e2]; omega
  refine iter_for p.length (fun k => (p, ok, sumR (p.take k), (k : Int), l)) (fun k hk => ?_) ?_ rfl
  · show laws_FnDayRows_loop2 p ok (sumR (p.take k)) (k : Int) l = _
    have := hb k (by omega)
    have hm : p.getD k [] ∈ p := by rw [getD_eq p k _ hk]; exact List.getElem_mem _
    obtain ⟨a, b, e, q1, q2, q3⟩ := hp _ hm
    have hg : 0 ≤ (k : Int) ∧ (k : Int) < (p.length : Int) := by omega
    unfold laws_FnDayRows_loop2
    rw [cond_dt (by omega)]
    simp only [grd_pos hg, Int.toNat_natCast]
    rw [take_next p k hk [], sumR_app]
    simp only [e]
    rw [grd_pos (by simp), grd_pos (by simp), w64_nat (by omega)]
    have e2 : sumR [[a, b]] = (b - a + 1) + 0 := rfl
    have e3 : [a, b].getD (1 : Int).toNat 0 = b := rfl
    have e4 : [a, b].getD (0 : Int).toNat 0 = a := rfl
    rw [e2, e3, e4, w64_id (x := sumR (p.take k) + b) (by omega) (by omega), w64_id (x := sumR (p.take k) + b - a) (by omega) (by omega), w64_id (by omega) (by omega)]
    refine congrArg (fun z => some (Lp.go (p, ok, z, ((k + 1 : Nat) : Int), l))) ?_
    omega
  · show laws_FnDayRows_loop2 p ok (sumR (p.take p.length)) (p.length : Int) l = _
    unfold laws_FnDayRows_loop2
    rw [cond_df (by omega), List.take_length]
theorem down_no (l : List DayRow) (c : Int) : iter (fun s => laws_FnDayRows_loop3 s.1 s.2.1 s.2.2.1 s.2.2.2) (false, c, (0 : Int), l) = some c := by
  refine iter_out ?_
  show laws_FnDayRows_loop3 false c (0 : Int) l = _
  unfold laws_FnDayRows_loop3
  cases decide ((0 : Int) < (l.length : Int)) <;> rfl
theorem down_yes (l : List DayRow) (h : l.length ≤ 1048576) (c : Int) (hc : 0 ≤ c ∧ c ≤ 1000000) : iter (fun s => laws_FnDayRows_loop3 s.1 s.2.1 s.2.2.1 s.2.2.2) (true, c, (0 : Int), l) = some (c - (opK l l.length : Nat)) := by
  refine iter_for l.length (fun k => (true, c - (opK l k : Nat), (k : Int), l)) (fun k hk => ?_) ?_ ?_
  · show laws_FnDayRows_loop3 true (c - (opK l k : Nat)) (k : Int) l = _
    have := opK_le l k
    have hg : 0 ≤ (k : Int) ∧ (k : Int) < (l.length : Int) := by omega
    unfold laws_FnDayRows_loop3
    rw [cond_dt (by omega)]
    simp only [grd_pos hg, Int.toNat_natCast, cond_true]
    rw [w64_nat (by omega), opK]
    by_cases h0 : 0 < (l.getD k d_DayRow).2.2.2.1
    · rw [cond_dt h0, if_pos h0, w64_id (by omega) (by omega)]
      refine congrArg (fun z => some (Lp.go (true, z, ((k + 1 : Nat) : Int), l))) ?_
      omega
    · rw [cond_df h0, if_neg h0]
  · show laws_FnDayRows_loop3 true (c - (opK l l.length : Nat)) (l.length : Int) l = _
    unfold laws_FnDayRows_loop3
    rw [cond_df (by omega)]
  · show _ = (true, c - ((0 : Nat) : Int), ((0 : Nat) : Int), l)
    simp
theorem row_same (r : DayRow) : (decide (r.1 = r.1) && (decide (r.2.1 = r.2.1) && (decide (r.2.2.1 = r.2.2.1) && (decide (r.2.2.2.1 = r.2.2.2.1) && (decide (r.2.2.2.2.1 = r.2.2.2.2.1) && (decide (r.2.2.2.2.2.1 = r.2.2.2.2.2.1) && true)))))) = true := by simp
/-! ## The law -/
theorem law_FnDayRows (code : List Int) (hc : Ty.fit (.sl (.int .u8)) code) : laws_FnDayRows code = some true := by
  have hl : code.length ≤ 1048576 := hc.1
  have hb : ∀ x ∈ code, 0 ≤ x ∧ x ≤ 255 := fun x hx => by
    have := hc.2 x hx
    exact this
  unfold laws_FnDayRows laws_rBig
  simp only [Option.bind_some]
  by_cases hbig : (65536 : Int) < (code.length : Int)
  · rw [cond_dt hbig]
  rw [cond_df hbig]
  obtain ⟨r, er, hr⟩ := isDay_ok code hb hl
  obtain ⟨s, es, hs⟩ := drawLine_ok code hb hl
  obtain ⟨l, el, ll, lr⟩ := drawAre_ok code hb hl
  have hsm := small_RL ll lr
  obtain ⟨y, y1, y2⟩ := parse_both s hs
  obtain ⟨y0, _, y4⟩ := parse_both [] (by simp)
  have eW : spec_DrawWeekText code = some l := by unfold spec_DrawWeekText; rw [el]; rfl
  have eO : spec_DrawOpenRuns code = some l := by unfold spec_DrawOpenRuns; rw [el]; rfl
  have runsT : (((impl_OpenRuns l).bind (Sum.elim (fun _ => (some ((Tg.mk : Tg 1), ([] : List (List Int)), false, l))) (fun y36 => (some ((Tg.mk : Tg 1), y36, true, l))))).bind fun z37 => ((spec_OpenRuns z37.2.2.2).bind fun y38 => (cond (!(z37.2.2.1 == y38.2.1)) ((some false)) ((laws_rTable z37.2.1 y38.1).bind fun y39 => (cond (!y39) ((some false)) ((iter (fun s => laws_FnDayRows_loop2 s.1 s.2.1 s.2.2.1 s.2.2.2.1 s.2.2.2.2) (z37.2.1, z37.2.2.1, (0 : Int), (0 : Int), y38.2.2)).bind (fun r56 => ((iter (fun s => laws_FnDayRows_loop3 s.1 s.2.1 s.2.2.1 s.2.2.2) (r56.1, r56.2.1, (0 : Int), r56.2.2)).bind (fun r71 => (some (decide (r71 = (0 : Int))))))))))))) = some true := by
    rcases runs_eq l hsm with ⟨e1, e2⟩ | ⟨ho, e1, e2⟩
    · simp only [e1, e2, Option.bind_some, Sum.elim_inl, beq_self_eq_true, Bool.not_true, cond_false, rTable_eq [] (by simp) (by simp), sum_loop [] false l (by simp) (by simp), down_no]
      rfl
    · obtain ⟨i1, i2, i3⟩ := orK_inv ho l.length (Nat.le_refl _)
      have hn := (okL_out ho).1
      have hop := opK_le l l.length
      simp only [e1, e2, Option.bind_some, Sum.elim_inr, beq_self_eq_true, Bool.not_true, cond_false, rTable_eq (orK l l.length) (by omega) (fun row hrow => by obtain ⟨a, b, e, _⟩ := i2 row hrow; rw [e]; simp), sum_loop (orK l l.length) true l (by omega) i2, i3, down_yes l (by omega) ((opK l l.length : Nat) : Int) (by omega)]
      rw [decide_eq_true (by omega)]
  have weekT : ((spec_DrawWeekText code).bind fun y11 => ((impl_WeekText y11).bind fun y12 => ((spec_WeekText y11).bind fun y13 => (cond (!decide (y12.1 = y13.1)) ((some false)) (cond (!(y12.2 == y13.2)) ((some false)) ((impl_AreDayRows y11).bind fun y14 => (cond (!(y12.2 == y14)) ((some false)) ((iter (fun s => laws_FnDayRows_loop1 s.1 s.2.1 s.2.2.1 s.2.2.2.1 s.2.2.2.2) (y12.1, y12.2, (0 : Int), (0 : Int), y11)).bind (fun r31 => (joinx (cond r31.1 (cond (!decide (r31.2.1 = (r31.2.2.length : Int))) (outm ((some false))) ((some (.go ())))) ((some (.go ())))) (fun (_ : Unit) => ((spec_DrawOpenRuns code).bind fun y33 => (((impl_OpenRuns y33).bind (Sum.elim (fun _ => (some ((Tg.mk : Tg 1), ([] : List (List Int)), false, y33))) (fun y36 => (some ((Tg.mk : Tg 1), y36, true, y33))))).bind fun z37 => ((spec_OpenRuns z37.2.2.2).bind fun y38 => (cond (!(z37.2.2.1 == y38.2.1)) ((some false)) ((laws_rTable z37.2.1 y38.1).bind fun y39 => (cond (!y39) ((some false)) ((iter (fun s => laws_FnDayRows_loop2 s.1 s.2.1 s.2.2.1 s.2.2.2.1 s.2.2.2.2) (z37.2.1, z37.2.2.1, (0 : Int), (0 : Int), y38.2.2)).bind (fun r56 => ((iter (fun s => laws_FnDayRows_loop3 s.1 s.2.1 s.2.2.1 s.2.2.2) (r56.1, r56.2.1, (0 : Int), r56.2.2)).bind (fun r71 => (some (decide (r71 = (0 : Int))))))))))))))))))))))))) = some true := by
    rw [eW, eO]
    simp only [Option.bind_some]
    rw [are_eq l hsm]
    rcases weeks l hsm with ⟨ho, e1, e2⟩ | ⟨X, ho, e1, e2, hX, lX⟩
    · rw [e1, e2]
      simp only [Option.bind_some, decide_true, Bool.not_true, cond_false, beq_self_eq_true, ho, nl_loop [] false l (by simp)]
      rw [joinx_go]
      exact runsT
    · rw [e1, e2]
      simp only [Option.bind_some, decide_true, Bool.not_true, cond_false, beq_self_eq_true, ho, nl_loop X true l lX, cond_true, hX]
      rw [joinx_go]
      exact runsT
  rw [er, Option.bind_some]
  simp only [row_eta]
  rw [isRow_eq r (row_size hr)]
  rcases dayLines r hr with ⟨h1, h2, h3⟩ | ⟨h1, h2, h3⟩
  · rw [h2, h3, h1]
    simp only [Option.bind_some, decide_true, Bool.not_true, cond_false, beq_self_eq_true, round r h1, cond_true, Bool.and_true, joinx_go, es, y1, y2]
    exact weekT
  · rw [h2, h3, h1]
    simp only [Option.bind_some, decide_true, Bool.not_true, cond_false, beq_self_eq_true, y4, Bool.and_true, joinx_go, es, y1, y2]
    exact weekT
end Go.Proofs.YtjpnifmbgemibaaDoor
