/-
  The law of the weather.
-/
import Derived.Test.YtaajchikfgbecaaGreatDoorZ83
namespace Go.Proofs.YtaajchikfgbecaaGreatDoor
open Go.RowKit

theorem spoilt_ok (c : l1Cur) (n : Int) (A Q : List UInt8) (hA : A.length ≤ 100000) (hQ : Q.length = 6) (h : CG c n) (hn : n ≤ 100000000) : Gives (spec_l1Cur_spoilt c (bs A) (bs Q)) (n + 10) (fun s => s.size ≤ A.length + 6) := by
  obtain ⟨code, at', seed, u⟩ := c
  unfold spec_l1Cur_spoilt
  simp only [bs_size, bsub_bs, bs_app]
  refine gives_cond (fun _ => ?_) (fun h0 => ?_)
  · refine gives_grd (by omega) (Gives.ret (h.up (by omega)) ?_)
    show (bs _).size ≤ _
    rw [bs_size]; simp; omega
  · have hne : A ≠ [] := fun e => by subst e; exact absurd h0 (by decide)
    have hpos : 0 < A.length := List.length_pos_iff.2 hne
    refine gives_bind (pick_ok _ n _ h (by omega)) fun i code1 at1 seed1 hi hc => ?_
    dsimp only
    refine gives_bind (pick_ok _ (n + 2) _ hc (by omega)) fun j code2 at2 seed2 hj hc => ?_
    dsimp only
    have hi1 : i < (A.length : Int) := by omega
    have hj1 : j < (Q.length : Int) := by omega
    have hw : w64 (i + 1) = i + 1 := w64_id (by omega) (by omega)
    refine gives_grd (by omega) (gives_grd (by simp only [List.length_take, List.length_drop]; omega) ?_)
    refine gives_bind (pick_ok _ (n + 2 + 2) _ hc (by omega)) fun q code3 at3 seed3 hq hc => ?_
    dsimp only
    rw [hw]
    refine gives_cond (fun _ => ?_) (fun _ => gives_cond (fun _ => ?_) (fun _ => ?_))
    · refine gives_grd (by omega) (gives_grd (by simp only [List.length_take, List.length_drop]; omega) (gives_grd (by omega) (gives_grd (by simp only [List.length_append, List.length_take, List.length_drop]; omega) (Gives.ret (hc.up (by omega)) ?_))))
      rw [bs_size]; simp only [List.length_append, List.length_take, List.length_drop]; omega
    · refine gives_grd (by omega) (gives_grd (by simp only [List.length_take, List.length_drop]; omega) (gives_grd (by omega) (gives_grd (by simp only [List.length_append, List.length_take, List.length_drop]; omega) (Gives.ret (hc.up (by omega)) ?_))))
      rw [bs_size]; simp only [List.length_append, List.length_take, List.length_drop]; omega
    · refine gives_grd (by omega) (gives_grd (by omega) (gives_grd (by simp only [List.length_take, List.length_drop]; omega) (Gives.ret (hc.up (by omega)) ?_)))
      rw [bs_size]; simp only [List.length_append, List.length_take, List.length_drop]; omega

/-! ## The side wind -/
def dW (a b : Int) : Int := if a ≤ b then b - a else a - b
def eW (d : Int) : Int := if 360 - d < d then 360 - d else d
def fW (e : Int) : Int := if 180 - e < e then 180 - e else e
def swv (wi way a : Int) : Int := Int.tdiv (wi * ([(0 : Int), (500 : Int), (866 : Int), (1000 : Int)].getD (fW (eW (dW way a)) / 30).toNat 0)) 1000
theorem dW_r {w a : Int} (hw : 0 ≤ w ∧ w ≤ 359) (ha : 0 ≤ a ∧ a ≤ 359) : 0 ≤ dW w a ∧ dW w a ≤ 359 := by
  unfold dW; split <;> omega
theorem eW_r {d : Int} (h : 0 ≤ d ∧ d ≤ 359) : 0 ≤ eW d ∧ eW d ≤ 180 := by
  unfold eW; split <;> omega
theorem fW_r {e : Int} (h : 0 ≤ e ∧ e ≤ 180) : 0 ≤ fW e ∧ fW e ≤ 90 := by
  unfold fW; split <;> omega
theorem four {f : Int} (h : 0 ≤ f ∧ f ≤ 90) : f / 30 = 0 ∨ f / 30 = 1 ∨ f / 30 = 2 ∨ f / 30 = 3 := by omega
theorem dist_eq {w a : Int} (hw : 0 ≤ w ∧ w ≤ 359) (ha : 0 ≤ a ∧ a ≤ 359) : impl_distance w a = some (dW w a) := by
  unfold impl_distance dW
  rw [w64_id (x := a - w) (by omega) (by omega), w64_id (x := w - a) (by omega) (by omega)]
  simp only [Bool.false_eq_true, if_false]
  refine congrArg some ?_
  split <;> split <;> omega
theorem most_eq {w a : Int} (hw : 0 ≤ w ∧ w ≤ 359) (ha : 0 ≤ a ∧ a ≤ 359) : spec_l1Most (w64 (w - a)) (w64 (a - w)) = some (dW w a) := by
  unfold spec_l1Most dW
  rw [w64_id (x := a - w) (by omega) (by omega), w64_id (x := w - a) (by omega) (by omega)]
  by_cases h : a - w < w - a
  · rw [cond_dt h, if_neg (by omega)]
  · rw [cond_df h]
    refine congrArg some ?_
    split <;> omega
theorem least_e {d : Int} (h : 0 ≤ d ∧ d ≤ 359) : spec_l1Least d (w64 (360 - d)) = some (eW d) := by
  unfold spec_l1Least eW
  rw [w64_id (by omega) (by omega)]
  by_cases h : d < 360 - d
  · rw [cond_dt h, if_neg (by omega)]
  · rw [cond_df h]
    refine congrArg some ?_
    split <;> omega
theorem least_f {e : Int} (h : 0 ≤ e ∧ e ≤ 180) : spec_l1Least e (w64 (180 - e)) = some (fW e) := by
  unfold spec_l1Least fW
  rw [w64_id (by omega) (by omega)]
  by_cases h : e < 180 - e
  · rw [cond_dt h, if_neg (by omega)]
  · rw [cond_df h]
    refine congrArg some ?_
    split <;> omega
/-- The end of both: a place in the table. -/
theorem side_end (wi f : Int) (hwi : 0 ≤ wi ∧ wi ≤ 600) (hf : 0 ≤ f ∧ f ≤ 90) :
    grd ((30 : Int) ≠ 0) (grd (0 ≤ (w64 (Int.tdiv f (30 : Int))) ∧ (w64 (Int.tdiv f (30 : Int))) < (4 : Int)) (grd ((1000 : Int) ≠ 0) ((some ((w64 (Int.tdiv (w64 (wi * ([(0 : Int), (500 : Int), (866 : Int), (1000 : Int)].getD ((w64 (Int.tdiv f (30 : Int))).toNat) 0))) (1000 : Int))), true))))) =
      some (Int.tdiv (wi * ([(0 : Int), (500 : Int), (866 : Int), (1000 : Int)].getD (f / 30).toNat 0)) 1000, true) := by
  have e1 : w64 (Int.tdiv f 30) = f / 30 := by
    rw [Int.tdiv_eq_ediv_of_nonneg hf.1, w64_id (by omega) (by omega)]
  rw [e1, grd_pos (by decide), grd_pos (by omega), grd_pos (by decide)]
  have key : ∀ c : Int, 0 ≤ c → c ≤ 1000 → 0 ≤ wi * c ∧ wi * c ≤ 600000 := fun c h1 h2 => by
    have h3 := Int.mul_nonneg hwi.1 h1
    have h4 := Int.mul_le_mul hwi.2 h2 h1 (by omega : (0 : Int) ≤ 600)
    omega
  have hc : 0 ≤ ([(0 : Int), (500 : Int), (866 : Int), (1000 : Int)].getD (f / 30).toNat 0) ∧ ([(0 : Int), (500 : Int), (866 : Int), (1000 : Int)].getD (f / 30).toNat 0) ≤ 1000 := by
    rcases four hf with h | h | h | h <;> rw [h] <;> decide
  obtain ⟨k1, k2⟩ := key _ hc.1 hc.2
  rw [w64_id (x := wi * _) (by omega) (by omega), w64_id (by rw [Int.tdiv_eq_ediv_of_nonneg k1]; omega) (by rw [Int.tdiv_eq_ediv_of_nonneg k1]; omega)]
theorem side_impl (r : Weather) (a : Int) : impl_SideWind r a = some (if okW r ∧ (0 ≤ a ∧ a ≤ 359) then (swv r.2.1 r.2.2.1 a, true) else (0, false)) := by
  unfold impl_SideWind
  rw [isWeather_eq, within_eq, Option.bind_some]
  by_cases hr : okW r
  · rw [cond_ndt hr, Option.bind_some]
    by_cases ha : 0 ≤ a ∧ a ≤ 359
    · have hd := dW_r hr.2.2.1 ha
      have he := eW_r hd
      have hf := fW_r he
      rw [cond_ndt ha, dist_eq hr.2.2.1 ha, Option.bind_some, show (if okW r ∧ (0 ≤ a ∧ a ≤ 359) then (swv r.2.1 r.2.2.1 a, true) else ((0 : Int), false)) = (swv r.2.1 r.2.2.1 a, true) from if_pos ⟨hr, ha⟩]
      have w1 : w64 (360 - dW r.2.2.1 a) = 360 - dW r.2.2.1 a := w64_id (by omega) (by omega)
      simp only [eq_self, if_true, w1]
      have w2 : w64 (180 - eW (dW r.2.2.1 a)) = 180 - eW (dW r.2.2.1 a) := w64_id (by omega) (by omega)
      have w2' : w64 (180 - (if 360 - dW r.2.2.1 a < dW r.2.2.1 a then 360 - dW r.2.2.1 a else dW r.2.2.1 a)) = 180 - (if 360 - dW r.2.2.1 a < dW r.2.2.1 a then 360 - dW r.2.2.1 a else dW r.2.2.1 a) := w2
      simp only [w2']
      exact side_end r.2.1 (fW (eW (dW r.2.2.1 a))) hr.2.1 hf
    · rw [cond_ndf ha, if_neg (fun q => ha q.2)]
  · rw [cond_ndf hr, if_neg (fun q => hr q.1)]
theorem side_spec (r : Weather) (a : Int) : spec_SideWind r a = some (if okW r ∧ (0 ≤ a ∧ a ≤ 359) then (swv r.2.1 r.2.2.1 a, true) else (0, false)) := by
  unfold spec_SideWind spec_l17Way
  rw [l17One_eq, l1In_eq, Option.bind_some]
  by_cases hr : okW r
  · rw [cond_ndt hr, Option.bind_some, Option.bind_some]
    by_cases ha : 0 ≤ a ∧ a ≤ 359
    · have hd := dW_r hr.2.2.1 ha
      have he := eW_r hd
      have hf := fW_r he
      rw [cond_ndt ha, most_eq hr.2.2.1 ha, Option.bind_some, least_e hd, Option.bind_some, least_f he, Option.bind_some, if_pos ⟨hr, ha⟩]
      exact side_end r.2.1 (fW (eW (dW r.2.2.1 a))) hr.2.1 hf
    · rw [cond_ndf ha, if_neg (fun q => ha q.2)]
  · rw [cond_ndf hr, if_neg (fun q => hr q.1)]
theorem side_sym {w a : Int} (hw : 0 ≤ w ∧ w ≤ 359) (ha : 0 ≤ a ∧ a ≤ 359) : fW (eW (dW w ((a + 180) % 360))) = fW (eW (dW w a)) := by
  have h1 : (a + 180) % 360 = if a < 180 then a + 180 else a - 180 := by split <;> omega
  rw [h1]
  unfold fW eW dW
  by_cases c1 : a < 180
  · rw [if_pos c1]
    by_cases c2 : w ≤ a <;> by_cases c3 : w ≤ a + 180 <;> simp only [c2, c3, if_true, if_false] <;> (repeat' split) <;> omega
  · rw [if_neg c1]
    by_cases c2 : w ≤ a <;> by_cases c3 : w ≤ a - 180 <;> simp only [c2, c3, if_true, if_false] <;> (repeat' split) <;> omega
theorem swv_le {wi w a : Int} (hwi : 0 ≤ wi ∧ wi ≤ 600) (hw : 0 ≤ w ∧ w ≤ 359) (ha : 0 ≤ a ∧ a ≤ 359) : swv wi w a ≤ wi := by
  have hf := fW_r (eW_r (dW_r hw ha))
  unfold swv
  rcases four hf with h | h | h | h <;> rw [h]
  · show Int.tdiv (wi * 0) 1000 ≤ wi
    rw [Int.mul_zero]; show (0 : Int) ≤ wi; omega
  · show Int.tdiv (wi * 500) 1000 ≤ wi
    rw [Int.tdiv_eq_ediv_of_nonneg (by omega)]; omega
  · show Int.tdiv (wi * 866) 1000 ≤ wi
    rw [Int.tdiv_eq_ediv_of_nonneg (by omega)]; omega
  · show Int.tdiv (wi * 1000) 1000 ≤ wi
    rw [Int.tdiv_eq_ediv_of_nonneg (by omega)]; omega
/-! ## The strongest wind -/
theorem strongest_spec (l : List Weather) (a b : Int) (h : l.length ≤ 1048576) : spec_StrongestWind l a b = some (if AR l = true ∧ (0 ≤ a ∧ a ≤ b) ∧ b ≤ 9999 then ((if 0 > swK l a b l.length then 0 else swK l a b l.length), decide (0 ≤ swK l a b l.length)) else (0, false)) := by
  unfold spec_StrongestWind spec_l17Minute
  rw [l17Good_eq l h, l1In_eq, l1In_eq]
  simp only [Option.bind_some]
  cases ha : AR l
  · simp only [Bool.not_false, cond_true]; rw [if_neg (by simp)]
  · simp only [Bool.not_true, cond_false]
    by_cases h2 : 0 ≤ b ∧ b ≤ 9999
    · rw [cond_ndt h2]
      by_cases h1 : 0 ≤ a ∧ a ≤ b
      · rw [cond_ndt h1, if_pos ⟨by simp, h1, h2.2⟩]
        have H : iter (fun s => spec_StrongestWind_loop1 l a b s.1 s.2) (((-1) : Int), (0 : Int)) = some (swK l a b l.length) :=
          iter_for l.length (fun k => (swK l a b k, (k : Int))) (fun k hk => by
            show spec_StrongestWind_loop1 l a b (swK l a b k) (k : Int) = _
            have hg : 0 ≤ (k : Int) ∧ (k : Int) < (l.length : Int) := by omega
            unfold spec_StrongestWind_loop1 spec_l1Most
            rw [cond_dt (by omega)]
            simp only [grd_pos hg, Int.toNat_natCast, l1In_eq, Option.bind_some]
            rw [w64_nat (by omega), swK]
            by_cases hw : a ≤ (l.getD k d_Weather).1 ∧ (l.getD k d_Weather).1 ≤ b
            · rw [cond_dt hw, if_pos hw]
              by_cases hc : (l.getD k d_Weather).2.1 < swK l a b k
              · rw [cond_dt hc, Option.bind_some, if_neg (by omega)]
              · rw [cond_df hc, Option.bind_some]
                refine congrArg (fun z => some (Lp.go (z, ((k + 1 : Nat) : Int)))) ?_
                split <;> omega
            · rw [cond_df hw, if_neg hw]) (by
            show spec_StrongestWind_loop1 l a b (swK l a b l.length) (l.length : Int) = _
            unfold spec_StrongestWind_loop1
            rw [cond_df (by omega)]) rfl
        rw [H, Option.bind_some]
        by_cases hn : swK l a b l.length < 0
        · rw [cond_dt hn, if_pos hn, decide_eq_false (by omega)]
        · rw [cond_df hn, if_neg hn, decide_eq_true (by omega)]
      · rw [cond_ndf h1, if_neg (fun e => h1 e.2.1)]
    · rw [cond_ndf h2, if_neg (fun e => h2 ⟨by have := e.2.1; omega, e.2.2⟩)]
theorem swK_ge (l : List Weather) (a b : Int) : ∀ k j, j < k → (a ≤ (l.getD j d_Weather).1 ∧ (l.getD j d_Weather).1 ≤ b) → (l.getD j d_Weather).2.1 ≤ swK l a b k := by
  intro k
  induction k with
  | zero => intro j hj; omega
  | succ k ih =>
    intro j hj hw
    rw [swK]
    by_cases e : j = k
    · rw [e] at hw ⊢
      rw [if_pos hw]; split <;> omega
    · have := ih j (by omega) hw
      split
      · split <;> omega
      · exact this
theorem wloop (l : List Weather) (a b w : Int) (ok : Bool) (h : l.length ≤ 1048576) (hw : ok = true → ∀ j, j < l.length → (a ≤ (l.getD j d_Weather).1 ∧ (l.getD j d_Weather).1 ≤ b) → (l.getD j d_Weather).2.1 ≤ w) :
    iter (fun s => laws_FnWeather_loop1 s.1 s.2.1 s.2.2.1 s.2.2.2.1 s.2.2.2.2.1 s.2.2.2.2.2) (a, b, w, ok, (0 : Int), l) = some (Sum.inr l) := by
  cases ok
  · refine iter_out ?_
    show laws_FnWeather_loop1 a b w false (0 : Int) l = _
    unfold laws_FnWeather_loop1
    cases decide ((0 : Int) < (l.length : Int)) <;> rfl
  · refine iter_for l.length (fun k => (a, b, w, true, (k : Int), l)) (fun k hk => ?_) ?_ rfl
    · show laws_FnWeather_loop1 a b w true (k : Int) l = _
      have hg : 0 ≤ (k : Int) ∧ (k : Int) < (l.length : Int) := by omega
      unfold laws_FnWeather_loop1
      rw [cond_dt (by omega)]
      simp only [grd_pos hg, Int.toNat_natCast, cond_true]
      rw [w64_nat (by omega)]
      by_cases c1 : a ≤ (l.getD k d_Weather).1
      · rw [cond_dt c1]
        by_cases c2 : (l.getD k d_Weather).1 ≤ b
        · rw [cond_dt c2, cond_df (by have := hw rfl k hk ⟨c1, c2⟩; omega)]
        · rw [cond_df c2]
      · rw [cond_df c1]
    · show laws_FnWeather_loop1 a b w true (l.length : Int) l = _
      unfold laws_FnWeather_loop1
      rw [cond_df (by omega)]
/-! ## Draws -/
theorem drawIs_ok (code : List Int) (hb : ∀ x ∈ code, 0 ≤ x ∧ x ≤ 255) (hl : code.length ≤ 1048576) : ∃ r, spec_DrawWeatherText code = some r := by
  unfold spec_DrawWeatherText spec_DrawIsWeather
  obtain ⟨v, ⟨c1, t1, s1, u1⟩, e1, hc1, _⟩ := among_ok (code, (0 : Int), (0 : Int), ()) 0 [(0 : Int), (10 : Int), (9999 : Int)] (by simp) (cg0 code hb hl) (by omega)
  rw [e1, Option.bind_some]
  obtain ⟨r, c2, e2, _, _⟩ := weather_ok (c1, t1, s1, ()) _ v hc1 (by omega)
  dsimp only
  rw [e2]
  exact ⟨_, rfl⟩
theorem drawSide_ok (code : List Int) (hb : ∀ x ∈ code, 0 ≤ x ∧ x ≤ 255) (hl : code.length ≤ 1048576) : ∃ r a, spec_DrawSideWind code = some (r, a) := by
  unfold spec_DrawSideWind
  obtain ⟨r, ⟨c1, t1, s1, u1⟩, e, hc, _⟩ := weather_ok (code, (0 : Int), (0 : Int), ()) 0 5 (cg0 code hb hl) (by omega)
  rw [e, Option.bind_some]
  obtain ⟨p, ⟨c2, t2, s2, u2⟩, e2, hc2, hp⟩ := pick_ok (c1, t1, s1, ()) _ 24 hc (by omega)
  dsimp only
  rw [e2, Option.bind_some]
  dsimp only
  obtain ⟨hw, hq⟩ := w_sel 8 p (by omega) hp
  rw [grd_pos (by omega), hw, grd_pos (by simp; omega)]
  obtain ⟨v, c3, e3, _, _⟩ := among_ok (c2, t2, s2, ()) _ (([(0 : Int), (1 : Int), (30 : Int), (65 : Int), (90 : Int), (180 : Int), (300 : Int), (359 : Int), ((-1) : Int), (360 : Int)].drop ((0 : Int).toNat)).take (((8 + Int.tdiv p 11) - (0 : Int)).toNat)) (fun e => by
    have := congrArg List.length e
    simp at this
    omega) hc2 (by omega)
  rw [e3]
  exact ⟨_, _, rfl⟩
theorem drawStrong_ok (code : List Int) (hb : ∀ x ∈ code, 0 ≤ x ∧ x ≤ 255) (hl : code.length ≤ 1048576) : ∃ l a b, spec_DrawStrongestWind code = some (l, a, b) ∧ l.length ≤ 1000 := by
  unfold spec_DrawStrongestWind
  obtain ⟨l, ⟨c1, t1, s1, u1⟩, e, hc, h1⟩ := records_ok _ 0 (cg0 code hb hl) (by omega)
  rw [e, Option.bind_some]
  obtain ⟨mi, ⟨c1, t1, s1, u1⟩, em, hc, _⟩ := minute17_ok (c1, t1, s1, ()) _ hc (by omega)
  dsimp only
  rw [em, Option.bind_some]
  obtain ⟨p, ⟨c2, t2, s2, u2⟩, e2, hc2, hp⟩ := pick_ok (c1, t1, s1, ()) _ 24 hc (by omega)
  dsimp only
  rw [e2, Option.bind_some]
  dsimp only
  obtain ⟨hw, hq⟩ := w_sel 4 p (by omega) hp
  rw [grd_pos (by omega), hw, grd_pos (by simp; omega)]
  obtain ⟨v, c3, e3, _, _⟩ := among_ok (c2, t2, s2, ()) _ (([(0 : Int), (5 : Int), (30 : Int), (84 : Int), ((-1) : Int), (10000 : Int)].drop ((0 : Int).toNat)).take (((4 + Int.tdiv p 11) - (0 : Int)).toNat)) (fun e => by
    have := congrArg List.length e
    simp at this
    omega) hc2 (by omega)
  rw [e3]
  exact ⟨_, _, _, rfl, h1⟩
theorem wtexts (r : Weather) : (∃ mi wa wi te st, r = mkW mi wa wi te st ∧ RW mi wa wi te ∧ okW r ∧ impl_WeatherText r = some (bs (lnW mi wa wi te st), true) ∧ spec_WeatherText r = some (bs (lnW mi wa wi te st), true)) ∨
    (¬ okW r ∧ impl_WeatherText r = some (bs [], false) ∧ spec_WeatherText r = some (bs [], false)) := by
  unfold impl_WeatherText spec_WeatherText
  rw [isWeather_eq, l17One_eq, Option.bind_some, Option.bind_some]
  by_cases h : okW r
  · obtain ⟨mi, wa, wi, te, st, e, hr⟩ := w_out h
    rw [cond_ndt h, cond_ndt h]
    refine .inl ⟨mi, wa, wi, te, st, e, hr, h, ?_, ?_⟩
    · rw [e]
      show (impl_weatherText (mkW mi wa wi te st)).bind _ = _
      rw [text_impl st hr]; rfl
    · rw [e]
      show (spec_l17Text (mkW mi wa wi te st)).bind _ = _
      rw [text_spec st hr]; rfl
  · rw [cond_ndf h, cond_ndf h]
    exact .inr ⟨h, rfl, rfl⟩
theorem drawPW_ok (code : List Int) (hb : ∀ x ∈ code, 0 ≤ x ∧ x ≤ 255) (hl : code.length ≤ 1048576) : ∃ s, spec_DrawParseWeather code = some (bs s) ∧ s.length ≤ 2000000 := by
  unfold spec_DrawParseWeather
  obtain ⟨v, ⟨c1, t1, s1, u1⟩, e1, hc1, _⟩ := among_ok (code, (0 : Int), (0 : Int), ()) 0 [(0 : Int), (10 : Int), (9999 : Int)] (by simp) (cg0 code hb hl) (by omega)
  rw [e1, Option.bind_some]
  obtain ⟨r, ⟨c2, t2, s2, u2⟩, e2, hc2, _⟩ := weather_ok (c1, t1, s1, ()) _ v hc1 (by omega)
  dsimp only
  rw [e2, Option.bind_some]
  simp only [eta_w]
  have key : ∃ A b, spec_WeatherText r = some (bs A, b) ∧ A.length ≤ 50 := by
    rcases wtexts r with ⟨mi, wa, wi, te, st, _, hr, _, _, h3⟩ | ⟨_, _, h3⟩
    · exact ⟨_, _, h3, lnW_len st hr⟩
    · exact ⟨_, _, h3, by simp⟩
  obtain ⟨A, b, eA, lA⟩ := key
  rw [eA, Option.bind_some]
  obtain ⟨q, ⟨c3, t3, s3, u3⟩, e3, hc3, _⟩ := one_ok (c2, t2, s2, ()) _ 4 hc2 (by omega)
  rw [e3, Option.bind_some]
  cases q
  · exact ⟨A, rfl, by omega⟩
  · obtain ⟨w, c4, e4, _, hw⟩ := spoilt_ok (c3, t3, s3, ()) _ A [48, 32, 46, 45, 67, 49] (by omega) rfl hc3 (by omega)
    obtain ⟨W, rfl⟩ := bs_ex w
    simp only [cond_true]
    have e4' : spec_l1Cur_spoilt (c3, t3, s3, ()) (bs A) (ByteArray.mk #[48, 32, 46, 45, 67, 49]) = some (bs W, c4) := e4
    rw [e4', Option.bind_some]
    rw [bs_size] at hw
    exact ⟨W, rfl, by omega⟩
/-! ## The law -/
theorem partD (code : List Int) (hb : ∀ x ∈ code, 0 ≤ x ∧ x ≤ 255) (hl : code.length ≤ 1048576) : ((spec_DrawStrongestWind code).bind fun y16 => ((impl_StrongestWind y16.1 y16.2.1 y16.2.2).bind fun y17 => ((spec_StrongestWind y16.1 y16.2.1 y16.2.2).bind fun y18 => (cond (!decide (y17.1 = y18.1)) ((some false)) (cond (!(y17.2 == y18.2)) ((some false)) ((iter (fun s => laws_FnWeather_loop1 s.1 s.2.1 s.2.2.1 s.2.2.2.1 s.2.2.2.2.1 s.2.2.2.2.2) (y16.2.1, y16.2.2, y17.1, y17.2, (0 : Int), y16.1)).bind (Sum.elim (fun _ => (some false)) (fun r43 => ((impl_AreRecords r43).bind fun y44 => ((spec_AreRecords r43).bind fun y45 => (some (y44 == y45)))))))))))) = some true := by
  obtain ⟨l, a, b, e, hlen⟩ := drawStrong_ok code hb hl
  have h : l.length ≤ 1048576 := by omega
  rw [e, Option.bind_some]
  dsimp only
  rw [strongest_eq l a b h, strongest_spec l a b h]
  have ea : spec_AreRecords l = some (AR l) := by unfold spec_AreRecords; rw [l17Good_eq l h]; rfl
  by_cases hc : AR l = true ∧ (0 ≤ a ∧ a ≤ b) ∧ b ≤ 9999
  · simp only [if_pos hc, Option.bind_some, decide_true, Bool.not_true, cond_false, beq_self_eq_true]
    rw [wloop l a b _ _ h (fun ho j hj hw => by
      have h1 := swK_ge l a b l.length j hj hw
      have h0 : 0 ≤ swK l a b l.length := of_decide_eq_true ho
      rw [if_neg (by omega)]; exact h1)]
    simp only [Option.bind_some, Sum.elim_inr, areRecords_eq l h, ea, beq_self_eq_true]
  · simp only [if_neg hc, Option.bind_some, decide_true, Bool.not_true, cond_false, beq_self_eq_true]
    rw [wloop l a b _ _ h (fun ho => by cases ho)]
    simp only [Option.bind_some, Sum.elim_inr, areRecords_eq l h, ea, beq_self_eq_true]
theorem partC (code : List Int) (hb : ∀ x ∈ code, 0 ≤ x ∧ x ≤ 255) (hl : code.length ≤ 1048576) : ((spec_DrawSideWind code).bind fun y11 => ((impl_SideWind (y11.1.1, y11.1.2.1, y11.1.2.2.1, y11.1.2.2.2.1, y11.1.2.2.2.2.1, ()) y11.2).bind fun y12 => ((spec_SideWind (y11.1.1, y11.1.2.1, y11.1.2.2.1, y11.1.2.2.2.1, y11.1.2.2.2.2.1, ()) y11.2).bind fun y13 => (cond (!decide (y12.1 = y13.1)) ((some false)) (cond (!(y12.2 == y13.2)) ((some false)) (joinx (cond y12.2 (grd ((360 : Int) ≠ 0) ((impl_SideWind (y11.1.1, y11.1.2.1, y11.1.2.2.1, y11.1.2.2.2.1, y11.1.2.2.2.2.1, ()) (Int.tmod (w64 (y11.2 + (180 : Int))) (360 : Int))).bind fun y14 => (cond (decide (y11.1.2.1 < y12.1)) (outm ((some false))) (cond (!y14.2) (outm ((some false))) (cond (!decide (y14.1 = y12.1)) (outm ((some false))) ((some (.go ())))))))) ((some (.go ())))) (fun (_ : Unit) => ((spec_DrawStrongestWind code).bind fun y16 => ((impl_StrongestWind y16.1 y16.2.1 y16.2.2).bind fun y17 => ((spec_StrongestWind y16.1 y16.2.1 y16.2.2).bind fun y18 => (cond (!decide (y17.1 = y18.1)) ((some false)) (cond (!(y17.2 == y18.2)) ((some false)) ((iter (fun s => laws_FnWeather_loop1 s.1 s.2.1 s.2.2.1 s.2.2.2.1 s.2.2.2.2.1 s.2.2.2.2.2) (y16.2.1, y16.2.2, y17.1, y17.2, (0 : Int), y16.1)).bind (Sum.elim (fun _ => (some false)) (fun r43 => ((impl_AreRecords r43).bind fun y44 => ((spec_AreRecords r43).bind fun y45 => (some (y44 == y45))))))))))))))))))) = some true := by
  have hD := partD code hb hl
  obtain ⟨r, a, e⟩ := drawSide_ok code hb hl
  rw [e, Option.bind_some]
  dsimp only
  simp only [eta_w]
  rw [side_impl r a, side_spec r a]
  by_cases hc : okW r ∧ (0 ≤ a ∧ a ≤ 359)
  · simp only [if_pos hc, Option.bind_some, decide_true, Bool.not_true, cond_false, beq_self_eq_true, cond_true]
    have hm : Int.tmod (w64 (a + 180)) 360 = (a + 180) % 360 := by
      rw [w64_id (by omega) (by omega), Int.tmod_eq_emod_of_nonneg (by omega)]
    have ha2 : 0 ≤ (a + 180) % 360 ∧ (a + 180) % 360 ≤ 359 := by omega
    have hs : swv r.2.1 r.2.2.1 ((a + 180) % 360) = swv r.2.1 r.2.2.1 a := by
      unfold swv
      rw [side_sym hc.1.2.2.1 hc.2]
    have hle := swv_le hc.1.2.1 hc.1.2.2.1 hc.2
    rw [grd_pos (by decide), hm, side_impl, if_pos ⟨hc.1, ha2⟩, hs]
    simp only [Option.bind_some, Bool.not_true, cond_false, decide_true]
    rw [cond_df (by omega), joinx_go]
    exact hD
  · simp only [if_neg hc, Option.bind_some, decide_true, Bool.not_true, cond_false, beq_self_eq_true, joinx_go]
    exact hD
theorem partB (code : List Int) (hb : ∀ x ∈ code, 0 ≤ x ∧ x ≤ 255) (hl : code.length ≤ 1048576) : ((spec_DrawParseWeather code).bind fun y8 => ((impl_ParseWeather y8).bind fun y9 => ((spec_ParseWeather y8).bind fun y10 => (cond (!(decide (y9.1.1 = y10.1.1) && (decide (y9.1.2.1 = y10.1.2.1) && (decide (y9.1.2.2.1 = y10.1.2.2.1) && (decide (y9.1.2.2.2.1 = y10.1.2.2.2.1) && ((y9.1.2.2.2.2.1 == y10.1.2.2.2.2.1) && true)))))) ((some false)) (cond (!(y9.2 == y10.2)) ((some false)) ((spec_DrawSideWind code).bind fun y11 => ((impl_SideWind (y11.1.1, y11.1.2.1, y11.1.2.2.1, y11.1.2.2.2.1, y11.1.2.2.2.2.1, ()) y11.2).bind fun y12 => ((spec_SideWind (y11.1.1, y11.1.2.1, y11.1.2.2.1, y11.1.2.2.2.1, y11.1.2.2.2.2.1, ()) y11.2).bind fun y13 => (cond (!decide (y12.1 = y13.1)) ((some false)) (cond (!(y12.2 == y13.2)) ((some false)) (joinx (cond y12.2 (grd ((360 : Int) ≠ 0) ((impl_SideWind (y11.1.1, y11.1.2.1, y11.1.2.2.1, y11.1.2.2.2.1, y11.1.2.2.2.2.1, ()) (Int.tmod (w64 (y11.2 + (180 : Int))) (360 : Int))).bind fun y14 => (cond (decide (y11.1.2.1 < y12.1)) (outm ((some false))) (cond (!y14.2) (outm ((some false))) (cond (!decide (y14.1 = y12.1)) (outm ((some false))) ((some (.go ())))))))) ((some (.go ())))) (fun (_ : Unit) => ((spec_DrawStrongestWind code).bind fun y16 => ((impl_StrongestWind y16.1 y16.2.1 y16.2.2).bind fun y17 => ((spec_StrongestWind y16.1 y16.2.1 y16.2.2).bind fun y18 => (cond (!decide (y17.1 = y18.1)) ((some false)) (cond (!(y17.2 == y18.2)) ((some false)) ((iter (fun s => laws_FnWeather_loop1 s.1 s.2.1 s.2.2.1 s.2.2.2.1 s.2.2.2.2.1 s.2.2.2.2.2) (y16.2.1, y16.2.2, y17.1, y17.2, (0 : Int), y16.1)).bind (Sum.elim (fun _ => (some false)) (fun r43 => ((impl_AreRecords r43).bind fun y44 => ((spec_AreRecords r43).bind fun y45 => (some (y44 == y45)))))))))))))))))))))))) = some true := by
  have hC := partC code hb hl
  obtain ⟨s, e, hs⟩ := drawPW_ok code hb hl
  have h1 := impl_reads s hs
  have h2 := h1.same (spec_reads s hs)
  obtain ⟨x, ex, _⟩ := h1
  rw [e, Option.bind_some, ← h2, ex]
  simp only [Option.bind_some, decide_true, Bool.and_true, beq_self_eq_true, Bool.not_true, cond_false]
  exact hC
theorem law_FnWeather (code : List Int) (hc : Ty.fit (.sl (.int .u8)) code) : laws_FnWeather code = some true := by
  have hl : code.length ≤ 1048576 := hc.1
  have hb : ∀ x ∈ code, 0 ≤ x ∧ x ≤ 255 := fun x hx => by
    have := hc.2 x hx
    exact this
  unfold laws_FnWeather laws_rBig
  simp only [Option.bind_some]
  by_cases hbig : (65536 : Int) < (code.length : Int)
  · rw [cond_dt hbig]
  rw [cond_df hbig]
  have hB := partB code hb hl
  obtain ⟨r, er⟩ := drawIs_ok code hb hl
  rw [er, Option.bind_some]
  simp only [eta_w]
  have hw : impl_IsWeather r = some (decide (okW r)) := isWeather_eq r
  rcases wtexts r with ⟨mi, wa, wi, te, st, e, hr, hok, t1, t2⟩ | ⟨hok, t1, t2⟩
  · obtain ⟨x, ex, _, u⟩ := impl_reads (lnW mi wa wi te st) (by have := lnW_len st hr; omega)
    have hx := u mi wa wi te st hr rfl
    rw [hx, ← e] at ex
    rw [t1, t2, hw, decide_eq_true hok]
    simp only [Option.bind_some, decide_true, Bool.not_true, cond_false, beq_self_eq_true, ex, cond_true, Bool.and_true, joinx_go]
    simp only [Bool.and_true] at hB
    exact hB
  · obtain ⟨x, ex, _⟩ := impl_reads [] (by simp)
    rw [t1, t2, hw, decide_eq_false hok]
    simp only [Option.bind_some, decide_true, Bool.not_true, cond_false, beq_self_eq_true, ex, joinx_go]
    exact hB
end Go.Proofs.YtaajchikfgbecaaGreatDoor
