/-
  The two laws of drawn logs.
-/
import Derived.Test.YtpfdhaldjeedfaaDoorT7
namespace Go.Proofs.YtpfdhaldjeedfaaDoor
open Go.RowKit

theorem fin_ok (c : l1Cur) (n : Int) (h : CG c n) (hn : n ≤ 1000000) (s : ByteArray) (hs : s.size ≤ 100000) : ∃ s', ((spec_l1Cur_one c (40 : Int)).bind fun y14 => (cond y14.1 ((spec_l1Cur_pick (y14.2.1, y14.2.2.1, y14.2.2.2.1, ()) (2 : Int)).bind fun y15 => (grd (0 ≤ (w64 ((30000 : Int) + y15.1)) ∧ (w64 ((30000 : Int) + y15.1)) ≤ (w64 ((30000 : Int) + y15.1)) ∧ (1 : Int) * (w64 ((30000 : Int) + y15.1)) ≤ 140737488355328 ∧ (w64 ((30000 : Int) + y15.1)) ≤ 140737488355328) ((some (strOfN (List.replicate (w64 ((30000 : Int) + y15.1)).toNat (0 : Int))))))) ((some s)))) = some s' ∧ s'.size ≤ 100000 := by
  obtain ⟨b, ⟨code2, at2, seed2, u2⟩, e2, hc, _⟩ := one_ok c n 40 h (by omega)
  simp only [e2, Option.bind_some]
  cases b
  · exact ⟨s, rfl, hs⟩
  · obtain ⟨a, ⟨code3, at3, seed3, u3⟩, e3, hc, ha⟩ := pick_ok _ _ 2 hc (by omega)
    have hw : w64 ((30000 : Int) + a) = 30000 + a := w64_id (by omega) (by omega)
    simp only [cond_true, e3, Option.bind_some, hw]
    rw [grd_pos (by omega)]
    exact ⟨_, rfl, by rw [strOf_size, List.length_replicate]; omega⟩
theorem drawRecover_ok {code : List Int} (hb : ∀ x ∈ code, 0 ≤ x ∧ x ≤ 255) (hl : code.length ≤ 1048576) : ∃ s, spec_DrawRecoverLog code = some s ∧ s.size ≤ 100000 := by
  obtain ⟨⟨d, p, m, u⟩, ⟨code1, at1, seed1, u1⟩, e1, hc, hdp⟩ := log_ok (code, 0, 0, ()) 0 (start_ok hb hl) (by omega)
  have hdp : d.size + p.size ≤ 1000 := hdp
  obtain ⟨D, rfl⟩ := bs_ex d
  obtain ⟨P, rfl⟩ := bs_ex p
  have h1 := bs_size D
  have h2 := bs_size P
  obtain ⟨q, ⟨code2, at2, seed2, u2⟩, e2, hc, _⟩ := pick_ok _ _ 4 hc (by omega)
  unfold spec_DrawRecoverLog
  simp only [e1, e2, Option.bind_some]
  rw [grd_pos (by omega), bs_app]
  have hs0 : (bs (D ++ P)).size ≤ 1000 := by rw [bs_size, List.length_append]; omega
  by_cases q0 : q = 0
  · rw [cond_dt q0]
    obtain ⟨s, ⟨code3, at3, seed3, u3⟩, e3, hc, hs⟩ := spoilt_ok _ _ (D ++ P) [35, 64, 10, 48, 49] (by rw [List.length_append]; omega) rfl hc (by omega)
    have e3 : spec_l1Cur_spoilt (code2, at2, seed2, ()) (bs (D ++ P)) (ByteArray.mk #[35, 64, 10, 48, 49]) = some (s, (code3, at3, seed3, u3)) := e3
    rw [e3, Option.bind_some]
    exact fin_ok _ _ hc (by omega) s (by rw [List.length_append] at hs; omega)
  rw [cond_df q0]
  by_cases q1 : q = 1
  · rw [cond_dt q1]
    obtain ⟨a, ⟨code3, at3, seed3, u3⟩, e3, hc, ha⟩ := pick_ok _ _ (w64 (((bs (D ++ P)).size : Int) + (1 : Int))) hc (by omega)
    rw [w64_id (by omega) (by omega)] at ha
    rw [e3, Option.bind_some, grd_pos (by omega)]
    refine fin_ok _ _ hc (by omega) _ ?_
    rw [bsub_bs, bs_size, List.length_take, List.length_drop, List.length_append]; omega
  rw [cond_df q1]
  by_cases q2 : q = 2
  · rw [cond_dt q2]
    obtain ⟨a, ⟨code3, at3, seed3, u3⟩, e3, hc, ha⟩ := pick_ok _ _ 4 hc (by omega)
    obtain ⟨⟨c, r, u4⟩, ⟨code4, at4, seed4, u5⟩, e4, hc, hcr⟩ := logRecord_ok _ _ hc (by omega)
    obtain ⟨C, rfl⟩ := bs_ex c
    obtain ⟨R, rfl⟩ := bs_ex r
    have hC : C.length ≤ 20 := by rw [← bs_size]; exact hcr.1
    have hR : R.length ≤ 20 := by rw [← bs_size]; exact hcr.2
    obtain ⟨k, rfl⟩ : ∃ k : Nat, a = (k : Int) := ⟨a.toNat, by omega⟩
    have e5 := l27Line_eq k C R (by omega) (by omega) (by omega)
    have h1 := textL_length k C R (by omega)
    have h2 := sealL_length (textL k C R)
    have h3 : (lineL k C R).length = (sealL (textL k C R)).length + 1 := by simp [lineL]
    have h4 := bs_size (lineL k C R)
    simp only [e3, e4, e5, Option.bind_some]
    rw [grd_pos (by omega)]
    exact fin_ok _ _ hc (by omega) _ (by rw [ba_app_size]; omega)
  rw [cond_df q2]
  exact fin_ok _ _ hc (by omega) _ (by omega)
theorem fnLog_loop (old : List LogRecord) (x : LogRecord) (hl : old.length ≤ 1000) (e : Int) (b1 b2 : Bool) (t1 t2 t3 t4 : ByteArray) (i1 : Int) (t5 t6 : ByteArray) (i2 : Int) (t7 t8 : ByteArray) (i3 : Int) :
    iter (fun s : List LogRecord × List LogRecord × Int × Bool × Bool × Int × ByteArray × ByteArray × ByteArray × ByteArray × Int × ByteArray × ByteArray × Int × ByteArray × ByteArray × Int => laws_FnLog_loop1 s.1 s.2.1 s.2.2.1 s.2.2.2.1 s.2.2.2.2.1 s.2.2.2.2.2.1 s.2.2.2.2.2.2.1 s.2.2.2.2.2.2.2.1 s.2.2.2.2.2.2.2.2.1 s.2.2.2.2.2.2.2.2.2.1 s.2.2.2.2.2.2.2.2.2.2.1 s.2.2.2.2.2.2.2.2.2.2.2.1 s.2.2.2.2.2.2.2.2.2.2.2.2.1 s.2.2.2.2.2.2.2.2.2.2.2.2.2.1 s.2.2.2.2.2.2.2.2.2.2.2.2.2.2.1 s.2.2.2.2.2.2.2.2.2.2.2.2.2.2.2.1 s.2.2.2.2.2.2.2.2.2.2.2.2.2.2.2.2)
      (old ++ [x], old, e, b1, b2, 0, t1, t2, t3, t4, i1, t5, t6, i2, t7, t8, i3) = some (Sum.inr (old ++ [x], old, e, b1, b2, t1, t2, t3, t4, i1, t5, t6, i2, t7, t8, i3)) := by
  refine iter_for old.length (fun k => (old ++ [x], old, e, b1, b2, (k : Int), t1, t2, t3, t4, i1, t5, t6, i2, t7, t8, i3)) (fun k hk => ?_) ?_ rfl
  · show laws_FnLog_loop1 (old ++ [x]) old e b1 b2 (k : Int) t1 t2 t3 t4 i1 t5 t6 i2 t7 t8 i3 = _
    have hg : (old ++ [x]).getD k d_LogRecord = old.getD k d_LogRecord := by
      rw [getD_eq _ _ _ (by simp; omega), getD_eq _ _ _ hk, List.getElem_append_left hk]
    unfold laws_FnLog_loop1
    rw [cond_dt (by omega), grd_pos (by rw [List.length_append, List.length_singleton]; omega), grd_pos (by omega), w64_nat (by omega), Int.toNat_natCast, hg]
    simp only [decide_true, Bool.and_true, Bool.not_true, cond_false]
  · show laws_FnLog_loop1 (old ++ [x]) old e b1 b2 (old.length : Int) t1 t2 t3 t4 i1 t5 t6 i2 t7 t8 i3 = _
    unfold laws_FnLog_loop1
    rw [cond_df (by omega)]
theorem records_val (D P : List UInt8) (n : Int) (hD : D.length ≤ 1000000) (hP : P.length ≤ 1000000) (hv : okLog D P n = true) : impl_LogRecords (bs D, bs P, n, ()) = some (Sum.inr ((rsOf (D ++ P)).map recOf)) := by
  unfold impl_LogRecords
  simp only [records_eq D P n (by omega) (by omega), Option.bind_some, hv, Bool.not_true, cond_false]
theorem specValid_eq (c r : List UInt8) (hc : c.length ≤ 1000000000) (hr : r.length ≤ 1000000000) : spec_IsValidRecord (bs c, bs r, ()) = some (goodB c r) := by
  unfold spec_IsValidRecord
  rw [good_eq c r hc hr]; rfl
theorem law_FnLog (code : List Int) (hc : Ty.fit (.sl (.int .u8)) code) : laws_FnLog code = some true := by
  have hl : code.length ≤ 1048576 := hc.1
  have hb : ∀ x ∈ code, 0 ≤ x ∧ x ≤ 255 := fun x hx => by
    have := hc.2 x hx
    exact this
  obtain ⟨d, p, m, c, r, d1, hd, hp, hcc, hrr⟩ := drawAppend_ok hb hl
  obtain ⟨D, rfl⟩ := bs_ex d
  obtain ⟨P, rfl⟩ := bs_ex p
  obtain ⟨C, rfl⟩ := bs_ex c
  obtain ⟨R, rfl⟩ := bs_ex r
  rw [bs_size] at hd hp hcc hrr
  obtain ⟨P', m', k, e1, e2, hP', hne, hz⟩ := append_both D P C R m (by omega) (by omega) (by omega) (by omega)
  obtain ⟨v1, v2⟩ := isValidLog_eq D P m (by omega) (by omega)
  unfold laws_FnLog laws_vBig
  rw [Option.bind_some]
  by_cases h0 : (65536 : Int) < (code.length : Int)
  · rw [cond_dt h0]
  rw [cond_df h0]
  simp only [d1, e1, e2, v1, v2, isValid_eq C R (by omega) (by omega), specValid_eq C R (by omega) (by omega), Option.bind_some, decide_true, Bool.and_true, Bool.not_true, cond_false, beq_self_eq_true]
  by_cases hk : k = 0
  · rw [cond_ndt hk]
    obtain ⟨q, rfl, hv, hq, hg, rfl, rfl⟩ := hz hk
    obtain ⟨hr, hv2⟩ := more_ok hv hq hg
    obtain ⟨o1, o2, _⟩ := okLog_out hv2
    have hts : tot (rsOf (D ++ (P ++ lineL q C R))) ≤ 60 * 400 := tot_small 60 0 _ (by omega)
    have hle : (rsOf (D ++ P)).length ≤ 60 := par_length 60 0 (D ++ P)
    have o2' : (q : Int) = ((rsOf (D ++ P)).length : Int) := (okLog_out hv).2.1
    have r1 := records_val D P (q : Int) (by omega) (by omega) hv
    have r2 := records_val D (P ++ lineL q C R) ((q + 1 : Nat) : Int) (by omega) (by omega) hv2
    have s1 := (recover_val (D ++ (P ++ lineL q C R)) (by omega)).1
    rw [if_pos (by omega), o1, List.take_length] at s1
    have s2 := (sync_both D (P ++ lineL q C R) ((q + 1 : Nat) : Int) (by omega) (by omega)).2
    rw [if_pos hv2] at s2
    have v3 := valid_eq D (P ++ lineL q C R) ((q + 1 : Nat) : Int) (by omega) (by omega)
    rw [hv2] at v3
    rw [hr] at r2 s1 o2
    rw [List.map_append, List.map_cons, List.map_nil] at r2
    have hx : recOf (C, R, (lineL q C R).length) = (bs C, bs R, ()) := rfl
    rw [hx] at r2
    have hL : (((rsOf (D ++ P)).map recOf).length : Int) = ((rsOf (D ++ P)).length : Int) := by rw [List.length_map]
    generalize (rsOf (D ++ P)).map recOf = old at *
    have hsz : (bs D).size + (bs (P ++ lineL q C R)).size ≤ 9223372036854775807 := by rw [bs_size, bs_size]; omega
    have hlen : (((rsOf (D ++ P)) ++ [(C, R, (lineL q C R).length)]).length : Int) = ((q + 1 : Nat) : Int) := by rw [List.length_append, List.length_singleton]; omega
    rw [hlen] at s1
    have hso : ((old ++ [(bs C, bs R, ())] : List LogRecord).length : Int) = (old.length : Int) + 1 := by rw [List.length_append, List.length_singleton]; omega
    have hgd : (old ++ [((bs C, bs R, ()) : LogRecord)]).getD old.length d_LogRecord = (bs C, bs R, ()) := by simp [List.getD_eq_getElem?_getD]
    simp only [r1, r2, Option.bind_some, Sum.elim_inr]
    rw [grd_pos hsz, bs_app, s1]
    simp only [Option.bind_some, s2, Bool.not_true, cond_false]
    rw [w64_id (by omega) (by omega), cond_ndt hso, cond_ndt (by omega), fnLog_loop old _ (by omega)]
    simp only [Option.bind_some, Sum.elim_inr]
    rw [grd_pos (by omega)]
    simp only [Int.toNat_natCast, hgd, decide_true, Bool.and_true, cond_true]
    rw [grd_pos hsz, bs_app, bs_size, cond_dt rfl]
    simp only [v3, Option.bind_some]
  · rw [cond_ndf hk]
    obtain ⟨rfl, rfl⟩ := hne hk
    simp only [decide_true, Bool.and_true]
theorem dec_zero (k : Nat) (h : Lib.decDigits k = Lib.decDigits 0) : k = 0 := by
  have h0 : Lib.decDigits 0 = [48] := by unfold Lib.decDigits; simp
  rw [h0] at h
  unfold Lib.decDigits at h
  split at h
  · rename_i hk
    simp only [List.cons.injEq, and_true] at h
    have := congrArg UInt8.toNat h
    simp only [UInt8.toNat_ofNat'] at this
    have h48 : (48 : UInt8).toNat = 48 := rfl
    omega
  · have := congrArg List.length h
    have hd := digit_length (k / 10)
    simp only [List.length_append, List.length_cons, List.length_nil] at this
    omega
theorem dec_no32 (k : Nat) : (32 : UInt8) ∉ Lib.decDigits k := fun h => by
  have := dec_mem k 32 h
  simp at this
/-- A line with another number is no first line. -/
theorem par_other (k : Nat) (c r : List UInt8) (hk : k ≠ 0) (hg : goodB c r = true) : rsOf (lineL k c r) = [] := by
  have h10 := seal_no10 k c r hg
  have hb : bef 10 (lineL k c r) = sealL (textL k c r) := bef_app 10 _ [] h10
  have hd : decL 0 (sealL (textL k c r)) = none := by
    cases hd : decL 0 (sealL (textL k c r)) with
    | none => rfl
    | some x =>
      obtain ⟨c', r'⟩ := x
      obtain ⟨_, _, h3⟩ := decL_some hd
      rw [sealL_bef _ (textL_no k hg)] at h3
      have e1 : bef 32 (textL k c r) = Lib.decDigits k := by
        have := bef_app 32 (Lib.decDigits k) (c ++ [64] ++ r) (dec_no32 k)
        unfold textL
        simpa using this
      have e2 : bef 32 (textL 0 c' r') = Lib.decDigits 0 := by
        have := bef_app 32 (Lib.decDigits 0) (c' ++ [64] ++ r') (dec_no32 0)
        unfold textL
        simpa using this
      rw [h3, e2] at e1
      exact absurd (dec_zero k e1.symm) hk
  show par (59 + 1) 0 (lineL k c r) = []
  unfold par
  rw [if_pos (by simp [lineL]), hb, hd]
theorem encode_val (k : Int) (c r : List UInt8) (hc : c.length ≤ 1048576) (hr : r.length ≤ 1048576) :
    impl_EncodeRecord k (bs c, bs r, ()) = some (if 0 ≤ k ∧ k ≤ 59 ∧ goodB c r = true then (bs (lineL k.toNat c r), true) else (bs [], false)) ∧ spec_EncodeRecord k (bs c, bs r, ()) = impl_EncodeRecord k (bs c, bs r, ()) := by
  obtain ⟨x, b, e1, e2⟩ := encodeBoth k c r hc hr
  refine ⟨?_, by rw [e1, e2]⟩
  clear e1 e2
  unfold impl_EncodeRecord
  simp only [within_eq, Option.bind_some, isValid_eq c r (by omega) (by omega)]
  by_cases h : 0 ≤ k ∧ k ≤ 59
  · rw [cond_ndt h]
    cases hg : goodB c r with
    | false => simp
    | true =>
      obtain ⟨n, rfl⟩ : ∃ n : Nat, k = n := ⟨k.toNat, by omega⟩
      rw [Bool.not_true, cond_false, encode_eq n c r (by omega) hg, if_pos ⟨h.1, h.2, rfl⟩]
      rfl
  · rw [cond_ndf h, if_neg (fun h' => h ⟨h'.1, h'.2.1⟩)]
theorem law_FnLogLines (code : List Int) (hc : Ty.fit (.sl (.int .u8)) code) : laws_FnLogLines code = some true := by
  have hl : code.length ≤ 1048576 := hc.1
  have hb : ∀ x ∈ code, 0 ≤ x ∧ x ≤ 255 := fun x hx => by
    have := hc.2 x hx
    exact this
  obtain ⟨k, c, r, d1, hcc, hrr⟩ := drawEncode_ok hb hl
  obtain ⟨s, d2, hs⟩ := drawRecover_ok hb hl
  obtain ⟨C, rfl⟩ := bs_ex c
  obtain ⟨R, rfl⟩ := bs_ex r
  obtain ⟨T, rfl⟩ := bs_ex s
  rw [bs_size] at hcc hrr hs
  obtain ⟨e1, e2⟩ := encode_val k C R (by omega) (by omega)
  obtain ⟨f1, f2⟩ := recover_val T (by omega)
  rw [e1] at e2
  rw [f1] at f2
  have hsync : ∀ (M : Log × Int × Bool), M = (if T.length ≤ 30000 then ((bs (T.take (tot (rsOf T))), bs [], ((rsOf T).length : Int), ()), ((tot (rsOf T) : Nat) : Int), true) else ((bs [], bs [], 0, ()), 0, false)) →
      ∀ (y3 : ByteArray × Bool), (y3.2 = false → y3.1 = bs []) → ((impl_SyncLog (M.1.1, M.1.2.1, M.1.2.2.1, ())).bind fun y10 => (cond (!M.2.2) ((some true)) (cond y10.2 (cond (decide (y10.1.1 = M.1.1) && (decide (y10.1.2.1 = M.1.2.1) && decide (y10.1.2.2.1 = M.1.2.2.1))) ((impl_IsValidLog (M.1.1, M.1.2.1, M.1.2.2.1, ())).bind fun y11 => (cond y11 (cond y3.2 ((some true)) ((some (decide (y3.1 = (ByteArray.mk #[])))))) ((some false)))) ((some false))) ((some false))))) = some true := by
    rintro _ rfl ⟨x, b⟩ hx
    have htk : (T.take (tot (rsOf T))).length ≤ T.length := by rw [List.length_take]; omega
    split
    · have hv := recov_ok T
      have g1 := (sync_both (T.take (tot (rsOf T))) [] ((rsOf T).length : Int) (by omega) (by simp)).2
      have g2 := valid_eq (T.take (tot (rsOf T))) [] ((rsOf T).length : Int) (by omega) (by simp)
      rw [if_pos hv, List.append_nil] at g1
      rw [hv] at g2
      simp only [g1, g2, Option.bind_some, decide_true, Bool.and_true, Bool.not_true, cond_false, cond_true]
      cases b
      · rw [show x = bs [] from hx rfl]; rfl
      · rfl
    · have g1 := (sync_both [] [] 0 (by simp) (by simp)).2
      simp only [g1, Option.bind_some, Bool.not_false, cond_true]
  unfold laws_FnLogLines laws_vBig
  rw [Option.bind_some]
  by_cases h0 : (65536 : Int) < (code.length : Int)
  · rw [cond_dt h0]
  rw [cond_df h0]
  simp only [d1, d2, e1, e2, f1, f2, Option.bind_some, decide_true, Bool.and_true, Bool.not_true, cond_false, beq_self_eq_true]
  by_cases hok : 0 ≤ k ∧ k ≤ 59 ∧ goodB C R = true
  · obtain ⟨q, rfl⟩ : ∃ q : Nat, k = q := ⟨k.toNat, by omega⟩
    rw [if_pos hok]
    simp only [Int.toNat_natCast]
    have h1 := textL_length q C R (by omega)
    have h2 := sealL_length (textL q C R)
    have h3 : (lineL q C R).length = (sealL (textL q C R)).length + 1 := by simp [lineL]
    have g1 := (recover_val (lineL q C R) (by omega)).1
    rw [if_pos (by omega)] at g1
    rw [g1]
    simp only [Option.bind_some, cond_true]
    by_cases hq : q = 0
    · subst hq
      have hp : rsOf (lineL 0 C R) = [(C, R, (lineL 0 C R).length)] := par_line 59 0 C R hok.2.2
      have ht : tot [(C, R, (lineL 0 C R).length)] = (lineL 0 C R).length := by simp [tot]
      rw [hp, ht, decide_eq_true (show (0 : Int) < ((lineL 0 C R).length : Int) by omega), decide_eq_true (show ((0 : Nat) : Int) = 0 from rfl)]
      simp only [beq_self_eq_true, Bool.not_true, cond_false, cond_true, List.length_singleton]
      rw [cond_ndt (by rfl)]
      exact hsync _ rfl (bs (lineL 0 C R), true) (fun h => by cases h)
    · have hp : rsOf (lineL q C R) = [] := par_other q C R hq hok.2.2
      rw [hp, show tot [] = 0 from rfl, decide_eq_false (show ¬ (0 : Int) < ((0 : Nat) : Int) by omega), decide_eq_false (show ¬ ((q : Nat) : Int) = 0 by omega)]
      simp only [beq_self_eq_true, Bool.not_true, cond_false]
      exact hsync _ rfl (bs (lineL q C R), true) (fun h => by cases h)
  · rw [if_neg hok]
    obtain ⟨y8, g1⟩ : ∃ y, impl_RecoverLog (bs []) = some y := ⟨_, (recover_val [] (by simp)).1⟩
    rw [g1]
    simp only [Option.bind_some, cond_false]
    exact hsync _ rfl (bs [], false) (fun _ => rfl)
end Go.Proofs.YtpfdhaldjeedfaaDoor
