/-
  The laws of the log's functions, in plain words.
-/
import Derived.Test.YtpfdhaldjeedfaaDoorT4
namespace Go.Proofs.YtpfdhaldjeedfaaDoor
open Go.RowKit

theorem szRecord_ex (a : LogRecord) (n : Int) : ∃ y, laws_szLogRecord a n = some y := by
  unfold laws_szLogRecord
  by_cases h1 : (w64 (n - (a.1.size : Int))) < 0
  · rw [cond_dt h1]; exact ⟨_, rfl⟩
  · rw [cond_df h1]
    by_cases h2 : (w64 ((w64 (n - (a.1.size : Int))) - (a.2.1.size : Int))) < 0
    · rw [cond_dt h2]; exact ⟨_, rfl⟩
    · rw [cond_df h2]; exact ⟨_, rfl⟩
theorem szLog_ex (a : Log) (n : Int) : ∃ y, laws_szLog a n = some y := by
  unfold laws_szLog
  by_cases h1 : (w64 (n - (a.1.size : Int))) < 0
  · rw [cond_dt h1]; exact ⟨_, rfl⟩
  · rw [cond_df h1]
    by_cases h2 : (w64 ((w64 (n - (a.1.size : Int))) - (a.2.1.size : Int))) < 0
    · rw [cond_dt h2]; exact ⟨_, rfl⟩
    · rw [cond_df h2]; exact ⟨_, rfl⟩
theorem eqLog_eq (a b : ByteArray) (n : Int) : laws_eqLog (a, b, n, ()) (a, b, n, ()) = some true := by
  unfold laws_eqLog
  rw [cond_ndt rfl, cond_ndt rfl, cond_ndt rfl]
theorem encodeBoth (k : Int) (c r : List UInt8) (hc : c.length ≤ 1048576) (hr : r.length ≤ 1048576) : ∃ x b, spec_EncodeRecord k (bs c, bs r, ()) = some (x, b) ∧ impl_EncodeRecord k (bs c, bs r, ()) = some (x, b) := by
  unfold spec_EncodeRecord impl_EncodeRecord
  simp only [l1In_eq, within_eq, Option.bind_some, good_eq c r (by omega) (by omega), isValid_eq c r (by omega) (by omega)]
  by_cases h : 0 ≤ k ∧ k ≤ 59
  · rw [cond_ndt h, cond_ndt h]
    cases hg : goodB c r with
    | false => exact ⟨_, _, rfl, rfl⟩
    | true =>
      obtain ⟨n, rfl⟩ : ∃ n : Nat, k = n := ⟨k.toNat, by omega⟩
      rw [Bool.not_true, cond_false, cond_false, l27Line_eq n c r (by omega) (by omega) (by omega), encode_eq n c r (by omega) hg]
      exact ⟨_, _, rfl, rfl⟩
  · rw [cond_ndf h, cond_ndf h]; exact ⟨_, _, rfl, rfl⟩
theorem law_FnExactEncodeRecord (k : Int) (a : LogRecord) (_ : Ty.fit (.int .i64) k) (ha : Ty.fit ty_LogRecord a) : laws_FnExactEncodeRecord k a = some true := by
  obtain ⟨c0, r0, u⟩ := a
  obtain ⟨c, rfl⟩ := bs_ex c0
  obtain ⟨r, rfl⟩ := bs_ex r0
  have hc : c.length ≤ 1048576 := by rw [← bs_size]; exact ha.1
  have hr : r.length ≤ 1048576 := by rw [← bs_size]; exact ha.2.1
  obtain ⟨y, hy⟩ := szRecord_ex (bs c, bs r, ()) 1048576
  obtain ⟨x, b, e1, e2⟩ := encodeBoth k c r hc hr
  unfold laws_FnExactEncodeRecord
  simp only [hy, Option.bind_some]
  by_cases h0 : y < 0
  · rw [cond_dt h0]
  · rw [cond_df h0]
    simp only [laws_toLogRecord, Option.bind_some, e1, e2, decide_true, Bool.not_true, cond_false, beq_self_eq_true]
theorem recover_eq (s : List UInt8) (hs : s.length ≤ 100000000) : ∃ x, spec_RecoverLog (bs s) = some x ∧ impl_RecoverLog (bs s) = some x := by
  unfold spec_RecoverLog impl_RecoverLog
  simp only [bs_size]
  by_cases h : (30000 : Int) < s.length
  · rw [cond_dt h, cond_dt h]; exact ⟨_, rfl, rfl⟩
  · rw [cond_df h, cond_df h, open_eq s hs, readRecords_eq s hs, Option.bind_some, Option.bind_some]
    simp only []
    have hle : (rsOf s).length ≤ 60 := par_length 60 0 s
    have htl : tot (rsOf s) ≤ s.length := tot_le 60 0 s
    have hel : ((0 : Int) :: (endsOf 0 (rsOf s)).map (fun n : Nat => (n : Int))).length = (rsOf s).length + 1 := by simp [endsOf_length]
    have hew : w64 ((((0 : Int) :: (endsOf 0 (rsOf s)).map (fun n : Nat => (n : Int))).length : Int) - 1) = (((rsOf s).length : Nat) : Int) := by rw [hel, w64_id (by omega) (by omega)]; omega
    have hlast : ((0 : Int) :: (endsOf 0 (rsOf s)).map (fun n : Nat => (n : Int))).getD (rsOf s).length 0 = ((tot (rsOf s) : Nat) : Int) := by
      have := endsOf_last (rsOf s) 0
      rw [Nat.zero_add] at this
      rw [← this, ← getD_mapZ]
      rfl
    rw [grd_pos (by omega), hew, grd_pos (by rw [hel]; omega), Int.toNat_natCast, hlast, grd_pos (by omega)]
    exact ⟨_, rfl, rfl⟩
theorem law_FnExactRecoverLog (a : ByteArray) (ha : Ty.fit .str a) : laws_FnExactRecoverLog a = some true := by
  obtain ⟨s, rfl⟩ := bs_ex a
  have hs : s.length ≤ 1048576 := by rw [← bs_size]; exact ha
  obtain ⟨⟨⟨d, p, n, u⟩, m, ok⟩, e1, e2⟩ := recover_eq s (by omega)
  unfold laws_FnExactRecoverLog
  rw [bs_size, cond_df (by omega)]
  simp only [Option.bind_some, e1, e2, eqLog_eq, decide_true, Bool.not_true, cond_false, beq_self_eq_true]
theorem isValidLog_eq (D P : List UInt8) (n : Int) (hD : D.length ≤ 10000000) (hP : P.length ≤ 10000000) : spec_IsValidLog (bs D, bs P, n, ()) = some (okLog D P n) ∧ impl_IsValidLog (bs D, bs P, n, ()) = some (okLog D P n) := by
  unfold spec_IsValidLog impl_IsValidLog
  simp only [log_eq D P n hD hP, records_eq D P n hD hP, Option.bind_some]
  exact ⟨trivial, trivial⟩
theorem law_FnExactIsValidLog (a : Log) (ha : Ty.fit ty_Log a) : laws_FnExactIsValidLog a = some true := by
  obtain ⟨D0, P0, n, u⟩ := a
  obtain ⟨D, rfl⟩ := bs_ex D0
  obtain ⟨P, rfl⟩ := bs_ex P0
  have hD : D.length ≤ 1048576 := by rw [← bs_size]; exact ha.1
  have hP : P.length ≤ 1048576 := by rw [← bs_size]; exact ha.2.1
  obtain ⟨y, hy⟩ := szLog_ex (bs D, bs P, n, ()) 1048576
  obtain ⟨e1, e2⟩ := isValidLog_eq D P n (by omega) (by omega)
  unfold laws_FnExactIsValidLog
  simp only [hy, Option.bind_some]
  by_cases h0 : y < 0
  · rw [cond_dt h0]
  · rw [cond_df h0]
    simp only [laws_toLog, Option.bind_some, e1, e2, Bool.not_true, cond_false, beq_self_eq_true]
theorem law_FnExactSyncLog (a : Log) (ha : Ty.fit ty_Log a) : laws_FnExactSyncLog a = some true := by
  obtain ⟨D0, P0, n, u⟩ := a
  obtain ⟨D, rfl⟩ := bs_ex D0
  obtain ⟨P, rfl⟩ := bs_ex P0
  have hD : D.length ≤ 1048576 := by rw [← bs_size]; exact ha.1
  have hP : P.length ≤ 1048576 := by rw [← bs_size]; exact ha.2.1
  obtain ⟨y, hy⟩ := szLog_ex (bs D, bs P, n, ()) 1048576
  obtain ⟨_, e2⟩ := isValidLog_eq D P n (by omega) (by omega)
  have both : ∃ d p m b, spec_SyncLog (bs D, bs P, n, ()) = some ((d, p, m, ()), b) ∧ impl_SyncLog (bs D, bs P, n, ()) = some ((d, p, m, ()), b) := by
    unfold spec_SyncLog impl_SyncLog
    simp only [e2, log_eq D P n (by omega) (by omega), Option.bind_some]
    cases okLog D P n with
    | false => exact ⟨_, _, _, _, rfl, rfl⟩
    | true =>
      rw [Bool.not_true, cond_false, grd_pos (by rw [bs_size, bs_size]; omega)]
      exact ⟨_, _, _, _, rfl, rfl⟩
  obtain ⟨d, p, m, b, e3, e4⟩ := both
  unfold laws_FnExactSyncLog
  simp only [hy, Option.bind_some]
  by_cases h0 : y < 0
  · rw [cond_dt h0]
  · rw [cond_df h0]
    simp only [laws_toLog, Option.bind_some, e3, e4, eqLog_eq, Bool.not_true, cond_false, beq_self_eq_true]
theorem okLog_count {D P : List UInt8} {n : Int} (h : okLog D P n = true) : 0 ≤ n ∧ n ≤ 60 := by
  have h := of_decide_eq_true h
  have : (rsOf (D ++ P)).length ≤ 60 := par_length 60 0 (D ++ P)
  omega
theorem appendBoth (D P c r : List UInt8) (n : Int) (hD : D.length ≤ 1048576) (hP : P.length ≤ 1048576) (hc : c.length ≤ 1048576) (hr : r.length ≤ 1048576) :
    ∃ d p m k, spec_AppendRecord (bs D, bs P, n, ()) (bs c, bs r, ()) = some ((d, p, m, ()), k) ∧ impl_AppendRecord (bs D, bs P, n, ()) (bs c, bs r, ()) = some ((d, p, m, ()), k) := by
  obtain ⟨_, e2⟩ := isValidLog_eq D P n (by omega) (by omega)
  unfold spec_AppendRecord impl_AppendRecord
  simp only [e2, log_eq D P n (by omega) (by omega), Option.bind_some, good_eq c r (by omega) (by omega), isValid_eq c r (by omega) (by omega)]
  cases hv : okLog D P n with
  | false => exact ⟨_, _, _, _, rfl, rfl⟩
  | true =>
    cases hg : goodB c r with
    | false => exact ⟨_, _, _, _, rfl, rfl⟩
    | true =>
      simp only [Bool.not_true, cond_false]
      by_cases h60 : n = 60
      · rw [cond_dt h60, cond_dt h60]; exact ⟨_, _, _, _, rfl, rfl⟩
      · have hn := okLog_count hv
        obtain ⟨k, rfl⟩ : ∃ k : Nat, n = k := ⟨n.toNat, by omega⟩
        have h1 := textL_length k c r (by omega)
        have h2 := sealL_length (textL k c r)
        have h3 : (lineL k c r).length = (sealL (textL k c r)).length + 1 := by simp [lineL]
        rw [cond_df h60, cond_df h60, l27Line_eq k c r (by omega) (by omega) (by omega), encode_eq k c r (by omega) hg]
        simp only [Option.bind_some, bs_size, bs_app]
        rw [grd_pos (by omega)]
        exact ⟨_, _, _, _, rfl, rfl⟩
theorem law_FnExactAppendRecord (a : Log) (e : LogRecord) (ha : Ty.fit ty_Log a) (he : Ty.fit ty_LogRecord e) : laws_FnExactAppendRecord a e = some true := by
  obtain ⟨D0, P0, n, u⟩ := a
  obtain ⟨D, rfl⟩ := bs_ex D0
  obtain ⟨P, rfl⟩ := bs_ex P0
  have hD : D.length ≤ 1048576 := by rw [← bs_size]; exact ha.1
  have hP : P.length ≤ 1048576 := by rw [← bs_size]; exact ha.2.1
  obtain ⟨c0, r0, u2⟩ := e
  obtain ⟨c, rfl⟩ := bs_ex c0
  obtain ⟨r, rfl⟩ := bs_ex r0
  have hc : c.length ≤ 1048576 := by rw [← bs_size]; exact he.1
  have hr : r.length ≤ 1048576 := by rw [← bs_size]; exact he.2.1
  obtain ⟨y, hy⟩ := szLog_ex (bs D, bs P, n, ()) 1048576
  obtain ⟨z, hz⟩ := szRecord_ex (bs c, bs r, ()) y
  obtain ⟨d, p, m, k, e3, e4⟩ := appendBoth D P c r n hD hP hc hr
  unfold laws_FnExactAppendRecord
  simp only [hy, Option.bind_some]
  by_cases h0 : y < 0
  · rw [cond_dt h0]
  · rw [cond_df h0]
    simp only [hz, Option.bind_some]
    by_cases h1 : z < 0
    · rw [cond_dt h1]
    · rw [cond_df h1]
      simp only [laws_toLog, laws_toLogRecord, Option.bind_some, e3, e4, eqLog_eq, decide_true, Bool.not_true, cond_false]

/-! ### Marks on records -/
theorem strOf_size (l : List Int) : (strOfN l).size = l.length := by simp [strOfN, ByteArray.size]
theorem ba_app_size (a b : ByteArray) : (a ++ b).size = a.size + b.size := by
  obtain ⟨x, rfl⟩ := bs_ex a
  obtain ⟨y, rfl⟩ := bs_ex b
  rw [bs_app, bs_size, bs_size, bs_size, List.length_append]
theorem markText_loop : ∀ (N n : Nat) (v : ByteArray), n ≤ N → v.size + n ≤ 4000000000000 → n ≤ 1000000000000 →
    ∃ y, iter (fun s => laws_markText_loop1 s.1 s.2) ((n : Int), v) = some y ∧ y.size ≤ v.size + n := by
  intro N
  induction N with
  | zero =>
    intro n v hn hv h1
    obtain rfl : n = 0 := by omega
    refine ⟨v, iter_out ?_, by omega⟩
    show laws_markText_loop1 ((0 : Nat) : Int) v = _
    unfold laws_markText_loop1
    rw [cond_df (by omega)]
  | succ N ih =>
    intro n v hn hv h1
    by_cases h0 : n = 0
    · subst h0
      refine ⟨v, iter_out ?_, by omega⟩
      show laws_markText_loop1 ((0 : Nat) : Int) v = _
      unfold laws_markText_loop1
      rw [cond_df (by omega)]
    · have e1 : w64 (Int.tdiv (n : Int) 10) = ((n / 10 : Nat) : Int) := by
        rw [show Int.tdiv (n : Int) 10 = ((n / 10 : Nat) : Int) from by rw [show (10 : Int) = ((10 : Nat) : Int) from rfl, ← Int.ofNat_tdiv]]
        rw [w64_id (by omega) (by omega)]
      have hsz := ba_app_size (strOfN [(wu8 (w64 ((48 : Int) + (Int.tmod (n : Int) (10 : Int)))))]) v
      rw [strOf_size, List.length_singleton] at hsz
      obtain ⟨y, hy, hys⟩ := ih (n / 10) (strOfN [(wu8 (w64 ((48 : Int) + (Int.tmod (n : Int) (10 : Int)))))] ++ v) (by omega) (by omega) (by omega)
      refine ⟨y, (iter_go ?_).trans hy, by omega⟩
      show laws_markText_loop1 (n : Int) v = _
      unfold laws_markText_loop1
      rw [cond_dt (by omega), grd_pos (by omega), grd_pos (by rw [strOf_size]; simp; omega), grd_pos (by omega), e1]
theorem markText_ex (n : Int) (h : n ≤ 1000000000000) : ∃ y, laws_markText n = some y := by
  unfold laws_markText
  by_cases h0 : n ≤ 0
  · rw [cond_dt h0]; exact ⟨_, rfl⟩
  · rw [cond_df h0]
    obtain ⟨k, rfl⟩ : ∃ k : Nat, n = k := ⟨n.toNat, by omega⟩
    obtain ⟨y, hy, hys⟩ := markText_loop k k (ByteArray.mk #[]) (Nat.le_refl _) (by show 0 + k ≤ _; omega) (by omega)
    have : (ByteArray.mk #[]).size = 0 := rfl
    rw [show (ByteArray.mk #[]) = (ByteArray.mk #[] : ByteArray) from rfl] at hy
    rw [hy, Option.bind_some, grd_pos (by have : (ByteArray.mk #[109]).size = 1 := rfl; omega)]
    exact ⟨_, rfl⟩
noncomputable def mT (n : Int) : ByteArray := (laws_markText n).getD (ByteArray.mk #[])
theorem mT_eq (n : Int) (h : n ≤ 1000000000000) : laws_markText n = some (mT n) := by
  obtain ⟨y, hy⟩ := markText_ex n h
  unfold mT
  rw [hy]; rfl
/-- What is written into the records. -/
noncomputable def mkR (i : Nat) : LogRecord := (mT (1 + 2 * (i : Int)), mT (2 + 2 * (i : Int)), ())
noncomputable def mks (n : Nat) : List LogRecord := (List.range n).map mkR
theorem mks_length (n : Nat) : (mks n).length = n := by simp [mks]
theorem mks_get (n i : Nat) (h : i < n) : (mks n).getD i d_LogRecord = mkR i := by simp [mks, h]
theorem mark_set {α : Type} (l m : List α) (i : Nat) (h : l.length = m.length) (hi : i < m.length) (x : α) (hx : m[i] = x) : (m.take i ++ l.drop i).set i x = m.take (i + 1) ++ l.drop (i + 1) := by
  have h1 : (m.take i).length = i := by simp; omega
  rw [List.set_append_right _ _ (by omega), h1, Nat.sub_self, List.drop_eq_getElem_cons (by omega : i < l.length), List.set_cons_zero, List.take_succ_eq_append_getElem hi, hx]
  simp
theorem markS_eq (l : List LogRecord) (h : l.length ≤ 1000000) : laws_markLogRecordS l (1 : Int) = some (1 + 2 * (l.length : Int), mks l.length) := by
  unfold laws_markLogRecordS
  have H : iter (fun s => laws_markLogRecordS_loop1 s.1 s.2.1 s.2.2) ((1 : Int), (0 : Int), l) = some (1 + 2 * (l.length : Int), mks l.length) := by
    refine iter_for l.length (fun k => (1 + 2 * (k : Int), (k : Int), (mks l.length).take k ++ l.drop k)) (fun k hk => ?_) ?_ (by simp)
    · show laws_markLogRecordS_loop1 (1 + 2 * (k : Int)) (k : Int) ((mks l.length).take k ++ l.drop k) = _
      have hlen : ((mks l.length).take k ++ l.drop k).length = l.length := by simp [mks_length]; omega
      unfold laws_markLogRecordS_loop1
      have w1 : w64 (1 + 2 * (k : Int) + 1) = 2 + 2 * (k : Int) := by rw [w64_id (by omega) (by omega)]; omega
      have w2 : w64 (2 + 2 * (k : Int) + 1) = 1 + 2 * ((k + 1 : Nat) : Int) := by rw [w64_id (by omega) (by omega)]; omega
      rw [cond_dt (by rw [hlen]; omega), mT_eq _ (by omega), Option.bind_some, grd_pos (by rw [hlen]; omega), w1, mT_eq _ (by omega), Option.bind_some, grd_pos (by rw [List.length_set, hlen]; omega), w2, w64_nat (by omega), Int.toNat_natCast]
      generalize hm : (mks l.length).take k ++ l.drop k = m at *
      have hkm : k < m.length := by omega
      have e1 : (m.set k (mT (1 + 2 * (k : Int)), (m.getD k d_LogRecord).2.1, ())).getD k d_LogRecord = (mT (1 + 2 * (k : Int)), (m.getD k d_LogRecord).2.1, ()) := by
        rw [getD_eq _ _ _ (by rw [List.length_set]; exact hkm)]; simp
      rw [e1, List.set_set, ← hm, mark_set l (mks l.length) k (by rw [mks_length]) (by rw [mks_length]; exact hk) (mT (1 + 2 * (k : Int)), mT (2 + 2 * (k : Int)), ()) (by
        have := mks_get l.length k hk
        rw [getD_eq _ _ _ (by rw [mks_length]; exact hk)] at this
        exact this)]
    · show laws_markLogRecordS_loop1 (1 + 2 * (l.length : Int)) (l.length : Int) ((mks l.length).take l.length ++ l.drop l.length) = _
      have e1 : (mks l.length).take l.length ++ l.drop l.length = mks l.length := by
        rw [List.take_of_length_le (by rw [mks_length]; exact Nat.le_refl _)]; simp
      rw [e1]
      unfold laws_markLogRecordS_loop1
      rw [cond_df (by rw [mks_length]; omega)]
  rw [H]; rfl
theorem heldS_eq (n : Nat) (h : n ≤ 1000000) : laws_heldLogRecordS (mks n) (1 : Int) = some (1 + 2 * (n : Int)) := by
  unfold laws_heldLogRecordS
  have H : iter (fun s => laws_heldLogRecordS_loop1 (mks n) s.1 s.2) ((1 : Int), (0 : Int)) = some (Sum.inr (1 + 2 * (n : Int))) :=
    iter_for n (fun k => (1 + 2 * (k : Int), (k : Int))) (fun k hk => by
      show laws_heldLogRecordS_loop1 (mks n) (1 + 2 * (k : Int)) (k : Int) = _
      unfold laws_heldLogRecordS_loop1
      have w1 : w64 (1 + 2 * (k : Int) + 1) = 2 + 2 * (k : Int) := by rw [w64_id (by omega) (by omega)]; omega
      have w2 : w64 (2 + 2 * (k : Int) + 1) = 1 + 2 * ((k + 1 : Nat) : Int) := by rw [w64_id (by omega) (by omega)]; omega
      rw [cond_dt (by rw [mks_length]; omega), grd_pos (by rw [mks_length]; omega), mT_eq _ (by omega), Option.bind_some, Int.toNat_natCast, mks_get n k hk, cond_ndt (show (mkR k).1 = mT (1 + 2 * (k : Int)) from rfl), grd_pos (by rw [mks_length]; omega), w1, mT_eq _ (by omega), Option.bind_some, cond_ndt (show (mkR k).2.1 = mT (2 + 2 * (k : Int)) from rfl), w2, w64_nat (by omega)]) (by
      show laws_heldLogRecordS_loop1 (mks n) (1 + 2 * (n : Int)) (n : Int) = _
      unfold laws_heldLogRecordS_loop1
      rw [cond_df (by rw [mks_length]; omega)]) rfl
  rw [H]; rfl
theorem eqS_eq (l : List LogRecord) (h : l.length ≤ 1000000) : laws_eqLogRecordS l l = some true := by
  unfold laws_eqLogRecordS
  rw [cond_ndt rfl]
  have H : iter (fun s => laws_eqLogRecordS_loop1 l l s) (0 : Int) = some (Sum.inr ()) :=
    iter_for l.length (fun k => (k : Int)) (fun k hk => by
      show laws_eqLogRecordS_loop1 l l (k : Int) = _
      unfold laws_eqLogRecordS_loop1 laws_eqLogRecord
      rw [cond_dt (by omega), grd_pos (by omega), grd_pos (by omega), cond_ndt rfl, cond_ndt rfl, w64_nat (by omega)]
      rfl) (by
      show laws_eqLogRecordS_loop1 l l (l.length : Int) = _
      unfold laws_eqLogRecordS_loop1
      rw [cond_df (by omega)]) rfl
  rw [H]; rfl
theorem heldS_nil : laws_heldLogRecordS [] (1 : Int) = some 1 := heldS_eq 0 (by omega)
theorem markS_nil : laws_markLogRecordS_i1 (1 : Int) = some 1 := by
  unfold laws_markLogRecordS_i1
  have H : iter (fun _ => laws_markLogRecordS_i1_loop1) () = some () := iter_out rfl
  rw [H]; rfl
theorem law_FnExactLogRecords (a : Log) (ha : Ty.fit ty_Log a) : laws_FnExactLogRecords a = some true := by
  obtain ⟨D0, P0, n, u⟩ := a
  obtain ⟨D, rfl⟩ := bs_ex D0
  obtain ⟨P, rfl⟩ := bs_ex P0
  have hD : D.length ≤ 1048576 := by rw [← bs_size]; exact ha.1
  have hP : P.length ≤ 1048576 := by rw [← bs_size]; exact ha.2.1
  obtain ⟨y, hy⟩ := szLog_ex (bs D, bs P, n, ()) 1048576
  have hle : (rsOf (D ++ P)).length ≤ 60 := par_length 60 0 (D ++ P)
  have hlen : ((rsOf (D ++ P)).map recOf).length ≤ 60 := by rw [List.length_map]; exact hle
  unfold laws_FnExactLogRecords
  simp only [hy, Option.bind_some]
  by_cases h0 : y < 0
  · rw [cond_dt h0]
  rw [cond_df h0]
  cases hv : okLog D P n with
  | false =>
    have e1 : spec_LogRecords (bs D, bs P, n, ()) = some ([], false) := by
      unfold spec_LogRecords
      simp only [log_eq D P n (by omega) (by omega), Option.bind_some, hv]
      rfl
    have e2 : impl_LogRecords (bs D, bs P, n, ()) = some (Sum.inl ()) := by
      unfold impl_LogRecords
      simp only [records_eq D P n (by omega) (by omega), Option.bind_some, hv]
      rfl
    simp only [laws_toLog, Option.bind_some, e1, e2, Sum.elim_inl, eqS_eq [] (by simp), markS_nil, heldS_nil, decide_true, Bool.not_true, cond_false, beq_self_eq_true]
    rfl
  | true =>
    have e1 : spec_LogRecords (bs D, bs P, n, ()) = some ((rsOf (D ++ P)).map recOf, true) := by
      unfold spec_LogRecords
      simp only [log_eq D P n (by omega) (by omega), Option.bind_some, hv, Bool.not_true, cond_false, bs_size, bs_app, open_eq (D ++ P) (by simp; omega)]
      rw [grd_pos (by omega)]
    have e2 : impl_LogRecords (bs D, bs P, n, ()) = some (Sum.inr ((rsOf (D ++ P)).map recOf)) := by
      unfold impl_LogRecords
      simp only [records_eq D P n (by omega) (by omega), Option.bind_some, hv, Bool.not_true, cond_false]
    have h2 : ¬ 1 + 2 * ((((rsOf (D ++ P)).map recOf).length : Nat) : Int) < 0 := by omega
    simp only [laws_toLog, Option.bind_some, e1, e2, Sum.elim_inr, eqS_eq _ (show ((rsOf (D ++ P)).map recOf).length ≤ 1000000 by omega), markS_eq _ (show ((rsOf (D ++ P)).map recOf).length ≤ 1000000 by omega), heldS_eq _ (show ((rsOf (D ++ P)).map recOf).length ≤ 1000000 by omega), decide_true, Bool.not_true, cond_false, beq_self_eq_true]
    simp only [cond_df h2]
end Go.Proofs.YtpfdhaldjeedfaaDoor
