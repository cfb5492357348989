/-
  Recovery after a crash: all that was durable, and a beginning of what was pending.
-/
import Derived.Test.YtppiaacfnoifkaaDoorU8
namespace Go.Proofs.YtppiaacfnoifkaaDoor
open Go.RowKit

theorem plain_small {no l : List UInt8} (h : plainB no l = true) : ∀ b ∈ l, b.toNat < 128 := fun b hb => by
  unfold plainB at h
  rw [List.all_eq_true] at h
  have := h b hb
  simp only [Bool.and_eq_true, decide_eq_true_eq] at this
  omega
theorem dec_small (k : Nat) : ∀ b ∈ Lib.decDigits k, b.toNat < 128 := fun b hb => by
  have := dec_mem k b hb
  omega
theorem line_small (k : Nat) (c r : List UInt8) (h : goodB c r = true) : ∀ b ∈ lineL k c r, b.toNat < 128 := by
  unfold goodB at h
  simp only [Bool.and_eq_true, decide_eq_true_eq] at h
  obtain ⟨_, _, h4, h5⟩ := h
  intro b hb
  unfold lineL sealL at hb
  have ht : ∀ b ∈ textL k c r, b.toNat < 128 := by
    intro b hb
    unfold textL at hb
    simp only [List.mem_append, List.mem_singleton] at hb
    rcases hb with (((h | rfl) | h) | rfl) | h
    · exact dec_small _ b h
    · decide
    · exact plain_small h4 b h
    · decide
    · exact plain_small h5 b h
  simp only [List.mem_append, List.mem_singleton] at hb
  rcases hb with ((h | rfl) | h) | rfl
  · exact ht b h
  · decide
  · exact dec_small _ b h
  · decide
theorem take_bef (s : List UInt8) (hm : (10 : UInt8) ∈ s) : s.take ((bef 10 s).length + 1) = bef 10 s ++ [10] := by
  obtain ⟨r', e⟩ := bef_split 10 s hm
  have hb := bef_take 10 s
  generalize bef 10 s = b at e hb ⊢
  rw [e]
  simp [List.take_append, List.take_of_length_le (show b.length ≤ b.length + 1 by omega)]
theorem par_small : ∀ (f k : Nat) (s : List UInt8), tot (par f k s) = s.length → ∀ b ∈ s, b.toNat < 128
  | 0, _, s, h, b, hb => by
    have h : (0 : Nat) = s.length := h
    have := List.length_pos_of_mem hb
    omega
  | f + 1, k, s, h, b, hb => by
    have hpos := List.length_pos_of_mem hb
    unfold par at h
    split at h
    case isFalse => simp only [tot] at h; omega
    rename_i hm
    split at h
    case h_2 => simp only [tot] at h; omega
    rename_i c r hd
    obtain ⟨hg, hl, _⟩ := decL_some hd
    have hlt := bef_lt 10 s hm
    simp only [tot] at h
    have ih := par_small f (k + 1) (s.drop ((bef 10 s).length + 1)) (by rw [List.length_drop]; omega)
    rw [← List.take_append_drop ((bef 10 s).length + 1) s, take_bef s hm, hl] at hb
    rcases List.mem_append.1 hb with hb | hb
    · exact line_small k c r hg b hb
    · exact ih b hb
/-- The records of a beginning are the first records. -/
theorem par_pre : ∀ (f k : Nat) (s : List UInt8) (n : Nat), par f k (s.take n) <+: par f k s
  | 0, _, _, _ => List.prefix_refl _
  | f + 1, k, s, n => by
    by_cases hm : (10 : UInt8) ∈ s.take n
    case neg =>
      have e : par (f + 1) k (s.take n) = [] := by unfold par; rw [if_neg hm]
      rw [e]
      exact List.nil_prefix
    have hs : s.take n ++ s.drop n = s := List.take_append_drop n s
    have hm2 : (10 : UInt8) ∈ s := List.mem_of_mem_take hm
    have hb : bef 10 s = bef 10 (s.take n) := by
      have := bef_app_mem (s.take n) (s.drop n) hm
      rw [hs] at this
      exact this
    have hlt := bef_lt 10 _ hm
    rw [List.length_take] at hlt
    unfold par
    rw [if_pos hm, if_pos hm2, ← hb]
    rw [← hb] at hlt
    split
    · have ih := par_pre f (k + 1) (s.drop ((bef 10 s).length + 1)) (n - ((bef 10 s).length + 1))
      rw [List.drop_take]
      exact List.prefix_cons_inj _ |>.2 ih
    · exact List.nil_prefix
theorem par_snoc (b : UInt8) (hb : b ≠ 10) : ∀ (f k : Nat) (s : List UInt8), par f k (s ++ [b]) = par f k s
  | 0, _, _ => rfl
  | f + 1, k, s => by
    by_cases hm : (10 : UInt8) ∈ s
    · have hlt := bef_lt 10 _ hm
      unfold par
      rw [if_pos hm, if_pos (List.mem_append_left _ hm), bef_app_mem s [b] hm]
      split
      · rw [List.drop_append_of_le_length (by omega), par_snoc b hb f (k + 1)]
      · rfl
    · unfold par
      rw [if_neg hm, if_neg (fun h => by
        rcases List.mem_append.1 h with h | h
        · exact hm h
        · exact hb (List.mem_singleton.1 h).symm)]
theorem ends_le : ∀ (xs : List Rc) (p n : Nat), n ∈ endsOf p xs → n ≤ p + tot xs
  | [], _, _, h => by simp [endsOf] at h
  | x :: xs, p, n, h => by
    simp only [endsOf, List.mem_cons] at h
    simp only [tot]
    rcases h with rfl | h
    · omega
    · have := ends_le xs _ _ h; omega
theorem durable_le (D X : List UInt8) (h : tot (rsOf D) = D.length) : D.length ≤ tot (rsOf (D ++ X)) := by
  have h2 := (durable_iff 60 0 D X).2 h
  rcases List.mem_cons.1 h2 with h2 | h2
  · omega
  · have := ends_le _ _ _ h2
    have : D.length ≤ 0 + tot (rsOf (D ++ X)) := this
    omega
theorem crash_recs (D P : List UInt8) (n : Int) (k : Nat) (t : Bool) (hv : okLog D P n = true) (hk : k ≤ P.length) :
    rsOf (crashL D P k t) <+: rsOf (D ++ P) ∧ D.length ≤ tot (rsOf (crashL D P k t)) ∧ (crashL D P k t).length = D.length + k := by
  obtain ⟨h1, _, h3⟩ := okLog_out hv
  have small := par_small 60 0 (D ++ P) h1
  have pre : ∀ j, D ++ P.take j = (D ++ P).take (D.length + j) := fun j => by
    rw [List.take_append, List.take_of_length_le (l := D) (by omega), Nat.add_sub_cancel_left]
  unfold crashL
  split
  · rename_i h
    have hi : k - 1 < P.length := by omega
    have hf : flip (P.take k) (k - 1) = P.take (k - 1) ++ [UInt8.ofNat (255 - (P[k - 1]).toNat)] := by
      have e0 : P.take k = P.take (k - 1) ++ [P[k - 1]] := by
        have := List.take_succ_eq_append_getElem hi
        rw [Nat.sub_add_cancel h.2] at this
        exact this
      have hl : (P.take (k - 1)).length = k - 1 := by rw [List.length_take]; omega
      unfold flip
      rw [e0, List.set_append_right _ _ (by omega), hl, Nat.sub_self, List.getD_eq_getElem?_getD, List.getElem?_append_right (by omega), hl, Nat.sub_self]
      rfl
    have hs := small (P[k - 1]) (List.mem_append_right _ (List.getElem_mem hi))
    have hne : UInt8.ofNat (255 - (P[k - 1]).toNat) ≠ 10 := fun e => by
      have := congrArg UInt8.toNat e
      rw [UInt8.toNat_ofNat', Nat.mod_eq_of_lt (by omega)] at this
      have h10 : (10 : UInt8).toNat = 10 := rfl
      omega
    have e1 : rsOf (D ++ flip (P.take k) (k - 1)) = rsOf ((D ++ P).take (D.length + (k - 1))) := by
      rw [hf, ← List.append_assoc, pre]
      exact par_snoc _ hne 60 0 _
    refine ⟨?_, durable_le D _ h3, ?_⟩
    · rw [e1]; exact par_pre 60 0 _ _
    · rw [hf, List.length_append, List.length_append, List.length_take, List.length_singleton]; omega
  · refine ⟨?_, durable_le D _ h3, ?_⟩
    · rw [pre]; exact par_pre 60 0 _ _
    · rw [List.length_append, List.length_take]; omega
theorem drawCrash_ok {code : List Int} (hb : ∀ x ∈ code, 0 ≤ x ∧ x ≤ 255) (hl : code.length ≤ 1048576) : ∃ d p m k t, spec_DrawCrashLog code = some ((d, p, m, ()), k, t) ∧ d.size ≤ 3000 ∧ p.size ≤ 3000 := by
  obtain ⟨⟨d, p, m, u⟩, ⟨code1, at1, seed1, u1⟩, e1, hc, hdp⟩ := anyLog_ok (code, 0, 0, ()) 0 (start_ok hb hl) (by omega)
  obtain ⟨a, ⟨code2, at2, seed2, u2⟩, e2, hc, _⟩ := pick_ok _ _ (w64 ((p.size : Int) + (3 : Int))) hc (by omega)
  obtain ⟨b, ⟨code3, at3, seed3, u3⟩, e3, hc, _⟩ := one_ok _ _ 2 hc (by omega)
  unfold spec_DrawCrashLog
  simp only [e1, e2, e3, Option.bind_some]
  exact ⟨_, _, _, _, _, rfl, hdp⟩
theorem crash_loop (s : ByteArray) (e : Int) (xs ys : List LogRecord) (h : xs <+: ys) (hx : xs.length ≤ 1000) (d p : ByteArray) (m : Int) :
    iter (fun s => laws_FnCrashRecovery_loop1 s.1 s.2.1 s.2.2.1 s.2.2.2.1 s.2.2.2.2.1 s.2.2.2.2.2.1 s.2.2.2.2.2.2.1 s.2.2.2.2.2.2.2) (s, e, xs, (0 : Int), d, p, m, ys) = some (Sum.inr (s, e, d, p, m)) := by
  obtain ⟨zs, rfl⟩ := h
  refine iter_for xs.length (fun k => (s, e, xs, (k : Int), d, p, m, xs ++ zs)) (fun k hk => ?_) ?_ rfl
  · show laws_FnCrashRecovery_loop1 s e xs (k : Int) d p m (xs ++ zs) = _
    have hg : (xs ++ zs).getD k d_LogRecord = xs.getD k d_LogRecord := by
      rw [getD_eq _ _ _ (by simp; omega), getD_eq _ _ _ hk, List.getElem_append_left hk]
    unfold laws_FnCrashRecovery_loop1
    rw [cond_dt (by omega), grd_pos (by omega), grd_pos (by rw [List.length_append]; omega), w64_nat (by omega), Int.toNat_natCast, hg]
    simp only [decide_true, Bool.and_true, Bool.not_true, cond_false]
  · show laws_FnCrashRecovery_loop1 s e xs (xs.length : Int) d p m (xs ++ zs) = _
    unfold laws_FnCrashRecovery_loop1
    rw [cond_df (by omega)]
theorem records_val (D P : List UInt8) (n : Int) (hD : D.length ≤ 1000000) (hP : P.length ≤ 1000000) (hv : okLog D P n = true) : impl_LogRecords (bs D, bs P, n, ()) = some (Sum.inr ((rsOf (D ++ P)).map recOf)) := by
  unfold impl_LogRecords
  simp only [records_eq D P n (by omega) (by omega), Option.bind_some, hv, Bool.not_true, cond_false]
theorem records_spec (D P : List UInt8) (n : Int) (hD : D.length ≤ 1000000) (hP : P.length ≤ 1000000) (hv : okLog D P n = true) : spec_LogRecords (bs D, bs P, n, ()) = some ((rsOf (D ++ P)).map recOf, true) := by
  unfold spec_LogRecords
  simp only [log_eq D P n (by omega) (by omega), Option.bind_some, hv, Bool.not_true, cond_false]
  rw [grd_pos (by rw [bs_size, bs_size]; omega), bs_app, open_eq _ (by rw [List.length_append]; omega), Option.bind_some]
theorem law_FnCrashRecovery (code : List Int) (hc : Ty.fit (.sl (.int .u8)) code) : laws_FnCrashRecovery code = some true := by
  have hl : code.length ≤ 1048576 := hc.1
  have hb : ∀ x ∈ code, 0 ≤ x ∧ x ≤ 255 := fun x hx => by
    have := hc.2 x hx
    exact this
  obtain ⟨d, p, m, kp, t, d1, hd, hp⟩ := drawCrash_ok hb hl
  obtain ⟨D, rfl⟩ := bs_ex d
  obtain ⟨P, rfl⟩ := bs_ex p
  rw [bs_size] at hd hp
  obtain ⟨e1, e2⟩ := crash_both D P m kp t (by omega) (by omega)
  unfold laws_FnCrashRecovery laws_vBig
  rw [Option.bind_some]
  by_cases h0 : (65536 : Int) < (code.length : Int)
  · rw [cond_dt h0]
  rw [cond_df h0]
  by_cases hok : okLog D P m = true ∧ 0 ≤ kp ∧ kp ≤ (P.length : Int)
  case neg =>
    rw [if_neg hok] at e1 e2
    simp only [d1, e1, e2, Option.bind_some, decide_true, Bool.not_true, Bool.not_false, cond_false, cond_true, beq_self_eq_true]
  rw [if_pos hok] at e1 e2
  obtain ⟨hv, hk0, hk1⟩ := hok
  obtain ⟨k, rfl⟩ := Int.eq_ofNat_of_zero_le hk0
  rw [Int.toNat_natCast] at e1 e2
  obtain ⟨c1, c2, c3⟩ := crash_recs D P m k t hv (by omega)
  generalize crashL D P k t = s at *
  have hts : tot (rsOf s) ≤ s.length := tot_le 60 0 s
  have hls : (rsOf s).length ≤ 60 := par_length 60 0 s
  have s1 := recover_val s (by omega)
  rw [if_pos (by omega)] at s1
  have hv2 := recov_ok s
  have hlt : (s.take (tot (rsOf s))).length = tot (rsOf s) := by rw [List.length_take]; omega
  have r1 := records_val (s.take (tot (rsOf s))) [] _ (by omega) (by simp) hv2
  rw [List.append_nil, show rsOf (s.take (tot (rsOf s))) = rsOf s from par_take 60 0 s] at r1
  have r2 := records_spec D P m (by omega) (by omega) hv
  have v3 := valid_eq (s.take (tot (rsOf s))) [] ((rsOf s).length : Int) (by omega) (by simp)
  rw [hv2] at v3
  have hlen : (rsOf s).length ≤ (rsOf (D ++ P)).length := c1.length_le
  have lp := crash_loop (bs s) ((tot (rsOf s) : Nat) : Int) ((rsOf s).map recOf) ((rsOf (D ++ P)).map recOf) (c1.map recOf) (by rw [List.length_map]; omega) (bs (s.take (tot (rsOf s)))) (bs []) ((rsOf s).length : Int)
  simp only [d1, e1, e2, Option.bind_some, decide_true, Bool.not_true, cond_false, beq_self_eq_true, s1, r1, r2, Sum.elim_inr]
  rw [cond_df (by rw [bs_size]; omega), cond_df (by rw [bs_size]; omega), cond_df (by rw [List.length_map, List.length_map]; omega), lp]
  simp only [Option.bind_some, Sum.elim_inr, v3, cond_true]
  rw [grd_pos (by rw [bs_size]; omega), bsub_bs]
  simp only [Int.toNat_natCast, Int.toNat_zero, List.drop_zero, Nat.sub_zero, decide_true]
end Go.Proofs.YtppiaacfnoifkaaDoor
