/-
  What is left of a log when the machine stops.
-/
import Derived.Test.YtppiaacfnoifkaaDoorU7
namespace Go.Proofs.YtppiaacfnoifkaaDoor
open Go.RowKit

/-! ### A text as bytes, and back -/
theorem strOf_mk : ∀ l : List UInt8, strOfN (byteNs (mkL l)) = bs l := fun l => by
  have key : ∀ l : List UInt8, (byteNs (mkL l)).map (fun n => UInt8.ofNat n.toNat) = l := by
    intro l
    induction l with
    | nil => rfl
    | cons b l ih =>
      show UInt8.ofNat ((b.toNat : Int).toNat) :: (byteNs (mkL l)).map (fun n => UInt8.ofNat n.toNat) = b :: l
      rw [ih, Int.toNat_natCast, UInt8.ofNat_toNat]
  unfold strOfN bs
  rw [key]
theorem mk_set : ∀ (l : List UInt8) (i : Nat) (n : Nat), n < 256 → (mkL l).set i ((n : Int), ()) = mkL (l.set i (UInt8.ofNat n))
  | [], _, _, _ => rfl
  | b :: l, 0, n, h => by
    show ((n : Int), ()) :: mkL l = (((UInt8.ofNat n).toNat : Int), ()) :: mkL l
    rw [UInt8.toNat_ofNat', Nat.mod_eq_of_lt h]
  | b :: l, i + 1, n, h => by
    show ((b.toNat : Int), ()) :: (mkL l).set i ((n : Int), ()) = ((b.toNat : Int), ()) :: mkL (l.set i (UInt8.ofNat n))
    rw [mk_set l i n h]
theorem mkRow_bs (l : List UInt8) : mkRow (bs l) = mkL l := by
  unfold mkRow; rw [list_bs]
/-- The byte at a place, turned. -/
def flip (l : List UInt8) (i : Nat) : List UInt8 := l.set i (UInt8.ofNat (255 - (l.getD i 0).toNat))
theorem flip_ok (l : List UInt8) (i : Nat) (hi : i < l.length) : strOfN (byteNs (List.set (α := mbyte) (mkL l) i ((wu8 (HSub.hSub (α := Int) (β := Int) (γ := Int) (255 : Int) ((List.getD (α := mbyte) (mkL l) i d_mbyte).1))), ()))) = bs (flip l i) := by
  have e : (List.getD (α := mbyte) (mkL l) i d_mbyte).1 = ((l.getD i 0).toNat : Int) := by
    have := mkL_get l i hi
    rw [getD_eq l i 0 hi]; exact this
  have hb : (l.getD i 0).toNat < 256 := UInt8.toNat_lt _
  have hw : wu8 ((255 : Int) - ((l.getD i 0).toNat : Int)) = ((255 - (l.getD i 0).toNat : Nat) : Int) := by
    show IntKind.u8.wrap _ = _
    rw [IntKind.wrap_u8]; omega
  rw [e, hw]
  have h2 := mk_set l i (255 - (l.getD i 0).toNat) (by omega)
  exact (congrArg (fun z => strOfN (byteNs z)) h2).trans (strOf_mk _)
theorem flip_app (a b : List UInt8) (i : Nat) (_ : i < b.length) : flip (a ++ b) (a.length + i) = a ++ flip b i := by
  unfold flip
  rw [List.set_append_right _ _ (by omega), Nat.add_sub_cancel_left, List.getD_eq_getElem?_getD, List.getElem?_append_right (by omega), Nat.add_sub_cancel_left, ← List.getD_eq_getElem?_getD]
/-- What is left of a log. -/
def crashL (D P : List UInt8) (k : Nat) (t : Bool) : List UInt8 := if t = true ∧ 0 < k then D ++ flip (P.take k) (k - 1) else D ++ P.take k
theorem crash_both (D P : List UInt8) (n kp : Int) (t : Bool) (hD : D.length ≤ 1048576) (hP : P.length ≤ 1048576) :
    spec_CrashLog (bs D, bs P, n, ()) kp t = some (if okLog D P n = true ∧ 0 ≤ kp ∧ kp ≤ (P.length : Int) then (bs (crashL D P kp.toNat t), true) else (bs [], false)) ∧
    impl_CrashLog (bs D, bs P, n, ()) kp t = some (if okLog D P n = true ∧ 0 ≤ kp ∧ kp ≤ (P.length : Int) then (bs (crashL D P kp.toNat t), true) else (bs [], false)) := by
  unfold spec_CrashLog impl_CrashLog
  simp only [valid_eq D P n (by omega) (by omega), log_eq D P n (by omega) (by omega), Option.bind_some]
  cases ho : okLog D P n with
  | false => exact ⟨by simp, by simp⟩
  | true =>
    simp only [Bool.not_true, cond_false, l1In_eq, within_eq, Option.bind_some, bs_size, true_and]
    by_cases hk : 0 ≤ kp ∧ kp ≤ (P.length : Int)
    case neg => rw [cond_ndf hk, cond_ndf hk, if_neg hk]; exact ⟨rfl, rfl⟩
    obtain ⟨k, rfl⟩ := Int.eq_ofNat_of_zero_le hk.1
    have hkp : k ≤ P.length := by omega
    have eb : bsub (bs P) (0 : Int) (k : Int) = bs (P.take k) := by
      rw [bsub_bs, show (0 : Int).toNat = 0 from rfl, List.drop_zero, Int.toNat_natCast, Nat.sub_zero]
    have hl : (P.take k).length = k := by rw [List.length_take]; omega
    have hl2 : List.length (α := mbyte) (mkL (P.take k)) = k := (mkL_length _).trans hl
    have hl3 : List.length (α := mbyte) (mkL (D ++ P.take k)) = D.length + k := (mkL_length _).trans (by rw [List.length_append, hl])
    rw [cond_ndt hk, cond_ndt hk, if_pos hk]
    simp only [eb, bs_size, hl, bs_app, mkRow_bs, hl2, hl3, Int.toNat_natCast, List.length_append]
    have g1 : (0 : Int) ≤ 0 ∧ 0 ≤ (k : Int) ∧ (k : Int) ≤ (P.length : Int) := by omega
    have g2 : D.length + k ≤ 9223372036854775807 := by omega
    have g3 : D.length + k ≤ 140737488355328 := by omega
    have g4 : k ≤ 140737488355328 := by omega
    simp only [grd_pos g1, grd_pos g2, grd_pos g3, grd_pos g4]
    have hp : ¬ (t = true ∧ 0 < k) → crashL D P k t = D ++ P.take k := fun h => by unfold crashL; rw [if_neg h]
    have plain : grd (D.length + (strOfN (byteNs (mkL (P.take k)))).size ≤ 9223372036854775807) (some (bs D ++ strOfN (byteNs (mkL (P.take k))), true)) = some (bs (D ++ P.take k), true) := by
      rw [strOf_mk, bs_size, hl, grd_pos (by omega), bs_app]
    cases t with
    | false =>
      rw [hp (by simp)]
      refine ⟨?_, ?_⟩
      · simp only [cond_false]; exact plain
      · simp only [cond_false]; rw [strOf_mk]
    | true =>
      simp only [cond_true]
      by_cases h0 : (0 : Int) < (k : Int)
      · have hc : crashL D P k true = D ++ flip (P.take k) (k - 1) := by unfold crashL; rw [if_pos ⟨rfl, by omega⟩]
        have w1 : w64 ((k : Int) - 1) = ((k - 1 : Nat) : Int) := by rw [w64_id (by omega) (by omega)]; omega
        have w2 : w64 (((D.length + k : Nat) : Int) - 1) = ((D.length + (k - 1) : Nat) : Int) := by rw [w64_id (by omega) (by omega)]; omega
        rw [cond_dt h0, cond_dt h0, hc]
        rw [w1, w2]
        repeat rw [grd_pos (by omega)]
        rw [Int.toNat_natCast, Int.toNat_natCast, flip_ok _ _ (by omega), flip_ok _ _ (by rw [List.length_append]; omega), flip_app _ _ _ (by omega)]
        have hf : (flip (P.take k) (k - 1)).length = k := by unfold flip; rw [List.length_set, hl]
        rw [bs_size, hf, grd_pos (by omega), bs_app]
        refine ⟨rfl, ?_⟩
        rw [grd_pos (by omega), grd_pos (by omega)]
      · rw [cond_df h0, cond_df h0, hp (by omega)]
        refine ⟨plain, ?_⟩
        rw [strOf_mk]
theorem law_FnExactCrashLog (a : Log) (k : Int) (t : Bool) (ha : Ty.fit ty_Log a) (_ : Ty.fit (.int .i64) k) (_ : Ty.fit .bool t) : laws_FnExactCrashLog a k t = some true := by
  obtain ⟨d, p, n, u⟩ := a
  obtain ⟨D, rfl⟩ := bs_ex d
  obtain ⟨P, rfl⟩ := bs_ex p
  have hD : D.length ≤ 1048576 := by rw [← bs_size]; exact ha.1
  have hP : P.length ≤ 1048576 := by rw [← bs_size]; exact ha.2.1
  obtain ⟨y, hy⟩ := szLog_ex (bs D, bs P, n, ()) 1048576
  obtain ⟨e1, e2⟩ := crash_both D P n k t hD hP
  unfold laws_FnExactCrashLog
  simp only [hy, Option.bind_some]
  by_cases h0 : y < 0
  · rw [cond_dt h0]
  · rw [cond_df h0]
    simp only [laws_toLog, Option.bind_some, e1, e2, decide_true, Bool.not_true, cond_false, beq_self_eq_true]
end Go.Proofs.YtppiaacfnoifkaaDoor
