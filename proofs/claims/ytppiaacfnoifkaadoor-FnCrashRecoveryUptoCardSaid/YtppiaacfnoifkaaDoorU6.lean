/-
  What was recovered is a valid log.
-/
import Derived.Test.YtppiaacfnoifkaaDoorU5
namespace Go.Proofs.YtppiaacfnoifkaaDoor
open Go.RowKit

theorem decL_line (k : Nat) (c r : List UInt8) (hg : goodB c r = true) : decL k (sealL (textL k c r)) = some (c, r) := by
  obtain ⟨_, _, _, h35c, _, h64, _, _⟩ := goodB_out hg
  have hb : bef 35 (sealL (textL k c r)) = textL k c r := sealL_bef _ (textL_no k hg)
  have ht : textL k c r = preL k ++ (c ++ 64 :: r) := by simp [textL, preL]
  have hd : (textL k c r).drop (preL k).length = c ++ 64 :: r := by rw [ht, List.drop_left]
  have hc : bef 64 (c ++ 64 :: r) = c := bef_app 64 c r h64
  have hr : (c ++ 64 :: r).drop (c.length + 1) = r := by
    rw [← List.drop_drop, List.drop_left]; rfl
  unfold decL
  rw [hb, hd, hc, hr, if_pos ⟨rfl, by rw [ht, List.take_left], by simp⟩, if_pos hg]
theorem dec_no10 (k : Nat) : (10 : UInt8) ∉ Lib.decDigits k := fun h => by
  have := dec_mem k 10 h
  simp at this
theorem seal_no10 (k : Nat) (c r : List UInt8) (hg : goodB c r = true) : (10 : UInt8) ∉ sealL (textL k c r) := by
  obtain ⟨_, _, _, _, _, _, hc, hr⟩ := goodB_out hg
  have h1 := dec_no10 k
  have h2 := dec_no10 (sumN (textL k c r))
  generalize sumN (textL k c r) = q at *
  unfold sealL textL
  generalize sumN (Lib.decDigits k ++ [32] ++ c ++ [64] ++ r) = q' at *
  have h3 := dec_no10 q'
  simp [h1, h3, hc, hr]
theorem par_line (f k : Nat) (c r : List UInt8) (hg : goodB c r = true) : par (f + 1) k (lineL k c r) = [(c, r, (lineL k c r).length)] := by
  have h10 := seal_no10 k c r hg
  have hb : bef 10 (lineL k c r) = sealL (textL k c r) := bef_app 10 _ [] h10
  have hl : (lineL k c r).length = (sealL (textL k c r)).length + 1 := by simp [lineL]
  have hp : par f (k + 1) [] = [] := by cases f <;> simp [par]
  unfold par
  rw [if_pos (by simp [lineL]), hb, decL_line k c r hg]
  dsimp only
  rw [List.drop_of_length_le (by omega), hp, hl]
theorem par_more : ∀ (f k : Nat) (s : List UInt8) (c r : List UInt8), tot (par f k s) = s.length → (par f k s).length < f → goodB c r = true →
    par f k (s ++ lineL (k + (par f k s).length) c r) = par f k s ++ [(c, r, (lineL (k + (par f k s).length) c r).length)]
  | 0, k, s, c, r, _, h, _ => by simp at h
  | f + 1, k, s, c, r, ht, hn, hg => by
    by_cases hs : s = []
    · subst hs
      have hp : par (f + 1) k [] = [] := by simp [par]
      rw [hp]
      simp only [List.nil_append, List.length_nil, Nat.add_zero]
      exact par_line f k c r hg
    · have hpos : 0 < s.length := List.length_pos_iff.2 hs
      have h0 : par (f + 1) k s ≠ [] := fun e => by rw [e] at ht; simp [tot] at ht; omega
      by_cases hm : (10 : UInt8) ∈ s
      · cases hd : decL k (bef 10 s) with
        | none =>
          have h1 : par (f + 1) k s = [] := by unfold par; rw [if_pos hm, hd]
          exact absurd h1 h0
        | some x =>
          obtain ⟨c', r'⟩ := x
          have h1 : par (f + 1) k s = (c', r', (bef 10 s).length + 1) :: par f (k + 1) (s.drop ((bef 10 s).length + 1)) := by
            conv => lhs; unfold par
            rw [if_pos hm, hd]
          rw [h1] at ht hn ⊢
          have hlt := bef_lt 10 s hm
          have htl : tot (par f (k + 1) (s.drop ((bef 10 s).length + 1))) = (s.drop ((bef 10 s).length + 1)).length := by
            simp only [tot] at ht; rw [List.length_drop]; omega
          have hnl : (par f (k + 1) (s.drop ((bef 10 s).length + 1))).length < f := by
            simp only [List.length_cons] at hn; omega
          have ih := par_more f (k + 1) (s.drop ((bef 10 s).length + 1)) c r htl hnl hg
          have hk : k + ((c', r', (bef 10 s).length + 1) :: par f (k + 1) (s.drop ((bef 10 s).length + 1))).length = k + 1 + (par f (k + 1) (s.drop ((bef 10 s).length + 1))).length := by simp; omega
          rw [hk]
          generalize hL : lineL (k + 1 + (par f (k + 1) (s.drop ((bef 10 s).length + 1))).length) c r = L at ih ⊢
          have hb : bef 10 (s ++ L) = bef 10 s := bef_app_mem s L hm
          conv => lhs; unfold par
          rw [if_pos (List.mem_append_left _ hm), hb, hd]
          dsimp only
          rw [List.drop_append_of_le_length (by omega), ih]
          rfl
      · have h1 : par (f + 1) k s = [] := by unfold par; rw [if_neg hm]
        exact absurd h1 h0
theorem tot_app : ∀ (xs ys : List Rc), tot (xs ++ ys) = tot xs + tot ys
  | [], ys => by simp [tot]
  | x :: xs, ys => by simp only [List.cons_append, tot, tot_app xs ys]; omega
theorem par_take : ∀ (f k : Nat) (s : List UInt8), par f k (s.take (tot (par f k s))) = par f k s
  | 0, _, _ => by simp [par]
  | f + 1, k, s => by
    by_cases hm : (10 : UInt8) ∈ s
    · cases hd : decL k (bef 10 s) with
      | none =>
        have h0 : par (f + 1) k s = [] := by unfold par; rw [if_pos hm, hd]
        rw [h0]; simp [tot, par]
      | some x =>
        obtain ⟨c, r⟩ := x
        have h0 : par (f + 1) k s = (c, r, (bef 10 s).length + 1) :: par f (k + 1) (s.drop ((bef 10 s).length + 1)) := by
          conv => lhs; unfold par
          rw [if_pos hm, hd]
        have hlt := bef_lt 10 s hm
        have ih := par_take f (k + 1) (s.drop ((bef 10 s).length + 1))
        rw [h0]
        simp only [tot]
        generalize tot (par f (k + 1) (s.drop ((bef 10 s).length + 1))) = T at ih ⊢
        have hsplit : s.take ((bef 10 s).length + 1 + T) = s.take ((bef 10 s).length + 1) ++ (s.drop ((bef 10 s).length + 1)).take T := by
          rw [List.take_add]
        have hs10 : s.take ((bef 10 s).length + 1) = bef 10 s ++ [10] := by
          obtain ⟨r', e⟩ := bef_split 10 s hm
          have hb := bef_take 10 s
          generalize bef 10 s = b at e hb ⊢
          rw [e]
          simp [List.take_append, List.take_of_length_le (show b.length ≤ b.length + 1 by omega)]
        have hmem : (10 : UInt8) ∈ s.take ((bef 10 s).length + 1) := by rw [hs10]; simp
        have hbef : bef 10 (s.take ((bef 10 s).length + 1 + T)) = bef 10 s := by
          rw [hsplit, bef_app_mem _ _ hmem, hs10, bef_app 10 _ [] (bef_not 10 s)]
        conv => lhs; unfold par
        rw [if_pos (by rw [hsplit]; exact List.mem_append_left _ hmem), hbef, hd]
        dsimp only
        rw [List.drop_take, Nat.add_sub_cancel_left, ih]
    · have h0 : par (f + 1) k s = [] := by unfold par; rw [if_neg hm]
      rw [h0]; simp [tot, par]

theorem okLog_out {D P : List UInt8} {n : Int} (h : okLog D P n = true) : tot (rsOf (D ++ P)) = (D ++ P).length ∧ n = ((rsOf (D ++ P)).length : Int) ∧ tot (rsOf D) = D.length := by
  obtain ⟨h1, h2, h3⟩ := of_decide_eq_true h
  exact ⟨by rw [List.length_append]; exact h1, h2, h3⟩
theorem more_ok {D P c r : List UInt8} {n : Nat} (h : okLog D P (n : Int) = true) (hn : n ≠ 60) (hg : goodB c r = true) :
    rsOf (D ++ (P ++ lineL n c r)) = rsOf (D ++ P) ++ [(c, r, (lineL n c r).length)] ∧ okLog D (P ++ lineL n c r) ((n + 1 : Nat) : Int) = true := by
  obtain ⟨h1, h2, h3⟩ := okLog_out h
  have hle : (rsOf (D ++ P)).length ≤ 60 := par_length 60 0 (D ++ P)
  have hn' : n = (rsOf (D ++ P)).length := by omega
  have key := par_more 60 0 (D ++ P) c r h1 (show (rsOf (D ++ P)).length < 60 by omega) hg
  have key : rsOf (D ++ P ++ lineL (0 + (rsOf (D ++ P)).length) c r) = rsOf (D ++ P) ++ [(c, r, (lineL (0 + (rsOf (D ++ P)).length) c r).length)] := key
  rw [Nat.zero_add, ← hn', List.append_assoc] at key
  refine ⟨key, decide_eq_true ⟨?_, ?_, h3⟩⟩
  · rw [key, tot_app, h1]
    simp only [tot, List.length_append]; omega
  · rw [key, List.length_append, ← hn']; rfl
theorem sync_ok {D P : List UInt8} {n : Int} (h : okLog D P n = true) : okLog (D ++ P) [] n = true := by
  obtain ⟨h1, h2, _⟩ := okLog_out h
  refine decide_eq_true ⟨?_, ?_, h1⟩
  · rw [List.append_nil]; simpa using h1
  · rw [List.append_nil]; exact h2
theorem recov_ok (s : List UInt8) : okLog (s.take (tot (rsOf s))) [] ((rsOf s).length : Int) = true := by
  have h := par_take 60 0 s
  have h : rsOf (s.take (tot (rsOf s))) = rsOf s := h
  have hl : (s.take (tot (rsOf s))).length = tot (rsOf s) := by
    have := tot_le 60 0 s
    have : tot (rsOf s) ≤ s.length := this
    rw [List.length_take]; omega
  refine decide_eq_true ⟨?_, ?_, ?_⟩
  · rw [List.append_nil, h, hl]; rfl
  · rw [List.append_nil, h]
  · rw [h, hl]
theorem recover_val (s : List UInt8) (hs : s.length ≤ 100000000) : impl_RecoverLog (bs s) = some (if s.length ≤ 30000 then ((bs (s.take (tot (rsOf s))), bs [], ((rsOf s).length : Int), ()), ((tot (rsOf s) : Nat) : Int), true) else ((bs [], bs [], 0, ()), 0, false)) := by
  unfold impl_RecoverLog
  simp only [bs_size]
  by_cases h : (30000 : Int) < s.length
  · rw [cond_dt h, if_neg (by omega)]
  · rw [cond_df h, if_pos (by omega), readRecords_eq s hs, Option.bind_some]
    simp only []
    have hle : (rsOf s).length ≤ 60 := par_length 60 0 s
    have htl : tot (rsOf s) ≤ s.length := tot_le 60 0 s
    have hel : ((0 : Int) :: (endsOf 0 (rsOf s)).map (fun n : Nat => (n : Int))).length = (rsOf s).length + 1 := by simp [endsOf_length]
    have hew : w64 ((((0 : Int) :: (endsOf 0 (rsOf s)).map (fun n : Nat => (n : Int))).length : Int) - 1) = (((rsOf s).length : Nat) : Int) := by rw [hel, w64_id (by omega) (by omega)]; omega
    have hlast : ((0 : Int) :: (endsOf 0 (rsOf s)).map (fun n : Nat => (n : Int))).getD (rsOf s).length 0 = ((tot (rsOf s) : Nat) : Int) := by
      have := endsOf_last (rsOf s) 0
      rw [Nat.zero_add] at this
      rw [← this, ← getD_mapZ]
      rfl
    rw [hew, grd_pos (by rw [hel]; omega), Int.toNat_natCast, hlast, grd_pos (by omega), bsub_bs, List.length_map]
    simp only [Int.toNat_natCast, Int.toNat_zero, List.drop_zero, Nat.sub_zero]
theorem append_spec (D P c r : List UInt8) (n : Int) (hD : D.length ≤ 1048576) (hP : P.length ≤ 1048576) (hc : c.length ≤ 1048576) (hr : r.length ≤ 1048576) :
    ∃ P' m k, spec_AppendRecord (bs D, bs P, n, ()) (bs c, bs r, ()) = some ((bs D, bs P', m, ()), k) ∧ P'.length ≤ P.length + c.length + r.length + 16 := by
  unfold spec_AppendRecord
  simp only [log_eq D P n (by omega) (by omega), Option.bind_some, good_eq c r (by omega) (by omega)]
  cases hv : okLog D P n with
  | false => exact ⟨P, n, 1, rfl, by omega⟩
  | true =>
    cases hg : goodB c r with
    | false => exact ⟨P, n, 1, rfl, by omega⟩
    | true =>
      simp only [Bool.not_true, cond_false]
      by_cases h60 : n = 60
      · rw [cond_dt h60]; exact ⟨P, n, 2, rfl, by omega⟩
      · have hn := okLog_count hv
        obtain ⟨k, rfl⟩ : ∃ k : Nat, n = k := ⟨n.toNat, by omega⟩
        have h1 := textL_length k c r (by omega)
        have h2 := sealL_length (textL k c r)
        have h3 : (lineL k c r).length = (sealL (textL k c r)).length + 1 := by simp [lineL]
        rw [cond_df h60, l27Line_eq k c r (by omega) (by omega) (by omega)]
        simp only [Option.bind_some, bs_size, bs_app]
        rw [grd_pos (by omega)]
        exact ⟨P ++ lineL k c r, _, 0, rfl, by rw [List.length_append]; omega⟩
theorem sync_spec (D P : List UInt8) (n : Int) (hD : D.length ≤ 1048576) (hP : P.length ≤ 1048576) :
    spec_SyncLog (bs D, bs P, n, ()) = some (if okLog D P n = true then ((bs (D ++ P), bs [], n, ()), true) else ((bs [], bs [], 0, ()), false)) := by
  unfold spec_SyncLog
  simp only [log_eq D P n (by omega) (by omega), Option.bind_some]
  cases okLog D P n with
  | false => rfl
  | true =>
    rw [Bool.not_true, cond_false, grd_pos (by rw [bs_size, bs_size]; omega), bs_app]
    rfl
end Go.Proofs.YtppiaacfnoifkaaDoor
