/-
  A step of the ropeway by the other hand; the laws of a step and of many.
-/
import Derived.Test.YtmknleaomfpmmaaM21b
namespace Go.Proofs.Ytmknleaomfpmmaa
open Go.RowKit

theorem own_eq (a : Ropeway) (h : a.2.1.length ≤ 1048576) : spec_l25Own a = some (a.1, a.2.1, a.2.2.1, a.2.2.2.1, a.2.2.2.2.1, ()) := by
  unfold spec_l25Own
  rw [grd_pos (by simp; omega)]; rfl
/-- What may be asked for. -/
def askB (s : RopeStep) : Bool :=
  if s.1 = 1 then decide (0 ≤ s.2.1 ∧ s.2.1 ≤ 3) else if s.1 = 2 ∨ s.1 = 4 then decide (s.2.1 = 0) else if s.1 = 3 then decide (1 ≤ s.2.1 ∧ s.2.1 ≤ 20) else decide (5 ≤ s.1 ∧ s.1 ≤ 7) && decide (0 ≤ s.2.1 ∧ s.2.1 ≤ 1)
theorem ask_eq (s : RopeStep) : spec_l25Step s = some (askB s) := by
  obtain ⟨k, v, u⟩ := s
  unfold spec_l25Step askB
  simp only [l1In_eq, Option.bind_some]
  by_cases k1 : k = 1
  · rw [cond_dt k1, if_pos k1]
  rw [cond_df k1, if_neg k1]
  by_cases k2 : k = 2
  · rw [cond_dt k2, Option.bind_some, cond_true, if_pos (.inl k2)]
  rw [cond_df k2, Option.bind_some]
  by_cases k4 : k = 4
  · rw [decide_eq_true k4, cond_true, if_pos (.inr k4)]
  rw [decide_eq_false k4, cond_false, if_neg (by omega)]
  by_cases k3 : k = 3
  · rw [cond_dt k3, if_pos k3]
  rw [cond_df k3, if_neg k3]
  cases decide (5 ≤ k ∧ k ≤ 7) <;> rfl
theorem find_eq (a : Ropeway) (c : Int) (h : a.2.1.length ≤ 1048576) : ∃ r, spec_l25Find a c = some r ∧ (r < 0 ↔ ∀ k, k < a.2.1.length → cab a.2.1 k ≠ c) := by
  unfold spec_l25Find
  obtain ⟨r, e, hr⟩ := iter_ex (f := fun s => spec_l25Find_loop1 a c s) (miss := Sum.inr ()) a.2.1.length (fun j => decide (cab a.2.1 j = c)) (fun j => Sum.inl (j : Int)) (fun j => (j : Int)) (fun k hk => by
    show spec_l25Find_loop1 a c (k : Int) = _
    unfold spec_l25Find_loop1
    rw [cond_dt (by omega), grd_pos (by omega), w64_nat (by omega)]
    show cond (decide (cab a.2.1 k = c)) _ _ = _
    cases decide (cab a.2.1 k = c) <;> rfl) (by
    show spec_l25Find_loop1 a c (a.2.1.length : Int) = _
    unfold spec_l25Find_loop1
    rw [cond_df (by omega)]) (s := (0 : Int)) rfl
  rw [e]
  rcases hr with ⟨k, hk, hp, _, rfl⟩ | ⟨hn, rfl⟩
  · refine ⟨(k : Int), rfl, ⟨fun h' => absurd h' (by omega), fun h' => absurd (of_decide_eq_true hp) (h' k hk)⟩⟩
  · exact ⟨-1, rfl, ⟨fun _ k hk => of_decide_eq_false (hn k hk), fun _ => by omega⟩⟩
def opnL (l : List Slot) (k : Nat) : List Int := ((List.range k).filter fun j => opn l j).map fun j : Nat => (j : Int)
theorem opnL_succ (l : List Slot) (k : Nat) : opnL l (k + 1) = if opn l k = true then opnL l k ++ [(k : Int)] else opnL l k := by
  unfold opnL
  rw [List.range_succ, List.filter_append, List.map_append]
  cases h : opn l k <;> simp [h]
theorem opnL_le (l : List Slot) (k : Nat) : (opnL l k).length ≤ k := by
  unfold opnL
  rw [List.length_map]
  exact Nat.le_trans (List.length_filter_le _ _) (by simp)
theorem open_eq (a : Ropeway) (h : a.2.1.length ≤ 1048576) : ∃ y, spec_l25Open a = some y ∧ decide ((y.length : Int) = 0) = !anyOpen a.2.1 := by
  unfold spec_l25Open
  have H : iter (fun s => spec_l25Open_loop1 a s.1 s.2) ((0 : Int), ([] : List Int)) = some (opnL a.2.1 a.2.1.length) :=
    iter_for a.2.1.length (fun k => ((k : Int), opnL a.2.1 k)) (fun k hk => by
      show spec_l25Open_loop1 a (k : Int) (opnL a.2.1 k) = _
      have hle := opnL_le a.2.1 k
      unfold spec_l25Open_loop1
      rw [cond_dt (by omega), grd_pos (by omega), w64_nat (by omega), opnL_succ]
      show cond (opn a.2.1 k) _ _ = _
      cases opn a.2.1 k
      · rfl
      · rw [cond_true, grd_pos (by simp; omega)]; rfl) (by
      show spec_l25Open_loop1 a (a.2.1.length : Int) (opnL a.2.1 a.2.1.length) = _
      unfold spec_l25Open_loop1
      rw [cond_df (by omega)]) rfl
  rw [H]
  refine ⟨_, rfl, ?_⟩
  rw [Bool.eq_iff_iff, decide_eq_true_iff, Bool.not_eq_true']
  unfold opnL anyOpen
  rw [List.length_map, List.any_eq_false]
  constructor
  · intro h0 x hx ho
    have : (List.range a.2.1.length).filter (fun j => opn a.2.1 j) = [] := List.length_eq_zero_iff.1 (by omega)
    have hm : x ∈ (List.range a.2.1.length).filter (fun j => opn a.2.1 j) := List.mem_filter.2 ⟨hx, ho⟩
    rw [this] at hm; cases hm
  · intro h0
    rw [List.filter_eq_nil_iff.2 h0]; rfl
/-- The slots, turned on as far as k. -/
def turn (l : List Slot) (k : Nat) : List Slot := if k = l.length then rot l else l.take 1 ++ (l.take k ++ l.drop (k + 1))
theorem turn_length (l : List Slot) (k : Nat) (h : 0 < l.length) (hk : k ≤ l.length) : (turn l k).length = l.length := by
  unfold turn
  split
  · exact rot_length l h
  · simp; omega
theorem turn_zero (l : List Slot) (h : 0 < l.length) : turn l 0 = l := by
  unfold turn
  rw [if_neg (by omega), List.take_zero, List.nil_append, List.take_append_drop]
theorem turn_succ (l : List Slot) (k : Nat) (h : 1 < l.length) (hk : k < l.length) : (turn l k).set ((k + 1) % l.length) (l.getD k d_Slot) = turn l (k + 1) := by
  have hget : l.getD k d_Slot = l[k] := by simp [List.getD_eq_getElem?_getD, hk]
  unfold turn
  rw [if_neg (by omega), hget]
  by_cases h1 : k + 1 = l.length
  · rw [if_pos h1, h1, Nat.mod_self]
    unfold rot
    have e : l.length - 1 = k := by omega
    rw [e, List.drop_eq_getElem_cons hk, List.drop_of_length_le (by omega)]
    cases l with
    | nil => simp at h
    | cons x l => simp; simp at h1; omega
  · rw [if_neg h1, Nat.mod_eq_of_lt (by omega)]
    have hd : l.drop (k + 1) = l[k + 1] :: l.drop (k + 1 + 1) := List.drop_eq_getElem_cons (by omega)
    rw [hd, ← List.append_assoc]
    have hl : (l.take 1 ++ l.take k).length = k + 1 := by simp; omega
    have hset := set_mid (l.take 1 ++ l.take k) l[k + 1] l[k] (l.drop (k + 1 + 1))
    rw [hl] at hset
    rw [hset, List.append_assoc]
    refine congrArg (l.take 1 ++ ·) ?_
    have ht : l.take (k + 1) = l.take k ++ [l[k]] := by rw [List.take_add_one, List.getElem?_eq_getElem hk]; rfl
    rw [ht, List.append_assoc]; rfl
theorem rope_loop (a : Ropeway) (h : 1 < a.2.1.length ∧ a.2.1.length ≤ 1000) (m w t d : Int) : iter (fun s => spec_l25Rope_loop1 a s.1 s.2.1 s.2.2.1 s.2.2.2.1 s.2.2.2.2.1 s.2.2.2.2.2) ((0 : Int), m, w, t, d, a.2.1) = some (m, w, t, d, rot a.2.1) := by
  obtain ⟨x, l, u⟩ := a
  have h : 1 < l.length ∧ l.length ≤ 1000 := h
  refine iter_for l.length (fun k => ((k : Int), m, w, t, d, turn l k)) (fun k hk => ?_) ?_ (by rw [turn_zero l (by omega)]; rfl)
  · show spec_l25Rope_loop1 (x, l, u) (k : Int) m w t d (turn l k) = _
    have hm : Int.tmod (w64 ((k : Int) + 1)) (l.length : Int) = (((k + 1) % l.length : Nat) : Int) := by
      rw [w64_nat (by omega), Int.tmod_eq_emod_of_nonneg (by omega)]; rfl
    have hlt : (k + 1) % l.length < l.length := Nat.mod_lt _ (by omega)
    have htl := turn_length l k (by omega) (by omega)
    unfold spec_l25Rope_loop1
    dsimp only
    rw [cond_dt (by omega), grd_pos (by omega), grd_pos (by omega), hm, grd_pos (by omega), w64_nat (by omega), Int.toNat_natCast, Int.toNat_natCast]
    rw [← turn_succ l k h.1 hk]
  · show spec_l25Rope_loop1 (x, l, u) (l.length : Int) m w t d (turn l l.length) = _
    unfold spec_l25Rope_loop1
    dsimp only
    rw [cond_df (by omega)]
    simp [turn]
theorem rope_eq (a : Ropeway) (s : RopeStep) (hg : gd a = true) (hk : s.1 ≤ 4) (hs : askB s = true) : spec_l25Rope a s = some ((act a s).2, (act a s).1) := by
  obtain ⟨m, l, w, t, d, u⟩ := a
  obtain ⟨k, v, u'⟩ := s
  obtain ⟨hm, hl, hw, ht, hd, hs0⟩ := gd_out hg
  have hk : k ≤ 4 := hk
  unfold askB at hs
  dsimp only at hs
  have hc0 : (l.getD (0 : Int).toNat d_Slot).1 = cab l 0 := rfl
  have hp0 : (l.getD (0 : Int).toNat d_Slot).2.2.1 = ppl l 0 := rfl
  unfold spec_l25Rope act
  dsimp only
  rw [own_eq (m, l, w, t, d, ()) (by show l.length ≤ 1048576; omega), Option.bind_some]
  by_cases k1 : k = 1
  · rw [if_pos k1, cond_dt k1]
    by_cases h1 : v = m
    · rw [cond_dt h1, decide_eq_false (fun h => h.1 h1)]
    rw [cond_df h1]
    have last : (m = 3 → v = 0) → cond (!decide (v = 2)) (some ((v, l, w, t, d, ()), true)) (some ((v, l, w, t, d, ()), decide (m = 1))) = some (((v, l, w, t, d, ()) : Ropeway), decide (v ≠ m ∧ (m = 3 → v = 0) ∧ (v = 2 → m = 1))) := fun h2 => by
      by_cases h4 : v = 2
      · rw [cond_ndt h4, show decide (m = 1) = decide (v ≠ m ∧ (m = 3 → v = 0) ∧ (v = 2 → m = 1)) from by rw [decide_eq_decide]; omega]
      · rw [cond_ndf h4, decide_eq_true (show v ≠ m ∧ (m = 3 → v = 0) ∧ (v = 2 → m = 1) by omega)]
    by_cases h2 : m = 3
    · rw [cond_dt h2]
      by_cases h3 : v = 0
      · rw [cond_ndt h3]; exact last fun _ => h3
      · rw [cond_ndf h3, decide_eq_false (by omega)]
    · rw [cond_df h2]; exact last fun h => absurd h h2
  rw [if_neg k1] at hs
  rw [if_neg k1, cond_df k1]
  by_cases k2 : k = 2
  · rw [if_pos (.inl k2), decide_eq_true_iff] at hs
    rw [if_pos k2, cond_dt k2, rope_loop (m, l, w, t, d, u) (by show 1 < l.length ∧ l.length ≤ 1000; omega), Option.bind_some]
    obtain ⟨y, ey, hy⟩ := open_eq (m, l, w, t, d, ()) (by show l.length ≤ 1048576; omega)
    have hy : decide ((y.length : Int) = 0) = !anyOpen l := hy
    rw [ey]
    simp only [Option.bind_some, hy]
    by_cases h1 : m = 1
    · rw [cond_dt h1]; cases anyOpen l <;> simp [h1, hs]
    · rw [cond_df h1]
      by_cases h2 : m = 2
      · rw [cond_dt h2]; cases anyOpen l <;> simp [h2, hs]
      · rw [cond_df h2, decide_eq_false (by omega)]
  rw [if_neg k2, cond_df k2]
  by_cases k3 : k = 3
  · rw [if_neg (by omega), if_pos k3, decide_eq_true_iff] at hs
    rw [if_pos k3, cond_dt k3, grd_pos (show (0 : Int) ≤ 0 ∧ (0 : Int) < (l.length : Int) by omega)]
    by_cases h1 : m = 0
    · rw [cond_dt h1, grd_pos (show (0 : Int) ≤ 0 ∧ (0 : Int) < (l.length : Int) by omega), hc0]
      by_cases h3 : cab l 0 = 0
      · obtain ⟨r, e, hr⟩ := find_eq (m, l, w, t, d, ()) v (by show l.length ≤ 1048576; omega)
        have hr : r < 0 ↔ ∀ k, k < l.length → cab l k ≠ v := hr
        rw [cond_dt h3, e, Option.bind_some]
        rw [show decide (r < 0) = decide (m = 0 ∧ (1 ≤ v ∧ v ≤ 20) ∧ cab l 0 = 0 ∧ ∀ k, k < l.length → cab l k ≠ v) from by
          rw [decide_eq_decide, hr]
          exact ⟨fun h => ⟨h1, hs, h3, h⟩, fun h => h.2.2.2⟩]
        rfl
      · rw [cond_df h3, decide_eq_false (fun h => h3 h.2.2.1)]; rfl
    · rw [cond_df h1, decide_eq_false (fun h => h1 h.1)]; rfl
  rw [if_neg k3, cond_df k3]
  have k4 : k = 4 := by
    rw [if_neg k3] at hs
    split at hs
    · omega
    · simp at hs; omega
  rw [if_pos (.inr k4), decide_eq_true_iff] at hs
  rw [if_pos k4]
  simp only [grd_pos (show (0 : Int) ≤ 0 ∧ (0 : Int) < (l.length : Int) by omega), hc0, hp0]
  by_cases h2 : m = 0
  · rw [cond_dt h2]
    by_cases h3 : 0 < cab l 0
    · rw [cond_dt h3, show decide (ppl l 0 = 0) = decide (v = 0 ∧ m = 0 ∧ 0 < cab l 0 ∧ ppl l 0 = 0) from by rw [decide_eq_decide]; exact ⟨fun h => ⟨hs, h2, h3, h⟩, fun h => h.2.2.2⟩]; rfl
    · rw [cond_df h3, decide_eq_false (fun h => h3 h.2.2.1)]; rfl
  · rw [cond_df h2, decide_eq_false (fun h => h2 h.2.1)]; rfl
end Go.Proofs.Ytmknleaomfpmmaa
