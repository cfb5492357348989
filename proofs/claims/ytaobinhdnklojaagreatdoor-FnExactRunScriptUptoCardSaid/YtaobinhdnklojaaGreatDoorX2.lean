/-
  What a row's listed variables and the shape of its first world give.
-/
import Derived.Test.YtaobinhdnklojaaGreatDoorVN
import Derived.Test.YtaobinhdnklojaaGreatDoorXJ
import Derived.Test.YtaobinhdnklojaaGreatDoorRows
import Derived.LaidLaws
namespace Go.Proofs.YtaobinhdnklojaaGreatDoor
open Go.RowKit

theorem fst_bs (l : List (List UInt8)) : (l.map bs).map (·.data.toList) = l := by
  rw [List.map_map]
  refine (List.map_congr_left fun a _ => ?_).trans (List.map_id _)
  simp
theorem join_eq (l : List (List UInt8)) (h : (Lib.join l [32]).length ≤ 1000) : strings_Join (l.map bs) (ByteArray.mk #[32]) = some (bs (Lib.join l [32])) := by
  unfold strings_Join
  have e : joinB (l.map bs) (ByteArray.mk #[32]) = bs (Lib.join l [32]) := by
    unfold joinB
    rw [fst_bs]
  rw [e, grd_pos (by rw [bs_size]; omega)]
def Small (l : List Int) : Prop := l.length ≤ 12 ∧ ∀ x ∈ l, -100000 ≤ x ∧ x ≤ 100000
theorem itoa_small (x : Int) (h : -100000 ≤ x ∧ x ≤ 100000) : (Lib.itoa x).length ≤ 7 := (itoa_length x (by omega)).1
theorem take_snoc {α : Type} (l : List α) (k : Nat) (h : k < l.length) : l.take (k + 1) = l.take k ++ [l[k]] := List.take_succ_eq_append_getElem h
theorem join_small (l : List Int) (h : ∀ x ∈ l, -100000 ≤ x ∧ x ≤ 100000) : ∀ k, k ≤ l.length → (Lib.join ((l.take k).map Lib.itoa) [32]).length ≤ 8 * k
  | 0, _ => by simp [Lib.join, List.intercalate]
  | k + 1, hk => by
    have hk' : k < l.length := by omega
    have hx := itoa_small l[k] (h _ (List.getElem_mem hk'))
    rw [take_snoc l k hk', List.map_append, List.map_cons, List.map_nil]
    by_cases h0 : k = 0
    · subst h0
      simp [Lib.join, List.intercalate]; omega
    · have ih := join_small l h k (by omega)
      have hne : (l.take k).map Lib.itoa ≠ [] := by
        intro e
        have := congrArg List.length e
        simp at this
        rcases this with h1 | h1
        · exact h0 h1
        · rw [h1] at hk'; simp at hk'
      rw [join_snoc _ _ hne]
      simp only [List.length_append, List.length_cons, List.length_nil]; omega
theorem numsL_small (l : List Int) (h : Small l) : (numsL l).length ≤ 100 := by
  unfold numsL
  split
  · simp
  · have := join_small l h.2 l.length (Nat.le_refl _)
    rw [List.take_length] at this
    have := h.1
    omega
theorem listText_eq (l : List Int) (h : Small l) : impl_listText l = some (bs (numsL l)) := by
  unfold impl_listText numsL
  by_cases h0 : l = []
  · subst h0
    rw [if_pos rfl]; rfl
  have hpos : 0 < l.length := List.length_pos_iff.2 h0
  rw [cond_df (by omega), if_neg h0]
  have hlen := h.1
  have H : iter (fun s => impl_numbersText_loop1 l s.1 s.2) ((0 : Int), ([] : List ByteArray)) = some (((l.take l.length).map Lib.itoa).map bs) :=
    iter_for l.length (fun k => ((k : Int), ((l.take k).map Lib.itoa).map bs)) (fun k hk => by
      have hx := h.2 _ (List.getElem_mem hk)
      show impl_numbersText_loop1 l (k : Int) (((l.take k).map Lib.itoa).map bs) = _
      unfold impl_numbersText_loop1
      rw [cond_dt (by omega), grd_pos (by omega), Int.toNat_natCast, getD_eq _ _ _ hk, itoa_int _ (by omega), Option.bind_some, grd_pos (by simp; omega), w64_nat (by omega), take_snoc l k hk]
      simp only [List.map_append, List.map_cons, List.map_nil]) (by
      show impl_numbersText_loop1 l (l.length : Int) _ = _
      unfold impl_numbersText_loop1
      rw [cond_df (by omega)]) rfl
  rw [List.take_length] at H
  have hj := join_small l h.2 l.length (Nat.le_refl _)
  rw [List.take_length] at hj
  unfold impl_numbersText
  rw [H, Option.bind_some, join_eq _ (by omega)]
  rfl
theorem l28List_eq (l : List Int) (h : Small l) : spec_l28List l true = some (bs (numsL l)) := by
  unfold spec_l28List numsL
  by_cases h0 : l = []
  · subst h0
    rw [if_pos rfl]; rfl
  have hpos : 0 < l.length := List.length_pos_iff.2 h0
  have hlen := h.1
  rw [Bool.not_true, cond_false, cond_df (by omega), if_neg h0, grd_pos (by omega)]
  have hx0 := h.2 _ (List.getElem_mem hpos)
  rw [show (0 : Int).toNat = 0 from rfl, getD_eq _ _ _ hpos, l1Num_int _ (by omega), Option.bind_some]
  have step : ∀ k, 1 ≤ k → k < l.length → spec_l28List_loop1 l (bs (Lib.join ((l.take k).map Lib.itoa) [32])) (k : Int) = some (.go (bs (Lib.join ((l.take (k + 1)).map Lib.itoa) [32]), ((k + 1 : Nat) : Int))) := fun k h1 hk => by
    have hx := h.2 _ (List.getElem_mem hk)
    have hj := join_small l h.2 k (by omega)
    have hi := itoa_small _ hx
    have hne : (l.take k).map Lib.itoa ≠ [] := by
      intro e
      have := congrArg List.length e
      simp at this
      rcases this with h2 | h2
      · omega
      · rw [h2] at hk; simp at hk
    have hs : (ByteArray.mk #[32]).size = 1 := rfl
    have e1 : (bs (Lib.join ((l.take k).map Lib.itoa) [32]) ++ ByteArray.mk #[32]) = bs (Lib.join ((l.take k).map Lib.itoa) [32] ++ [32]) := bs_app _ [32]
    unfold spec_l28List_loop1
    rw [cond_dt (by omega), grd_pos (by rw [bs_size, hs]; omega), grd_pos (by omega), Int.toNat_natCast, getD_eq _ _ _ hk, l1Num_int _ (by omega), Option.bind_some, e1,
      grd_pos (by rw [bs_size, bs_size, List.length_append]; simp only [List.length_cons, List.length_nil]; omega), bs_app, w64_nat (by omega), take_snoc l k hk, List.map_append, List.map_cons, List.map_nil, join_snoc _ _ hne]
  have run : ∀ d k, 1 ≤ k → k + d = l.length → iter (fun s => spec_l28List_loop1 l s.1 s.2) (bs (Lib.join ((l.take k).map Lib.itoa) [32]), (k : Int)) = some (bs (Lib.join (l.map Lib.itoa) [32])) := by
    intro d
    induction d with
    | zero =>
      intro k h1 hk
      refine iter_out ?_
      show spec_l28List_loop1 l _ (k : Int) = _
      unfold spec_l28List_loop1
      rw [cond_df (by omega), List.take_of_length_le (by omega)]
    | succ d ih =>
      intro k h1 hk
      exact (iter_go (step k h1 (by omega))).trans (ih (k + 1) (by omega) (by omega))
  have e0 : bs (Lib.itoa l[0]) = bs (Lib.join ((l.take 1).map Lib.itoa) [32]) := by
    rw [take_snoc l 0 hpos]
    simp [Lib.join, List.intercalate]
  have r := run (l.length - 1) 1 (Nat.le_refl _) (by omega)
  rw [e0]
  rw [show ((1 : Nat) : Int) = (1 : Int) from rfl] at r
  rw [r]; rfl
def cabsL (l : List Slot) : List Int := l.map fun s => s.1
theorem cabsL_small {l : List Slot} (hl : l.length ≤ 10) (h : ∀ k, k < l.length → iOk l k = true) : Small (cabsL l) := by
  refine ⟨by simp [cabsL]; omega, fun x hx => ?_⟩
  obtain ⟨s, hs, rfl⟩ := List.mem_map.1 hx
  obtain ⟨k, hk, e⟩ := List.mem_iff_getElem.1 hs
  have := iOk_cab (h k hk)
  unfold cab at this
  rw [getD_eq _ _ _ hk, e] at this
  omega
theorem cabins_loop (a : Ropeway) (hl : a.2.1.length ≤ 1000) : iter (fun s => impl_cabinsText_loop1 a s.1 s.2) ((0 : Int), ([] : List Int)) = some (cabsL a.2.1) ∧ iter (fun s => spec_l28Cabins_loop1 a s.1 s.2) ((0 : Int), ([] : List Int)) = some (cabsL a.2.1) := by
  have e : ∀ k, (hk : k < a.2.1.length) → cabsL (a.2.1.take k) ++ [(a.2.1.getD k d_Slot).1] = cabsL (a.2.1.take (k + 1)) := fun k hk => by
    rw [take_snoc _ _ hk, getD_eq _ _ _ hk]
    unfold cabsL
    rw [List.map_append]; rfl
  have hle : ∀ k, (cabsL (a.2.1.take k)).length ≤ k := fun k => by simp [cabsL]; omega
  constructor
  · have H := iter_for (f := fun s => impl_cabinsText_loop1 a s.1 s.2) (r := cabsL (a.2.1.take a.2.1.length)) a.2.1.length (fun k => ((k : Int), cabsL (a.2.1.take k))) (fun k hk => by
      have := hle k
      show impl_cabinsText_loop1 a (k : Int) (cabsL (a.2.1.take k)) = _
      unfold impl_cabinsText_loop1
      rw [cond_dt (by omega), grd_pos (by omega), Int.toNat_natCast, e k hk, grd_pos (by simp; omega), w64_nat (by omega)]) (by
      show impl_cabinsText_loop1 a (a.2.1.length : Int) _ = _
      unfold impl_cabinsText_loop1
      rw [cond_df (by omega)]) (s := ((0 : Int), ([] : List Int))) rfl
    rw [List.take_length] at H; exact H
  · have H := iter_for (f := fun s => spec_l28Cabins_loop1 a s.1 s.2) (r := cabsL (a.2.1.take a.2.1.length)) a.2.1.length (fun k => ((k : Int), cabsL (a.2.1.take k))) (fun k hk => by
      have := hle k
      show spec_l28Cabins_loop1 a (k : Int) (cabsL (a.2.1.take k)) = _
      unfold spec_l28Cabins_loop1
      rw [cond_dt (by omega), grd_pos (by omega), Int.toNat_natCast, e k hk, grd_pos (by simp; omega), w64_nat (by omega)]) (by
      show spec_l28Cabins_loop1 a (a.2.1.length : Int) _ = _
      unfold spec_l28Cabins_loop1
      rw [cond_df (by omega)]) (s := ((0 : Int), ([] : List Int))) rfl
    rw [List.take_length] at H; exact H
theorem cabins_eq (a : Ropeway) (hl : a.2.1.length ≤ 10) (h : ∀ k, k < a.2.1.length → iOk a.2.1 k = true) : impl_cabinsText a = some (bs (numsL (cabsL a.2.1))) ∧ spec_l28Cabins a = some (bs (numsL (cabsL a.2.1))) := by
  obtain ⟨h1, h2⟩ := cabins_loop a (by omega)
  have hs := cabsL_small hl h
  unfold impl_cabinsText spec_l28Cabins
  rw [h1, h2, Option.bind_some, Option.bind_some, listText_eq _ hs, l28List_eq _ hs]
  exact ⟨rfl, rfl⟩

def modeL (v : Int) : List UInt8 := [[115, 116, 111, 112, 112, 101, 100], [115, 108, 111, 119], [110, 111, 114, 109, 97, 108], [108, 111, 99, 107, 101, 100]].getD v.toNat []
def repL (a : Ropeway) (k v : Int) : List UInt8 :=
  if k = 1 then modeL v
  else if k = 7 then if opn a.2.1 (stn a.2.1 v).toNat = true then [111, 112, 101, 110] else [115, 104, 117, 116]
  else if k = 5 ∨ k = 6 then Lib.itoa (ppl a.2.1 (stn a.2.1 v).toNat)
  else numsL (cabsL a.2.1)
theorem ask_out {k v : Int} (h : askB (k, v, ()) = true) : (k = 1 ∧ 0 ≤ v ∧ v ≤ 3) ∨ k = 2 ∨ k = 3 ∨ k = 4 ∨ ((k = 5 ∨ k = 6 ∨ k = 7) ∧ 0 ≤ v ∧ v ≤ 1) := by
  unfold askB at h
  dsimp only at h
  split at h
  · rename_i h1
    exact .inl ⟨h1, of_decide_eq_true h⟩
  · split at h
    · rename_i h2; omega
    · split at h
      · rename_i h3; omega
      · rw [Bool.and_eq_true, decide_eq_true_eq, decide_eq_true_eq] at h
        omega
theorem modes_eq (v : Int) (h : 0 ≤ v ∧ v ≤ 3) : [(ByteArray.mk #[115, 116, 111, 112, 112, 101, 100]), (ByteArray.mk #[115, 108, 111, 119]), (ByteArray.mk #[110, 111, 114, 109, 97, 108]), (ByteArray.mk #[108, 111, 99, 107, 101, 100])].getD v.toNat (ByteArray.mk #[]) = bs (modeL v) := by
  have : v = 0 ∨ v = 1 ∨ v = 2 ∨ v = 3 := by omega
  rcases this with rfl | rfl | rfl | rfl <;> rfl
theorem step_ask {a : Ropeway} {k v : Int} {y : Ropeway} (hg : gd a = true) (hy : outc a (k, v, ()) = some y) : askB (k, v, ()) = true := by
  cases h : askB (k, v, ()) with
  | true => rfl
  | false => rw [ask_no a _ hg h] at hy; cases hy
theorem stepReply_eq (y : Ropeway) (k v : Int) (hg : gd y = true) (ha : askB (k, v, ()) = true) : impl_stepReply y (k, v, ()) = some (bs (repL y k v)) ∧ (repL y k v).length ≤ 100 := by
  obtain ⟨m, l, w, t, d, ⟨⟩⟩ := y
  obtain ⟨_, hl, _, _, _, hk⟩ := gd_out hg
  have hcab := cabins_eq (m, l, w, t, d, ()) (by show l.length ≤ 10; omega) hk
  have hcs := numsL_small _ (cabsL_small (l := l) (by omega) hk)
  unfold impl_stepReply repL
  dsimp only
  have hcases := ask_out ha
  by_cases k1 : k = 1
  · have hv : 0 ≤ v ∧ v ≤ 3 := by omega
    rw [cond_dt k1, if_pos k1, grd_pos (by omega), modes_eq v hv]
    refine ⟨rfl, ?_⟩
    have : v = 0 ∨ v = 1 ∨ v = 2 ∨ v = 3 := by omega
    rcases this with rfl | rfl | rfl | rfl <;> decide
  rw [cond_df k1, if_neg k1]
  have hst : ∀ v, impl_Ropeway_stationOf (m, l, w, t, d, ()) v = some (stn l v) := fun v => by
    unfold impl_Ropeway_stationOf
    rw [grd_pos (by decide)]; rfl
  by_cases k7 : k = 7
  · have hv : 0 ≤ v ∧ v ≤ 1 := by omega
    have hi := stn_in (l := l) (v := v) hl hv
    rw [cond_dt k7, if_pos k7, hst, Option.bind_some, grd_pos hi]
    show cond (opn l (stn l v).toNat) _ _ = _ ∧ _
    cases opn l (stn l v).toNat
    · exact ⟨rfl, by decide⟩
    · exact ⟨rfl, by decide⟩
  rw [cond_df k7, if_neg k7]
  by_cases k56 : k = 5 ∨ k = 6
  · have hv : 0 ≤ v ∧ v ≤ 1 := by omega
    have hi := stn_in (l := l) (v := v) hl hv
    have hp := iOk_ppl (hk (stn l v).toNat (by omega))
    have hz : (cond (decide (k = (5 : Int))) ((some true)) ((some (decide (k = (6 : Int)))))) = some true := by
      rcases k56 with h | h
      · rw [cond_dt h]
      · rw [cond_df (by omega), decide_eq_true h]
    rw [hz, if_pos k56, Option.bind_some, cond_true, hst, Option.bind_some, grd_pos hi]
    have e := itoa_int (ppl l (stn l v).toNat) (by omega)
    have e : strconv_Itoa (l.getD (stn l v).toNat d_Slot).2.2.1 = _ := e
    rw [e]
    have := itoa_small (ppl l (stn l v).toNat) (by omega)
    exact ⟨rfl, by omega⟩
  · have hz : (cond (decide (k = (5 : Int))) ((some true)) ((some (decide (k = (6 : Int)))))) = some false := by
      rw [cond_df (by omega), decide_eq_false (by omega)]
    rw [hz, if_neg k56, Option.bind_some, cond_false, hcab.1]
    exact ⟨rfl, hcs⟩
theorem specStep_eq (a : Ropeway) (s : RopeStep) (hg : gd a = true) : spec_StepRopeway a s = some ((outc a s).elim (.inl (0, [], 0, 0, 0, ())) .inr) := by
  have h : a.2.1.length ≤ 1048576 := gd_len hg
  have e1 : spec_l25Good (a.1, a.2.1, a.2.2.1, a.2.2.2.1, a.2.2.2.2.1, ()) = some (gd a) := goodS_eq a h
  have e3 : spec_l25Step (s.1, s.2.1, ()) = some (askB s) := ask_eq s
  unfold spec_StepRopeway
  simp only [e1, e3, hg, Option.bind_some, Bool.not_true, cond_false]
  cases ha : askB s
  · rw [ask_no a s hg ha]; rfl
  · obtain ⟨y, ok, e5, e6⟩ := make_eq a s hg ha
    have e5 : spec_l25Make (a.1, a.2.1, a.2.2.1, a.2.2.2.1, a.2.2.2.2.1, ()) (s.1, s.2.1, ()) = some (y, ok) := e5
    simp only [Bool.not_true, cond_false, e5, e6, Option.bind_some]
    cases ok <;> rfl
/-- What a command makes: with a new ropeway or the old one. -/
abbrev RI (a y : Ropeway) (b : Bool) (R : List UInt8) : (Ropeway × ByteArray × (List Slot)) ⊕ (Ropeway × ByteArray × (List Slot)) := if b = true then .inr (y, bs R, a.2.1) else .inl (y, bs R, a.2.1)
abbrev RS (a y : Ropeway) (g : Log) (b : Bool) (R : List UInt8) : (Console × ByteArray × (List Slot)) ⊕ (Console × ByteArray × (List Slot)) := if b = true then .inr ((y, g, ()), bs R, a.2.1) else .inl ((y, g, ()), bs R, a.2.1)
theorem make_spec (a : Ropeway) (g : Log) (k v : Int) (hg : gd a = true) : spec_l28Make (a, g, ()) k v = some (match outc a (k, v, ()) with | none => RS a a g false [63] | some y => RS a y g true (repL y k v)) := by
  have e1 := specStep_eq a (k, v, ()) hg
  obtain ⟨m, l, w, t, d, ⟨⟩⟩ := a
  obtain ⟨gd', gp, gn, ⟨⟩⟩ := g
  unfold spec_l28Make
  dsimp only
  rw [e1, Option.bind_some]
  cases ho : outc (m, l, w, t, d, ()) (k, v, ()) with
  | none => rfl
  | some y =>
    have ha := step_ask hg ho
    have hgy := outc_good _ _ _ ho
    obtain ⟨m2, l2, w2, t2, d2, ⟨⟩⟩ := y
    obtain ⟨_, hl, _, _, _, hk⟩ := gd_out hgy
    have hcab := cabins_eq (m2, l2, w2, t2, d2, ()) (by show l2.length ≤ 10; omega) hk
    have hcases := ask_out ha
    rw [Option.elim_some, Sum.elim_inr]
    dsimp only
    unfold repL
    dsimp only
    by_cases k1 : k = 1
    · have hv : 0 ≤ v ∧ v ≤ 3 := by omega
      rw [cond_dt k1, if_pos k1, grd_pos (by simp; omega), modes_eq v hv]
      rfl
    rw [cond_df k1, if_neg k1]
    have hst : ∀ v, spec_l25Station (m2, l2, w2, t2, d2, ()) v = some (stn l2 v) := fun v => by
      unfold spec_l25Station
      rw [grd_pos (by decide)]; rfl
    by_cases k234 : k = 2 ∨ k = 3 ∨ k = 4
    · have hz : ∀ {α : Type} (x : α), (cond (decide (k = (2 : Int))) ((some (true, x))) (cond (decide (k = (3 : Int))) ((some (true, x))) ((some ((decide (k = (4 : Int))), x))))) = some (true, x) := fun x => by
        rcases k234 with h | h | h
        · rw [cond_dt h]
        · rw [cond_df (by omega), cond_dt h]
        · rw [cond_df (by omega), cond_df (by omega), decide_eq_true h]
      rw [hz, if_neg (by omega), if_neg (by omega), Option.bind_some, cond_true]
      dsimp only
      rw [hcab.2]
      rfl
    have hz : ∀ {α : Type} (x : α), (cond (decide (k = (2 : Int))) ((some (true, x))) (cond (decide (k = (3 : Int))) ((some (true, x))) ((some ((decide (k = (4 : Int))), x))))) = some (false, x) := fun x => by
      rw [cond_df (by omega), cond_df (by omega), decide_eq_false (by omega)]
    have hv : 0 ≤ v ∧ v ≤ 1 := by omega
    have hi := stn_in (l := l2) (v := v) hl hv
    rw [hz, Option.bind_some, cond_false]
    dsimp only
    by_cases k7 : k = 7
    · rw [cond_dt k7, if_pos k7, hst, Option.bind_some, grd_pos hi]
      show cond (opn l2 (stn l2 v).toNat) _ _ = _
      cases opn l2 (stn l2 v).toNat <;> rfl
    · have hp := iOk_ppl (hk (stn l2 v).toNat (by omega))
      rw [cond_df k7, if_neg k7, if_pos (by omega), hst, Option.bind_some, grd_pos hi]
      have e : spec_l1Num (l2.getD (stn l2 v).toNat d_Slot).2.2.1 = _ := l1Num_int (ppl l2 (stn l2 v).toNat) (by omega)
      rw [e]
      rfl
end Go.Proofs.YtaobinhdnklojaaGreatDoor
namespace Go.Proofs.YtaobinhdnklojaaGreatDoor
open Go.RowKit

theorem ws0 : ByteArray.mk #[100, 111, 111, 114] = bs [100, 111, 111, 114] := rfl
theorem ws1 : ByteArray.mk #[100, 111, 111, 114, 115] = bs [100, 111, 111, 114, 115] := rfl
theorem ws2 : ByteArray.mk #[100, 111, 119, 110] = bs [100, 111, 119, 110] := rfl
theorem ws3 : ByteArray.mk #[102, 97, 115, 116] = bs [102, 97, 115, 116] := rfl
theorem ws4 : ByteArray.mk #[104, 97, 110, 103] = bs [104, 97, 110, 103] := rfl
theorem ws5 : ByteArray.mk #[108, 101, 97, 118, 101] = bs [108, 101, 97, 118, 101] := rfl
theorem ws6 : ByteArray.mk #[108, 111, 99, 107] = bs [108, 111, 99, 107] := rfl
theorem ws7 : ByteArray.mk #[112, 101, 111, 112, 108, 101] = bs [112, 101, 111, 112, 108, 101] := rfl
theorem ws8 : ByteArray.mk #[115, 108, 111, 119] = bs [115, 108, 111, 119] := rfl
theorem ws9 : ByteArray.mk #[115, 116, 111, 112] = bs [115, 116, 111, 112] := rfl
theorem ws10 : ByteArray.mk #[116, 117, 114, 110] = bs [116, 117, 114, 110] := rfl
theorem ws11 : ByteArray.mk #[116, 97, 107, 101] = bs [116, 97, 107, 101] := rfl
theorem ws12 : ByteArray.mk #[117, 112] = bs [117, 112] := rfl
theorem ws13 : ByteArray.mk #[98, 111, 97, 114, 100] = bs [98, 111, 97, 114, 100] := rfl
theorem ws14 : ByteArray.mk #[99, 108, 101, 97, 114] = bs [99, 108, 101, 97, 114] := rfl
theorem ws15 : ByteArray.mk #[99, 97, 98, 105, 110] = bs [99, 97, 98, 105, 110] := rfl
theorem dw (w v : List UInt8) : decide (bs w = bs v) = decide (w = v) := by
  by_cases h : w = v
  · rw [h, decide_eq_true rfl, decide_eq_true rfl]
  · rw [decide_eq_false h, decide_eq_false (fun e => h (bs_inj.1 e))]
noncomputable def stepOfL (w : List UInt8) (a1 : (List Int)) : Option (RopeStep × Bool) :=
  (cond (decide (w = [115, 116, 111, 112])) (cond (!decide ((a1.length : Int) = (0 : Int))) ((some (((1 : Int), (0 : Int), ()), false))) ((some (((1 : Int), (0 : Int), ()), true)))) (cond (decide (w = [115, 108, 111, 119])) (cond (!decide ((a1.length : Int) = (0 : Int))) ((some (((1 : Int), (1 : Int), ()), false))) ((some (((1 : Int), (1 : Int), ()), true)))) (cond (decide (w = [102, 97, 115, 116])) (cond (!decide ((a1.length : Int) = (0 : Int))) ((some (((1 : Int), (2 : Int), ()), false))) ((some (((1 : Int), (2 : Int), ()), true)))) (cond (decide (w = [108, 111, 99, 107])) (cond (!decide ((a1.length : Int) = (0 : Int))) ((some (((1 : Int), (3 : Int), ()), false))) ((some (((1 : Int), (3 : Int), ()), true)))) (cond (decide (w = [116, 117, 114, 110])) (cond (!decide ((a1.length : Int) = (0 : Int))) ((some (((2 : Int), (0 : Int), ()), false))) ((some (((2 : Int), (0 : Int), ()), true)))) (cond (decide (w = [116, 97, 107, 101])) (cond (!decide ((a1.length : Int) = (0 : Int))) ((some (((4 : Int), (0 : Int), ()), false))) ((some (((4 : Int), (0 : Int), ()), true)))) (cond (decide (w = [104, 97, 110, 103])) (cond (!decide ((a1.length : Int) = (1 : Int))) ((some (((3 : Int), (0 : Int), ()), false))) (grd (0 ≤ (0 : Int) ∧ (0 : Int) < (a1.length : Int)) ((some (((3 : Int), (a1.getD ((0 : Int).toNat) 0), ()), true))))) (cond (decide (w = [100, 111, 111, 114])) (cond (!decide ((a1.length : Int) = (1 : Int))) ((some (((7 : Int), (0 : Int), ()), false))) (grd (0 ≤ (0 : Int) ∧ (0 : Int) < (a1.length : Int)) ((some (((7 : Int), (a1.getD ((0 : Int).toNat) 0), ()), true))))) (cond (decide (w = [98, 111, 97, 114, 100])) (cond (!decide ((a1.length : Int) = (1 : Int))) ((some (((5 : Int), (0 : Int), ()), false))) (grd (0 ≤ (0 : Int) ∧ (0 : Int) < (a1.length : Int)) ((some (((5 : Int), (a1.getD ((0 : Int).toNat) 0), ()), true))))) (cond (decide (w = [108, 101, 97, 118, 101])) (cond (!decide ((a1.length : Int) = (1 : Int))) ((some (((6 : Int), (0 : Int), ()), false))) (grd (0 ≤ (0 : Int) ∧ (0 : Int) < (a1.length : Int)) ((some (((6 : Int), (a1.getD ((0 : Int).toNat) 0), ()), true))))) ((some (((0 : Int), (0 : Int), ()), false)))))))))))))
theorem stepOfL_eq (a1 : (List Int)) (w : List UInt8) : impl_stepOf (bs w) a1 = stepOfL w a1 := by
  unfold impl_stepOf stepOfL
  simp only [ws0, ws3, ws4, ws5, ws6, ws8, ws9, ws10, ws11, ws13, dw]
noncomputable def askL (a0 : Ropeway) (w : List UInt8) (a2 : (List Int)) : Option (ByteArray × Bool) :=
  (cond (decide ((a2.length : Int) = (1 : Int))) (cond (decide (w = [99, 97, 98, 105, 110])) (grd (0 ≤ (0 : Int) ∧ (0 : Int) < (a2.length : Int)) ((impl_CabinAt (a0.1, a0.2.1, a0.2.2.1, a0.2.2.2.1, a0.2.2.2.2.1, ()) (a2.getD ((0 : Int).toNat) 0)).bind fun y1 => ((strconv_Itoa y1.1).bind fun y2 => (some (y2, y1.2))))) (cond (decide (w = [117, 112])) (grd (0 ≤ (0 : Int) ∧ (0 : Int) < (a2.length : Int)) ((impl_TurnsTo (a0.1, a0.2.1, a0.2.2.1, a0.2.2.2.1, a0.2.2.2.2.1, ()) (a2.getD ((0 : Int).toNat) 0) true).bind fun y3 => ((strconv_Itoa y3.1).bind fun y4 => (some (y4, y3.2))))) (cond (decide (w = [100, 111, 119, 110])) (grd (0 ≤ (0 : Int) ∧ (0 : Int) < (a2.length : Int)) ((impl_TurnsTo (a0.1, a0.2.1, a0.2.2.1, a0.2.2.2.1, a0.2.2.2.2.1, ()) (a2.getD ((0 : Int).toNat) 0) false).bind fun y5 => ((strconv_Itoa y5.1).bind fun y6 => (some (y6, y5.2))))) ((strconv_Itoa (0 : Int)).bind fun y7 => (some (y7, false)))))) (cond (decide ((0 : Int) < (a2.length : Int))) ((some ((ByteArray.mk #[]), false))) (cond (decide (w = [112, 101, 111, 112, 108, 101])) ((impl_Ropeway_peopleOn (a0.1, a0.2.1, a0.2.2.1, a0.2.2.2.1, a0.2.2.2.2.1, ())).bind fun y8 => ((impl_listText [a0.2.2.1, y8.1, a0.2.2.2.1, a0.2.2.2.2.1]).bind fun y9 => (some (y9, true)))) (cond (decide (w = [100, 111, 111, 114, 115])) ((impl_OpenDoors (a0.1, a0.2.1, a0.2.2.1, a0.2.2.2.1, a0.2.2.2.2.1, ())).bind (Sum.elim (fun _ => ((impl_listText []).bind fun y12 => (some (y12, false)))) (fun y13 => ((impl_listText y13).bind fun y14 => (some (y14, true)))))) (cond (decide (w = [99, 108, 101, 97, 114])) ((impl_IsCleared (a0.1, a0.2.1, a0.2.2.1, a0.2.2.2.1, a0.2.2.2.2.1, ())).bind fun y15 => (cond y15.1 ((some ((ByteArray.mk #[121, 101, 115]), true))) ((some ((ByteArray.mk #[110, 111]), true))))) ((some ((ByteArray.mk #[]), false))))))))
theorem askL_eq (a0 : Ropeway) (a2 : (List Int)) (w : List UInt8) : impl_ask a0 (bs w) a2 = askL a0 w a2 := by
  unfold impl_ask askL
  simp only [ws1, ws2, ws7, ws12, ws14, ws15, dw]
noncomputable def wordL (a0 : Console) (w : List UInt8) : Option ((Console × ByteArray × (List Slot)) ⊕ (Console × ByteArray × (List Slot))) :=
  (cond (decide (w = [115, 116, 111, 112])) ((spec_l28Make ((a0.1.1, a0.1.2.1, a0.1.2.2.1, a0.1.2.2.2.1, a0.1.2.2.2.2.1, ()), (a0.2.1.1, a0.2.1.2.1, a0.2.1.2.2.1, ()), ()) (1 : Int) (0 : Int)).bind (Sum.elim (fun y2 => (some (Sum.inl (((y2.1.1.1, y2.2.2, y2.1.1.2.2.1, y2.1.1.2.2.2.1, y2.1.1.2.2.2.2.1, ()), (y2.1.2.1.1, y2.1.2.1.2.1, y2.1.2.1.2.2.1, ()), ()), y2.2.1, y2.2.2)))) (fun y3 => (some (Sum.inr (((y3.1.1.1, y3.1.1.2.1, y3.1.1.2.2.1, y3.1.1.2.2.2.1, y3.1.1.2.2.2.2.1, ()), (y3.1.2.1.1, y3.1.2.1.2.1, y3.1.2.1.2.2.1, ()), ()), y3.2.1, y3.2.2)))))) (cond (decide (w = [115, 108, 111, 119])) ((spec_l28Make ((a0.1.1, a0.1.2.1, a0.1.2.2.1, a0.1.2.2.2.1, a0.1.2.2.2.2.1, ()), (a0.2.1.1, a0.2.1.2.1, a0.2.1.2.2.1, ()), ()) (1 : Int) (1 : Int)).bind (Sum.elim (fun y5 => (some (Sum.inl (((y5.1.1.1, y5.2.2, y5.1.1.2.2.1, y5.1.1.2.2.2.1, y5.1.1.2.2.2.2.1, ()), (y5.1.2.1.1, y5.1.2.1.2.1, y5.1.2.1.2.2.1, ()), ()), y5.2.1, y5.2.2)))) (fun y6 => (some (Sum.inr (((y6.1.1.1, y6.1.1.2.1, y6.1.1.2.2.1, y6.1.1.2.2.2.1, y6.1.1.2.2.2.2.1, ()), (y6.1.2.1.1, y6.1.2.1.2.1, y6.1.2.1.2.2.1, ()), ()), y6.2.1, y6.2.2)))))) (cond (decide (w = [102, 97, 115, 116])) ((spec_l28Make ((a0.1.1, a0.1.2.1, a0.1.2.2.1, a0.1.2.2.2.1, a0.1.2.2.2.2.1, ()), (a0.2.1.1, a0.2.1.2.1, a0.2.1.2.2.1, ()), ()) (1 : Int) (2 : Int)).bind (Sum.elim (fun y8 => (some (Sum.inl (((y8.1.1.1, y8.2.2, y8.1.1.2.2.1, y8.1.1.2.2.2.1, y8.1.1.2.2.2.2.1, ()), (y8.1.2.1.1, y8.1.2.1.2.1, y8.1.2.1.2.2.1, ()), ()), y8.2.1, y8.2.2)))) (fun y9 => (some (Sum.inr (((y9.1.1.1, y9.1.1.2.1, y9.1.1.2.2.1, y9.1.1.2.2.2.1, y9.1.1.2.2.2.2.1, ()), (y9.1.2.1.1, y9.1.2.1.2.1, y9.1.2.1.2.2.1, ()), ()), y9.2.1, y9.2.2)))))) (cond (decide (w = [108, 111, 99, 107])) ((spec_l28Make ((a0.1.1, a0.1.2.1, a0.1.2.2.1, a0.1.2.2.2.1, a0.1.2.2.2.2.1, ()), (a0.2.1.1, a0.2.1.2.1, a0.2.1.2.2.1, ()), ()) (1 : Int) (3 : Int)).bind (Sum.elim (fun y11 => (some (Sum.inl (((y11.1.1.1, y11.2.2, y11.1.1.2.2.1, y11.1.1.2.2.2.1, y11.1.1.2.2.2.2.1, ()), (y11.1.2.1.1, y11.1.2.1.2.1, y11.1.2.1.2.2.1, ()), ()), y11.2.1, y11.2.2)))) (fun y12 => (some (Sum.inr (((y12.1.1.1, y12.1.1.2.1, y12.1.1.2.2.1, y12.1.1.2.2.2.1, y12.1.1.2.2.2.2.1, ()), (y12.1.2.1.1, y12.1.2.1.2.1, y12.1.2.1.2.2.1, ()), ()), y12.2.1, y12.2.2)))))) (cond (decide (w = [116, 117, 114, 110])) ((spec_l28Make ((a0.1.1, a0.1.2.1, a0.1.2.2.1, a0.1.2.2.2.1, a0.1.2.2.2.2.1, ()), (a0.2.1.1, a0.2.1.2.1, a0.2.1.2.2.1, ()), ()) (2 : Int) (0 : Int)).bind (Sum.elim (fun y14 => (some (Sum.inl (((y14.1.1.1, y14.2.2, y14.1.1.2.2.1, y14.1.1.2.2.2.1, y14.1.1.2.2.2.2.1, ()), (y14.1.2.1.1, y14.1.2.1.2.1, y14.1.2.1.2.2.1, ()), ()), y14.2.1, y14.2.2)))) (fun y15 => (some (Sum.inr (((y15.1.1.1, y15.1.1.2.1, y15.1.1.2.2.1, y15.1.1.2.2.2.1, y15.1.1.2.2.2.2.1, ()), (y15.1.2.1.1, y15.1.2.1.2.1, y15.1.2.1.2.2.1, ()), ()), y15.2.1, y15.2.2)))))) (cond (decide (w = [116, 97, 107, 101])) ((spec_l28Make ((a0.1.1, a0.1.2.1, a0.1.2.2.1, a0.1.2.2.2.1, a0.1.2.2.2.2.1, ()), (a0.2.1.1, a0.2.1.2.1, a0.2.1.2.2.1, ()), ()) (4 : Int) (0 : Int)).bind (Sum.elim (fun y17 => (some (Sum.inl (((y17.1.1.1, y17.2.2, y17.1.1.2.2.1, y17.1.1.2.2.2.1, y17.1.1.2.2.2.2.1, ()), (y17.1.2.1.1, y17.1.2.1.2.1, y17.1.2.1.2.2.1, ()), ()), y17.2.1, y17.2.2)))) (fun y18 => (some (Sum.inr (((y18.1.1.1, y18.1.1.2.1, y18.1.1.2.2.1, y18.1.1.2.2.2.1, y18.1.1.2.2.2.2.1, ()), (y18.1.2.1.1, y18.1.2.1.2.1, y18.1.2.1.2.2.1, ()), ()), y18.2.1, y18.2.2)))))) (cond (decide (w = [112, 101, 111, 112, 108, 101])) ((spec_l25Sum (a0.1.1, a0.1.2.1, a0.1.2.2.1, a0.1.2.2.2.1, a0.1.2.2.2.2.1, ())).bind fun y19 => ((spec_l28List [a0.1.2.2.1, y19.1, a0.1.2.2.2.1, a0.1.2.2.2.2.1] true).bind fun y20 => (some (Sum.inl (((a0.1.1, a0.1.2.1, a0.1.2.2.1, a0.1.2.2.2.1, a0.1.2.2.2.2.1, ()), (a0.2.1.1, a0.2.1.2.1, a0.2.1.2.2.1, ()), ()), y20, a0.1.2.1))))) (cond (decide (w = [100, 111, 111, 114, 115])) ((spec_l25Open (a0.1.1, a0.1.2.1, a0.1.2.2.1, a0.1.2.2.2.1, a0.1.2.2.2.2.1, ())).bind fun y21 => ((spec_l28List y21 true).bind fun y22 => (some (Sum.inl (((a0.1.1, a0.1.2.1, a0.1.2.2.1, a0.1.2.2.2.1, a0.1.2.2.2.2.1, ()), (a0.2.1.1, a0.2.1.2.1, a0.2.1.2.2.1, ()), ()), y22, a0.1.2.1))))) (cond (decide (w = [99, 108, 101, 97, 114])) ((spec_IsCleared (a0.1.1, a0.1.2.1, a0.1.2.2.1, a0.1.2.2.2.1, a0.1.2.2.2.2.1, ())).bind fun y23 => (cond y23.1 ((some (Sum.inl (((a0.1.1, a0.1.2.1, a0.1.2.2.1, a0.1.2.2.2.1, a0.1.2.2.2.2.1, ()), (a0.2.1.1, a0.2.1.2.1, a0.2.1.2.2.1, ()), ()), (ByteArray.mk #[121, 101, 115]), a0.1.2.1)))) ((some (Sum.inl (((a0.1.1, a0.1.2.1, a0.1.2.2.1, a0.1.2.2.2.1, a0.1.2.2.2.2.1, ()), (a0.2.1.1, a0.2.1.2.1, a0.2.1.2.2.1, ()), ()), (ByteArray.mk #[110, 111]), a0.1.2.1)))))) ((some (Sum.inl (((a0.1.1, a0.1.2.1, a0.1.2.2.1, a0.1.2.2.2.1, a0.1.2.2.2.2.1, ()), (a0.2.1.1, a0.2.1.2.1, a0.2.1.2.2.1, ()), ()), (ByteArray.mk #[63]), a0.1.2.1)))))))))))))
theorem wordL_eq (a0 : Console) (w : List UInt8) : spec_l28Word a0 (bs w) = wordL a0 w := by
  unfold spec_l28Word wordL
  simp only [ws1, ws3, ws6, ws7, ws8, ws9, ws10, ws11, ws14, dw]
noncomputable def oneL (a0 : Console) (w : List UInt8) (a2 : Int) : Option ((Console × ByteArray × (List Slot)) ⊕ (Console × ByteArray × (List Slot))) :=
  (cond (decide (w = [104, 97, 110, 103])) ((spec_l28Make ((a0.1.1, a0.1.2.1, a0.1.2.2.1, a0.1.2.2.2.1, a0.1.2.2.2.2.1, ()), (a0.2.1.1, a0.2.1.2.1, a0.2.1.2.2.1, ()), ()) (3 : Int) a2).bind (Sum.elim (fun y2 => (some (Sum.inl (((y2.1.1.1, y2.2.2, y2.1.1.2.2.1, y2.1.1.2.2.2.1, y2.1.1.2.2.2.2.1, ()), (y2.1.2.1.1, y2.1.2.1.2.1, y2.1.2.1.2.2.1, ()), ()), y2.2.1, y2.2.2)))) (fun y3 => (some (Sum.inr (((y3.1.1.1, y3.1.1.2.1, y3.1.1.2.2.1, y3.1.1.2.2.2.1, y3.1.1.2.2.2.2.1, ()), (y3.1.2.1.1, y3.1.2.1.2.1, y3.1.2.1.2.2.1, ()), ()), y3.2.1, y3.2.2)))))) (cond (decide (w = [100, 111, 111, 114])) ((spec_l28Make ((a0.1.1, a0.1.2.1, a0.1.2.2.1, a0.1.2.2.2.1, a0.1.2.2.2.2.1, ()), (a0.2.1.1, a0.2.1.2.1, a0.2.1.2.2.1, ()), ()) (7 : Int) a2).bind (Sum.elim (fun y5 => (some (Sum.inl (((y5.1.1.1, y5.2.2, y5.1.1.2.2.1, y5.1.1.2.2.2.1, y5.1.1.2.2.2.2.1, ()), (y5.1.2.1.1, y5.1.2.1.2.1, y5.1.2.1.2.2.1, ()), ()), y5.2.1, y5.2.2)))) (fun y6 => (some (Sum.inr (((y6.1.1.1, y6.1.1.2.1, y6.1.1.2.2.1, y6.1.1.2.2.2.1, y6.1.1.2.2.2.2.1, ()), (y6.1.2.1.1, y6.1.2.1.2.1, y6.1.2.1.2.2.1, ()), ()), y6.2.1, y6.2.2)))))) (cond (decide (w = [98, 111, 97, 114, 100])) ((spec_l28Make ((a0.1.1, a0.1.2.1, a0.1.2.2.1, a0.1.2.2.2.1, a0.1.2.2.2.2.1, ()), (a0.2.1.1, a0.2.1.2.1, a0.2.1.2.2.1, ()), ()) (5 : Int) a2).bind (Sum.elim (fun y8 => (some (Sum.inl (((y8.1.1.1, y8.2.2, y8.1.1.2.2.1, y8.1.1.2.2.2.1, y8.1.1.2.2.2.2.1, ()), (y8.1.2.1.1, y8.1.2.1.2.1, y8.1.2.1.2.2.1, ()), ()), y8.2.1, y8.2.2)))) (fun y9 => (some (Sum.inr (((y9.1.1.1, y9.1.1.2.1, y9.1.1.2.2.1, y9.1.1.2.2.2.1, y9.1.1.2.2.2.2.1, ()), (y9.1.2.1.1, y9.1.2.1.2.1, y9.1.2.1.2.2.1, ()), ()), y9.2.1, y9.2.2)))))) (cond (decide (w = [108, 101, 97, 118, 101])) ((spec_l28Make ((a0.1.1, a0.1.2.1, a0.1.2.2.1, a0.1.2.2.2.1, a0.1.2.2.2.2.1, ()), (a0.2.1.1, a0.2.1.2.1, a0.2.1.2.2.1, ()), ()) (6 : Int) a2).bind (Sum.elim (fun y11 => (some (Sum.inl (((y11.1.1.1, y11.2.2, y11.1.1.2.2.1, y11.1.1.2.2.2.1, y11.1.1.2.2.2.2.1, ()), (y11.1.2.1.1, y11.1.2.1.2.1, y11.1.2.1.2.2.1, ()), ()), y11.2.1, y11.2.2)))) (fun y12 => (some (Sum.inr (((y12.1.1.1, y12.1.1.2.1, y12.1.1.2.2.1, y12.1.1.2.2.2.1, y12.1.1.2.2.2.2.1, ()), (y12.1.2.1.1, y12.1.2.1.2.1, y12.1.2.1.2.2.1, ()), ()), y12.2.1, y12.2.2)))))) (cond (decide (w = [99, 97, 98, 105, 110])) ((spec_CabinAt (a0.1.1, a0.1.2.1, a0.1.2.2.1, a0.1.2.2.2.1, a0.1.2.2.2.2.1, ()) a2).bind fun y13 => (cond (!y13.2) ((some (Sum.inl (((a0.1.1, a0.1.2.1, a0.1.2.2.1, a0.1.2.2.2.1, a0.1.2.2.2.2.1, ()), (a0.2.1.1, a0.2.1.2.1, a0.2.1.2.2.1, ()), ()), (ByteArray.mk #[63]), a0.1.2.1)))) ((spec_l1Num y13.1).bind fun y14 => (some (Sum.inl (((a0.1.1, a0.1.2.1, a0.1.2.2.1, a0.1.2.2.2.1, a0.1.2.2.2.2.1, ()), (a0.2.1.1, a0.2.1.2.1, a0.2.1.2.2.1, ()), ()), y14, a0.1.2.1)))))) (cond (decide (w = [117, 112])) ((spec_TurnsTo (a0.1.1, a0.1.2.1, a0.1.2.2.1, a0.1.2.2.2.1, a0.1.2.2.2.2.1, ()) a2 true).bind fun y15 => (cond (!y15.2) ((some (Sum.inl (((a0.1.1, a0.1.2.1, a0.1.2.2.1, a0.1.2.2.2.1, a0.1.2.2.2.2.1, ()), (a0.2.1.1, a0.2.1.2.1, a0.2.1.2.2.1, ()), ()), (ByteArray.mk #[63]), a0.1.2.1)))) ((spec_l1Num y15.1).bind fun y16 => (some (Sum.inl (((a0.1.1, a0.1.2.1, a0.1.2.2.1, a0.1.2.2.2.1, a0.1.2.2.2.2.1, ()), (a0.2.1.1, a0.2.1.2.1, a0.2.1.2.2.1, ()), ()), y16, a0.1.2.1)))))) (cond (decide (w = [100, 111, 119, 110])) ((spec_TurnsTo (a0.1.1, a0.1.2.1, a0.1.2.2.1, a0.1.2.2.2.1, a0.1.2.2.2.2.1, ()) a2 false).bind fun y17 => (cond (!y17.2) ((some (Sum.inl (((a0.1.1, a0.1.2.1, a0.1.2.2.1, a0.1.2.2.2.1, a0.1.2.2.2.2.1, ()), (a0.2.1.1, a0.2.1.2.1, a0.2.1.2.2.1, ()), ()), (ByteArray.mk #[63]), a0.1.2.1)))) ((spec_l1Num y17.1).bind fun y18 => (some (Sum.inl (((a0.1.1, a0.1.2.1, a0.1.2.2.1, a0.1.2.2.2.1, a0.1.2.2.2.2.1, ()), (a0.2.1.1, a0.2.1.2.1, a0.2.1.2.2.1, ()), ()), y18, a0.1.2.1)))))) ((some (Sum.inl (((a0.1.1, a0.1.2.1, a0.1.2.2.1, a0.1.2.2.2.1, a0.1.2.2.2.2.1, ()), (a0.2.1.1, a0.2.1.2.1, a0.2.1.2.2.1, ()), ()), (ByteArray.mk #[63]), a0.1.2.1)))))))))))
theorem oneL_eq (a0 : Console) (a2 : Int) (w : List UInt8) : spec_l28One a0 (bs w) a2 = oneL a0 w a2 := by
  unfold spec_l28One oneL
  simp only [ws0, ws2, ws4, ws5, ws12, ws13, ws15, dw]
/-- What follows when the numbers are read. -/
noncomputable def tailI (a0 : Ropeway) (w : List UInt8) (nums : List Int) : Option ((Ropeway × ByteArray × (List Slot)) ⊕ (Ropeway × ByteArray × (List Slot))) :=
  ((stepOfL w nums).bind fun y21 => (cond y21.2 ((impl_Ropeway_step (a0.1, a0.2.1, a0.2.2.1, a0.2.2.2.1, a0.2.2.2.2.1, ()) (y21.1.1, y21.1.2.1, ())).bind (Sum.elim (fun _ => (some (Sum.inl ((a0.1, a0.2.1, a0.2.2.1, a0.2.2.2.1, a0.2.2.2.2.1, ()), (ByteArray.mk #[63]), a0.2.1)))) (fun y24 => ((impl_stepReply (y24.1, y24.2.1, y24.2.2.1, y24.2.2.2.1, y24.2.2.2.2.1, ()) (y21.1.1, y21.1.2.1, ())).bind fun y25 => (some (Sum.inr ((y24.1, y24.2.1, y24.2.2.1, y24.2.2.2.1, y24.2.2.2.2.1, ()), y25, a0.2.1))))))) ((askL a0 w nums).bind fun y26 => (cond y26.2 ((some (Sum.inl ((a0.1, a0.2.1, a0.2.2.1, a0.2.2.2.1, a0.2.2.2.2.1, ()), y26.1, a0.2.1)))) ((some (Sum.inl ((a0.1, a0.2.1, a0.2.2.1, a0.2.2.2.1, a0.2.2.2.2.1, ()), (ByteArray.mk #[63]), a0.2.1))))))))
theorem tail_step (a : Ropeway) (w : List UInt8) (nums : List Int) (k v : Int) (hg : gd a = true) (h : stepOfL w nums = some ((k, v, ()), true)) :
    tailI a w nums = some (match outc a (k, v, ()) with | none => RI a a false [63] | some y => RI a y true (repL y k v)) := by
  have e1 := step_eq a (k, v, ()) hg
  unfold tailI
  rw [h, Option.bind_some]
  dsimp only
  rw [cond_true]
  have e1 : impl_Ropeway_step (a.1, a.2.1, a.2.2.1, a.2.2.2.1, a.2.2.2.2.1, ()) (k, v, ()) = _ := e1
  rw [e1, Option.bind_some]
  cases ho : outc a (k, v, ()) with
  | none => rfl
  | some y =>
    have hr := (stepReply_eq y k v (outc_good _ _ _ ho) (step_ask hg ho)).1
    have hr : impl_stepReply (y.1, y.2.1, y.2.2.1, y.2.2.2.1, y.2.2.2.2.1, ()) (k, v, ()) = _ := hr
    rw [Option.elim_some, Sum.elim_inr, hr]
    rfl
theorem tail_ask (a : Ropeway) (w : List UInt8) (nums : List Int) (s : RopeStep) (R : List UInt8) (h : stepOfL w nums = some (s, false)) (ha : ∃ b z, askL a w nums = some (z, b) ∧ ((b = true ∧ z = bs R) ∨ (b = false ∧ R = [63]))) :
    tailI a w nums = some (RI a a false R) := by
  obtain ⟨b, z, e, hz⟩ := ha
  unfold tailI
  rw [h, Option.bind_some]
  dsimp only
  rw [cond_false, e, Option.bind_some]
  rcases hz with ⟨rfl, rfl⟩ | ⟨rfl, rfl⟩ <;> rfl
/-- Both programs answer alike. -/
def Both (a : Ropeway) (x : Option ((Ropeway × ByteArray × (List Slot)) ⊕ (Ropeway × ByteArray × (List Slot)))) (f : Log → Option ((Console × ByteArray × (List Slot)) ⊕ (Console × ByteArray × (List Slot)))) : Prop :=
  ∃ y b R, x = some (RI a y b R) ∧ (∀ g, f g = some (RS a y g b R)) ∧ gd y = true ∧ R.length ≤ 100 ∧ (b = false → y = a)
theorem both_step (a : Ropeway) (w : List UInt8) (nums : List Int) (k v : Int) (hg : gd a = true) (h : stepOfL w nums = some ((k, v, ()), true)) (f : Log → Option ((Console × ByteArray × (List Slot)) ⊕ (Console × ByteArray × (List Slot))))
    (hf : ∀ g, f g = (spec_l28Make (a, g, ()) k v).bind (Sum.elim (fun y2 => (some (Sum.inl (((y2.1.1.1, y2.2.2, y2.1.1.2.2.1, y2.1.1.2.2.2.1, y2.1.1.2.2.2.2.1, ()), (y2.1.2.1.1, y2.1.2.1.2.1, y2.1.2.1.2.2.1, ()), ()), y2.2.1, y2.2.2)))) (fun y3 => (some (Sum.inr (((y3.1.1.1, y3.1.1.2.1, y3.1.1.2.2.1, y3.1.1.2.2.2.1, y3.1.1.2.2.2.2.1, ()), (y3.1.2.1.1, y3.1.2.1.2.1, y3.1.2.1.2.2.1, ()), ()), y3.2.1, y3.2.2)))))) :
    Both a (tailI a w nums) f := by
  have e1 := tail_step a w nums k v hg h
  have e2 : ∀ g, f g = some (match outc a (k, v, ()) with | none => RS a a g false [63] | some y => RS a y g true (repL y k v)) := fun g => by
    rw [hf, make_spec a g k v hg]
    cases outc a (k, v, ()) <;> rfl
  cases ho : outc a (k, v, ()) with
  | none => rw [ho] at e1; exact ⟨a, false, [63], e1, fun g => by rw [e2, ho], hg, by decide, fun _ => rfl⟩
  | some y =>
    rw [ho] at e1
    have hr := (stepReply_eq y k v (outc_good _ _ _ ho) (step_ask hg ho)).2
    exact ⟨y, true, repL y k v, e1, fun g => by rw [e2, ho], outc_good _ _ _ ho, hr, fun h => by cases h⟩
theorem opnL_small {l : List Slot} (hl : l.length ≤ 10) : Small (opnL l l.length) := by
  refine ⟨by have := opnL_le l l.length; omega, fun x hx => ?_⟩
  obtain ⟨j, hj, _, rfl⟩ := opnL_mem hx
  omega
theorem doors_both (a : Ropeway) (hg : gd a = true) : impl_OpenDoors a = some (Sum.inr (opnL a.2.1 a.2.1.length)) ∧ spec_l25Open a = some (opnL a.2.1 a.2.1.length) := by
  have h := gd_len hg
  have e2 : impl_IsRopeway (a.1, a.2.1, a.2.2.1, a.2.2.2.1, a.2.2.2.2.1, ()) = some (gd a) := isRopeway_eq a h
  have H1 : iter (fun s => spec_l25Open_loop1 a s.1 s.2) ((0 : Int), ([] : List Int)) = some (opnL a.2.1 a.2.1.length) :=
    iter_for a.2.1.length (fun k => ((k : Int), opnL a.2.1 k)) (fun k hk => by
      show spec_l25Open_loop1 a (k : Int) (opnL a.2.1 k) = _
      have hle := opnL_le a.2.1 k
      unfold spec_l25Open_loop1
      rw [cond_dt (by omega), grd_pos (by omega), w64_nat (by omega), opnL_succ]
      show cond (opn a.2.1 k) _ _ = _
      cases opn a.2.1 k
      · rfl
      · rw [cond_true, grd_pos (by simp; omega)]; rfl) (by
      show spec_l25Open_loop1 a (a.2.1.length : Int) (opnL a.2.1 a.2.1.length) = _
      unfold spec_l25Open_loop1
      rw [cond_df (by omega)]) rfl
  have H2 : iter (fun s => impl_OpenDoors_loop1 a s.1 s.2) ((0 : Int), ([] : List Int)) = some (opnL a.2.1 a.2.1.length) :=
    iter_for a.2.1.length (fun k => ((k : Int), opnL a.2.1 k)) (fun k hk => by
      show impl_OpenDoors_loop1 a (k : Int) (opnL a.2.1 k) = _
      have hle := opnL_le a.2.1 k
      unfold impl_OpenDoors_loop1
      rw [cond_dt (by omega), grd_pos (by omega), w64_nat (by omega), opnL_succ]
      show cond (opn a.2.1 k) _ _ = _
      cases opn a.2.1 k
      · rfl
      · rw [cond_true, grd_pos (by simp; omega)]; rfl) (by
      show impl_OpenDoors_loop1 a (a.2.1.length : Int) (opnL a.2.1 a.2.1.length) = _
      unfold impl_OpenDoors_loop1
      rw [cond_df (by omega)]) rfl
  constructor
  · unfold impl_OpenDoors
    rw [e2, hg, Option.bind_some, Bool.not_true, cond_false, H2]; rfl
  · unfold spec_l25Open
    rw [H1]; rfl
theorem people_both (a : Ropeway) (hg : gd a = true) : ∃ z, spec_l25Sum a = some (sm a.2.1, z) ∧ impl_Ropeway_peopleOn a = some (sm a.2.1, z) ∧ Small [a.2.2.1, sm a.2.1, a.2.2.2.1, a.2.2.2.2.1] := by
  obtain ⟨m, l, w, t, d, ⟨⟩⟩ := a
  obtain ⟨_, hl, hw, ht, hd, hk⟩ := gd_out hg
  obtain ⟨y, s1, s2, _⟩ := sum_ok (m, l, w, t, d, ()) (by show l.length ≤ 10; omega) (fun k h => iOk_ppl (hk k h))
  obtain ⟨z, s3⟩ := sum_val (m, l, w, t, d, ()) (by show l.length ≤ 10; omega) (fun k h => iOk_ppl (hk k h))
  have hb := sm_le l (fun k h => iOk_ppl (hk k h)) l.length (by omega)
  rw [List.take_length] at hb
  have e := Option.some.inj (s2.symm.trans s3)
  rw [e] at s1
  refine ⟨z, s1, s3, by show (4 : Nat) ≤ 12; decide, fun x hx => ?_⟩
  simp only [List.mem_cons, List.not_mem_nil, or_false] at hx
  rcases hx with h | h | h | h <;> rw [h] <;> omega
theorem word_both (a : Ropeway) (w : List UInt8) (hg : gd a = true) : Both a (tailI a w []) (fun g => wordL (a, g, ()) w) := by
  by_cases h1 : w = [115, 116, 111, 112]
  · subst h1; exact both_step a _ [] 1 0 hg rfl _ fun g => by show wordL (a, g, ()) _ = _; unfold wordL; rw [cond_dt rfl]
  by_cases h2 : w = [115, 108, 111, 119]
  · subst h2; exact both_step a _ [] 1 1 hg rfl _ fun g => by show wordL (a, g, ()) _ = _; unfold wordL; rw [cond_df h1, cond_dt rfl]
  by_cases h3 : w = [102, 97, 115, 116]
  · subst h3; exact both_step a _ [] 1 2 hg rfl _ fun g => by show wordL (a, g, ()) _ = _; unfold wordL; rw [cond_df h1, cond_df h2, cond_dt rfl]
  by_cases h4 : w = [108, 111, 99, 107]
  · subst h4; exact both_step a _ [] 1 3 hg rfl _ fun g => by show wordL (a, g, ()) _ = _; unfold wordL; rw [cond_df h1, cond_df h2, cond_df h3, cond_dt rfl]
  by_cases h5 : w = [116, 117, 114, 110]
  · subst h5; exact both_step a _ [] 2 0 hg rfl _ fun g => by show wordL (a, g, ()) _ = _; unfold wordL; rw [cond_df h1, cond_df h2, cond_df h3, cond_df h4, cond_dt rfl]
  by_cases h6 : w = [116, 97, 107, 101]
  · subst h6; exact both_step a _ [] 4 0 hg rfl _ fun g => by show wordL (a, g, ()) _ = _; unfold wordL; rw [cond_df h1, cond_df h2, cond_df h3, cond_df h4, cond_df h5, cond_dt rfl]
  have hstep : ∃ s, stepOfL w [] = some (s, false) := by
    unfold stepOfL
    rw [cond_df h1, cond_df h2, cond_df h3, cond_df h4, cond_df h5, cond_df h6]
    have key : ∀ (b : Bool) (x y : Option (RopeStep × Bool)), (∃ s, x = some (s, false)) → (∃ s, y = some (s, false)) → ∃ s, cond b x y = some (s, false) := by
      rintro (_ | _) x y hx hy
      · exact hy
      · exact hx
    refine key _ _ _ ⟨_, rfl⟩ (key _ _ _ ⟨_, rfl⟩ (key _ _ _ ⟨_, rfl⟩ (key _ _ _ ⟨_, rfl⟩ ⟨_, rfl⟩)))
  obtain ⟨s, hs⟩ := hstep
  have ask0 : askL a w [] = cond (decide (w = [112, 101, 111, 112, 108, 101])) ((impl_Ropeway_peopleOn (a.1, a.2.1, a.2.2.1, a.2.2.2.1, a.2.2.2.2.1, ())).bind fun y8 => ((impl_listText [a.2.2.1, y8.1, a.2.2.2.1, a.2.2.2.2.1]).bind fun y9 => (some (y9, true)))) (cond (decide (w = [100, 111, 111, 114, 115])) ((impl_OpenDoors (a.1, a.2.1, a.2.2.1, a.2.2.2.1, a.2.2.2.2.1, ())).bind (Sum.elim (fun _ => ((impl_listText []).bind fun y12 => (some (y12, false)))) (fun y13 => ((impl_listText y13).bind fun y14 => (some (y14, true)))))) (cond (decide (w = [99, 108, 101, 97, 114])) ((impl_IsCleared (a.1, a.2.1, a.2.2.1, a.2.2.2.1, a.2.2.2.2.1, ())).bind fun y15 => (cond y15.1 ((some ((ByteArray.mk #[121, 101, 115]), true))) ((some ((ByteArray.mk #[110, 111]), true))))) ((some ((ByteArray.mk #[]), false))))) := rfl
  obtain ⟨z, p1, p2, psm⟩ := people_both a hg
  have p1 : spec_l25Sum (a.1, a.2.1, a.2.2.1, a.2.2.2.1, a.2.2.2.2.1, ()) = _ := p1
  have p2 : impl_Ropeway_peopleOn (a.1, a.2.1, a.2.2.1, a.2.2.2.1, a.2.2.2.2.1, ()) = _ := p2
  by_cases h7 : w = [112, 101, 111, 112, 108, 101]
  · refine ⟨a, false, numsL [a.2.2.1, sm a.2.1, a.2.2.2.1, a.2.2.2.2.1], tail_ask a w [] s _ hs ⟨true, _, ?_, .inl ⟨rfl, rfl⟩⟩, fun g => ?_, hg, numsL_small _ psm, fun _ => rfl⟩
    · rw [ask0, cond_dt h7, p2, Option.bind_some]
      dsimp only
      rw [listText_eq _ psm]; rfl
    · show wordL (a, g, ()) _ = _
      unfold wordL
      rw [cond_df h1, cond_df h2, cond_df h3, cond_df h4, cond_df h5, cond_df h6, cond_dt h7]
      dsimp only
      rw [p1, Option.bind_some]
      dsimp only
      rw [l28List_eq _ psm]; rfl
  by_cases h8 : w = [100, 111, 111, 114, 115]
  · obtain ⟨d1, d2⟩ := doors_both a hg
    have d1 : impl_OpenDoors (a.1, a.2.1, a.2.2.1, a.2.2.2.1, a.2.2.2.2.1, ()) = _ := d1
    have d2 : spec_l25Open (a.1, a.2.1, a.2.2.1, a.2.2.2.1, a.2.2.2.2.1, ()) = _ := d2
    have hsm : Small (opnL a.2.1 a.2.1.length) := by
      obtain ⟨m, l, w', t, d, ⟨⟩⟩ := a
      obtain ⟨_, hl, _⟩ := gd_out hg
      exact opnL_small (l := l) (by omega)
    refine ⟨a, false, numsL (opnL a.2.1 a.2.1.length), tail_ask a w [] s _ hs ⟨true, _, ?_, .inl ⟨rfl, rfl⟩⟩, fun g => ?_, hg, numsL_small _ hsm, fun _ => rfl⟩
    · rw [ask0, cond_df h7, cond_dt h8, d1, Option.bind_some, Sum.elim_inr, listText_eq _ hsm]; rfl
    · show wordL (a, g, ()) _ = _
      unfold wordL
      rw [cond_df h1, cond_df h2, cond_df h3, cond_df h4, cond_df h5, cond_df h6, cond_df h7, cond_dt h8]
      dsimp only
      rw [d2, Option.bind_some, l28List_eq _ hsm]; rfl
  by_cases h9 : w = [99, 108, 101, 97, 114]
  · have e1 : spec_l25Good (a.1, a.2.1, a.2.2.1, a.2.2.2.1, a.2.2.2.2.1, ()) = some (gd a) := goodS_eq a (gd_len hg)
    have e2 : impl_IsRopeway (a.1, a.2.1, a.2.2.1, a.2.2.2.1, a.2.2.2.2.1, ()) = some (gd a) := isRopeway_eq a (gd_len hg)
    have c1 : impl_IsCleared (a.1, a.2.1, a.2.2.1, a.2.2.2.1, a.2.2.2.2.1, ()) = some (decide (sm a.2.1 = 0) && decide (a.2.2.2.1 = 0), true) := by
      unfold impl_IsCleared
      rw [e2, hg, Option.bind_some, Bool.not_true, cond_false, p2, Option.bind_some]
      dsimp only
      by_cases hz : sm a.2.1 = 0
      · rw [cond_dt hz, decide_eq_true hz, Bool.true_and]
      · rw [cond_df hz, decide_eq_false hz, Bool.false_and]
    have c2 : spec_IsCleared (a.1, a.2.1, a.2.2.1, a.2.2.2.1, a.2.2.2.2.1, ()) = some (decide (sm a.2.1 = 0) && decide (a.2.2.2.1 = 0), true) := by
      unfold spec_IsCleared
      rw [e1, hg, Option.bind_some, Bool.not_true, cond_false, p1, Option.bind_some]
      dsimp only
      by_cases hz : a.2.2.2.1 = 0
      · rw [cond_dt hz, decide_eq_true hz, Bool.and_true]
      · rw [cond_df hz, decide_eq_false hz, Bool.and_false]
    generalize (decide (sm a.2.1 = 0) && decide (a.2.2.2.1 = 0)) = c at c1 c2
    refine ⟨a, false, if c = true then [121, 101, 115] else [110, 111], tail_ask a w [] s _ hs ⟨true, _, ?_, .inl ⟨rfl, rfl⟩⟩, fun g => ?_, hg, by cases c <;> decide, fun _ => rfl⟩
    · rw [ask0, cond_df h7, cond_df h8, cond_dt h9, c1, Option.bind_some]
      cases c <;> rfl
    · show wordL (a, g, ()) _ = _
      unfold wordL
      rw [cond_df h1, cond_df h2, cond_df h3, cond_df h4, cond_df h5, cond_df h6, cond_df h7, cond_df h8, cond_dt h9]
      dsimp only
      rw [c2, Option.bind_some]
      cases c <;> rfl
  · refine ⟨a, false, [63], tail_ask a w [] s _ hs ⟨false, ByteArray.mk #[], ?_, .inr ⟨rfl, rfl⟩⟩, fun g => ?_, hg, by decide, fun _ => rfl⟩
    · rw [ask0, cond_df h7, cond_df h8, cond_df h9]
    · show wordL (a, g, ()) _ = _
      unfold wordL
      rw [cond_df h1, cond_df h2, cond_df h3, cond_df h4, cond_df h5, cond_df h6, cond_df h7, cond_df h8, cond_df h9]
      rfl
theorem trn_small (L k : Nat) (up : Bool) (h : 0 < L ∧ L ≤ 10) : 0 ≤ trn L k up ∧ trn L k up ≤ 10 := by
  unfold trn
  split
  · have := Nat.mod_lt (L / 2 + L - k) h.1
    omega
  · have := Nat.mod_lt (L - k) h.1
    omega
theorem one_both (a : Ropeway) (w : List UInt8) (n : Int) (hg : gd a = true) : Both a (tailI a w [n]) (fun g => oneL (a, g, ()) w n) := by
  by_cases h1 : w = [104, 97, 110, 103]
  · subst h1; exact both_step a _ [n] 3 n hg rfl _ fun g => by show oneL (a, g, ()) _ n = _; unfold oneL; rw [cond_dt rfl]
  by_cases h2 : w = [100, 111, 111, 114]
  · subst h2; exact both_step a _ [n] 7 n hg rfl _ fun g => by show oneL (a, g, ()) _ n = _; unfold oneL; rw [cond_df h1, cond_dt rfl]
  by_cases h3 : w = [98, 111, 97, 114, 100]
  · subst h3; exact both_step a _ [n] 5 n hg rfl _ fun g => by show oneL (a, g, ()) _ n = _; unfold oneL; rw [cond_df h1, cond_df h2, cond_dt rfl]
  by_cases h4 : w = [108, 101, 97, 118, 101]
  · subst h4; exact both_step a _ [n] 6 n hg rfl _ fun g => by show oneL (a, g, ()) _ n = _; unfold oneL; rw [cond_df h1, cond_df h2, cond_df h3, cond_dt rfl]
  have hstep : ∃ s, stepOfL w [n] = some (s, false) := by
    unfold stepOfL
    rw [cond_df h1, cond_df h2, cond_df h3, cond_df h4]
    have key : ∀ (b : Bool) (x y : Option (RopeStep × Bool)), (∃ s, x = some (s, false)) → (∃ s, y = some (s, false)) → ∃ s, cond b x y = some (s, false) := by
      rintro (_ | _) x y hx hy
      · exact hy
      · exact hx
    exact key _ _ _ ⟨_, rfl⟩ (key _ _ _ ⟨_, rfl⟩ (key _ _ _ ⟨_, rfl⟩ (key _ _ _ ⟨_, rfl⟩ (key _ _ _ ⟨_, rfl⟩ (key _ _ _ ⟨_, rfl⟩ ⟨_, rfl⟩)))))
  obtain ⟨s, hs⟩ := hstep
  have hlen : 0 < a.2.1.length ∧ a.2.1.length ≤ 10 := by
    obtain ⟨m, l, w', t, d, ⟨⟩⟩ := a
    obtain ⟨_, hl, _⟩ := gd_out hg
    show 0 < l.length ∧ l.length ≤ 10
    omega
  have cab1 : ∃ z b, spec_CabinAt (a.1, a.2.1, a.2.2.1, a.2.2.2.1, a.2.2.2.2.1, ()) n = some (z, b) ∧ impl_CabinAt (a.1, a.2.1, a.2.2.1, a.2.2.2.1, a.2.2.2.2.1, ()) n = some (z, b) ∧ 0 ≤ z ∧ z ≤ 10 := by
    rcases at_ok a n (gd_len hg) with ⟨e1, e2, _⟩ | ⟨k, e1, e2, _, hk, _⟩
    · exact ⟨_, _, e1, e2, by omega, by omega⟩
    · exact ⟨_, _, e1, e2, by omega, by omega⟩
  have trn1 : ∀ up, ∃ z b, spec_TurnsTo (a.1, a.2.1, a.2.2.1, a.2.2.2.1, a.2.2.2.2.1, ()) n up = some (z, b) ∧ impl_TurnsTo (a.1, a.2.1, a.2.2.1, a.2.2.2.1, a.2.2.2.2.1, ()) n up = some (z, b) ∧ 0 ≤ z ∧ z ≤ 10 := fun up => by
    rcases turns_ok a n up (gd_len hg) with ⟨_, _, e1, e2⟩ | ⟨k, _, _, _, _, _, e1, e2, _⟩
    · exact ⟨_, _, e1, e2, by omega, by omega⟩
    · have := trn_small a.2.1.length k up hlen
      exact ⟨_, _, e1, e2, this.1, this.2⟩
  have ask1 : askL a w [n] = cond (decide (w = [99, 97, 98, 105, 110])) ((impl_CabinAt (a.1, a.2.1, a.2.2.1, a.2.2.2.1, a.2.2.2.2.1, ()) n).bind fun y1 => ((strconv_Itoa y1.1).bind fun y2 => (some (y2, y1.2)))) (cond (decide (w = [117, 112])) ((impl_TurnsTo (a.1, a.2.1, a.2.2.1, a.2.2.2.1, a.2.2.2.2.1, ()) n true).bind fun y3 => ((strconv_Itoa y3.1).bind fun y4 => (some (y4, y3.2)))) (cond (decide (w = [100, 111, 119, 110])) ((impl_TurnsTo (a.1, a.2.1, a.2.2.1, a.2.2.2.1, a.2.2.2.2.1, ()) n false).bind fun y5 => ((strconv_Itoa y5.1).bind fun y6 => (some (y6, y5.2)))) ((strconv_Itoa (0 : Int)).bind fun y7 => (some (y7, false))))) := rfl
  have fin : ∀ (z : Int) (b : Bool) (f : Log → Option ((Console × ByteArray × (List Slot)) ⊕ (Console × ByteArray × (List Slot)))), 0 ≤ z → z ≤ 10 → askL a w [n] = ((strconv_Itoa z).bind fun y2 => (some (y2, b))) →
      (∀ g, f g = cond (!b) (some (RS a a g false [63])) ((spec_l1Num z).bind fun y => some (.inl ((a, g, ()), y, a.2.1)))) → Both a (tailI a w [n]) f := fun z b f h0 h10 ha hf => by
    have hi := itoa_small z (by omega)
    rw [itoa_int z (by omega), Option.bind_some] at ha
    refine ⟨a, false, if b = true then Lib.itoa z else [63], tail_ask a w [n] s _ hs ⟨b, _, ha, ?_⟩, fun g => ?_, hg, ?_, fun _ => rfl⟩
    · cases b
      · exact .inr ⟨rfl, rfl⟩
      · exact .inl ⟨rfl, rfl⟩
    · rw [hf, l1Num_int z (by omega)]
      cases b <;> rfl
    · cases b
      · show ([63] : List UInt8).length ≤ 100; decide
      · show (Lib.itoa z).length ≤ 100; omega
  by_cases h5 : w = [99, 97, 98, 105, 110]
  · obtain ⟨z, b, e1, e2, h0, h10⟩ := cab1
    refine fin z b _ h0 h10 ?_ fun g => ?_
    · rw [ask1, cond_dt h5, e2]; rfl
    · show oneL (a, g, ()) _ n = _
      unfold oneL
      rw [cond_df h1, cond_df h2, cond_df h3, cond_df h4, cond_dt h5]
      dsimp only
      rw [e1]; rfl
  by_cases h6 : w = [117, 112]
  · obtain ⟨z, b, e1, e2, h0, h10⟩ := trn1 true
    refine fin z b _ h0 h10 ?_ fun g => ?_
    · rw [ask1, cond_df h5, cond_dt h6, e2]; rfl
    · show oneL (a, g, ()) _ n = _
      unfold oneL
      rw [cond_df h1, cond_df h2, cond_df h3, cond_df h4, cond_df h5, cond_dt h6]
      dsimp only
      rw [e1]; rfl
  by_cases h7 : w = [100, 111, 119, 110]
  · obtain ⟨z, b, e1, e2, h0, h10⟩ := trn1 false
    refine fin z b _ h0 h10 ?_ fun g => ?_
    · rw [ask1, cond_df h5, cond_df h6, cond_dt h7, e2]; rfl
    · show oneL (a, g, ()) _ n = _
      unfold oneL
      rw [cond_df h1, cond_df h2, cond_df h3, cond_df h4, cond_df h5, cond_df h6, cond_dt h7]
      dsimp only
      rw [e1]; rfl
  · refine fin 0 false _ (by omega) (by omega) ?_ fun g => ?_
    · rw [ask1, cond_df h5, cond_df h6, cond_df h7]
    · show oneL (a, g, ()) _ n = _
      unfold oneL
      rw [cond_df h1, cond_df h2, cond_df h3, cond_df h4, cond_df h5, cond_df h6, cond_df h7]
      rfl
theorem many_tail (a : Ropeway) (w : List UInt8) (ns : List Int) (h : 2 ≤ ns.length) : tailI a w ns = some (RI a a false [63]) := by
  have hstep : ∃ s, stepOfL w ns = some (s, false) := by
    have h0 : ¬ ((ns.length : Int) = 0) := by omega
    have h1 : ¬ ((ns.length : Int) = 1) := by omega
    unfold stepOfL
    simp only [cond_ndf h0, cond_ndf h1]
    have key : ∀ (b : Bool) (x y : Option (RopeStep × Bool)), (∃ s, x = some (s, false)) → (∃ s, y = some (s, false)) → ∃ s, cond b x y = some (s, false) := by
      rintro (_ | _) x y hx hy
      · exact hy
      · exact hx
    repeat (first | exact ⟨_, rfl⟩ | refine key _ _ _ ⟨_, rfl⟩ ?_)
  obtain ⟨s, hs⟩ := hstep
  refine tail_ask a w ns s _ hs ⟨false, ByteArray.mk #[], ?_, .inr ⟨rfl, rfl⟩⟩
  unfold askL
  rw [cond_df (by omega), cond_dt (by omega)]
end Go.Proofs.YtaobinhdnklojaaGreatDoor
namespace Go.Proofs.YtaobinhdnklojaaGreatDoor
open Go.RowKit

/-- The numbers of the words, if all are numbers. -/
def numsOf : List (List UInt8) → Option (List Int)
  | [] => some []
  | w :: ws => if (parseI (bs w)).2 = true then (numsOf ws).map fun l => (parseI (bs w)).1 :: l else none
theorem numsOf_length : ∀ (ws : List (List UInt8)) (ns : List Int), numsOf ws = some ns → ns.length = ws.length
  | [], ns, h => by cases h; rfl
  | w :: ws, ns, h => by
    unfold numsOf at h
    split at h
    · obtain ⟨l, e, rfl⟩ := Option.map_eq_some_iff.1 h
      simp [numsOf_length ws l e]
    · cases h
theorem run_loop (w0 : List UInt8) (rest : List (List UInt8)) (hr : rest.length ≤ 2000) : ∀ (r p : List (List UInt8)) (acc : List Int), rest = p ++ r → acc.length = p.length →
    iter (fun s => impl_run_loop1 s.1 s.2.1 s.2.2.1 s.2.2.2.1 s.2.2.2.2) (rest.length, (rest.length : Int), (p.length : Int), (w0 :: rest).map bs, acc) = some (match numsOf r with | none => Sum.inl () | some ns => Sum.inr ((w0 :: rest).map bs, acc ++ ns))
  | [], p, acc, e, ha => by
    have hl : rest.length = p.length := by rw [e]; simp
    refine iter_out ?_
    show impl_run_loop1 rest.length (rest.length : Int) (p.length : Int) ((w0 :: rest).map bs) acc = _
    unfold impl_run_loop1
    rw [cond_df (by omega)]
    show some (Lp.out (Sum.inr ((w0 :: rest).map bs, acc))) = some (Lp.out (Sum.inr ((w0 :: rest).map bs, acc ++ [])))
    rw [List.append_nil]
  | w :: r, p, acc, e, ha => by
    have hl : rest.length = p.length + (r.length + 1) := by rw [e]; simp
    have hg : ((w0 :: rest).map bs).getD ((1 : Int).toNat + (p.length : Int).toNat) (ByteArray.mk #[]) = bs w := by
      rw [Int.toNat_natCast, show (1 : Int).toNat = 1 from rfl, e]
      simp [List.getD_eq_getElem?_getD, Nat.add_comm 1]
    have hp : impl_ParseInt (bs w) = some ((parseI (bs w)).1, (parseI (bs w)).2) := rfl
    by_cases hv : (parseI (bs w)).2 = true
    · have e2 : numsOf (w :: r) = (numsOf r).map fun l => (parseI (bs w)).1 :: l := by
        conv => lhs; unfold numsOf
        rw [if_pos hv]
      have step : impl_run_loop1 rest.length (rest.length : Int) (p.length : Int) ((w0 :: rest).map bs) acc = some (.go (rest.length, (rest.length : Int), ((p ++ [w]).length : Int), (w0 :: rest).map bs, acc ++ [(parseI (bs w)).1])) := by
        unfold impl_run_loop1
        rw [cond_dt (by omega), grd_pos (by omega), hg, hp, Option.bind_some]
        dsimp only
        rw [hv, Bool.not_true, cond_false, grd_pos (by simp; omega), w64_nat (by omega)]
        simp
      have ih := run_loop w0 rest hr r (p ++ [w]) (acc ++ [(parseI (bs w)).1]) (by rw [e]; simp) (by simp [ha])
      refine ((iter_go step).trans ih).trans ?_
      rw [e2]
      cases numsOf r with
      | none => rfl
      | some ns =>
        show some (Sum.inr ((w0 :: rest).map bs, acc ++ [(parseI (bs w)).1] ++ ns)) = some (Sum.inr ((w0 :: rest).map bs, acc ++ ((parseI (bs w)).1 :: ns)))
        rw [List.append_assoc]; rfl
    · have hv' : (parseI (bs w)).2 = false := by simpa using hv
      have e2 : numsOf (w :: r) = none := by
        conv => lhs; unfold numsOf
        rw [if_neg hv]
      rw [e2]
      refine iter_out ?_
      show impl_run_loop1 rest.length (rest.length : Int) (p.length : Int) ((w0 :: rest).map bs) acc = _
      unfold impl_run_loop1
      rw [cond_dt (by omega), grd_pos (by omega), hg, hp, Option.bind_some]
      dsimp only
      rw [hv', Bool.not_false, cond_true]
theorem impl_run_eq (a : Ropeway) (l w0 : List UInt8) (rest : List (List UInt8)) (hl : l.length ≤ 1000) (h : spl 32 l = w0 :: rest) :
    impl_run a (bs l) = match numsOf rest with | none => some (RI a a false [63]) | some ns => tailI a w0 ns := by
  have hlen := spl_length 32 l
  rw [h] at hlen
  have hlen : rest.length + 1 ≤ l.length + 1 := hlen
  have es : strings_Split (bs l) (ByteArray.mk #[32]) = some ((w0 :: rest).map bs) := by
    unfold strings_Split
    rw [grd_pos ⟨by rw [bs_size]; omega, by decide⟩]
    have := splitB_eq 32 l
    rw [h] at this
    exact congrArg some this
  have hm : (((w0 :: rest).map bs).length : Int) = (rest.length : Int) + 1 := by simp
  have hn : (((w0 :: rest).map bs).length : Int) - 1 = (rest.length : Int) := by omega
  have lp := run_loop w0 rest (by omega) rest [] [] rfl rfl
  unfold impl_run
  rw [es, Option.bind_some, grd_pos (by omega), hn, Int.toNat_natCast]
  rw [show (([] : List (List UInt8)).length : Int) = (0 : Int) from rfl] at lp
  rw [lp, Option.bind_some]
  cases numsOf rest with
  | none => rfl
  | some ns =>
    have g1 : 0 ≤ (0 : Int) ∧ (0 : Int) < (((w0 :: rest).map bs).length : Int) := by omega
    have g2 : ((w0 :: rest).map bs).getD (0 : Int).toNat (ByteArray.mk #[]) = bs w0 := rfl
    dsimp only
    rw [Sum.elim_inr]
    dsimp only
    simp only [grd_pos g1, g2, stepOfL_eq, askL_eq, List.nil_append]
    rfl
theorem run_both (a : Ropeway) (l : List UInt8) (hg : gd a = true) (hl : l.length ≤ 1000) : Both a (impl_run a (bs l)) (fun g => spec_l28Run (a, g, ()) (bs l)) := by
  cases hs : spl 32 l with
  | nil => exact absurd hs (spl_ne 32 l)
  | cons w0 rest =>
    have ei := impl_run_eq a l w0 rest hl hs
    have hlen := spl_length 32 l
    have hsplit : spec_l1Split (bs l) (32 : Int) = some ((w0 :: rest).map bs) := by
      have := split_eq l 32 (by omega)
      rw [hs] at this
      exact this
    cases rest with
    | nil =>
      have hw : w0 = l := by
        by_cases hm : (32 : UInt8) ∈ l
        · have := (spl_two 32 l).2 hm
          rw [hs] at this; simp at this
        · rw [spl_not 32 l hm] at hs
          cases hs; rfl
      obtain ⟨y, b, R, e1, e2, h3, h4, h5⟩ := word_both a w0 hg
      refine ⟨y, b, R, ei.trans e1, fun g => ?_, h3, h4, h5⟩
      have e2 : wordL (a, g, ()) w0 = _ := e2 g
      show spec_l28Run (a, g, ()) (bs l) = _
      unfold spec_l28Run
      rw [hsplit, Option.bind_some, cond_dt (by simp)]
      have e3 : spec_l28Word ((a.1, a.2.1, a.2.2.1, a.2.2.2.1, a.2.2.2.2.1, ()), (g.1, g.2.1, g.2.2.1, ()), ()) (bs l) = some (RS a y g b R) := by
        rw [← hw]
        exact (wordL_eq (a, g, ()) w0).trans e2
      dsimp only
      rw [e3]
      cases b
      · rw [h5 rfl]; rfl
      · rfl
    | cons x rest =>
      have hx : x.length ≤ 1000000 := by
        have hx2 : x ∈ spl 32 l := by rw [hs]; simp
        have : ∀ (l : List UInt8) (z : List UInt8), z ∈ spl 32 l → z.length ≤ l.length := by
          intro l
          induction l with
          | nil => intro z hz; simp [spl] at hz; simp [hz]
          | cons c l ih =>
            intro z hz
            unfold spl at hz
            split at hz
            · rcases List.mem_cons.1 hz with hz | hz
              · simp [hz]
              · have := ih z hz; simp; omega
            · cases hq : spl 32 l with
              | nil => exact absurd hq (spl_ne 32 l)
              | cons q qs =>
                rw [hq] at hz
                rcases List.mem_cons.1 hz with hz | hz
                · have := ih q (by rw [hq]; simp)
                  rw [hz]; simp; omega
                · have := ih z (by rw [hq]; simp [hz])
                  simp; omega
        have := this l x hx2
        omega
      have hp : spec_ParseInt (bs x) = some (parseI (bs x)) := by
        unfold spec_ParseInt
        rw [l1Read_eq x hx]; rfl
      have g1 : 0 ≤ (1 : Int) ∧ (1 : Int) < (((w0 :: x :: rest).map bs).length : Int) := by simp; omega
      have g0 : 0 ≤ (0 : Int) ∧ (0 : Int) < (((w0 :: x :: rest).map bs).length : Int) := by simp; omega
      have spec0 : ∀ g, spec_l28Run (a, g, ()) (bs l) = cond (!(parseI (bs x)).2) (some (RS a a g false [63])) (cond (!decide ((((w0 :: x :: rest).map bs).length : Int) = (2 : Int))) (some (RS a a g false [63])) ((oneL (a, g, ()) w0 (parseI (bs x)).1).bind (Sum.elim (fun y2 => (some (Sum.inl (((y2.1.1.1, y2.2.2, y2.1.1.2.2.1, y2.1.1.2.2.2.1, y2.1.1.2.2.2.2.1, ()), (y2.1.2.1.1, y2.1.2.1.2.1, y2.1.2.1.2.2.1, ()), ()), y2.2.1, y2.2.2)))) (fun y3 => (some (Sum.inr (((y3.1.1.1, y3.1.1.2.1, y3.1.1.2.2.1, y3.1.1.2.2.2.1, y3.1.1.2.2.2.2.1, ()), (y3.1.2.1.1, y3.1.2.1.2.1, y3.1.2.1.2.2.1, ()), ()), y3.2.1, y3.2.2))))))) := fun g => by
        unfold spec_l28Run
        rw [hsplit, Option.bind_some, cond_df (by simp; omega), grd_pos g1]
        have hgx : ((w0 :: x :: rest).map bs).getD (1 : Int).toNat (ByteArray.mk #[]) = bs x := rfl
        rw [hgx, hp, Option.bind_some, grd_pos g0]
        have hg0 : ((w0 :: x :: rest).map bs).getD (0 : Int).toNat (ByteArray.mk #[]) = bs w0 := rfl
        rw [hg0]
        dsimp only
        rw [oneL_eq]
        rfl
      by_cases hv : (parseI (bs x)).2 = true
      · cases rest with
        | nil =>
          have en : numsOf [x] = some [(parseI (bs x)).1] := by
            unfold numsOf
            rw [if_pos hv]; rfl
          rw [en] at ei
          obtain ⟨y, b, R, e1, e2, h3, h4, h5⟩ := one_both a w0 (parseI (bs x)).1 hg
          refine ⟨y, b, R, ei.trans e1, fun g => ?_, h3, h4, h5⟩
          have e2 : oneL (a, g, ()) w0 (parseI (bs x)).1 = _ := e2 g
          show spec_l28Run (a, g, ()) (bs l) = _
          rw [spec0, hv, Bool.not_true, cond_false, cond_ndt (by simp), e2]
          cases b
          · rw [h5 rfl]; rfl
          · rfl
        | cons z rest =>
          refine ⟨a, false, [63], ?_, fun g => ?_, hg, by decide, fun _ => rfl⟩
          · rw [ei]
            cases hn : numsOf (x :: z :: rest) with
            | none => rfl
            | some ns =>
              have := numsOf_length _ _ hn
              exact many_tail a w0 ns (by rw [this]; simp)
          · show spec_l28Run (a, g, ()) (bs l) = _
            rw [spec0, hv, Bool.not_true, cond_false, cond_ndf (by simp; omega)]
      · have hv' : (parseI (bs x)).2 = false := by simpa using hv
        have en : numsOf (x :: rest) = none := by
          conv => lhs; unfold numsOf
          rw [if_neg hv]
        rw [en] at ei
        exact ⟨a, false, [63], ei, fun g => by show spec_l28Run (a, g, ()) (bs l) = _; rw [spec0, hv', Bool.not_false, cond_true], hg, by decide, fun _ => rfl⟩
end Go.Proofs.YtaobinhdnklojaaGreatDoor
namespace Go.Proofs.YtaobinhdnklojaaGreatDoor
open Go.RowKit

theorem szConsole_ex (r : Ropeway) (b : Log) (n : Int) : ∃ y, laws_szConsole (r, b, ()) n = some y := by
  unfold laws_szConsole
  obtain ⟨y1, h1⟩ := szRopeway_eq (r.1, r.2.1, r.2.2.1, r.2.2.2.1, r.2.2.2.2.1, ()) n
  obtain ⟨y2, h2⟩ := szLog_ex (b.1, b.2.1, b.2.2.1, ()) y1
  dsimp only
  rw [h1, Option.bind_some]
  by_cases h0 : y1 < 0
  · rw [cond_dt h0]; exact ⟨_, rfl⟩
  · rw [cond_df h0, h2, Option.bind_some]
    by_cases h3 : y2 < 0
    · rw [cond_dt h3]; exact ⟨_, rfl⟩
    · rw [cond_df h3]; exact ⟨_, rfl⟩
theorem validI (a : Ropeway) (D P : List UInt8) (n : Int) (ha : a.2.1.length ≤ 1048576) (hD : D.length ≤ 1048576) (hP : P.length ≤ 1048576) : impl_IsValidConsole (a, (bs D, bs P, n, ()), ()) = some (gd a && okLog D P n) := by
  have e2 : impl_IsRopeway (a.1, a.2.1, a.2.2.1, a.2.2.2.1, a.2.2.2.2.1, ()) = some (gd a) := isRopeway_eq a ha
  unfold impl_IsValidConsole
  dsimp only
  rw [e2, Option.bind_some, valid_eq D P n (by omega) (by omega)]
  cases gd a <;> rfl
theorem validS (a : Ropeway) (D P : List UInt8) (n : Int) (ha : a.2.1.length ≤ 1048576) (hD : D.length ≤ 1048576) (hP : P.length ≤ 1048576) : spec_l28Good (a, (bs D, bs P, n, ()), ()) = some (gd a && okLog D P n) := by
  have e2 : spec_l25Good (a.1, a.2.1, a.2.2.1, a.2.2.2.1, a.2.2.2.2.1, ()) = some (gd a) := goodS_eq a ha
  unfold spec_l28Good
  dsimp only
  rw [e2, Option.bind_some, log_eq D P n (by omega) (by omega)]
  cases gd a <;> rfl
theorem copyOwn_eq (a : Ropeway) (ha : a.2.1.length ≤ 1048576) : impl_copyRopeway (a.1, a.2.1, a.2.2.1, a.2.2.2.1, a.2.2.2.2.1, ()) = some (a, a.2.1) := by
  unfold impl_copyRopeway slices_Clone___impl_Slot_impl_Slot_
  dsimp only
  rw [grd_pos (by simp; omega)]; rfl
theorem copyTree_eq (a : Ropeway) (h0 : 0 < a.2.1.length) (ha : a.2.1.length ≤ 1048576) : impl_copyRopeway_i1 a.1 a.2.1 a.2.2.1 a.2.2.2.1 a.2.2.2.2.1 = some a := by
  unfold impl_copyRopeway_i1
  rw [clone_eq a.2.1 ⟨h0, ha⟩]; rfl
theorem ownC_eq (a : Ropeway) (g : Log) (ha : a.2.1.length ≤ 1048576) : spec_l28Own (a, g, ()) = some (a, g, ()) := by
  unfold spec_l28Own spec_l25Own
  dsimp only
  rw [grd_pos (by simp; omega)]; rfl
/-- What a command line makes of a console. -/
inductive Exec (a : Ropeway) (D P : List UInt8) (n : Int) (l : List UInt8) : Ropeway → List UInt8 → Int → List UInt8 → Prop where
  | no (h : (gd a && okLog D P n) = false) : Exec a D P n l a P n [110, 111]
  | bad (h : (gd a && okLog D P n) = true) (hb : goodB l [] = false) : Exec a D P n l a P n [98, 97, 100]
  | full (h : (gd a && okLog D P n) = true) (hb : goodB l [] = true) (h60 : n = 60) : Exec a D P n l a P n [102, 117, 108, 108]
  | run (h : (gd a && okLog D P n) = true) (hb : goodB l [] = true) (h60 : n ≠ 60) (y : Ropeway) (b : Bool) (R P' : List UInt8) (m : Int) (hr : impl_run a (bs l) = some (RI a y b R)) (hg : gd y = true) (hR : R.length ≤ 100) (hy : b = false → y = a)
      (k : Int) (ha : impl_AppendRecord (bs D, bs P, n, ()) (bs l, bs R, ()) = some ((bs D, bs P', m, ()), k)) (h0 : k ≠ 0 → P' = P ∧ m = n)
      (h1 : k = 0 → ∃ q : Nat, n = (q : Int) ∧ okLog D P n = true ∧ q ≠ 60 ∧ goodB l R = true ∧ P' = P ++ lineL q l R ∧ m = ((q + 1 : Nat) : Int)) : Exec a D P n l y P' m R
theorem Exec.len {a : Ropeway} {D P l : List UInt8} {n : Int} {y : Ropeway} {P' R : List UInt8} {m : Int} (h : Exec a D P n l y P' m R) (ha : a.2.1.length ≤ 1048576) : y.2.1.length ≤ 1048576 ∧ R.length ≤ 100 := by
  cases h with
  | no h => exact ⟨ha, by decide⟩
  | bad h hb => exact ⟨ha, by decide⟩
  | full h hb h60 => exact ⟨ha, by decide⟩
  | run h hb h60 y b R P' m hr hg hR hy k ha' h0 h1 => exact ⟨gd_len hg, hR⟩
theorem okLog_len {D P : List UInt8} {n : Int} (h : okLog D P n = true) : D.length + P.length ≤ 24000 := by
  obtain ⟨h1, _, _⟩ := okLog_out h
  have := tot_small 60 0 (D ++ P) (by omega)
  have e : tot (rsOf (D ++ P)) ≤ 60 * 400 := this
  rw [h1, List.length_append] at e
  omega
theorem Exec.valid {a : Ropeway} {D P l : List UInt8} {n : Int} {y : Ropeway} {P' R : List UInt8} {m : Int} (h : Exec a D P n l y P' m R) (hv : (gd a && okLog D P n) = true) : (gd y && okLog D P' m) = true := by
  cases h with
  | no h => rw [hv] at h; cases h
  | bad h hb => exact hv
  | full h hb h60 => exact hv
  | run h hb h60 y b R P' m hr hg hR hy k ha' h0 h1 =>
    rw [Bool.and_eq_true] at hv ⊢
    refine ⟨hg, ?_⟩
    by_cases hk : k = 0
    · obtain ⟨q, rfl, hv2, hq, hgb, rfl, rfl⟩ := h1 hk
      exact (more_ok hv2 hq hgb).2
    · obtain ⟨rfl, rfl⟩ := h0 hk
      exact hv.2
theorem exec_both (a : Ropeway) (D P l : List UInt8) (n : Int) (ha : a.2.1.length ≤ 1048576) (hD : D.length ≤ 1048576) (hP : P.length ≤ 1048576) (hl : l.length ≤ 1048576) :
    ∃ y P' m R, Exec a D P n l y P' m R ∧ spec_ExecuteCommand (a, (bs D, bs P, n, ()), ()) (bs l) = some ((y, (bs D, bs P', m, ()), ()), bs R) ∧
      impl_ExecuteCommand (a, (bs D, bs P, n, ()), ()) (bs l) = some ((y, (bs D, bs P', m, ()), ()), bs R, a.2.1) ∧
      (0 < a.2.1.length → impl_ExecuteCommand_i1 a.1 a.2.1 a.2.2.1 a.2.2.2.1 a.2.2.2.2.1 (bs D) (bs P) n (bs l) = some ((y, (bs D, bs P', m, ()), ()), bs R)) := by
  have v1 := validI a D P n ha hD hP
  have v2 := validS a D P n ha hD hP
  have c1 := copyOwn_eq a ha
  have c3 := ownC_eq a (bs D, bs P, n, ()) ha
  have v1 : impl_IsValidConsole ((a.1, a.2.1, a.2.2.1, a.2.2.2.1, a.2.2.2.2.1, ()), (bs D, bs P, n, ()), ()) = _ := v1
  have v2 : spec_l28Good ((a.1, a.2.1, a.2.2.1, a.2.2.2.1, a.2.2.2.2.1, ()), (bs D, bs P, n, ()), ()) = _ := v2
  have c3 : spec_l28Own ((a.1, a.2.1, a.2.2.1, a.2.2.2.1, a.2.2.2.2.1, ()), (bs D, bs P, n, ()), ()) = _ := c3
  have r1 : impl_IsValidRecord (bs l, ByteArray.mk #[], ()) = some (goodB l []) := isValid_eq l [] (by omega) (by simp)
  have r2 : spec_l27Good (bs l, ByteArray.mk #[], ()) = some (goodB l []) := good_eq l [] (by omega) (by simp)
  unfold spec_ExecuteCommand impl_ExecuteCommand impl_ExecuteCommand_i1
  dsimp only
  rw [c1, c3]
  simp only [Option.bind_some]
  rw [v1, v2]
  simp only [Option.bind_some]
  cases hv : (gd a && okLog D P n) with
  | false =>
    refine ⟨a, P, n, _, .no hv, rfl, rfl, fun h0 => ?_⟩
    rw [copyTree_eq a h0 ha]
    rfl
  | true =>
    simp only [Bool.not_true, cond_false, r1, r2, Option.bind_some]
    cases hb : goodB l [] with
    | false =>
      refine ⟨a, P, n, _, .bad hv hb, rfl, rfl, fun h0 => ?_⟩
      rw [copyTree_eq a h0 ha]
      rfl
    | true =>
      simp only [Bool.not_true, cond_false]
      by_cases h60 : n = 60
      · simp only [cond_dt h60]
        refine ⟨a, P, n, _, .full hv hb h60, rfl, rfl, fun h0 => ?_⟩
        rw [copyTree_eq a h0 ha]
        rfl
      · simp only [cond_df h60]
        have hga : gd a = true := by rw [Bool.and_eq_true] at hv; exact hv.1
        have hll := (goodB_out hb).2.1
        obtain ⟨y, b, R, e1, e2, hgy, hR, hyb⟩ := run_both a l hga (by omega)
        have e2 : spec_l28Run ((a.1, a.2.1, a.2.2.1, a.2.2.2.1, a.2.2.2.2.1, ()), (bs D, bs P, n, ()), ()) (bs l) = some (RS a y (bs D, bs P, n, ()) b R) := e2 _
        have e1' : impl_run (a.1, a.2.1, a.2.2.1, a.2.2.2.1, a.2.2.2.2.1, ()) (bs l) = some (RI a y b R) := e1
        obtain ⟨P', m, k, a1, a2, _, a4, a5⟩ := append_both D P l R n hD hP (by omega) (by omega)
        have c4 : spec_l28Own ((y.1, y.2.1, y.2.2.1, y.2.2.2.1, y.2.2.2.2.1, ()), (bs D, bs P, n, ()), ()) = _ := ownC_eq y (bs D, bs P, n, ()) (gd_len hgy)
        refine ⟨y, P', m, R, .run hv hb h60 y b R P' m e1 hgy hR hyb k a2 a4 a5, ?_, ?_, fun h0 => ?_⟩
        · rw [e2, Option.bind_some]
          cases b with
          | true =>
            show ((spec_l28Own _).bind _) = _
            rw [c4]
            simp only [Option.bind_some]
            rw [cond_df (by rw [bs_size]; omega)]
            simp only [Option.bind_some, a1]
          | false =>
            obtain rfl := hyb rfl
            show ((spec_l28Own _).bind _) = _
            rw [c4]
            simp only [Option.bind_some]
            rw [cond_df (by rw [bs_size]; omega)]
            simp only [Option.bind_some, a1]
        · rw [e1', Option.bind_some]
          cases b with
          | true =>
            show (Option.bind (some _) _) = _
            simp only [Option.bind_some]
            rw [cond_df (by rw [bs_size]; omega)]
            simp only [Option.bind_some, a2]
          | false =>
            obtain rfl := hyb rfl
            show (Option.bind (some _) _) = _
            simp only [Option.bind_some]
            rw [cond_df (by rw [bs_size]; omega)]
            simp only [Option.bind_some, a2]
        · rw [copyTree_eq a h0 ha]
          simp only [Option.bind_some]
          rw [e1', Option.bind_some]
          cases b with
          | true =>
            show (Option.bind (some _) _) = _
            simp only [Option.bind_some]
            rw [cond_df (by rw [bs_size]; omega)]
            simp only [Option.bind_some, a2]
          | false =>
            obtain rfl := hyb rfl
            show (Option.bind (some _) _) = _
            simp only [Option.bind_some]
            rw [cond_df (by rw [bs_size]; omega)]
            simp only [Option.bind_some, a2]
theorem toC_eq (a : Ropeway) (g : Log) (ha : a.2.1.length ≤ 1048576) : laws_toConsole (a, g, ()) = some (a, g, ()) := by
  have e : laws_toRopeway (a.1, a.2.1, a.2.2.1, a.2.2.2.1, a.2.2.2.2.1, ()) = some a := toRopeway_eq a ha
  unfold laws_toConsole laws_toLog
  dsimp only
  rw [e]; rfl
theorem eqC_eq (a : Ropeway) (d p : ByteArray) (n : Int) (ha : a.2.1.length ≤ 1048576) : laws_eqConsole (a, (d, p, n, ()), ()) (a, (d, p, n, ()), ()) = some true := by
  have e : laws_eqRopeway (a.1, a.2.1, a.2.2.1, a.2.2.2.1, a.2.2.2.2.1, ()) (a.1, a.2.1, a.2.2.1, a.2.2.2.1, a.2.2.2.2.1, ()) = some true := eqRopeway_eq a ha
  unfold laws_eqConsole
  dsimp only
  rw [e]
  simp only [Option.bind_some, Bool.not_true, cond_false, eqLog_eq]
theorem markC_eq (x : Int) (l : List Slot) (w t d : Int) (g : Log) (h : l.length ≤ 1048576) : laws_markConsole ((x, l, w, t, d, ()), g, ()) 1 = some (1 + 3 * (l.length : Int), marksL advS mkS l.length 1) := by
  unfold laws_markConsole
  dsimp only
  rw [markRopeway_eq _ _ _ _ l h]; rfl
theorem heldC_eq (x w t d : Int) (k : Nat) (g : Log) (h : k ≤ 1048576) : laws_heldConsole ((x, marksL advS mkS k 1, w, t, d, ()), g, ()) 1 = some (1 + 3 * (k : Int)) := by
  unfold laws_heldConsole
  dsimp only
  rw [heldRopeway_eq _ _ _ _ k h, Option.bind_some, cond_df (by omega)]
theorem law_FnExactExecuteCommand (a : Console) (s : ByteArray) (ha : Ty.fit ty_Console a) (_ : Ty.fit .str s) : laws_FnExactExecuteCommand a s = some true := by
  obtain ⟨⟨x, l, w, t, d, ⟨⟩⟩, ⟨D0, P0, n, ⟨⟩⟩, ⟨⟩⟩ := a
  obtain ⟨D, rfl⟩ := bs_ex D0
  obtain ⟨P, rfl⟩ := bs_ex P0
  obtain ⟨q, rfl⟩ := bs_ex s
  have hl : l.length ≤ 1048576 := ha.1.2.1.1
  have hD : D.length ≤ 1048576 := by rw [← bs_size]; exact ha.2.1.1
  have hP : P.length ≤ 1048576 := by rw [← bs_size]; exact ha.2.1.2.1
  unfold laws_FnExactExecuteCommand
  by_cases hq : (1048576 : Int) < ((bs q).size : Int)
  · rw [cond_dt hq]
  rw [cond_df hq]
  rw [bs_size] at hq
  obtain ⟨z, hz⟩ := szConsole_ex (x, l, w, t, d, ()) (bs D, bs P, n, ()) 1048576
  obtain ⟨y, P', m, R, hex, e1, e2, _⟩ := exec_both (x, l, w, t, d, ()) D P q n hl hD hP (by omega)
  have hlen := (hex.len hl).1
  obtain ⟨x2, l2, w2, t2, d2, ⟨⟩⟩ := y
  have hl2 : l2.length ≤ 1048576 := hlen
  have h1 : ¬ (1 : Int) + 3 * (l.length : Int) < 0 := by omega
  have h2 : ¬ (1 : Int) + 3 * (l2.length : Int) < 0 := by omega
  dsimp only
  rw [hz, Option.bind_some]
  by_cases h0 : z < 0
  · rw [cond_dt h0]
  rw [cond_df h0]
  have tc := toC_eq (x, l, w, t, d, ()) (bs D, bs P, n, ()) hl
  have q1 := eqC_eq (x, l, w, t, d, ()) (bs D) (bs P) n hl
  have q2 := eqC_eq (x2, l2, w2, t2, d2, ()) (bs D) (bs P') m hl2
  simp only [tc, e1, e2, q1, q2, markC_eq _ _ _ _ _ _ hl, markC_eq _ _ _ _ _ _ hl2, heldC_eq _ _ _ _ _ _ hl2, Option.bind_some, Bool.not_true, cond_false, decide_true, cond_df h1, cond_df h2]
end Go.Proofs.YtaobinhdnklojaaGreatDoor
namespace Go.Proofs.YtaobinhdnklojaaGreatDoor
open Go.RowKit

theorem laidVars_get {P : Program} {w : World} : ∀ {l : List (String × DataW Unit)} {ps : List MemPlace}, DataW.LaidVars P w l ps → ∀ {n : String} {d : DataW Unit}, (n, d) ∈ l →
    ∃ g t cs fuel p, P.globalNamed n = some g ∧ (P.globals[g]?).map (·.type) = some t ∧ w.var? P n = some cs ∧ DataW.trod (fun _ => ()) P w 0 (fun _ => true) false fuel t cs.toList = some (d, p)
  | [], _, _, _, _, hm => by simp at hm
  | (n', d') :: r, ps, h, n, d, hm => by
    obtain ⟨g, t, cs, fuel, p, q, h1, h2, h3, h4, h5, _⟩ := h
    rcases List.mem_cons.1 hm with e | e
    · cases e; exact ⟨g, t, cs, fuel, p, h1, h2, h3, h4⟩
    · exact laidVars_get h5 e
theorem var_heap {P : Program} {w : World} {n : String} {g : Nat} {cs : Array Value} (hg : P.globalNamed n = some g) (h : w.var? P n = some cs) : ∃ t fr, w.heap[g]? = some (.cells cs t fr) := by
  unfold World.var? at h
  rw [hg, Option.bind_some] at h
  split at h
  · rename_i cs' t fr e
    cases h
    exact ⟨t, fr, e⟩
  · cases h
/-- What lies for good. -/
def GBx (b : Nat) : Prop := b = 0 ∨ b = 1 ∨ b = 2
theorem facts {l : List (String × DataW Unit)} {W : World} (hL : laidMet Tryz.prog l W) (hsh : W.ShapedOpen Tryz.prog) {n : String} (hm : (n, Rows.laid_internal_strconv_uint64pow10) ∈ l) {n2 : String} (hm2 : (n2, Rows.laid_strconv_ErrSyntax) ∈ l)
    (hn : Tryz.prog.globalNamed n = some 1 := by kernel_rfl) (hn2 : Tryz.prog.globalNamed n2 = some 2 := by kernel_rfl) : Lw GBx W := by
  obtain ⟨ps, hv, _⟩ := hL
  obtain ⟨g, t, cs, fuel, p, h1, h2, h3, h4⟩ := laidVars_get hv hm
  obtain rfl := Option.some.inj (hn.symm.trans h1)
  have ht : (Tryz.prog.globals[1]?).map (·.type) = some 216 := by kernel_rfl
  obtain rfl := Option.some.inj (ht.symm.trans h2)
  have hc := Lib.cells_of_tab (k := .u64) (zs := Lib.pow10Tab) (n := 20) Tryz.underlying216 Tryz.underlying88 (by kernel_rfl) (by kernel_rfl) h4
  obtain ⟨t, fr, hh⟩ := var_heap hn h3
  obtain ⟨m, hm⟩ := Tryz.laysM145.s1_3 W hsh
  obtain ⟨g2, t2, cs2, fuel2, p2, k1, k2, k3, k4⟩ := laidVars_get hv hm2
  obtain rfl := Option.some.inj (hn2.symm.trans k1)
  have ht2 : (Tryz.prog.globals[2]?).map (·.type) = some 140 := by kernel_rfl
  obtain rfl := Option.some.inj (ht2.symm.trans k2)
  obtain ⟨_, u, v, hcs, _⟩ := iface_of_trod Tryz.underlying140 k4
  obtain ⟨t3, fr3, hh3⟩ := var_heap hn2 k3
  have hcell : W.cell? ⟨2, 0, none⟩ = some (.iface u v) := by
    have e : cs2 = #[.iface u v] := by rw [← Array.toArray_toList (xs := cs2), hcs]
    subst e
    simp [World.cell?, hh3]
  refine ⟨⟨⟨.inl rfl, .inr (.inr rfl), u, v, hcell⟩, m, hm⟩, .inr (.inl rfl), t, fr, ?_⟩
  rw [hh, ← hc]
theorem facts_lt {W : World} (h : Lw GBx W) : ∀ b, GBx b → b < W.heap.size := by
  obtain ⟨⟨⟨_, _, te, pe, h6⟩, m, h1⟩, _, t, fr, h2⟩ := h
  have key : ∀ (b : Nat) (x : Value), W.cell? ⟨b, 0, none⟩ = some x → b < W.heap.size := fun b x h1 => by
    rcases Nat.lt_or_ge b W.heap.size with h | h
    · exact h
    · exfalso
      unfold World.cell? at h1
      rw [Array.getElem?_eq_none h] at h1
      simp at h1
  rintro b (rfl | rfl | rfl)
  · exact key _ _ h1
  · exact (Array.getElem?_eq_some_iff.1 h2).1
  · exact key _ _ h6
end Go.Proofs.YtaobinhdnklojaaGreatDoor
