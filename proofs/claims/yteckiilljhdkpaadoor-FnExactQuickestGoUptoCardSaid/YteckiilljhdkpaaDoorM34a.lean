/-
  Plain laws, carried over from texts of other seats.
-/
import Derived.Test.YteckiilljhdkpaaDoorC344
import Derived.Test.YteckiilljhdkpaaDoorL2
import Derived.Test.YteckiilljhdkpaaDoorO1
namespace Go.Proofs.YteckiilljhdkpaaDoor
open Go.RowKit

theorem l1In_eq (a lo hi : Int) : spec_l1In a lo hi = some (decide (lo ≤ a ∧ a ≤ hi)) := by
  unfold spec_l1In
  by_cases h : lo ≤ a
  · rw [cond_dt h]; simp [h]
  · rw [cond_df h]; simp [h]
theorem within_eq (a lo hi : Int) : impl_within a lo hi = some (decide (lo ≤ a ∧ a ≤ hi)) := by
  unfold impl_within
  by_cases h : lo ≤ a
  · rw [cond_dt h]; simp [h]
  · rw [cond_df h]; simp [h]
theorem index_ex (l : List ByteArray) (x : ByteArray) (h : l.length ≤ 1048576) : ∃ r, slices_Index___string_string_ l x = some r ∧ (0 ≤ r ↔ x ∈ l) := by
  unfold slices_Index___string_string_
  obtain ⟨r, e, hr⟩ := iter_ex (f := fun s => slices_Index___string_string__loop1 l x s) (miss := (Sum.inr () : Int ⊕ Unit)) l.length (fun k => decide (x = l.getD k (ByteArray.mk #[]))) (fun k => Sum.inl (k : Int)) (fun k => (k : Int)) (fun k hk => by
    show slices_Index___string_string__loop1 l x (k : Int) = _
    unfold slices_Index___string_string__loop1
    rw [cond_dt (by omega), grd_pos (by omega), Int.toNat_natCast, w64_nat (by omega)]
    cases decide (x = l.getD k (ByteArray.mk #[])) <;> rfl) (by
    show slices_Index___string_string__loop1 l x (l.length : Int) = _
    unfold slices_Index___string_string__loop1
    rw [cond_df (by omega)]) (s := (0 : Int)) rfl
  rw [e]
  rcases hr with ⟨k, hk, hp, _, rfl⟩ | ⟨hp, rfl⟩
  · refine ⟨(k : Int), rfl, fun _ => ?_, fun _ => by omega⟩
    have := of_decide_eq_true hp
    rw [this, getD_eq l k _ hk]
    exact List.getElem_mem hk
  · refine ⟨-1, rfl, fun h => by omega, fun hm => ?_⟩
    obtain ⟨k, hk, e⟩ := List.mem_iff_getElem.1 hm
    have := of_decide_eq_false (hp k hk)
    rw [getD_eq l k _ hk] at this
    exact absurd e.symm this
theorem contains_yes (l : List ByteArray) (x : ByteArray) (h : l.length ≤ 1048576) (hm : x ∈ l) : slices_Contains___string_string_ l x = some true := by
  unfold slices_Contains___string_string_
  obtain ⟨r, e, hr⟩ := index_ex l x h
  rw [e, Option.bind_some, decide_eq_true (hr.2 hm)]
theorem contains_no (l : List ByteArray) (x : ByteArray) (h : l.length ≤ 1048576) (hm : x ∉ l) : slices_Contains___string_string_ l x = some false := by
  unfold slices_Contains___string_string_
  obtain ⟨r, e, hr⟩ := index_ex l x h
  rw [e, Option.bind_some, decide_eq_false (fun h => hm (hr.1 h))]
theorem ne_come_open : ((ByteArray.mk #[99, 111, 109, 101]) = (ByteArray.mk #[111, 112, 101, 110])) = False := eq_false (by decide)
theorem ne_come_shut : ((ByteArray.mk #[99, 111, 109, 101]) = (ByteArray.mk #[115, 104, 117, 116])) = False := eq_false (by decide)
theorem ne_come_enter : ((ByteArray.mk #[99, 111, 109, 101]) = (ByteArray.mk #[101, 110, 116, 101, 114])) = False := eq_false (by decide)
theorem ne_come_leave : ((ByteArray.mk #[99, 111, 109, 101]) = (ByteArray.mk #[108, 101, 97, 118, 101])) = False := eq_false (by decide)
theorem ne_come_arrive : ((ByteArray.mk #[99, 111, 109, 101]) = (ByteArray.mk #[97, 114, 114, 105, 118, 101])) = False := eq_false (by decide)
theorem ne_come_level : ((ByteArray.mk #[99, 111, 109, 101]) = (ByteArray.mk #[108, 101, 118, 101, 108])) = False := eq_false (by decide)
theorem ne_come_go : ((ByteArray.mk #[99, 111, 109, 101]) = (ByteArray.mk #[103, 111])) = False := eq_false (by decide)
theorem ne_open_come : ((ByteArray.mk #[111, 112, 101, 110]) = (ByteArray.mk #[99, 111, 109, 101])) = False := eq_false (by decide)
theorem ne_open_shut : ((ByteArray.mk #[111, 112, 101, 110]) = (ByteArray.mk #[115, 104, 117, 116])) = False := eq_false (by decide)
theorem ne_open_enter : ((ByteArray.mk #[111, 112, 101, 110]) = (ByteArray.mk #[101, 110, 116, 101, 114])) = False := eq_false (by decide)
theorem ne_open_leave : ((ByteArray.mk #[111, 112, 101, 110]) = (ByteArray.mk #[108, 101, 97, 118, 101])) = False := eq_false (by decide)
theorem ne_open_arrive : ((ByteArray.mk #[111, 112, 101, 110]) = (ByteArray.mk #[97, 114, 114, 105, 118, 101])) = False := eq_false (by decide)
theorem ne_open_level : ((ByteArray.mk #[111, 112, 101, 110]) = (ByteArray.mk #[108, 101, 118, 101, 108])) = False := eq_false (by decide)
theorem ne_open_go : ((ByteArray.mk #[111, 112, 101, 110]) = (ByteArray.mk #[103, 111])) = False := eq_false (by decide)
theorem ne_shut_come : ((ByteArray.mk #[115, 104, 117, 116]) = (ByteArray.mk #[99, 111, 109, 101])) = False := eq_false (by decide)
theorem ne_shut_open : ((ByteArray.mk #[115, 104, 117, 116]) = (ByteArray.mk #[111, 112, 101, 110])) = False := eq_false (by decide)
theorem ne_shut_enter : ((ByteArray.mk #[115, 104, 117, 116]) = (ByteArray.mk #[101, 110, 116, 101, 114])) = False := eq_false (by decide)
theorem ne_shut_leave : ((ByteArray.mk #[115, 104, 117, 116]) = (ByteArray.mk #[108, 101, 97, 118, 101])) = False := eq_false (by decide)
theorem ne_shut_arrive : ((ByteArray.mk #[115, 104, 117, 116]) = (ByteArray.mk #[97, 114, 114, 105, 118, 101])) = False := eq_false (by decide)
theorem ne_shut_level : ((ByteArray.mk #[115, 104, 117, 116]) = (ByteArray.mk #[108, 101, 118, 101, 108])) = False := eq_false (by decide)
theorem ne_shut_go : ((ByteArray.mk #[115, 104, 117, 116]) = (ByteArray.mk #[103, 111])) = False := eq_false (by decide)
theorem ne_enter_come : ((ByteArray.mk #[101, 110, 116, 101, 114]) = (ByteArray.mk #[99, 111, 109, 101])) = False := eq_false (by decide)
theorem ne_enter_open : ((ByteArray.mk #[101, 110, 116, 101, 114]) = (ByteArray.mk #[111, 112, 101, 110])) = False := eq_false (by decide)
theorem ne_enter_shut : ((ByteArray.mk #[101, 110, 116, 101, 114]) = (ByteArray.mk #[115, 104, 117, 116])) = False := eq_false (by decide)
theorem ne_enter_leave : ((ByteArray.mk #[101, 110, 116, 101, 114]) = (ByteArray.mk #[108, 101, 97, 118, 101])) = False := eq_false (by decide)
theorem ne_enter_arrive : ((ByteArray.mk #[101, 110, 116, 101, 114]) = (ByteArray.mk #[97, 114, 114, 105, 118, 101])) = False := eq_false (by decide)
theorem ne_enter_level : ((ByteArray.mk #[101, 110, 116, 101, 114]) = (ByteArray.mk #[108, 101, 118, 101, 108])) = False := eq_false (by decide)
theorem ne_enter_go : ((ByteArray.mk #[101, 110, 116, 101, 114]) = (ByteArray.mk #[103, 111])) = False := eq_false (by decide)
theorem ne_leave_come : ((ByteArray.mk #[108, 101, 97, 118, 101]) = (ByteArray.mk #[99, 111, 109, 101])) = False := eq_false (by decide)
theorem ne_leave_open : ((ByteArray.mk #[108, 101, 97, 118, 101]) = (ByteArray.mk #[111, 112, 101, 110])) = False := eq_false (by decide)
theorem ne_leave_shut : ((ByteArray.mk #[108, 101, 97, 118, 101]) = (ByteArray.mk #[115, 104, 117, 116])) = False := eq_false (by decide)
theorem ne_leave_enter : ((ByteArray.mk #[108, 101, 97, 118, 101]) = (ByteArray.mk #[101, 110, 116, 101, 114])) = False := eq_false (by decide)
theorem ne_leave_arrive : ((ByteArray.mk #[108, 101, 97, 118, 101]) = (ByteArray.mk #[97, 114, 114, 105, 118, 101])) = False := eq_false (by decide)
theorem ne_leave_level : ((ByteArray.mk #[108, 101, 97, 118, 101]) = (ByteArray.mk #[108, 101, 118, 101, 108])) = False := eq_false (by decide)
theorem ne_leave_go : ((ByteArray.mk #[108, 101, 97, 118, 101]) = (ByteArray.mk #[103, 111])) = False := eq_false (by decide)
theorem ne_arrive_come : ((ByteArray.mk #[97, 114, 114, 105, 118, 101]) = (ByteArray.mk #[99, 111, 109, 101])) = False := eq_false (by decide)
theorem ne_arrive_open : ((ByteArray.mk #[97, 114, 114, 105, 118, 101]) = (ByteArray.mk #[111, 112, 101, 110])) = False := eq_false (by decide)
theorem ne_arrive_shut : ((ByteArray.mk #[97, 114, 114, 105, 118, 101]) = (ByteArray.mk #[115, 104, 117, 116])) = False := eq_false (by decide)
theorem ne_arrive_enter : ((ByteArray.mk #[97, 114, 114, 105, 118, 101]) = (ByteArray.mk #[101, 110, 116, 101, 114])) = False := eq_false (by decide)
theorem ne_arrive_leave : ((ByteArray.mk #[97, 114, 114, 105, 118, 101]) = (ByteArray.mk #[108, 101, 97, 118, 101])) = False := eq_false (by decide)
theorem ne_arrive_level : ((ByteArray.mk #[97, 114, 114, 105, 118, 101]) = (ByteArray.mk #[108, 101, 118, 101, 108])) = False := eq_false (by decide)
theorem ne_arrive_go : ((ByteArray.mk #[97, 114, 114, 105, 118, 101]) = (ByteArray.mk #[103, 111])) = False := eq_false (by decide)
theorem ne_level_come : ((ByteArray.mk #[108, 101, 118, 101, 108]) = (ByteArray.mk #[99, 111, 109, 101])) = False := eq_false (by decide)
theorem ne_level_open : ((ByteArray.mk #[108, 101, 118, 101, 108]) = (ByteArray.mk #[111, 112, 101, 110])) = False := eq_false (by decide)
theorem ne_level_shut : ((ByteArray.mk #[108, 101, 118, 101, 108]) = (ByteArray.mk #[115, 104, 117, 116])) = False := eq_false (by decide)
theorem ne_level_enter : ((ByteArray.mk #[108, 101, 118, 101, 108]) = (ByteArray.mk #[101, 110, 116, 101, 114])) = False := eq_false (by decide)
theorem ne_level_leave : ((ByteArray.mk #[108, 101, 118, 101, 108]) = (ByteArray.mk #[108, 101, 97, 118, 101])) = False := eq_false (by decide)
theorem ne_level_arrive : ((ByteArray.mk #[108, 101, 118, 101, 108]) = (ByteArray.mk #[97, 114, 114, 105, 118, 101])) = False := eq_false (by decide)
theorem ne_level_go : ((ByteArray.mk #[108, 101, 118, 101, 108]) = (ByteArray.mk #[103, 111])) = False := eq_false (by decide)
theorem ne_go_come : ((ByteArray.mk #[103, 111]) = (ByteArray.mk #[99, 111, 109, 101])) = False := eq_false (by decide)
theorem ne_go_open : ((ByteArray.mk #[103, 111]) = (ByteArray.mk #[111, 112, 101, 110])) = False := eq_false (by decide)
theorem ne_go_shut : ((ByteArray.mk #[103, 111]) = (ByteArray.mk #[115, 104, 117, 116])) = False := eq_false (by decide)
theorem ne_go_enter : ((ByteArray.mk #[103, 111]) = (ByteArray.mk #[101, 110, 116, 101, 114])) = False := eq_false (by decide)
theorem ne_go_leave : ((ByteArray.mk #[103, 111]) = (ByteArray.mk #[108, 101, 97, 118, 101])) = False := eq_false (by decide)
theorem ne_go_arrive : ((ByteArray.mk #[103, 111]) = (ByteArray.mk #[97, 114, 114, 105, 118, 101])) = False := eq_false (by decide)
theorem ne_go_level : ((ByteArray.mk #[103, 111]) = (ByteArray.mk #[108, 101, 118, 101, 108])) = False := eq_false (by decide)
theorem kinds_length : ([(ByteArray.mk #[99, 111, 109, 101]), (ByteArray.mk #[111, 112, 101, 110]), (ByteArray.mk #[115, 104, 117, 116]), (ByteArray.mk #[101, 110, 116, 101, 114]), (ByteArray.mk #[108, 101, 97, 118, 101]), (ByteArray.mk #[97, 114, 114, 105, 118, 101]), (ByteArray.mk #[108, 101, 118, 101, 108]), (ByteArray.mk #[103, 111])] : List ByteArray).length ≤ 1048576 := by decide
def goodB (p : Platform) : Bool := decide ((0 ≤ p.1 ∧ p.1 ≤ 1) ∧ (0 ≤ p.2.1 ∧ p.2.1 ≤ 16) ∧ (0 ≤ p.2.2.1 ∧ p.2.2.1 ≤ p.2.1) ∧ (0 ≤ p.2.2.2.1 ∧ p.2.2.2.1 ≤ 500) ∧ (0 ≤ p.2.2.2.2.2.1 ∧ p.2.2.2.2.2.1 ≤ 9999) ∧ (0 < p.2.1 ∨ p.1 = 0))
theorem isPlat_eq (p : Platform) : impl_IsPlatform p = some (goodB p) := by
  unfold impl_IsPlatform goodB
  simp only [within_eq, Option.bind_some]
  by_cases h1 : 0 ≤ p.1 ∧ p.1 ≤ 1
  case neg => rw [cond_df h1]; simp [h1]
  by_cases h2 : 0 ≤ p.2.1 ∧ p.2.1 ≤ 16
  case neg => rw [cond_dt h1, cond_df h2]; simp [h2]
  by_cases h3 : 0 ≤ p.2.2.1 ∧ p.2.2.1 ≤ p.2.1
  case neg => rw [cond_dt h1, cond_dt h2, cond_df h3]; simp [h3]
  by_cases h4 : 0 ≤ p.2.2.2.1 ∧ p.2.2.2.1 ≤ 500
  case neg => rw [cond_dt h1, cond_dt h2, cond_dt h3, cond_df h4]; simp [h4]
  by_cases h5 : 0 ≤ p.2.2.2.2.2.1 ∧ p.2.2.2.2.2.1 ≤ 9999
  case neg => rw [cond_dt h1, cond_dt h2, cond_dt h3, cond_dt h4, cond_df h5]; simp [h5]
  rw [cond_dt h1, cond_dt h2, cond_dt h3, cond_dt h4, cond_dt h5]
  by_cases h6 : 0 < p.2.1
  · rw [cond_dt h6, decide_eq_true (by omega)]
  · rw [cond_df h6]
    refine congrArg some ?_
    rw [Bool.eq_iff_iff, decide_eq_true_eq, decide_eq_true_eq]
    omega
theorem good_eq (p : Platform) : spec_l14Good p = some (goodB p) := by
  unfold spec_l14Good goodB
  simp only [l1In_eq, Option.bind_some]
  by_cases h1 : 0 ≤ p.1 ∧ p.1 ≤ 1
  case neg => rw [cond_ndf h1]; simp [h1]
  by_cases h2 : 0 ≤ p.2.1 ∧ p.2.1 ≤ 16
  case neg => rw [cond_ndt h1, cond_ndf h2]; simp [h2]
  by_cases h3 : 0 ≤ p.2.2.1 ∧ p.2.2.1 ≤ p.2.1
  case neg => rw [cond_ndt h1, cond_ndt h2, cond_ndf h3]; simp [h3]
  by_cases h4 : 0 ≤ p.2.2.2.1 ∧ p.2.2.2.1 ≤ 500
  case neg => rw [cond_ndt h1, cond_ndt h2, cond_ndt h3, cond_ndf h4]; simp [h4]
  by_cases h5 : 0 ≤ p.2.2.2.2.2.1 ∧ p.2.2.2.2.2.1 ≤ 9999
  case neg => rw [cond_ndt h1, cond_ndt h2, cond_ndt h3, cond_ndt h4, cond_ndf h5]; simp [h5]
  rw [cond_ndt h1, cond_ndt h2, cond_ndt h3, cond_ndt h4, cond_ndt h5]
  by_cases h6 : 0 < p.2.1
  · rw [cond_dt h6, decide_eq_true (by omega)]
  · rw [cond_df h6]
    refine congrArg some ?_
    rw [Bool.eq_iff_iff, decide_eq_true_eq, decide_eq_true_eq]
    omega
theorem least_eq (a b : Int) : spec_l1Least a b = some (if a < b then a else b) := by
  unfold spec_l1Least
  by_cases h : a < b
  · rw [cond_dt h, if_pos h]
  · rw [cond_df h, if_neg h]
abbrev zeroP : Platform := ((0 : Int), (0 : Int), (0 : Int), (0 : Int), false, (0 : Int), ())
theorem s2 {Q : Platform} {E X C : Bool} (h : E = true → X = C) : cond (!E) (some (zeroP, false)) (cond (!C) (some (zeroP, false)) (some (Q, true))) = some (cond (E && C) Q zeroP, E && C) := by
  cases E <;> cases C <;> rfl
theorem c1 {Q : Platform} {E G C : Bool} (h : E = true → G = C) : cond E (some (Q, G)) (some (Q, false)) = some (Q, E && C) := by
  cases E
  · rfl
  · rw [h rfl]; rfl
theorem c2 {Q : Platform} {E A G C : Bool} (h : E = true → (A && G) = C) : cond E (cond A (some (Q, G)) (some (Q, false))) (some (Q, false)) = some (Q, E && C) := by
  cases E
  · rfl
  · rw [← h rfl]; cases A <;> rfl
theorem c3 {Q : Platform} {E A B G C : Bool} (h : E = true → (A && (B && G)) = C) : cond E (cond A (cond B (some (Q, G)) (some (Q, false))) (some (Q, false))) (some (Q, false)) = some (Q, E && C) := by
  cases E
  · rfl
  · rw [← h rfl]; cases A <;> cases B <;> rfl
theorem isEvent_come (c : Int) : impl_IsBoardEvent ((ByteArray.mk #[99, 111, 109, 101]), c, ()) = some (decide (1 ≤ c ∧ c ≤ 16)) := by
  unfold impl_IsBoardEvent impl_boardCounts
  rw [contains_yes _ _ kinds_length (by simp only [List.mem_cons, true_or])]
  simp only [ne_come_enter, ne_come_leave, ne_come_arrive, decide_true, decide_false, cond_true, cond_false, Option.bind_some, within_eq]
theorem event_come (c : Int) : spec_l14Event ((ByteArray.mk #[99, 111, 109, 101]), c, ()) = some (decide (1 ≤ c ∧ c ≤ 16)) := by
  unfold spec_l14Event spec_l14Most
  simp only [ne_come_open, ne_come_shut, ne_come_enter, ne_come_leave, ne_come_arrive, ne_come_level, ne_come_go, decide_true, decide_false, cond_true, cond_false, Option.bind_some, l1In_eq]
  rw [cond_df (by omega), cond_dt (by omega)]
theorem isEvent_open (c : Int) : impl_IsBoardEvent ((ByteArray.mk #[111, 112, 101, 110]), c, ()) = some (decide (c = 0)) := by
  unfold impl_IsBoardEvent impl_boardCounts
  rw [contains_yes _ _ kinds_length (by simp only [List.mem_cons, true_or, or_true])]
  simp only [ne_open_come, ne_open_enter, ne_open_leave, ne_open_arrive, decide_false, cond_true, cond_false, Option.bind_some, within_eq]
  refine congrArg some ?_
  rw [Bool.eq_iff_iff, decide_eq_true_eq, decide_eq_true_eq]
  omega
theorem event_open (c : Int) : spec_l14Event ((ByteArray.mk #[111, 112, 101, 110]), c, ()) = some (decide (c = 0)) := by
  unfold spec_l14Event spec_l14Most
  simp only [ne_open_come, ne_open_shut, ne_open_enter, ne_open_leave, ne_open_arrive, ne_open_level, ne_open_go, decide_true, decide_false, cond_true, cond_false, Option.bind_some, l1In_eq]
  by_cases h : c = 0
  · rw [cond_dt h, decide_eq_true h]
  · rw [cond_df h, cond_df (by omega), decide_eq_false h]
theorem isEvent_shut (c : Int) : impl_IsBoardEvent ((ByteArray.mk #[115, 104, 117, 116]), c, ()) = some (decide (c = 0)) := by
  unfold impl_IsBoardEvent impl_boardCounts
  rw [contains_yes _ _ kinds_length (by simp only [List.mem_cons, true_or, or_true])]
  simp only [ne_shut_come, ne_shut_enter, ne_shut_leave, ne_shut_arrive, decide_false, cond_true, cond_false, Option.bind_some, within_eq]
  refine congrArg some ?_
  rw [Bool.eq_iff_iff, decide_eq_true_eq, decide_eq_true_eq]
  omega
theorem event_shut (c : Int) : spec_l14Event ((ByteArray.mk #[115, 104, 117, 116]), c, ()) = some (decide (c = 0)) := by
  unfold spec_l14Event spec_l14Most
  simp only [ne_shut_come, ne_shut_open, ne_shut_enter, ne_shut_leave, ne_shut_arrive, ne_shut_level, ne_shut_go, decide_true, decide_false, cond_true, cond_false, Option.bind_some, l1In_eq]
  by_cases h : c = 0
  · rw [cond_dt h, decide_eq_true h]
  · rw [cond_df h, cond_df (by omega), decide_eq_false h]
theorem isEvent_enter (c : Int) : impl_IsBoardEvent ((ByteArray.mk #[101, 110, 116, 101, 114]), c, ()) = some (decide (1 ≤ c ∧ c ≤ 16)) := by
  unfold impl_IsBoardEvent impl_boardCounts
  rw [contains_yes _ _ kinds_length (by simp only [List.mem_cons, true_or, or_true])]
  simp only [ne_enter_come, ne_enter_leave, ne_enter_arrive, decide_true, decide_false, cond_true, cond_false, Option.bind_some, within_eq]
theorem event_enter (c : Int) : spec_l14Event ((ByteArray.mk #[101, 110, 116, 101, 114]), c, ()) = some (decide (1 ≤ c ∧ c ≤ 16)) := by
  unfold spec_l14Event spec_l14Most
  simp only [ne_enter_come, ne_enter_open, ne_enter_shut, ne_enter_leave, ne_enter_arrive, ne_enter_level, ne_enter_go, decide_true, decide_false, cond_true, cond_false, Option.bind_some, l1In_eq]
  rw [cond_df (by omega), cond_dt (by omega)]
theorem isEvent_leave (c : Int) : impl_IsBoardEvent ((ByteArray.mk #[108, 101, 97, 118, 101]), c, ()) = some (decide (1 ≤ c ∧ c ≤ 16)) := by
  unfold impl_IsBoardEvent impl_boardCounts
  rw [contains_yes _ _ kinds_length (by simp only [List.mem_cons, true_or, or_true])]
  simp only [ne_leave_come, ne_leave_enter, ne_leave_arrive, decide_true, decide_false, cond_true, cond_false, Option.bind_some, within_eq]
theorem event_leave (c : Int) : spec_l14Event ((ByteArray.mk #[108, 101, 97, 118, 101]), c, ()) = some (decide (1 ≤ c ∧ c ≤ 16)) := by
  unfold spec_l14Event spec_l14Most
  simp only [ne_leave_come, ne_leave_open, ne_leave_shut, ne_leave_enter, ne_leave_arrive, ne_leave_level, ne_leave_go, decide_true, decide_false, cond_true, cond_false, Option.bind_some, l1In_eq]
  rw [cond_df (by omega), cond_dt (by omega)]
theorem isEvent_arrive (c : Int) : impl_IsBoardEvent ((ByteArray.mk #[97, 114, 114, 105, 118, 101]), c, ()) = some (decide (1 ≤ c ∧ c ≤ 100)) := by
  unfold impl_IsBoardEvent impl_boardCounts
  rw [contains_yes _ _ kinds_length (by simp only [List.mem_cons, true_or, or_true])]
  simp only [ne_arrive_come, ne_arrive_enter, ne_arrive_leave, decide_true, decide_false, cond_true, cond_false, Option.bind_some, within_eq]
theorem event_arrive (c : Int) : spec_l14Event ((ByteArray.mk #[97, 114, 114, 105, 118, 101]), c, ()) = some (decide (1 ≤ c ∧ c ≤ 100)) := by
  unfold spec_l14Event spec_l14Most
  simp only [ne_arrive_come, ne_arrive_open, ne_arrive_shut, ne_arrive_enter, ne_arrive_leave, ne_arrive_level, ne_arrive_go, decide_true, decide_false, cond_true, cond_false, Option.bind_some, l1In_eq]
  rw [cond_df (by omega), cond_dt (by omega)]
theorem isEvent_level (c : Int) : impl_IsBoardEvent ((ByteArray.mk #[108, 101, 118, 101, 108]), c, ()) = some (decide (c = 0)) := by
  unfold impl_IsBoardEvent impl_boardCounts
  rw [contains_yes _ _ kinds_length (by simp only [List.mem_cons, true_or, or_true])]
  simp only [ne_level_come, ne_level_enter, ne_level_leave, ne_level_arrive, decide_false, cond_true, cond_false, Option.bind_some, within_eq]
  refine congrArg some ?_
  rw [Bool.eq_iff_iff, decide_eq_true_eq, decide_eq_true_eq]
  omega
theorem event_level (c : Int) : spec_l14Event ((ByteArray.mk #[108, 101, 118, 101, 108]), c, ()) = some (decide (c = 0)) := by
  unfold spec_l14Event spec_l14Most
  simp only [ne_level_come, ne_level_open, ne_level_shut, ne_level_enter, ne_level_leave, ne_level_arrive, ne_level_go, decide_true, decide_false, cond_true, cond_false, Option.bind_some, l1In_eq]
  by_cases h : c = 0
  · rw [cond_dt h, decide_eq_true h]
  · rw [cond_df h, cond_df (by omega), decide_eq_false h]
theorem isEvent_go (c : Int) : impl_IsBoardEvent ((ByteArray.mk #[103, 111]), c, ()) = some (decide (c = 0)) := by
  unfold impl_IsBoardEvent impl_boardCounts
  rw [contains_yes _ _ kinds_length (by simp only [List.mem_cons, true_or, or_true])]
  simp only [ne_go_come, ne_go_enter, ne_go_leave, ne_go_arrive, decide_false, cond_true, cond_false, Option.bind_some, within_eq]
  refine congrArg some ?_
  rw [Bool.eq_iff_iff, decide_eq_true_eq, decide_eq_true_eq]
  omega
theorem event_go (c : Int) : spec_l14Event ((ByteArray.mk #[103, 111]), c, ()) = some (decide (c = 0)) := by
  unfold spec_l14Event spec_l14Most
  simp only [ne_go_come, ne_go_open, ne_go_shut, ne_go_enter, ne_go_leave, ne_go_arrive, ne_go_level, decide_true, decide_false, cond_true, cond_false, Option.bind_some, l1In_eq]
  by_cases h : c = 0
  · rw [cond_dt h, decide_eq_true h]
  · rw [cond_df h, cond_df (by omega), decide_eq_false h]
def ent (d s n w : Int) (l : Bool) : Int := if d = 1 then (if l = true then (if 1 < (if w < w64 (s - n) then w else w64 (s - n)) then 1 else (if w < w64 (s - n) then w else w64 (s - n))) else (if w < w64 (s - n) then w else w64 (s - n))) else 0
theorem entering_eq (d s n w g : Int) (l : Bool) : spec_l14Entering (d, s, n, w, l, g, ()) = some (ent d s n w l) := by
  unfold spec_l14Entering ent
  simp only [least_eq, Option.bind_some]
  by_cases h : d = 1
  · rw [cond_ndt h, if_pos h]
    cases l <;> rfl
  · rw [cond_ndf h, if_neg h]
theorem and_cond (a b : Bool) : cond a (some b) (some false) = some (a && b) := by cases a <;> rfl
theorem goodB_iff (d s n w g : Int) (l : Bool) : goodB (d, s, n, w, l, g, ()) = true ↔ ((0 ≤ d ∧ d ≤ 1) ∧ (0 ≤ s ∧ s ≤ 16) ∧ (0 ≤ n ∧ n ≤ s) ∧ (0 ≤ w ∧ w ≤ 500) ∧ (0 ≤ g ∧ g ≤ 9999) ∧ (0 < s ∨ d = 0)) := by
  unfold goodB; exact decide_eq_true_iff
theorem can_come (d s n w g : Int) (l : Bool) (c : Int) : spec_l14Can (d, s, n, w, l, g, ()) ((ByteArray.mk #[99, 111, 109, 101]), c, ()) = some (decide (s = 0)) := by
  unfold spec_l14Can
  simp only [ne_come_open, ne_come_shut, ne_come_enter, ne_come_leave, ne_come_arrive, ne_come_level, decide_true, decide_false, cond_true, cond_false]
theorem same_come (d s n w g : Int) (l : Bool) (c : Int) (h : goodB (d, s, n, w, l, g, ()) = true) (hE : (decide (1 ≤ c ∧ c ≤ 16)) = true) : (decide (s = 0) && goodB (d, c, n, w, l, g, ())) = decide (s = 0) := by
  have hE := of_decide_eq_true hE
  rw [goodB_iff] at h
  rw [Bool.eq_iff_iff]
  simp only [Bool.and_eq_true, decide_eq_true_eq, goodB_iff]
  omega
theorem step_come (d s n w g : Int) (l : Bool) (c : Int) (h : goodB (d, s, n, w, l, g, ()) = true) : impl_Platform_step (d, s, n, w, l, g, ()) ((ByteArray.mk #[99, 111, 109, 101]), c, ()) = some ((d, c, n, w, l, g, ()), decide (1 ≤ c ∧ c ≤ 16) && decide (s = 0)) ∧ spec_l14Step (d, s, n, w, l, g, ()) ((ByteArray.mk #[99, 111, 109, 101]), c, ()) = some (cond (decide (1 ≤ c ∧ c ≤ 16) && decide (s = 0)) (d, c, n, w, l, g, ()) zeroP, decide (1 ≤ c ∧ c ≤ 16) && decide (s = 0)) ∧ ((decide (1 ≤ c ∧ c ≤ 16) && decide (s = 0)) = true → goodB (d, c, n, w, l, g, ()) = true) := by
  have hs := same_come d s n w g l c h
  refine ⟨?_, ?_, fun hb => ?_⟩
  · unfold impl_Platform_step
    rw [isEvent_come]
    simp only [ne_come_open, ne_come_shut, ne_come_enter, ne_come_leave, ne_come_arrive, ne_come_level, ne_come_go, decide_true, decide_false, cond_true, cond_false, Option.bind_some, isPlat_eq]
    exact c2 hs
  · unfold spec_l14Step
    rw [event_come, can_come]
    simp only [ne_come_open, ne_come_shut, ne_come_enter, ne_come_leave, ne_come_arrive, ne_come_level, ne_come_go, decide_true, decide_false, cond_true, cond_false, Option.bind_some]
    exact s2 hs
  · rw [Bool.and_eq_true] at hb
    have := (hs hb.1).trans hb.2
    simp only [Bool.and_eq_true] at this
    exact this.2
theorem can_open (d s n w g : Int) (l : Bool) (c : Int) : spec_l14Can (d, s, n, w, l, g, ()) ((ByteArray.mk #[111, 112, 101, 110]), c, ()) = some ((decide (0 < s) && decide (d = 0))) := by
  unfold spec_l14Can
  simp only [ne_open_come, ne_open_shut, ne_open_enter, ne_open_leave, ne_open_arrive, ne_open_level, decide_true, decide_false, cond_true, cond_false]
  exact and_cond _ _
theorem same_open (d s n w g : Int) (l : Bool) (c : Int) (h : goodB (d, s, n, w, l, g, ()) = true) (hE : (decide (c = 0)) = true) : (decide (0 < s) && (decide (d = 0) && goodB ((1 : Int), s, n, w, l, g, ()))) = (decide (0 < s) && decide (d = 0)) := by
  have hE := of_decide_eq_true hE
  rw [goodB_iff] at h
  rw [Bool.eq_iff_iff]
  simp only [Bool.and_eq_true, decide_eq_true_eq, goodB_iff]
  omega
theorem step_open (d s n w g : Int) (l : Bool) (c : Int) (h : goodB (d, s, n, w, l, g, ()) = true) : impl_Platform_step (d, s, n, w, l, g, ()) ((ByteArray.mk #[111, 112, 101, 110]), c, ()) = some (((1 : Int), s, n, w, l, g, ()), decide (c = 0) && (decide (0 < s) && decide (d = 0))) ∧ spec_l14Step (d, s, n, w, l, g, ()) ((ByteArray.mk #[111, 112, 101, 110]), c, ()) = some (cond (decide (c = 0) && (decide (0 < s) && decide (d = 0))) ((1 : Int), s, n, w, l, g, ()) zeroP, decide (c = 0) && (decide (0 < s) && decide (d = 0))) ∧ ((decide (c = 0) && (decide (0 < s) && decide (d = 0))) = true → goodB ((1 : Int), s, n, w, l, g, ()) = true) := by
  have hs := same_open d s n w g l c h
  refine ⟨?_, ?_, fun hb => ?_⟩
  · unfold impl_Platform_step
    rw [isEvent_open]
    simp only [ne_open_come, ne_open_shut, ne_open_enter, ne_open_leave, ne_open_arrive, ne_open_level, ne_open_go, decide_true, decide_false, cond_true, cond_false, Option.bind_some, isPlat_eq]
    exact c3 hs
  · unfold spec_l14Step
    rw [event_open, can_open]
    simp only [ne_open_come, ne_open_shut, ne_open_enter, ne_open_leave, ne_open_arrive, ne_open_level, ne_open_go, decide_true, decide_false, cond_true, cond_false, Option.bind_some]
    exact s2 hs
  · rw [Bool.and_eq_true] at hb
    have := (hs hb.1).trans hb.2
    simp only [Bool.and_eq_true] at this
    exact this.2.2
theorem can_shut (d s n w g : Int) (l : Bool) (c : Int) : spec_l14Can (d, s, n, w, l, g, ()) ((ByteArray.mk #[115, 104, 117, 116]), c, ()) = some (decide (d = 1)) := by
  unfold spec_l14Can
  simp only [ne_shut_come, ne_shut_open, ne_shut_enter, ne_shut_leave, ne_shut_arrive, ne_shut_level, decide_true, decide_false, cond_true, cond_false]
theorem same_shut (d s n w g : Int) (l : Bool) (c : Int) (h : goodB (d, s, n, w, l, g, ()) = true) (hE : (decide (c = 0)) = true) : (decide (d = 1) && goodB ((0 : Int), s, n, w, l, g, ())) = decide (d = 1) := by
  have hE := of_decide_eq_true hE
  rw [goodB_iff] at h
  rw [Bool.eq_iff_iff]
  simp only [Bool.and_eq_true, decide_eq_true_eq, goodB_iff]
  omega
theorem step_shut (d s n w g : Int) (l : Bool) (c : Int) (h : goodB (d, s, n, w, l, g, ()) = true) : impl_Platform_step (d, s, n, w, l, g, ()) ((ByteArray.mk #[115, 104, 117, 116]), c, ()) = some (((0 : Int), s, n, w, l, g, ()), decide (c = 0) && decide (d = 1)) ∧ spec_l14Step (d, s, n, w, l, g, ()) ((ByteArray.mk #[115, 104, 117, 116]), c, ()) = some (cond (decide (c = 0) && decide (d = 1)) ((0 : Int), s, n, w, l, g, ()) zeroP, decide (c = 0) && decide (d = 1)) ∧ ((decide (c = 0) && decide (d = 1)) = true → goodB ((0 : Int), s, n, w, l, g, ()) = true) := by
  have hs := same_shut d s n w g l c h
  refine ⟨?_, ?_, fun hb => ?_⟩
  · unfold impl_Platform_step
    rw [isEvent_shut]
    simp only [ne_shut_come, ne_shut_open, ne_shut_enter, ne_shut_leave, ne_shut_arrive, ne_shut_level, ne_shut_go, decide_true, decide_false, cond_true, cond_false, Option.bind_some, isPlat_eq]
    exact c2 hs
  · unfold spec_l14Step
    rw [event_shut, can_shut]
    simp only [ne_shut_come, ne_shut_open, ne_shut_enter, ne_shut_leave, ne_shut_arrive, ne_shut_level, ne_shut_go, decide_true, decide_false, cond_true, cond_false, Option.bind_some]
    exact s2 hs
  · rw [Bool.and_eq_true] at hb
    have := (hs hb.1).trans hb.2
    simp only [Bool.and_eq_true] at this
    exact this.2
theorem can_enter (d s n w g : Int) (l : Bool) (c : Int) : spec_l14Can (d, s, n, w, l, g, ()) ((ByteArray.mk #[101, 110, 116, 101, 114]), c, ()) = some (decide (c ≤ ent d s n w l)) := by
  unfold spec_l14Can
  simp only [ne_enter_come, ne_enter_open, ne_enter_shut, ne_enter_leave, ne_enter_arrive, ne_enter_level, decide_true, decide_false, cond_true, cond_false]
  rw [entering_eq, Option.bind_some]
theorem same_enter (d s n w g : Int) (l : Bool) (c : Int) (h : goodB (d, s, n, w, l, g, ()) = true) (hE : (decide (1 ≤ c ∧ c ≤ 16)) = true) : (decide (d = 1) && ((!l || decide (c = 1)) && goodB (d, s, w64 (n + c), w64 (w - c), false, g, ()))) = decide (c ≤ ent d s n w l) := by
  have hE := of_decide_eq_true hE
  rw [goodB_iff] at h
  have e1 : w64 (n + c) = n + c := w64_id (by omega) (by omega)
  have e2 : w64 (w - c) = w - c := w64_id (by omega) (by omega)
  have e3 : w64 (s - n) = s - n := w64_id (by omega) (by omega)
  unfold ent
  rw [e1, e2, e3]
  cases l
  all_goals
    rw [Bool.eq_iff_iff]
    simp only [Bool.and_eq_true, Bool.or_eq_true, decide_eq_true_eq, goodB_iff, Bool.not_true, Bool.not_false, true_and, Bool.false_eq_true, if_true, if_false, false_or, true_or]
    try split
    all_goals (try split)
    all_goals (try split)
    all_goals omega
theorem step_enter (d s n w g : Int) (l : Bool) (c : Int) (h : goodB (d, s, n, w, l, g, ()) = true) : impl_Platform_step (d, s, n, w, l, g, ()) ((ByteArray.mk #[101, 110, 116, 101, 114]), c, ()) = some ((d, s, w64 (n + c), w64 (w - c), false, g, ()), decide (1 ≤ c ∧ c ≤ 16) && decide (c ≤ ent d s n w l)) ∧ spec_l14Step (d, s, n, w, l, g, ()) ((ByteArray.mk #[101, 110, 116, 101, 114]), c, ()) = some (cond (decide (1 ≤ c ∧ c ≤ 16) && decide (c ≤ ent d s n w l)) (d, s, w64 (n + c), w64 (w - c), false, g, ()) zeroP, decide (1 ≤ c ∧ c ≤ 16) && decide (c ≤ ent d s n w l)) ∧ ((decide (1 ≤ c ∧ c ≤ 16) && decide (c ≤ ent d s n w l)) = true → goodB (d, s, w64 (n + c), w64 (w - c), false, g, ()) = true) := by
  have hs := same_enter d s n w g l c h
  refine ⟨?_, ?_, fun hb => ?_⟩
  · unfold impl_Platform_step
    rw [isEvent_enter]
    simp only [ne_enter_come, ne_enter_open, ne_enter_shut, ne_enter_leave, ne_enter_arrive, ne_enter_level, ne_enter_go, decide_true, decide_false, cond_true, cond_false, Option.bind_some, isPlat_eq]
    refine Eq.trans ?_ (c3 (B := (!l || decide (c = 1))) hs)
    cases l <;> cases decide (c = 1) <;> rfl
  · unfold spec_l14Step
    rw [event_enter, can_enter]
    simp only [ne_enter_come, ne_enter_open, ne_enter_shut, ne_enter_leave, ne_enter_arrive, ne_enter_level, ne_enter_go, decide_true, decide_false, cond_true, cond_false, Option.bind_some]
    exact s2 hs
  · rw [Bool.and_eq_true] at hb
    have := (hs hb.1).trans hb.2
    simp only [Bool.and_eq_true] at this
    exact this.2.2
theorem can_leave (d s n w g : Int) (l : Bool) (c : Int) : spec_l14Can (d, s, n, w, l, g, ()) ((ByteArray.mk #[108, 101, 97, 118, 101]), c, ()) = some ((decide (d = 1) && decide (c ≤ n))) := by
  unfold spec_l14Can
  simp only [ne_leave_come, ne_leave_open, ne_leave_shut, ne_leave_enter, ne_leave_arrive, ne_leave_level, decide_true, decide_false, cond_true, cond_false]
  exact and_cond _ _
theorem same_leave (d s n w g : Int) (l : Bool) (c : Int) (h : goodB (d, s, n, w, l, g, ()) = true) (hE : (decide (1 ≤ c ∧ c ≤ 16)) = true) : (decide (d = 1) && goodB (d, s, w64 (n - c), w, l, g, ())) = (decide (d = 1) && decide (c ≤ n)) := by
  have hE := of_decide_eq_true hE
  rw [goodB_iff] at h
  have e1 : w64 (n - c) = n - c := w64_id (by omega) (by omega)
  rw [e1]
  rw [Bool.eq_iff_iff]
  simp only [Bool.and_eq_true, decide_eq_true_eq, goodB_iff]
  omega
theorem step_leave (d s n w g : Int) (l : Bool) (c : Int) (h : goodB (d, s, n, w, l, g, ()) = true) : impl_Platform_step (d, s, n, w, l, g, ()) ((ByteArray.mk #[108, 101, 97, 118, 101]), c, ()) = some ((d, s, w64 (n - c), w, l, g, ()), decide (1 ≤ c ∧ c ≤ 16) && (decide (d = 1) && decide (c ≤ n))) ∧ spec_l14Step (d, s, n, w, l, g, ()) ((ByteArray.mk #[108, 101, 97, 118, 101]), c, ()) = some (cond (decide (1 ≤ c ∧ c ≤ 16) && (decide (d = 1) && decide (c ≤ n))) (d, s, w64 (n - c), w, l, g, ()) zeroP, decide (1 ≤ c ∧ c ≤ 16) && (decide (d = 1) && decide (c ≤ n))) ∧ ((decide (1 ≤ c ∧ c ≤ 16) && (decide (d = 1) && decide (c ≤ n))) = true → goodB (d, s, w64 (n - c), w, l, g, ()) = true) := by
  have hs := same_leave d s n w g l c h
  refine ⟨?_, ?_, fun hb => ?_⟩
  · unfold impl_Platform_step
    rw [isEvent_leave]
    simp only [ne_leave_come, ne_leave_open, ne_leave_shut, ne_leave_enter, ne_leave_arrive, ne_leave_level, ne_leave_go, decide_true, decide_false, cond_true, cond_false, Option.bind_some, isPlat_eq]
    exact c2 hs
  · unfold spec_l14Step
    rw [event_leave, can_leave]
    simp only [ne_leave_come, ne_leave_open, ne_leave_shut, ne_leave_enter, ne_leave_arrive, ne_leave_level, ne_leave_go, decide_true, decide_false, cond_true, cond_false, Option.bind_some]
    exact s2 hs
  · rw [Bool.and_eq_true] at hb
    have := (hs hb.1).trans hb.2
    simp only [Bool.and_eq_true] at this
    exact this.2
theorem can_arrive (d s n w g : Int) (l : Bool) (c : Int) : spec_l14Can (d, s, n, w, l, g, ()) ((ByteArray.mk #[97, 114, 114, 105, 118, 101]), c, ()) = some (decide (w64 (w + c) ≤ 500)) := by
  unfold spec_l14Can
  simp only [ne_arrive_come, ne_arrive_open, ne_arrive_shut, ne_arrive_enter, ne_arrive_leave, ne_arrive_level, decide_true, decide_false, cond_true, cond_false]
theorem same_arrive (d s n w g : Int) (l : Bool) (c : Int) (h : goodB (d, s, n, w, l, g, ()) = true) (hE : (decide (1 ≤ c ∧ c ≤ 100)) = true) : goodB (d, s, n, w64 (w + c), l, g, ()) = decide (w64 (w + c) ≤ 500) := by
  have hE := of_decide_eq_true hE
  rw [goodB_iff] at h
  have e1 : w64 (w + c) = w + c := w64_id (by omega) (by omega)
  rw [e1]
  rw [Bool.eq_iff_iff]
  simp only [decide_eq_true_eq, goodB_iff]
  omega
theorem step_arrive (d s n w g : Int) (l : Bool) (c : Int) (h : goodB (d, s, n, w, l, g, ()) = true) : impl_Platform_step (d, s, n, w, l, g, ()) ((ByteArray.mk #[97, 114, 114, 105, 118, 101]), c, ()) = some ((d, s, n, w64 (w + c), l, g, ()), decide (1 ≤ c ∧ c ≤ 100) && decide (w64 (w + c) ≤ 500)) ∧ spec_l14Step (d, s, n, w, l, g, ()) ((ByteArray.mk #[97, 114, 114, 105, 118, 101]), c, ()) = some (cond (decide (1 ≤ c ∧ c ≤ 100) && decide (w64 (w + c) ≤ 500)) (d, s, n, w64 (w + c), l, g, ()) zeroP, decide (1 ≤ c ∧ c ≤ 100) && decide (w64 (w + c) ≤ 500)) ∧ ((decide (1 ≤ c ∧ c ≤ 100) && decide (w64 (w + c) ≤ 500)) = true → goodB (d, s, n, w64 (w + c), l, g, ()) = true) := by
  have hs := same_arrive d s n w g l c h
  refine ⟨?_, ?_, fun hb => ?_⟩
  · unfold impl_Platform_step
    rw [isEvent_arrive]
    simp only [ne_arrive_come, ne_arrive_open, ne_arrive_shut, ne_arrive_enter, ne_arrive_leave, ne_arrive_level, ne_arrive_go, decide_true, decide_false, cond_true, cond_false, Option.bind_some, isPlat_eq]
    exact c1 hs
  · unfold spec_l14Step
    rw [event_arrive, can_arrive]
    simp only [ne_arrive_come, ne_arrive_open, ne_arrive_shut, ne_arrive_enter, ne_arrive_leave, ne_arrive_level, ne_arrive_go, decide_true, decide_false, cond_true, cond_false, Option.bind_some]
    exact s2 hs
  · rw [Bool.and_eq_true] at hb
    have := (hs hb.1).trans hb.2
    exact this
theorem can_level (d s n w g : Int) (l : Bool) (c : Int) : spec_l14Can (d, s, n, w, l, g, ()) ((ByteArray.mk #[108, 101, 118, 101, 108]), c, ()) = some ((!l && decide (0 < w))) := by
  unfold spec_l14Can
  simp only [ne_level_come, ne_level_open, ne_level_shut, ne_level_enter, ne_level_leave, ne_level_arrive, decide_true, decide_false, cond_true, cond_false]
  exact and_cond _ _
theorem same_level (d s n w g : Int) (l : Bool) (c : Int) (h : goodB (d, s, n, w, l, g, ()) = true) (hE : (decide (c = 0)) = true) : (!l && (decide (0 < w) && goodB (d, s, n, w, true, g, ()))) = (!l && decide (0 < w)) := by
  have hE := of_decide_eq_true hE
  rw [goodB_iff] at h
  cases l
  all_goals
    rw [Bool.eq_iff_iff]
    simp only [Bool.and_eq_true, decide_eq_true_eq, goodB_iff, Bool.not_true, Bool.not_false, true_and, false_and, Bool.false_eq_true]
    try split
    all_goals (try split)
    all_goals (try split)
    all_goals omega
theorem step_level (d s n w g : Int) (l : Bool) (c : Int) (h : goodB (d, s, n, w, l, g, ()) = true) : impl_Platform_step (d, s, n, w, l, g, ()) ((ByteArray.mk #[108, 101, 118, 101, 108]), c, ()) = some ((d, s, n, w, true, g, ()), decide (c = 0) && (!l && decide (0 < w))) ∧ spec_l14Step (d, s, n, w, l, g, ()) ((ByteArray.mk #[108, 101, 118, 101, 108]), c, ()) = some (cond (decide (c = 0) && (!l && decide (0 < w))) (d, s, n, w, true, g, ()) zeroP, decide (c = 0) && (!l && decide (0 < w))) ∧ ((decide (c = 0) && (!l && decide (0 < w))) = true → goodB (d, s, n, w, true, g, ()) = true) := by
  have hs := same_level d s n w g l c h
  refine ⟨?_, ?_, fun hb => ?_⟩
  · unfold impl_Platform_step
    rw [isEvent_level]
    simp only [ne_level_come, ne_level_open, ne_level_shut, ne_level_enter, ne_level_leave, ne_level_arrive, ne_level_go, decide_true, decide_false, cond_true, cond_false, Option.bind_some, isPlat_eq]
    exact c3 hs
  · unfold spec_l14Step
    rw [event_level, can_level]
    simp only [ne_level_come, ne_level_open, ne_level_shut, ne_level_enter, ne_level_leave, ne_level_arrive, ne_level_go, decide_true, decide_false, cond_true, cond_false, Option.bind_some]
    exact s2 hs
  · rw [Bool.and_eq_true] at hb
    have := (hs hb.1).trans hb.2
    simp only [Bool.and_eq_true] at this
    exact this.2.2
theorem can_go (d s n w g : Int) (l : Bool) (c : Int) : spec_l14Can (d, s, n, w, l, g, ()) ((ByteArray.mk #[103, 111]), c, ()) = some ((decide (0 < s) && (decide (d = 0) && decide (g < 9999)))) := by
  unfold spec_l14Can
  simp only [ne_go_come, ne_go_open, ne_go_shut, ne_go_enter, ne_go_leave, ne_go_arrive, ne_go_level, decide_false, cond_false]
  rw [and_cond, and_cond]
theorem same_go (d s n w g : Int) (l : Bool) (c : Int) (h : goodB (d, s, n, w, l, g, ()) = true) (hE : (decide (c = 0)) = true) : (decide (0 < s) && (decide (d = 0) && goodB (d, (0 : Int), (0 : Int), w, l, w64 (g + 1), ()))) = (decide (0 < s) && (decide (d = 0) && decide (g < 9999))) := by
  have hE := of_decide_eq_true hE
  rw [goodB_iff] at h
  have e1 : w64 (g + 1) = g + 1 := w64_id (by omega) (by omega)
  rw [e1]
  rw [Bool.eq_iff_iff]
  simp only [Bool.and_eq_true, decide_eq_true_eq, goodB_iff]
  omega
theorem step_go (d s n w g : Int) (l : Bool) (c : Int) (h : goodB (d, s, n, w, l, g, ()) = true) : impl_Platform_step (d, s, n, w, l, g, ()) ((ByteArray.mk #[103, 111]), c, ()) = some ((d, (0 : Int), (0 : Int), w, l, w64 (g + 1), ()), decide (c = 0) && (decide (0 < s) && (decide (d = 0) && decide (g < 9999)))) ∧ spec_l14Step (d, s, n, w, l, g, ()) ((ByteArray.mk #[103, 111]), c, ()) = some (cond (decide (c = 0) && (decide (0 < s) && (decide (d = 0) && decide (g < 9999)))) (d, (0 : Int), (0 : Int), w, l, w64 (g + 1), ()) zeroP, decide (c = 0) && (decide (0 < s) && (decide (d = 0) && decide (g < 9999)))) ∧ ((decide (c = 0) && (decide (0 < s) && (decide (d = 0) && decide (g < 9999)))) = true → goodB (d, (0 : Int), (0 : Int), w, l, w64 (g + 1), ()) = true) := by
  have hs := same_go d s n w g l c h
  refine ⟨?_, ?_, fun hb => ?_⟩
  · unfold impl_Platform_step
    rw [isEvent_go]
    simp only [ne_go_come, ne_go_open, ne_go_shut, ne_go_enter, ne_go_leave, ne_go_arrive, ne_go_level, decide_true, decide_false, cond_true, cond_false, Option.bind_some, isPlat_eq]
    exact c3 hs
  · unfold spec_l14Step
    rw [event_go, can_go]
    simp only [ne_go_come, ne_go_open, ne_go_shut, ne_go_enter, ne_go_leave, ne_go_arrive, ne_go_level, decide_true, decide_false, cond_true, cond_false, Option.bind_some]
    exact s2 hs
  · rw [Bool.and_eq_true] at hb
    have := (hs hb.1).trans hb.2
    simp only [Bool.and_eq_true] at this
    exact this.2.2
theorem isEvent_other (k : ByteArray) (c : Int) (h : k ∉ ([(ByteArray.mk #[99, 111, 109, 101]), (ByteArray.mk #[111, 112, 101, 110]), (ByteArray.mk #[115, 104, 117, 116]), (ByteArray.mk #[101, 110, 116, 101, 114]), (ByteArray.mk #[108, 101, 97, 118, 101]), (ByteArray.mk #[97, 114, 114, 105, 118, 101]), (ByteArray.mk #[108, 101, 118, 101, 108]), (ByteArray.mk #[103, 111])] : List ByteArray)) : impl_IsBoardEvent (k, c, ()) = some false := by
  unfold impl_IsBoardEvent
  have e : ∃ y, impl_boardCounts k = some y := by
    unfold impl_boardCounts
    simp only [Bool.cond_eq_ite]
    repeat' split
    all_goals exact ⟨_, rfl⟩
  obtain ⟨y, e⟩ := e
  rw [e, Option.bind_some, contains_no _ _ kinds_length h]
  rfl
theorem most_other (k : ByteArray) (h : k ∉ ([(ByteArray.mk #[99, 111, 109, 101]), (ByteArray.mk #[111, 112, 101, 110]), (ByteArray.mk #[115, 104, 117, 116]), (ByteArray.mk #[101, 110, 116, 101, 114]), (ByteArray.mk #[108, 101, 97, 118, 101]), (ByteArray.mk #[97, 114, 114, 105, 118, 101]), (ByteArray.mk #[108, 101, 118, 101, 108]), (ByteArray.mk #[103, 111])] : List ByteArray)) : spec_l14Most k = some (-1) := by
  simp only [List.mem_cons, List.not_mem_nil, or_false, not_or] at h
  obtain ⟨h1, h2, h3, h4, h5, h6, h7, h8⟩ := h
  unfold spec_l14Most
  rw [cond_df h1, cond_df h4, cond_df h5, cond_df h6, cond_df h2, cond_df h3, cond_df h7, cond_df h8]
theorem event_other (k : ByteArray) (c : Int) (h : k ∉ ([(ByteArray.mk #[99, 111, 109, 101]), (ByteArray.mk #[111, 112, 101, 110]), (ByteArray.mk #[115, 104, 117, 116]), (ByteArray.mk #[101, 110, 116, 101, 114]), (ByteArray.mk #[108, 101, 97, 118, 101]), (ByteArray.mk #[97, 114, 114, 105, 118, 101]), (ByteArray.mk #[108, 101, 118, 101, 108]), (ByteArray.mk #[103, 111])] : List ByteArray)) : spec_l14Event (k, c, ()) = some false := by
  unfold spec_l14Event
  rw [most_other k h, Option.bind_some, cond_df (by omega), cond_df (by omega)]
/-- What a step of either kind brings about. -/
structure StepR (p : Platform) (e : BoardEvent) (q : Platform) (b : Bool) : Prop where
  impl : impl_Platform_step p e = some (q, b)
  spec : spec_l14Step p e = some (cond b q zeroP, b)
  good : b = true → goodB q = true
theorem stepR (p : Platform) (e : BoardEvent) (h : goodB p = true) : ∃ q b, StepR p e q b := by
  obtain ⟨d, s, n, w, l, g, u⟩ := p
  obtain ⟨k, c, v⟩ := e
  by_cases hk : k ∈ ([(ByteArray.mk #[99, 111, 109, 101]), (ByteArray.mk #[111, 112, 101, 110]), (ByteArray.mk #[115, 104, 117, 116]), (ByteArray.mk #[101, 110, 116, 101, 114]), (ByteArray.mk #[108, 101, 97, 118, 101]), (ByteArray.mk #[97, 114, 114, 105, 118, 101]), (ByteArray.mk #[108, 101, 118, 101, 108]), (ByteArray.mk #[103, 111])] : List ByteArray)
  · simp only [List.mem_cons, List.not_mem_nil, or_false] at hk
    rcases hk with rfl | rfl | rfl | rfl | rfl | rfl | rfl | rfl
    · obtain ⟨e1, e2, e3⟩ := step_come d s n w g l c h
      exact ⟨_, _, e1, e2, e3⟩
    · obtain ⟨e1, e2, e3⟩ := step_open d s n w g l c h
      exact ⟨_, _, e1, e2, e3⟩
    · obtain ⟨e1, e2, e3⟩ := step_shut d s n w g l c h
      exact ⟨_, _, e1, e2, e3⟩
    · obtain ⟨e1, e2, e3⟩ := step_enter d s n w g l c h
      exact ⟨_, _, e1, e2, e3⟩
    · obtain ⟨e1, e2, e3⟩ := step_leave d s n w g l c h
      exact ⟨_, _, e1, e2, e3⟩
    · obtain ⟨e1, e2, e3⟩ := step_arrive d s n w g l c h
      exact ⟨_, _, e1, e2, e3⟩
    · obtain ⟨e1, e2, e3⟩ := step_level d s n w g l c h
      exact ⟨_, _, e1, e2, e3⟩
    · obtain ⟨e1, e2, e3⟩ := step_go d s n w g l c h
      exact ⟨_, _, e1, e2, e3⟩
  · refine ⟨(impl_Platform_step (d, s, n, w, l, g, ()) (k, c, ())).elim zeroP (·.1), false, ?_, ?_, fun hb => by cases hb⟩
    · have hk2 := hk
      simp only [List.mem_cons, List.not_mem_nil, or_false, not_or] at hk2
      obtain ⟨h1, h2, h3, h4, h5, h6, h7, h8⟩ := hk2
      have e : impl_Platform_step (d, s, n, w, l, g, ()) (k, c, ()) = some ((d, s, n, w, l, g, ()), false) := by
        unfold impl_Platform_step
        rw [isEvent_other k c hk, Option.bind_some, cond_df h1, cond_df h2, cond_df h3, cond_df h4, cond_df h5, cond_df h6, cond_df h7, cond_df h8]
        rfl
      rw [e]; rfl
    · unfold spec_l14Step
      rw [event_other k c hk]
      rfl
theorem p_eta (p : Platform) : ((p.1, p.2.1, p.2.2.1, p.2.2.2.1, p.2.2.2.2.1, p.2.2.2.2.2.1, ()) : Platform) = p := rfl
theorem e_eta (e : BoardEvent) : ((e.1, e.2.1, ()) : BoardEvent) = e := rfl
theorem toP_eq (p : Platform) : laws_toPlatform p = some p := rfl
theorem iter_tot {S R : Type} {f : S → Option (Lp S R)} (I : Nat → S → Prop) (Q : R → Prop) (n : Nat)
    (h : ∀ k s, k < n → I k s → (∃ s', f s = some (.go s') ∧ I (k + 1) s') ∨ ∃ r, f s = some (.out r) ∧ Q r)
    (h' : ∀ s, I n s → ∃ r, f s = some (.out r) ∧ Q r) {s : S} (h0 : I 0 s) : ∃ r, iter f s = some r ∧ Q r := by
  have key : ∀ d k s, k + d = n → I k s → ∃ r, iter f s = some r ∧ Q r := by
    intro d
    induction d with
    | zero =>
      intro k s hk hI
      obtain rfl : k = n := by omega
      obtain ⟨r, a, q⟩ := h' s hI
      exact ⟨r, iter_out a, q⟩
    | succ d ih =>
      intro k s hk hI
      rcases h k s (by omega) hI with ⟨s', a, hI'⟩ | ⟨r, a, q⟩
      · obtain ⟨r, e, q⟩ := ih (k + 1) s' (by omega) hI'
        exact ⟨r, (iter_go a).trans e, q⟩
      · exact ⟨r, iter_out a, q⟩
  exact key n 0 s (by omega) h0
theorem eqE_eq (e : BoardEvent) : laws_eqBoardEvent e e = some true := by
  unfold laws_eqBoardEvent
  simp only [decide_true, Bool.not_true, cond_false]
theorem eqEs_eq (l : List BoardEvent) (h : l.length ≤ 1048576) : laws_eqBoardEventS l l = some true := by
  unfold laws_eqBoardEventS
  rw [cond_ndt rfl]
  have H : iter (fun s => laws_eqBoardEventS_loop1 l l s) (0 : Int) = some (Sum.inr ()) :=
    iter_for l.length (fun k => (k : Int)) (fun k hk => by
      show laws_eqBoardEventS_loop1 l l (k : Int) = _
      unfold laws_eqBoardEventS_loop1
      rw [cond_dt (by omega), grd_pos (by omega), grd_pos (by omega), e_eta, eqE_eq, w64_nat (by omega)]
      rfl) (by
      show laws_eqBoardEventS_loop1 l l (l.length : Int) = _
      unfold laws_eqBoardEventS_loop1
      rw [cond_df (by omega)]) rfl
  rw [H]; rfl
/-- Running: what is reached, how many events, and each step on the way. -/
noncomputable def runP : List BoardEvent → Platform → Platform × Nat
  | [], p => (p, 0)
  | e :: es, p => match (impl_Platform_step p e).elim (zeroP, false) id with
    | (q, true) => ((runP es q).1, (runP es q).2 + 1)
    | (_, false) => (p, 0)
theorem runP_nil (p : Platform) : runP [] p = (p, 0) := rfl
theorem runP_yes {p q : Platform} {e : BoardEvent} (es : List BoardEvent) (h : StepR p e q true) : runP (e :: es) p = ((runP es q).1, (runP es q).2 + 1) := by
  simp only [runP, h.impl, Option.elim_some, id_eq]
theorem runP_no {p q : Platform} {e : BoardEvent} (es : List BoardEvent) (h : StepR p e q false) : runP (e :: es) p = (p, 0) := by
  simp only [runP, h.impl, Option.elim_some, id_eq]
theorem runP_le : ∀ (es : List BoardEvent) (p : Platform), goodB p = true → (runP es p).2 ≤ es.length ∧ goodB (runP es p).1 = true
  | [], p, h => ⟨Nat.le_refl _, h⟩
  | e :: es, p, h => by
    obtain ⟨q, b, hs⟩ := stepR p e h
    cases b with
    | false => rw [runP_no es hs]; exact ⟨Nat.zero_le _, h⟩
    | true =>
      rw [runP_yes es hs]
      obtain ⟨h1, h2⟩ := runP_le es q (hs.good rfl)
      exact ⟨by simp only [List.length_cons]; omega, h2⟩
theorem kind_ok (p : Platform) (hg : goodB p = true) (k : ByteArray) (hk : k ∈ ([(ByteArray.mk #[99, 111, 109, 101]), (ByteArray.mk #[111, 112, 101, 110]), (ByteArray.mk #[115, 104, 117, 116]), (ByteArray.mk #[101, 110, 116, 101, 114]), (ByteArray.mk #[108, 101, 97, 118, 101]), (ByteArray.mk #[97, 114, 114, 105, 118, 101]), (ByteArray.mk #[108, 101, 118, 101, 108]), (ByteArray.mk #[103, 111])] : List ByteArray)) :
    ∃ m lo hi C q, spec_l14Most k = some m ∧ spec_l1Least 1 m = some lo ∧ impl_boardCounts k = some (lo, hi) ∧ spec_l14Can p (k, lo, ()) = some C ∧ impl_Platform_step p (k, lo, ()) = some (q, C) := by
  obtain ⟨d, s, n, w, l, g, u⟩ := p
  simp only [List.mem_cons, List.not_mem_nil, or_false] at hk
  rcases hk with rfl | rfl | rfl | rfl | rfl | rfl | rfl | rfl
  · have st := (step_come d s n w g l 1 hg).1
    rw [show (decide (1 ≤ (1 : Int) ∧ (1 : Int) ≤ 16)) = true by decide, Bool.true_and] at st
    refine ⟨16, 1, 16, _, _, ?_, least_eq 1 16, ?_, can_come d s n w g l 1, st⟩
    · unfold spec_l14Most
      simp only [ne_come_open, ne_come_shut, ne_come_enter, ne_come_leave, ne_come_arrive, ne_come_level, ne_come_go, decide_true, decide_false, cond_true, cond_false]
    · unfold impl_boardCounts
      simp only [ne_come_enter, ne_come_leave, ne_come_arrive, decide_true, decide_false, cond_true, cond_false]
  · have st := (step_open d s n w g l 0 hg).1
    rw [show (decide ((0 : Int) = 0)) = true by decide, Bool.true_and] at st
    refine ⟨0, 0, 0, _, _, ?_, least_eq 1 0, ?_, can_open d s n w g l 0, st⟩
    · unfold spec_l14Most
      simp only [ne_open_come, ne_open_shut, ne_open_enter, ne_open_leave, ne_open_arrive, ne_open_level, ne_open_go, decide_true, decide_false, cond_true, cond_false]
    · unfold impl_boardCounts
      simp only [ne_open_come, ne_open_enter, ne_open_leave, ne_open_arrive, decide_false, cond_false]
  · have st := (step_shut d s n w g l 0 hg).1
    rw [show (decide ((0 : Int) = 0)) = true by decide, Bool.true_and] at st
    refine ⟨0, 0, 0, _, _, ?_, least_eq 1 0, ?_, can_shut d s n w g l 0, st⟩
    · unfold spec_l14Most
      simp only [ne_shut_come, ne_shut_open, ne_shut_enter, ne_shut_leave, ne_shut_arrive, ne_shut_level, ne_shut_go, decide_true, decide_false, cond_true, cond_false]
    · unfold impl_boardCounts
      simp only [ne_shut_come, ne_shut_enter, ne_shut_leave, ne_shut_arrive, decide_false, cond_false]
  · have st := (step_enter d s n w g l 1 hg).1
    rw [show (decide (1 ≤ (1 : Int) ∧ (1 : Int) ≤ 16)) = true by decide, Bool.true_and] at st
    refine ⟨16, 1, 16, _, _, ?_, least_eq 1 16, ?_, can_enter d s n w g l 1, st⟩
    · unfold spec_l14Most
      simp only [ne_enter_come, ne_enter_open, ne_enter_shut, ne_enter_leave, ne_enter_arrive, ne_enter_level, ne_enter_go, decide_true, decide_false, cond_true, cond_false]
    · unfold impl_boardCounts
      simp only [ne_enter_come, ne_enter_leave, ne_enter_arrive, decide_true, decide_false, cond_true, cond_false]
  · have st := (step_leave d s n w g l 1 hg).1
    rw [show (decide (1 ≤ (1 : Int) ∧ (1 : Int) ≤ 16)) = true by decide, Bool.true_and] at st
    refine ⟨16, 1, 16, _, _, ?_, least_eq 1 16, ?_, can_leave d s n w g l 1, st⟩
    · unfold spec_l14Most
      simp only [ne_leave_come, ne_leave_open, ne_leave_shut, ne_leave_enter, ne_leave_arrive, ne_leave_level, ne_leave_go, decide_true, decide_false, cond_true, cond_false]
    · unfold impl_boardCounts
      simp only [ne_leave_come, ne_leave_enter, ne_leave_arrive, decide_true, decide_false, cond_true, cond_false]
  · have st := (step_arrive d s n w g l 1 hg).1
    rw [show (decide (1 ≤ (1 : Int) ∧ (1 : Int) ≤ 100)) = true by decide, Bool.true_and] at st
    refine ⟨100, 1, 100, _, _, ?_, least_eq 1 100, ?_, can_arrive d s n w g l 1, st⟩
    · unfold spec_l14Most
      simp only [ne_arrive_come, ne_arrive_open, ne_arrive_shut, ne_arrive_enter, ne_arrive_leave, ne_arrive_level, ne_arrive_go, decide_true, decide_false, cond_true, cond_false]
    · unfold impl_boardCounts
      simp only [ne_arrive_come, ne_arrive_enter, ne_arrive_leave, decide_true, decide_false, cond_true, cond_false]
  · have st := (step_level d s n w g l 0 hg).1
    rw [show (decide ((0 : Int) = 0)) = true by decide, Bool.true_and] at st
    refine ⟨0, 0, 0, _, _, ?_, least_eq 1 0, ?_, can_level d s n w g l 0, st⟩
    · unfold spec_l14Most
      simp only [ne_level_come, ne_level_open, ne_level_shut, ne_level_enter, ne_level_leave, ne_level_arrive, ne_level_go, decide_true, decide_false, cond_true, cond_false]
    · unfold impl_boardCounts
      simp only [ne_level_come, ne_level_enter, ne_level_leave, ne_level_arrive, decide_false, cond_false]
  · have st := (step_go d s n w g l 0 hg).1
    rw [show (decide ((0 : Int) = 0)) = true by decide, Bool.true_and] at st
    refine ⟨0, 0, 0, _, _, ?_, least_eq 1 0, ?_, can_go d s n w g l 0, st⟩
    · unfold spec_l14Most
      simp only [ne_go_come, ne_go_open, ne_go_shut, ne_go_enter, ne_go_leave, ne_go_arrive, ne_go_level, decide_true, decide_false, cond_true, cond_false]
    · unfold impl_boardCounts
      simp only [ne_go_come, ne_go_enter, ne_go_leave, ne_go_arrive, decide_false, cond_false]
theorem markText_iter : ∀ (n : Nat) (k : Int) (v : ByteArray), 0 ≤ k → k < 10 ^ n → n ≤ 18 → v.size + n ≤ 1000 → ∃ r, iter (fun s => laws_markText_loop1 s.1 s.2) (k, v) = some r ∧ r.size ≤ 1000
  | 0, k, v, h0, h1, _, h2 => by
    obtain rfl : k = 0 := by simp at h1; omega
    refine ⟨v, iter_out ?_, by omega⟩
    show laws_markText_loop1 0 v = _
    unfold laws_markText_loop1
    rw [cond_df (by omega)]
  | n + 1, k, v, h0, h1, h3, h2 => by
    by_cases hk : 0 < k
    · have hq : w64 (Int.tdiv k 10) = k / 10 := by
        have e : Int.tdiv k 10 = k / 10 := Int.tdiv_eq_ediv_of_nonneg h0
        have hp : (10 : Int) ^ (n + 1) ≤ 10 ^ 18 := by
          have : (10 : Nat) ^ (n + 1) ≤ 10 ^ 18 := Nat.pow_le_pow_right (by omega) h3
          exact_mod_cast this
        have : (10 : Int) ^ 18 = 1000000000000000000 := by decide
        rw [e, w64_id (by omega) (by omega)]
      have hs : (strOfN [wu8 (w64 (48 + Int.tmod k 10))] ++ v).size = v.size + 1 := by
        rw [ByteArray.size_append]
        have : (strOfN [wu8 (w64 (48 + Int.tmod k 10))]).size = 1 := rfl
        omega
      obtain ⟨r, e, hr⟩ := markText_iter n (k / 10) (strOfN [wu8 (w64 (48 + Int.tmod k 10))] ++ v) (by omega) (by rw [Int.pow_succ] at h1; omega) (by omega) (by omega)
      refine ⟨r, (iter_go ?_).trans e, hr⟩
      show laws_markText_loop1 k v = _
      unfold laws_markText_loop1
      have : (strOfN [wu8 (w64 (48 + Int.tmod k 10))]).size = 1 := rfl
      rw [cond_dt hk, grd_pos (by omega), grd_pos (by omega), grd_pos (by omega), hq]
    · refine ⟨v, iter_out ?_, by omega⟩
      show laws_markText_loop1 k v = _
      unfold laws_markText_loop1
      rw [cond_df hk]
theorem markText_ex (k : Int) (h0 : 0 ≤ k) (h1 : k ≤ 1000000000) : ∃ t, laws_markText k = some t := by
  unfold laws_markText
  by_cases h : k ≤ 0
  · rw [cond_dt h]; exact ⟨_, rfl⟩
  · rw [cond_df h]
    obtain ⟨r, e, hr⟩ := markText_iter 10 k (ByteArray.mk #[]) h0 (by omega) (by omega) (by decide)
    have : (ByteArray.mk #[109]).size = 1 := rfl
    rw [e, Option.bind_some, grd_pos (by omega)]
    exact ⟨_, rfl⟩
/-- The text of a mark. -/
noncomputable def mt (i : Nat) : ByteArray := (laws_markText (1 + (i : Int))).getD (ByteArray.mk #[])
theorem mt_eq (i : Nat) (h : i ≤ 1048576) : laws_markText (1 + (i : Int)) = some (mt i) := by
  obtain ⟨t, e⟩ := markText_ex (1 + (i : Int)) (by omega) (by omega)
  unfold mt
  rw [e]; rfl
end Go.Proofs.YteckiilljhdkpaaDoor
