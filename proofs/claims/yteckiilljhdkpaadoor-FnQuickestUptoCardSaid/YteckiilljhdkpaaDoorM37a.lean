/-
  Plain laws, carried over from texts of other seats.
-/
import Derived.Test.YteckiilljhdkpaaDoorC376
import Derived.Test.YteckiilljhdkpaaDoorT1
import Derived.Laws.Bits64
import Derived.Test.YteckiilljhdkpaaDoorO1
namespace Go.Proofs.YteckiilljhdkpaaDoor
open Go.RowKit

theorem l1In_eq (a lo hi : Int) : spec_l1In a lo hi = some (decide (lo ≤ a ∧ a ≤ hi)) := by
  unfold spec_l1In
  by_cases h : lo ≤ a
  · rw [cond_dt h]; simp [h]
  · rw [cond_df h]; simp [h]
theorem within_eq (a lo hi : Int) : impl_within a lo hi = some (decide (lo ≤ a ∧ a ≤ hi)) := by
  unfold impl_within
  by_cases h : lo ≤ a
  · rw [cond_dt h]; simp [h]
  · rw [cond_df h]; simp [h]
theorem index_ex (l : List ByteArray) (x : ByteArray) (h : l.length ≤ 1048576) : ∃ r, slices_Index___string_string_ l x = some r ∧ (0 ≤ r ↔ x ∈ l) := by
  unfold slices_Index___string_string_
  obtain ⟨r, e, hr⟩ := iter_ex (f := fun s => slices_Index___string_string__loop1 l x s) (miss := (Sum.inr () : Int ⊕ Unit)) l.length (fun k => decide (x = l.getD k (ByteArray.mk #[]))) (fun k => Sum.inl (k : Int)) (fun k => (k : Int)) (fun k hk => by
    show slices_Index___string_string__loop1 l x (k : Int) = _
    unfold slices_Index___string_string__loop1
    rw [cond_dt (by omega), grd_pos (by omega), Int.toNat_natCast, w64_nat (by omega)]
    cases decide (x = l.getD k (ByteArray.mk #[])) <;> rfl) (by
    show slices_Index___string_string__loop1 l x (l.length : Int) = _
    unfold slices_Index___string_string__loop1
    rw [cond_df (by omega)]) (s := (0 : Int)) rfl
  rw [e]
  rcases hr with ⟨k, hk, hp, _, rfl⟩ | ⟨hp, rfl⟩
  · refine ⟨(k : Int), rfl, fun _ => ?_, fun _ => by omega⟩
    have := of_decide_eq_true hp
    rw [this, getD_eq l k _ hk]
    exact List.getElem_mem hk
  · refine ⟨-1, rfl, fun h => by omega, fun hm => ?_⟩
    obtain ⟨k, hk, e⟩ := List.mem_iff_getElem.1 hm
    have := of_decide_eq_false (hp k hk)
    rw [getD_eq l k _ hk] at this
    exact absurd e.symm this
theorem contains_yes (l : List ByteArray) (x : ByteArray) (h : l.length ≤ 1048576) (hm : x ∈ l) : slices_Contains___string_string_ l x = some true := by
  unfold slices_Contains___string_string_
  obtain ⟨r, e, hr⟩ := index_ex l x h
  rw [e, Option.bind_some, decide_eq_true (hr.2 hm)]
theorem contains_no (l : List ByteArray) (x : ByteArray) (h : l.length ≤ 1048576) (hm : x ∉ l) : slices_Contains___string_string_ l x = some false := by
  unfold slices_Contains___string_string_
  obtain ⟨r, e, hr⟩ := index_ex l x h
  rw [e, Option.bind_some, decide_eq_false (fun h => hm (hr.1 h))]
theorem ne_come_open : ((ByteArray.mk #[99, 111, 109, 101]) = (ByteArray.mk #[111, 112, 101, 110])) = False := eq_false (by decide)
theorem ne_come_shut : ((ByteArray.mk #[99, 111, 109, 101]) = (ByteArray.mk #[115, 104, 117, 116])) = False := eq_false (by decide)
theorem ne_come_enter : ((ByteArray.mk #[99, 111, 109, 101]) = (ByteArray.mk #[101, 110, 116, 101, 114])) = False := eq_false (by decide)
theorem ne_come_leave : ((ByteArray.mk #[99, 111, 109, 101]) = (ByteArray.mk #[108, 101, 97, 118, 101])) = False := eq_false (by decide)
theorem ne_come_arrive : ((ByteArray.mk #[99, 111, 109, 101]) = (ByteArray.mk #[97, 114, 114, 105, 118, 101])) = False := eq_false (by decide)
theorem ne_come_level : ((ByteArray.mk #[99, 111, 109, 101]) = (ByteArray.mk #[108, 101, 118, 101, 108])) = False := eq_false (by decide)
theorem ne_come_go : ((ByteArray.mk #[99, 111, 109, 101]) = (ByteArray.mk #[103, 111])) = False := eq_false (by decide)
theorem ne_open_come : ((ByteArray.mk #[111, 112, 101, 110]) = (ByteArray.mk #[99, 111, 109, 101])) = False := eq_false (by decide)
theorem ne_open_shut : ((ByteArray.mk #[111, 112, 101, 110]) = (ByteArray.mk #[115, 104, 117, 116])) = False := eq_false (by decide)
theorem ne_open_enter : ((ByteArray.mk #[111, 112, 101, 110]) = (ByteArray.mk #[101, 110, 116, 101, 114])) = False := eq_false (by decide)
theorem ne_open_leave : ((ByteArray.mk #[111, 112, 101, 110]) = (ByteArray.mk #[108, 101, 97, 118, 101])) = False := eq_false (by decide)
theorem ne_open_arrive : ((ByteArray.mk #[111, 112, 101, 110]) = (ByteArray.mk #[97, 114, 114, 105, 118, 101])) = False := eq_false (by decide)
theorem ne_open_level : ((ByteArray.mk #[111, 112, 101, 110]) = (ByteArray.mk #[108, 101, 118, 101, 108])) = False := eq_false (by decide)
theorem ne_open_go : ((ByteArray.mk #[111, 112, 101, 110]) = (ByteArray.mk #[103, 111])) = False := eq_false (by decide)
theorem ne_shut_come : ((ByteArray.mk #[115, 104, 117, 116]) = (ByteArray.mk #[99, 111, 109, 101])) = False := eq_false (by decide)
theorem ne_shut_open : ((ByteArray.mk #[115, 104, 117, 116]) = (ByteArray.mk #[111, 112, 101, 110])) = False := eq_false (by decide)
theorem ne_shut_enter : ((ByteArray.mk #[115, 104, 117, 116]) = (ByteArray.mk #[101, 110, 116, 101, 114])) = False := eq_false (by decide)
theorem ne_shut_leave : ((ByteArray.mk #[115, 104, 117, 116]) = (ByteArray.mk #[108, 101, 97, 118, 101])) = False := eq_false (by decide)
theorem ne_shut_arrive : ((ByteArray.mk #[115, 104, 117, 116]) = (ByteArray.mk #[97, 114, 114, 105, 118, 101])) = False := eq_false (by decide)
theorem ne_shut_level : ((ByteArray.mk #[115, 104, 117, 116]) = (ByteArray.mk #[108, 101, 118, 101, 108])) = False := eq_false (by decide)
theorem ne_shut_go : ((ByteArray.mk #[115, 104, 117, 116]) = (ByteArray.mk #[103, 111])) = False := eq_false (by decide)
theorem ne_enter_come : ((ByteArray.mk #[101, 110, 116, 101, 114]) = (ByteArray.mk #[99, 111, 109, 101])) = False := eq_false (by decide)
theorem ne_enter_open : ((ByteArray.mk #[101, 110, 116, 101, 114]) = (ByteArray.mk #[111, 112, 101, 110])) = False := eq_false (by decide)
theorem ne_enter_shut : ((ByteArray.mk #[101, 110, 116, 101, 114]) = (ByteArray.mk #[115, 104, 117, 116])) = False := eq_false (by decide)
theorem ne_enter_leave : ((ByteArray.mk #[101, 110, 116, 101, 114]) = (ByteArray.mk #[108, 101, 97, 118, 101])) = False := eq_false (by decide)
theorem ne_enter_arrive : ((ByteArray.mk #[101, 110, 116, 101, 114]) = (ByteArray.mk #[97, 114, 114, 105, 118, 101])) = False := eq_false (by decide)
theorem ne_enter_level : ((ByteArray.mk #[101, 110, 116, 101, 114]) = (ByteArray.mk #[108, 101, 118, 101, 108])) = False := eq_false (by decide)
theorem ne_enter_go : ((ByteArray.mk #[101, 110, 116, 101, 114]) = (ByteArray.mk #[103, 111])) = False := eq_false (by decide)
theorem ne_leave_come : ((ByteArray.mk #[108, 101, 97, 118, 101]) = (ByteArray.mk #[99, 111, 109, 101])) = False := eq_false (by decide)
theorem ne_leave_open : ((ByteArray.mk #[108, 101, 97, 118, 101]) = (ByteArray.mk #[111, 112, 101, 110])) = False := eq_false (by decide)
theorem ne_leave_shut : ((ByteArray.mk #[108, 101, 97, 118, 101]) = (ByteArray.mk #[115, 104, 117, 116])) = False := eq_false (by decide)
theorem ne_leave_enter : ((ByteArray.mk #[108, 101, 97, 118, 101]) = (ByteArray.mk #[101, 110, 116, 101, 114])) = False := eq_false (by decide)
theorem ne_leave_arrive : ((ByteArray.mk #[108, 101, 97, 118, 101]) = (ByteArray.mk #[97, 114, 114, 105, 118, 101])) = False := eq_false (by decide)
theorem ne_leave_level : ((ByteArray.mk #[108, 101, 97, 118, 101]) = (ByteArray.mk #[108, 101, 118, 101, 108])) = False := eq_false (by decide)
theorem ne_leave_go : ((ByteArray.mk #[108, 101, 97, 118, 101]) = (ByteArray.mk #[103, 111])) = False := eq_false (by decide)
theorem ne_arrive_come : ((ByteArray.mk #[97, 114, 114, 105, 118, 101]) = (ByteArray.mk #[99, 111, 109, 101])) = False := eq_false (by decide)
theorem ne_arrive_open : ((ByteArray.mk #[97, 114, 114, 105, 118, 101]) = (ByteArray.mk #[111, 112, 101, 110])) = False := eq_false (by decide)
theorem ne_arrive_shut : ((ByteArray.mk #[97, 114, 114, 105, 118, 101]) = (ByteArray.mk #[115, 104, 117, 116])) = False := eq_false (by decide)
theorem ne_arrive_enter : ((ByteArray.mk #[97, 114, 114, 105, 118, 101]) = (ByteArray.mk #[101, 110, 116, 101, 114])) = False := eq_false (by decide)
theorem ne_arrive_leave : ((ByteArray.mk #[97, 114, 114, 105, 118, 101]) = (ByteArray.mk #[108, 101, 97, 118, 101])) = False := eq_false (by decide)
theorem ne_arrive_level : ((ByteArray.mk #[97, 114, 114, 105, 118, 101]) = (ByteArray.mk #[108, 101, 118, 101, 108])) = False := eq_false (by decide)
theorem ne_arrive_go : ((ByteArray.mk #[97, 114, 114, 105, 118, 101]) = (ByteArray.mk #[103, 111])) = False := eq_false (by decide)
theorem ne_level_come : ((ByteArray.mk #[108, 101, 118, 101, 108]) = (ByteArray.mk #[99, 111, 109, 101])) = False := eq_false (by decide)
theorem ne_level_open : ((ByteArray.mk #[108, 101, 118, 101, 108]) = (ByteArray.mk #[111, 112, 101, 110])) = False := eq_false (by decide)
theorem ne_level_shut : ((ByteArray.mk #[108, 101, 118, 101, 108]) = (ByteArray.mk #[115, 104, 117, 116])) = False := eq_false (by decide)
theorem ne_level_enter : ((ByteArray.mk #[108, 101, 118, 101, 108]) = (ByteArray.mk #[101, 110, 116, 101, 114])) = False := eq_false (by decide)
theorem ne_level_leave : ((ByteArray.mk #[108, 101, 118, 101, 108]) = (ByteArray.mk #[108, 101, 97, 118, 101])) = False := eq_false (by decide)
theorem ne_level_arrive : ((ByteArray.mk #[108, 101, 118, 101, 108]) = (ByteArray.mk #[97, 114, 114, 105, 118, 101])) = False := eq_false (by decide)
theorem ne_level_go : ((ByteArray.mk #[108, 101, 118, 101, 108]) = (ByteArray.mk #[103, 111])) = False := eq_false (by decide)
theorem ne_go_come : ((ByteArray.mk #[103, 111]) = (ByteArray.mk #[99, 111, 109, 101])) = False := eq_false (by decide)
theorem ne_go_open : ((ByteArray.mk #[103, 111]) = (ByteArray.mk #[111, 112, 101, 110])) = False := eq_false (by decide)
theorem ne_go_shut : ((ByteArray.mk #[103, 111]) = (ByteArray.mk #[115, 104, 117, 116])) = False := eq_false (by decide)
theorem ne_go_enter : ((ByteArray.mk #[103, 111]) = (ByteArray.mk #[101, 110, 116, 101, 114])) = False := eq_false (by decide)
theorem ne_go_leave : ((ByteArray.mk #[103, 111]) = (ByteArray.mk #[108, 101, 97, 118, 101])) = False := eq_false (by decide)
theorem ne_go_arrive : ((ByteArray.mk #[103, 111]) = (ByteArray.mk #[97, 114, 114, 105, 118, 101])) = False := eq_false (by decide)
theorem ne_go_level : ((ByteArray.mk #[103, 111]) = (ByteArray.mk #[108, 101, 118, 101, 108])) = False := eq_false (by decide)
theorem kinds_length : ([(ByteArray.mk #[99, 111, 109, 101]), (ByteArray.mk #[111, 112, 101, 110]), (ByteArray.mk #[115, 104, 117, 116]), (ByteArray.mk #[101, 110, 116, 101, 114]), (ByteArray.mk #[108, 101, 97, 118, 101]), (ByteArray.mk #[97, 114, 114, 105, 118, 101]), (ByteArray.mk #[108, 101, 118, 101, 108]), (ByteArray.mk #[103, 111])] : List ByteArray).length ≤ 1048576 := by decide
def goodB (p : Platform) : Bool := decide ((0 ≤ p.1 ∧ p.1 ≤ 1) ∧ (0 ≤ p.2.1 ∧ p.2.1 ≤ 16) ∧ (0 ≤ p.2.2.1 ∧ p.2.2.1 ≤ p.2.1) ∧ (0 ≤ p.2.2.2.1 ∧ p.2.2.2.1 ≤ 500) ∧ (0 ≤ p.2.2.2.2.2.1 ∧ p.2.2.2.2.2.1 ≤ 9999) ∧ (0 < p.2.1 ∨ p.1 = 0))
theorem isPlat_eq (p : Platform) : impl_IsPlatform p = some (goodB p) := by
  unfold impl_IsPlatform goodB
  simp only [within_eq, Option.bind_some]
  by_cases h1 : 0 ≤ p.1 ∧ p.1 ≤ 1
  case neg => rw [cond_df h1]; simp [h1]
  by_cases h2 : 0 ≤ p.2.1 ∧ p.2.1 ≤ 16
  case neg => rw [cond_dt h1, cond_df h2]; simp [h2]
  by_cases h3 : 0 ≤ p.2.2.1 ∧ p.2.2.1 ≤ p.2.1
  case neg => rw [cond_dt h1, cond_dt h2, cond_df h3]; simp [h3]
  by_cases h4 : 0 ≤ p.2.2.2.1 ∧ p.2.2.2.1 ≤ 500
  case neg => rw [cond_dt h1, cond_dt h2, cond_dt h3, cond_df h4]; simp [h4]
  by_cases h5 : 0 ≤ p.2.2.2.2.2.1 ∧ p.2.2.2.2.2.1 ≤ 9999
  case neg => rw [cond_dt h1, cond_dt h2, cond_dt h3, cond_dt h4, cond_df h5]; simp [h5]
  rw [cond_dt h1, cond_dt h2, cond_dt h3, cond_dt h4, cond_dt h5]
  by_cases h6 : 0 < p.2.1
  · rw [cond_dt h6, decide_eq_true (by omega)]
  · rw [cond_df h6]
    refine congrArg some ?_
    rw [Bool.eq_iff_iff, decide_eq_true_eq, decide_eq_true_eq]
    omega
theorem good_eq (p : Platform) : spec_l14Good p = some (goodB p) := by
  unfold spec_l14Good goodB
  simp only [l1In_eq, Option.bind_some]
  by_cases h1 : 0 ≤ p.1 ∧ p.1 ≤ 1
  case neg => rw [cond_ndf h1]; simp [h1]
  by_cases h2 : 0 ≤ p.2.1 ∧ p.2.1 ≤ 16
  case neg => rw [cond_ndt h1, cond_ndf h2]; simp [h2]
  by_cases h3 : 0 ≤ p.2.2.1 ∧ p.2.2.1 ≤ p.2.1
  case neg => rw [cond_ndt h1, cond_ndt h2, cond_ndf h3]; simp [h3]
  by_cases h4 : 0 ≤ p.2.2.2.1 ∧ p.2.2.2.1 ≤ 500
  case neg => rw [cond_ndt h1, cond_ndt h2, cond_ndt h3, cond_ndf h4]; simp [h4]
  by_cases h5 : 0 ≤ p.2.2.2.2.2.1 ∧ p.2.2.2.2.2.1 ≤ 9999
  case neg => rw [cond_ndt h1, cond_ndt h2, cond_ndt h3, cond_ndt h4, cond_ndf h5]; simp [h5]
  rw [cond_ndt h1, cond_ndt h2, cond_ndt h3, cond_ndt h4, cond_ndt h5]
  by_cases h6 : 0 < p.2.1
  · rw [cond_dt h6, decide_eq_true (by omega)]
  · rw [cond_df h6]
    refine congrArg some ?_
    rw [Bool.eq_iff_iff, decide_eq_true_eq, decide_eq_true_eq]
    omega
theorem least_eq (a b : Int) : spec_l1Least a b = some (if a < b then a else b) := by
  unfold spec_l1Least
  by_cases h : a < b
  · rw [cond_dt h, if_pos h]
  · rw [cond_df h, if_neg h]
abbrev zeroP : Platform := ((0 : Int), (0 : Int), (0 : Int), (0 : Int), false, (0 : Int), ())
theorem s2 {Q : Platform} {E X C : Bool} (h : E = true → X = C) : cond (!E) (some (zeroP, false)) (cond (!C) (some (zeroP, false)) (some (Q, true))) = some (cond (E && C) Q zeroP, E && C) := by
  cases E <;> cases C <;> rfl
theorem c1 {Q : Platform} {E G C : Bool} (h : E = true → G = C) : cond E (some (Q, G)) (some (Q, false)) = some (Q, E && C) := by
  cases E
  · rfl
  · rw [h rfl]; rfl
theorem c2 {Q : Platform} {E A G C : Bool} (h : E = true → (A && G) = C) : cond E (cond A (some (Q, G)) (some (Q, false))) (some (Q, false)) = some (Q, E && C) := by
  cases E
  · rfl
  · rw [← h rfl]; cases A <;> rfl
theorem c3 {Q : Platform} {E A B G C : Bool} (h : E = true → (A && (B && G)) = C) : cond E (cond A (cond B (some (Q, G)) (some (Q, false))) (some (Q, false))) (some (Q, false)) = some (Q, E && C) := by
  cases E
  · rfl
  · rw [← h rfl]; cases A <;> cases B <;> rfl
theorem isEvent_come (c : Int) : impl_IsBoardEvent ((ByteArray.mk #[99, 111, 109, 101]), c, ()) = some (decide (1 ≤ c ∧ c ≤ 16)) := by
  unfold impl_IsBoardEvent impl_boardCounts
  rw [contains_yes _ _ kinds_length (by simp only [List.mem_cons, true_or])]
  simp only [ne_come_enter, ne_come_leave, ne_come_arrive, decide_true, decide_false, cond_true, cond_false, Option.bind_some, within_eq]
theorem event_come (c : Int) : spec_l14Event ((ByteArray.mk #[99, 111, 109, 101]), c, ()) = some (decide (1 ≤ c ∧ c ≤ 16)) := by
  unfold spec_l14Event spec_l14Most
  simp only [ne_come_open, ne_come_shut, ne_come_enter, ne_come_leave, ne_come_arrive, ne_come_level, ne_come_go, decide_true, decide_false, cond_true, cond_false, Option.bind_some, l1In_eq]
  rw [cond_df (by omega), cond_dt (by omega)]
theorem isEvent_open (c : Int) : impl_IsBoardEvent ((ByteArray.mk #[111, 112, 101, 110]), c, ()) = some (decide (c = 0)) := by
  unfold impl_IsBoardEvent impl_boardCounts
  rw [contains_yes _ _ kinds_length (by simp only [List.mem_cons, true_or, or_true])]
  simp only [ne_open_come, ne_open_enter, ne_open_leave, ne_open_arrive, decide_false, cond_true, cond_false, Option.bind_some, within_eq]
  refine congrArg some ?_
  rw [Bool.eq_iff_iff, decide_eq_true_eq, decide_eq_true_eq]
  omega
theorem event_open (c : Int) : spec_l14Event ((ByteArray.mk #[111, 112, 101, 110]), c, ()) = some (decide (c = 0)) := by
  unfold spec_l14Event spec_l14Most
  simp only [ne_open_come, ne_open_shut, ne_open_enter, ne_open_leave, ne_open_arrive, ne_open_level, ne_open_go, decide_true, decide_false, cond_true, cond_false, Option.bind_some, l1In_eq]
  by_cases h : c = 0
  · rw [cond_dt h, decide_eq_true h]
  · rw [cond_df h, cond_df (by omega), decide_eq_false h]
theorem isEvent_shut (c : Int) : impl_IsBoardEvent ((ByteArray.mk #[115, 104, 117, 116]), c, ()) = some (decide (c = 0)) := by
  unfold impl_IsBoardEvent impl_boardCounts
  rw [contains_yes _ _ kinds_length (by simp only [List.mem_cons, true_or, or_true])]
  simp only [ne_shut_come, ne_shut_enter, ne_shut_leave, ne_shut_arrive, decide_false, cond_true, cond_false, Option.bind_some, within_eq]
  refine congrArg some ?_
  rw [Bool.eq_iff_iff, decide_eq_true_eq, decide_eq_true_eq]
  omega
theorem event_shut (c : Int) : spec_l14Event ((ByteArray.mk #[115, 104, 117, 116]), c, ()) = some (decide (c = 0)) := by
  unfold spec_l14Event spec_l14Most
  simp only [ne_shut_come, ne_shut_open, ne_shut_enter, ne_shut_leave, ne_shut_arrive, ne_shut_level, ne_shut_go, decide_true, decide_false, cond_true, cond_false, Option.bind_some, l1In_eq]
  by_cases h : c = 0
  · rw [cond_dt h, decide_eq_true h]
  · rw [cond_df h, cond_df (by omega), decide_eq_false h]
theorem isEvent_enter (c : Int) : impl_IsBoardEvent ((ByteArray.mk #[101, 110, 116, 101, 114]), c, ()) = some (decide (1 ≤ c ∧ c ≤ 16)) := by
  unfold impl_IsBoardEvent impl_boardCounts
  rw [contains_yes _ _ kinds_length (by simp only [List.mem_cons, true_or, or_true])]
  simp only [ne_enter_come, ne_enter_leave, ne_enter_arrive, decide_true, decide_false, cond_true, cond_false, Option.bind_some, within_eq]
theorem event_enter (c : Int) : spec_l14Event ((ByteArray.mk #[101, 110, 116, 101, 114]), c, ()) = some (decide (1 ≤ c ∧ c ≤ 16)) := by
  unfold spec_l14Event spec_l14Most
  simp only [ne_enter_come, ne_enter_open, ne_enter_shut, ne_enter_leave, ne_enter_arrive, ne_enter_level, ne_enter_go, decide_true, decide_false, cond_true, cond_false, Option.bind_some, l1In_eq]
  rw [cond_df (by omega), cond_dt (by omega)]
theorem isEvent_leave (c : Int) : impl_IsBoardEvent ((ByteArray.mk #[108, 101, 97, 118, 101]), c, ()) = some (decide (1 ≤ c ∧ c ≤ 16)) := by
  unfold impl_IsBoardEvent impl_boardCounts
  rw [contains_yes _ _ kinds_length (by simp only [List.mem_cons, true_or, or_true])]
  simp only [ne_leave_come, ne_leave_enter, ne_leave_arrive, decide_true, decide_false, cond_true, cond_false, Option.bind_some, within_eq]
theorem event_leave (c : Int) : spec_l14Event ((ByteArray.mk #[108, 101, 97, 118, 101]), c, ()) = some (decide (1 ≤ c ∧ c ≤ 16)) := by
  unfold spec_l14Event spec_l14Most
  simp only [ne_leave_come, ne_leave_open, ne_leave_shut, ne_leave_enter, ne_leave_arrive, ne_leave_level, ne_leave_go, decide_true, decide_false, cond_true, cond_false, Option.bind_some, l1In_eq]
  rw [cond_df (by omega), cond_dt (by omega)]
theorem isEvent_arrive (c : Int) : impl_IsBoardEvent ((ByteArray.mk #[97, 114, 114, 105, 118, 101]), c, ()) = some (decide (1 ≤ c ∧ c ≤ 100)) := by
  unfold impl_IsBoardEvent impl_boardCounts
  rw [contains_yes _ _ kinds_length (by simp only [List.mem_cons, true_or, or_true])]
  simp only [ne_arrive_come, ne_arrive_enter, ne_arrive_leave, decide_true, decide_false, cond_true, cond_false, Option.bind_some, within_eq]
theorem event_arrive (c : Int) : spec_l14Event ((ByteArray.mk #[97, 114, 114, 105, 118, 101]), c, ()) = some (decide (1 ≤ c ∧ c ≤ 100)) := by
  unfold spec_l14Event spec_l14Most
  simp only [ne_arrive_come, ne_arrive_open, ne_arrive_shut, ne_arrive_enter, ne_arrive_leave, ne_arrive_level, ne_arrive_go, decide_true, decide_false, cond_true, cond_false, Option.bind_some, l1In_eq]
  rw [cond_df (by omega), cond_dt (by omega)]
theorem isEvent_level (c : Int) : impl_IsBoardEvent ((ByteArray.mk #[108, 101, 118, 101, 108]), c, ()) = some (decide (c = 0)) := by
  unfold impl_IsBoardEvent impl_boardCounts
  rw [contains_yes _ _ kinds_length (by simp only [List.mem_cons, true_or, or_true])]
  simp only [ne_level_come, ne_level_enter, ne_level_leave, ne_level_arrive, decide_false, cond_true, cond_false, Option.bind_some, within_eq]
  refine congrArg some ?_
  rw [Bool.eq_iff_iff, decide_eq_true_eq, decide_eq_true_eq]
  omega
theorem event_level (c : Int) : spec_l14Event ((ByteArray.mk #[108, 101, 118, 101, 108]), c, ()) = some (decide (c = 0)) := by
  unfold spec_l14Event spec_l14Most
  simp only [ne_level_come, ne_level_open, ne_level_shut, ne_level_enter, ne_level_leave, ne_level_arrive, ne_level_go, decide_true, decide_false, cond_true, cond_false, Option.bind_some, l1In_eq]
  by_cases h : c = 0
  · rw [cond_dt h, decide_eq_true h]
  · rw [cond_df h, cond_df (by omega), decide_eq_false h]
theorem isEvent_go (c : Int) : impl_IsBoardEvent ((ByteArray.mk #[103, 111]), c, ()) = some (decide (c = 0)) := by
  unfold impl_IsBoardEvent impl_boardCounts
  rw [contains_yes _ _ kinds_length (by simp only [List.mem_cons, true_or, or_true])]
  simp only [ne_go_come, ne_go_enter, ne_go_leave, ne_go_arrive, decide_false, cond_true, cond_false, Option.bind_some, within_eq]
  refine congrArg some ?_
  rw [Bool.eq_iff_iff, decide_eq_true_eq, decide_eq_true_eq]
  omega
theorem event_go (c : Int) : spec_l14Event ((ByteArray.mk #[103, 111]), c, ()) = some (decide (c = 0)) := by
  unfold spec_l14Event spec_l14Most
  simp only [ne_go_come, ne_go_open, ne_go_shut, ne_go_enter, ne_go_leave, ne_go_arrive, ne_go_level, decide_true, decide_false, cond_true, cond_false, Option.bind_some, l1In_eq]
  by_cases h : c = 0
  · rw [cond_dt h, decide_eq_true h]
  · rw [cond_df h, cond_df (by omega), decide_eq_false h]
def ent (d s n w : Int) (l : Bool) : Int := if d = 1 then (if l = true then (if 1 < (if w < w64 (s - n) then w else w64 (s - n)) then 1 else (if w < w64 (s - n) then w else w64 (s - n))) else (if w < w64 (s - n) then w else w64 (s - n))) else 0
theorem entering_eq (d s n w g : Int) (l : Bool) : spec_l14Entering (d, s, n, w, l, g, ()) = some (ent d s n w l) := by
  unfold spec_l14Entering ent
  simp only [least_eq, Option.bind_some]
  by_cases h : d = 1
  · rw [cond_ndt h, if_pos h]
    cases l <;> rfl
  · rw [cond_ndf h, if_neg h]
theorem and_cond (a b : Bool) : cond a (some b) (some false) = some (a && b) := by cases a <;> rfl
theorem goodB_iff (d s n w g : Int) (l : Bool) : goodB (d, s, n, w, l, g, ()) = true ↔ ((0 ≤ d ∧ d ≤ 1) ∧ (0 ≤ s ∧ s ≤ 16) ∧ (0 ≤ n ∧ n ≤ s) ∧ (0 ≤ w ∧ w ≤ 500) ∧ (0 ≤ g ∧ g ≤ 9999) ∧ (0 < s ∨ d = 0)) := by
  unfold goodB; exact decide_eq_true_iff
theorem can_come (d s n w g : Int) (l : Bool) (c : Int) : spec_l14Can (d, s, n, w, l, g, ()) ((ByteArray.mk #[99, 111, 109, 101]), c, ()) = some (decide (s = 0)) := by
  unfold spec_l14Can
  simp only [ne_come_open, ne_come_shut, ne_come_enter, ne_come_leave, ne_come_arrive, ne_come_level, decide_true, decide_false, cond_true, cond_false]
theorem same_come (d s n w g : Int) (l : Bool) (c : Int) (h : goodB (d, s, n, w, l, g, ()) = true) (hE : (decide (1 ≤ c ∧ c ≤ 16)) = true) : (decide (s = 0) && goodB (d, c, n, w, l, g, ())) = decide (s = 0) := by
  have hE := of_decide_eq_true hE
  rw [goodB_iff] at h
  rw [Bool.eq_iff_iff]
  simp only [Bool.and_eq_true, decide_eq_true_eq, goodB_iff]
  omega
theorem step_come (d s n w g : Int) (l : Bool) (c : Int) (h : goodB (d, s, n, w, l, g, ()) = true) : impl_Platform_step (d, s, n, w, l, g, ()) ((ByteArray.mk #[99, 111, 109, 101]), c, ()) = some ((d, c, n, w, l, g, ()), decide (1 ≤ c ∧ c ≤ 16) && decide (s = 0)) ∧ spec_l14Step (d, s, n, w, l, g, ()) ((ByteArray.mk #[99, 111, 109, 101]), c, ()) = some (cond (decide (1 ≤ c ∧ c ≤ 16) && decide (s = 0)) (d, c, n, w, l, g, ()) zeroP, decide (1 ≤ c ∧ c ≤ 16) && decide (s = 0)) ∧ ((decide (1 ≤ c ∧ c ≤ 16) && decide (s = 0)) = true → goodB (d, c, n, w, l, g, ()) = true) := by
  have hs := same_come d s n w g l c h
  refine ⟨?_, ?_, fun hb => ?_⟩
  · unfold impl_Platform_step
    rw [isEvent_come]
    simp only [ne_come_open, ne_come_shut, ne_come_enter, ne_come_leave, ne_come_arrive, ne_come_level, ne_come_go, decide_true, decide_false, cond_true, cond_false, Option.bind_some, isPlat_eq]
    exact c2 hs
  · unfold spec_l14Step
    rw [event_come, can_come]
    simp only [ne_come_open, ne_come_shut, ne_come_enter, ne_come_leave, ne_come_arrive, ne_come_level, ne_come_go, decide_true, decide_false, cond_true, cond_false, Option.bind_some]
    exact s2 hs
  · rw [Bool.and_eq_true] at hb
    have := (hs hb.1).trans hb.2
    simp only [Bool.and_eq_true] at this
    exact this.2
theorem can_open (d s n w g : Int) (l : Bool) (c : Int) : spec_l14Can (d, s, n, w, l, g, ()) ((ByteArray.mk #[111, 112, 101, 110]), c, ()) = some ((decide (0 < s) && decide (d = 0))) := by
  unfold spec_l14Can
  simp only [ne_open_come, ne_open_shut, ne_open_enter, ne_open_leave, ne_open_arrive, ne_open_level, decide_true, decide_false, cond_true, cond_false]
  exact and_cond _ _
theorem same_open (d s n w g : Int) (l : Bool) (c : Int) (h : goodB (d, s, n, w, l, g, ()) = true) (hE : (decide (c = 0)) = true) : (decide (0 < s) && (decide (d = 0) && goodB ((1 : Int), s, n, w, l, g, ()))) = (decide (0 < s) && decide (d = 0)) := by
  have hE := of_decide_eq_true hE
  rw [goodB_iff] at h
  rw [Bool.eq_iff_iff]
  simp only [Bool.and_eq_true, decide_eq_true_eq, goodB_iff]
  omega
theorem step_open (d s n w g : Int) (l : Bool) (c : Int) (h : goodB (d, s, n, w, l, g, ()) = true) : impl_Platform_step (d, s, n, w, l, g, ()) ((ByteArray.mk #[111, 112, 101, 110]), c, ()) = some (((1 : Int), s, n, w, l, g, ()), decide (c = 0) && (decide (0 < s) && decide (d = 0))) ∧ spec_l14Step (d, s, n, w, l, g, ()) ((ByteArray.mk #[111, 112, 101, 110]), c, ()) = some (cond (decide (c = 0) && (decide (0 < s) && decide (d = 0))) ((1 : Int), s, n, w, l, g, ()) zeroP, decide (c = 0) && (decide (0 < s) && decide (d = 0))) ∧ ((decide (c = 0) && (decide (0 < s) && decide (d = 0))) = true → goodB ((1 : Int), s, n, w, l, g, ()) = true) := by
  have hs := same_open d s n w g l c h
  refine ⟨?_, ?_, fun hb => ?_⟩
  · unfold impl_Platform_step
    rw [isEvent_open]
    simp only [ne_open_come, ne_open_shut, ne_open_enter, ne_open_leave, ne_open_arrive, ne_open_level, ne_open_go, decide_true, decide_false, cond_true, cond_false, Option.bind_some, isPlat_eq]
    exact c3 hs
  · unfold spec_l14Step
    rw [event_open, can_open]
    simp only [ne_open_come, ne_open_shut, ne_open_enter, ne_open_leave, ne_open_arrive, ne_open_level, ne_open_go, decide_true, decide_false, cond_true, cond_false, Option.bind_some]
    exact s2 hs
  · rw [Bool.and_eq_true] at hb
    have := (hs hb.1).trans hb.2
    simp only [Bool.and_eq_true] at this
    exact this.2.2
theorem can_shut (d s n w g : Int) (l : Bool) (c : Int) : spec_l14Can (d, s, n, w, l, g, ()) ((ByteArray.mk #[115, 104, 117, 116]), c, ()) = some (decide (d = 1)) := by
  unfold spec_l14Can
  simp only [ne_shut_come, ne_shut_open, ne_shut_enter, ne_shut_leave, ne_shut_arrive, ne_shut_level, decide_true, decide_false, cond_true, cond_false]
theorem same_shut (d s n w g : Int) (l : Bool) (c : Int) (h : goodB (d, s, n, w, l, g, ()) = true) (hE : (decide (c = 0)) = true) : (decide (d = 1) && goodB ((0 : Int), s, n, w, l, g, ())) = decide (d = 1) := by
  have hE := of_decide_eq_true hE
  rw [goodB_iff] at h
  rw [Bool.eq_iff_iff]
  simp only [Bool.and_eq_true, decide_eq_true_eq, goodB_iff]
  omega
theorem step_shut (d s n w g : Int) (l : Bool) (c : Int) (h : goodB (d, s, n, w, l, g, ()) = true) : impl_Platform_step (d, s, n, w, l, g, ()) ((ByteArray.mk #[115, 104, 117, 116]), c, ()) = some (((0 : Int), s, n, w, l, g, ()), decide (c = 0) && decide (d = 1)) ∧ spec_l14Step (d, s, n, w, l, g, ()) ((ByteArray.mk #[115, 104, 117, 116]), c, ()) = some (cond (decide (c = 0) && decide (d = 1)) ((0 : Int), s, n, w, l, g, ()) zeroP, decide (c = 0) && decide (d = 1)) ∧ ((decide (c = 0) && decide (d = 1)) = true → goodB ((0 : Int), s, n, w, l, g, ()) = true) := by
  have hs := same_shut d s n w g l c h
  refine ⟨?_, ?_, fun hb => ?_⟩
  · unfold impl_Platform_step
    rw [isEvent_shut]
    simp only [ne_shut_come, ne_shut_open, ne_shut_enter, ne_shut_leave, ne_shut_arrive, ne_shut_level, ne_shut_go, decide_true, decide_false, cond_true, cond_false, Option.bind_some, isPlat_eq]
    exact c2 hs
  · unfold spec_l14Step
    rw [event_shut, can_shut]
    simp only [ne_shut_come, ne_shut_open, ne_shut_enter, ne_shut_leave, ne_shut_arrive, ne_shut_level, ne_shut_go, decide_true, decide_false, cond_true, cond_false, Option.bind_some]
    exact s2 hs
  · rw [Bool.and_eq_true] at hb
    have := (hs hb.1).trans hb.2
    simp only [Bool.and_eq_true] at this
    exact this.2
theorem can_enter (d s n w g : Int) (l : Bool) (c : Int) : spec_l14Can (d, s, n, w, l, g, ()) ((ByteArray.mk #[101, 110, 116, 101, 114]), c, ()) = some (decide (c ≤ ent d s n w l)) := by
  unfold spec_l14Can
  simp only [ne_enter_come, ne_enter_open, ne_enter_shut, ne_enter_leave, ne_enter_arrive, ne_enter_level, decide_true, decide_false, cond_true, cond_false]
  rw [entering_eq, Option.bind_some]
theorem same_enter (d s n w g : Int) (l : Bool) (c : Int) (h : goodB (d, s, n, w, l, g, ()) = true) (hE : (decide (1 ≤ c ∧ c ≤ 16)) = true) : (decide (d = 1) && ((!l || decide (c = 1)) && goodB (d, s, w64 (n + c), w64 (w - c), false, g, ()))) = decide (c ≤ ent d s n w l) := by
  have hE := of_decide_eq_true hE
  rw [goodB_iff] at h
  have e1 : w64 (n + c) = n + c := w64_id (by omega) (by omega)
  have e2 : w64 (w - c) = w - c := w64_id (by omega) (by omega)
  have e3 : w64 (s - n) = s - n := w64_id (by omega) (by omega)
  unfold ent
  rw [e1, e2, e3]
  cases l
  all_goals
    rw [Bool.eq_iff_iff]
    simp only [Bool.and_eq_true, Bool.or_eq_true, decide_eq_true_eq, goodB_iff, Bool.not_true, Bool.not_false, true_and, Bool.false_eq_true, if_true, if_false, false_or, true_or]
    try split
    all_goals (try split)
    all_goals (try split)
    all_goals omega
theorem step_enter (d s n w g : Int) (l : Bool) (c : Int) (h : goodB (d, s, n, w, l, g, ()) = true) : impl_Platform_step (d, s, n, w, l, g, ()) ((ByteArray.mk #[101, 110, 116, 101, 114]), c, ()) = some ((d, s, w64 (n + c), w64 (w - c), false, g, ()), decide (1 ≤ c ∧ c ≤ 16) && decide (c ≤ ent d s n w l)) ∧ spec_l14Step (d, s, n, w, l, g, ()) ((ByteArray.mk #[101, 110, 116, 101, 114]), c, ()) = some (cond (decide (1 ≤ c ∧ c ≤ 16) && decide (c ≤ ent d s n w l)) (d, s, w64 (n + c), w64 (w - c), false, g, ()) zeroP, decide (1 ≤ c ∧ c ≤ 16) && decide (c ≤ ent d s n w l)) ∧ ((decide (1 ≤ c ∧ c ≤ 16) && decide (c ≤ ent d s n w l)) = true → goodB (d, s, w64 (n + c), w64 (w - c), false, g, ()) = true) := by
  have hs := same_enter d s n w g l c h
  refine ⟨?_, ?_, fun hb => ?_⟩
  · unfold impl_Platform_step
    rw [isEvent_enter]
    simp only [ne_enter_come, ne_enter_open, ne_enter_shut, ne_enter_leave, ne_enter_arrive, ne_enter_level, ne_enter_go, decide_true, decide_false, cond_true, cond_false, Option.bind_some, isPlat_eq]
    refine Eq.trans ?_ (c3 (B := (!l || decide (c = 1))) hs)
    cases l <;> cases decide (c = 1) <;> rfl
  · unfold spec_l14Step
    rw [event_enter, can_enter]
    simp only [ne_enter_come, ne_enter_open, ne_enter_shut, ne_enter_leave, ne_enter_arrive, ne_enter_level, ne_enter_go, decide_true, decide_false, cond_true, cond_false, Option.bind_some]
    exact s2 hs
  · rw [Bool.and_eq_true] at hb
    have := (hs hb.1).trans hb.2
    simp only [Bool.and_eq_true] at this
    exact this.2.2
theorem can_leave (d s n w g : Int) (l : Bool) (c : Int) : spec_l14Can (d, s, n, w, l, g, ()) ((ByteArray.mk #[108, 101, 97, 118, 101]), c, ()) = some ((decide (d = 1) && decide (c ≤ n))) := by
  unfold spec_l14Can
  simp only [ne_leave_come, ne_leave_open, ne_leave_shut, ne_leave_enter, ne_leave_arrive, ne_leave_level, decide_true, decide_false, cond_true, cond_false]
  exact and_cond _ _
theorem same_leave (d s n w g : Int) (l : Bool) (c : Int) (h : goodB (d, s, n, w, l, g, ()) = true) (hE : (decide (1 ≤ c ∧ c ≤ 16)) = true) : (decide (d = 1) && goodB (d, s, w64 (n - c), w, l, g, ())) = (decide (d = 1) && decide (c ≤ n)) := by
  have hE := of_decide_eq_true hE
  rw [goodB_iff] at h
  have e1 : w64 (n - c) = n - c := w64_id (by omega) (by omega)
  rw [e1]
  rw [Bool.eq_iff_iff]
  simp only [Bool.and_eq_true, decide_eq_true_eq, goodB_iff]
  omega
theorem step_leave (d s n w g : Int) (l : Bool) (c : Int) (h : goodB (d, s, n, w, l, g, ()) = true) : impl_Platform_step (d, s, n, w, l, g, ()) ((ByteArray.mk #[108, 101, 97, 118, 101]), c, ()) = some ((d, s, w64 (n - c), w, l, g, ()), decide (1 ≤ c ∧ c ≤ 16) && (decide (d = 1) && decide (c ≤ n))) ∧ spec_l14Step (d, s, n, w, l, g, ()) ((ByteArray.mk #[108, 101, 97, 118, 101]), c, ()) = some (cond (decide (1 ≤ c ∧ c ≤ 16) && (decide (d = 1) && decide (c ≤ n))) (d, s, w64 (n - c), w, l, g, ()) zeroP, decide (1 ≤ c ∧ c ≤ 16) && (decide (d = 1) && decide (c ≤ n))) ∧ ((decide (1 ≤ c ∧ c ≤ 16) && (decide (d = 1) && decide (c ≤ n))) = true → goodB (d, s, w64 (n - c), w, l, g, ()) = true) := by
  have hs := same_leave d s n w g l c h
  refine ⟨?_, ?_, fun hb => ?_⟩
  · unfold impl_Platform_step
    rw [isEvent_leave]
    simp only [ne_leave_come, ne_leave_open, ne_leave_shut, ne_leave_enter, ne_leave_arrive, ne_leave_level, ne_leave_go, decide_true, decide_false, cond_true, cond_false, Option.bind_some, isPlat_eq]
    exact c2 hs
  · unfold spec_l14Step
    rw [event_leave, can_leave]
    simp only [ne_leave_come, ne_leave_open, ne_leave_shut, ne_leave_enter, ne_leave_arrive, ne_leave_level, ne_leave_go, decide_true, decide_false, cond_true, cond_false, Option.bind_some]
    exact s2 hs
  · rw [Bool.and_eq_true] at hb
    have := (hs hb.1).trans hb.2
    simp only [Bool.and_eq_true] at this
    exact this.2
theorem can_arrive (d s n w g : Int) (l : Bool) (c : Int) : spec_l14Can (d, s, n, w, l, g, ()) ((ByteArray.mk #[97, 114, 114, 105, 118, 101]), c, ()) = some (decide (w64 (w + c) ≤ 500)) := by
  unfold spec_l14Can
  simp only [ne_arrive_come, ne_arrive_open, ne_arrive_shut, ne_arrive_enter, ne_arrive_leave, ne_arrive_level, decide_true, decide_false, cond_true, cond_false]
theorem same_arrive (d s n w g : Int) (l : Bool) (c : Int) (h : goodB (d, s, n, w, l, g, ()) = true) (hE : (decide (1 ≤ c ∧ c ≤ 100)) = true) : goodB (d, s, n, w64 (w + c), l, g, ()) = decide (w64 (w + c) ≤ 500) := by
  have hE := of_decide_eq_true hE
  rw [goodB_iff] at h
  have e1 : w64 (w + c) = w + c := w64_id (by omega) (by omega)
  rw [e1]
  rw [Bool.eq_iff_iff]
  simp only [decide_eq_true_eq, goodB_iff]
  omega
theorem step_arrive (d s n w g : Int) (l : Bool) (c : Int) (h : goodB (d, s, n, w, l, g, ()) = true) : impl_Platform_step (d, s, n, w, l, g, ()) ((ByteArray.mk #[97, 114, 114, 105, 118, 101]), c, ()) = some ((d, s, n, w64 (w + c), l, g, ()), decide (1 ≤ c ∧ c ≤ 100) && decide (w64 (w + c) ≤ 500)) ∧ spec_l14Step (d, s, n, w, l, g, ()) ((ByteArray.mk #[97, 114, 114, 105, 118, 101]), c, ()) = some (cond (decide (1 ≤ c ∧ c ≤ 100) && decide (w64 (w + c) ≤ 500)) (d, s, n, w64 (w + c), l, g, ()) zeroP, decide (1 ≤ c ∧ c ≤ 100) && decide (w64 (w + c) ≤ 500)) ∧ ((decide (1 ≤ c ∧ c ≤ 100) && decide (w64 (w + c) ≤ 500)) = true → goodB (d, s, n, w64 (w + c), l, g, ()) = true) := by
  have hs := same_arrive d s n w g l c h
  refine ⟨?_, ?_, fun hb => ?_⟩
  · unfold impl_Platform_step
    rw [isEvent_arrive]
    simp only [ne_arrive_come, ne_arrive_open, ne_arrive_shut, ne_arrive_enter, ne_arrive_leave, ne_arrive_level, ne_arrive_go, decide_true, decide_false, cond_true, cond_false, Option.bind_some, isPlat_eq]
    exact c1 hs
  · unfold spec_l14Step
    rw [event_arrive, can_arrive]
    simp only [ne_arrive_come, ne_arrive_open, ne_arrive_shut, ne_arrive_enter, ne_arrive_leave, ne_arrive_level, ne_arrive_go, decide_true, decide_false, cond_true, cond_false, Option.bind_some]
    exact s2 hs
  · rw [Bool.and_eq_true] at hb
    have := (hs hb.1).trans hb.2
    exact this
theorem can_level (d s n w g : Int) (l : Bool) (c : Int) : spec_l14Can (d, s, n, w, l, g, ()) ((ByteArray.mk #[108, 101, 118, 101, 108]), c, ()) = some ((!l && decide (0 < w))) := by
  unfold spec_l14Can
  simp only [ne_level_come, ne_level_open, ne_level_shut, ne_level_enter, ne_level_leave, ne_level_arrive, decide_true, decide_false, cond_true, cond_false]
  exact and_cond _ _
theorem same_level (d s n w g : Int) (l : Bool) (c : Int) (h : goodB (d, s, n, w, l, g, ()) = true) (hE : (decide (c = 0)) = true) : (!l && (decide (0 < w) && goodB (d, s, n, w, true, g, ()))) = (!l && decide (0 < w)) := by
  have hE := of_decide_eq_true hE
  rw [goodB_iff] at h
  cases l
  all_goals
    rw [Bool.eq_iff_iff]
    simp only [Bool.and_eq_true, decide_eq_true_eq, goodB_iff, Bool.not_true, Bool.not_false, true_and, false_and, Bool.false_eq_true]
    try split
    all_goals (try split)
    all_goals (try split)
    all_goals omega
theorem step_level (d s n w g : Int) (l : Bool) (c : Int) (h : goodB (d, s, n, w, l, g, ()) = true) : impl_Platform_step (d, s, n, w, l, g, ()) ((ByteArray.mk #[108, 101, 118, 101, 108]), c, ()) = some ((d, s, n, w, true, g, ()), decide (c = 0) && (!l && decide (0 < w))) ∧ spec_l14Step (d, s, n, w, l, g, ()) ((ByteArray.mk #[108, 101, 118, 101, 108]), c, ()) = some (cond (decide (c = 0) && (!l && decide (0 < w))) (d, s, n, w, true, g, ()) zeroP, decide (c = 0) && (!l && decide (0 < w))) ∧ ((decide (c = 0) && (!l && decide (0 < w))) = true → goodB (d, s, n, w, true, g, ()) = true) := by
  have hs := same_level d s n w g l c h
  refine ⟨?_, ?_, fun hb => ?_⟩
  · unfold impl_Platform_step
    rw [isEvent_level]
    simp only [ne_level_come, ne_level_open, ne_level_shut, ne_level_enter, ne_level_leave, ne_level_arrive, ne_level_go, decide_true, decide_false, cond_true, cond_false, Option.bind_some, isPlat_eq]
    exact c3 hs
  · unfold spec_l14Step
    rw [event_level, can_level]
    simp only [ne_level_come, ne_level_open, ne_level_shut, ne_level_enter, ne_level_leave, ne_level_arrive, ne_level_go, decide_true, decide_false, cond_true, cond_false, Option.bind_some]
    exact s2 hs
  · rw [Bool.and_eq_true] at hb
    have := (hs hb.1).trans hb.2
    simp only [Bool.and_eq_true] at this
    exact this.2.2
theorem can_go (d s n w g : Int) (l : Bool) (c : Int) : spec_l14Can (d, s, n, w, l, g, ()) ((ByteArray.mk #[103, 111]), c, ()) = some ((decide (0 < s) && (decide (d = 0) && decide (g < 9999)))) := by
  unfold spec_l14Can
  simp only [ne_go_come, ne_go_open, ne_go_shut, ne_go_enter, ne_go_leave, ne_go_arrive, ne_go_level, decide_false, cond_false]
  rw [and_cond, and_cond]
theorem same_go (d s n w g : Int) (l : Bool) (c : Int) (h : goodB (d, s, n, w, l, g, ()) = true) (hE : (decide (c = 0)) = true) : (decide (0 < s) && (decide (d = 0) && goodB (d, (0 : Int), (0 : Int), w, l, w64 (g + 1), ()))) = (decide (0 < s) && (decide (d = 0) && decide (g < 9999))) := by
  have hE := of_decide_eq_true hE
  rw [goodB_iff] at h
  have e1 : w64 (g + 1) = g + 1 := w64_id (by omega) (by omega)
  rw [e1]
  rw [Bool.eq_iff_iff]
  simp only [Bool.and_eq_true, decide_eq_true_eq, goodB_iff]
  omega
theorem step_go (d s n w g : Int) (l : Bool) (c : Int) (h : goodB (d, s, n, w, l, g, ()) = true) : impl_Platform_step (d, s, n, w, l, g, ()) ((ByteArray.mk #[103, 111]), c, ()) = some ((d, (0 : Int), (0 : Int), w, l, w64 (g + 1), ()), decide (c = 0) && (decide (0 < s) && (decide (d = 0) && decide (g < 9999)))) ∧ spec_l14Step (d, s, n, w, l, g, ()) ((ByteArray.mk #[103, 111]), c, ()) = some (cond (decide (c = 0) && (decide (0 < s) && (decide (d = 0) && decide (g < 9999)))) (d, (0 : Int), (0 : Int), w, l, w64 (g + 1), ()) zeroP, decide (c = 0) && (decide (0 < s) && (decide (d = 0) && decide (g < 9999)))) ∧ ((decide (c = 0) && (decide (0 < s) && (decide (d = 0) && decide (g < 9999)))) = true → goodB (d, (0 : Int), (0 : Int), w, l, w64 (g + 1), ()) = true) := by
  have hs := same_go d s n w g l c h
  refine ⟨?_, ?_, fun hb => ?_⟩
  · unfold impl_Platform_step
    rw [isEvent_go]
    simp only [ne_go_come, ne_go_open, ne_go_shut, ne_go_enter, ne_go_leave, ne_go_arrive, ne_go_level, decide_true, decide_false, cond_true, cond_false, Option.bind_some, isPlat_eq]
    exact c3 hs
  · unfold spec_l14Step
    rw [event_go, can_go]
    simp only [ne_go_come, ne_go_open, ne_go_shut, ne_go_enter, ne_go_leave, ne_go_arrive, ne_go_level, decide_true, decide_false, cond_true, cond_false, Option.bind_some]
    exact s2 hs
  · rw [Bool.and_eq_true] at hb
    have := (hs hb.1).trans hb.2
    simp only [Bool.and_eq_true] at this
    exact this.2.2
theorem isEvent_other (k : ByteArray) (c : Int) (h : k ∉ ([(ByteArray.mk #[99, 111, 109, 101]), (ByteArray.mk #[111, 112, 101, 110]), (ByteArray.mk #[115, 104, 117, 116]), (ByteArray.mk #[101, 110, 116, 101, 114]), (ByteArray.mk #[108, 101, 97, 118, 101]), (ByteArray.mk #[97, 114, 114, 105, 118, 101]), (ByteArray.mk #[108, 101, 118, 101, 108]), (ByteArray.mk #[103, 111])] : List ByteArray)) : impl_IsBoardEvent (k, c, ()) = some false := by
  unfold impl_IsBoardEvent
  have e : ∃ y, impl_boardCounts k = some y := by
    unfold impl_boardCounts
    simp only [Bool.cond_eq_ite]
    repeat' split
    all_goals exact ⟨_, rfl⟩
  obtain ⟨y, e⟩ := e
  rw [e, Option.bind_some, contains_no _ _ kinds_length h]
  rfl
theorem most_other (k : ByteArray) (h : k ∉ ([(ByteArray.mk #[99, 111, 109, 101]), (ByteArray.mk #[111, 112, 101, 110]), (ByteArray.mk #[115, 104, 117, 116]), (ByteArray.mk #[101, 110, 116, 101, 114]), (ByteArray.mk #[108, 101, 97, 118, 101]), (ByteArray.mk #[97, 114, 114, 105, 118, 101]), (ByteArray.mk #[108, 101, 118, 101, 108]), (ByteArray.mk #[103, 111])] : List ByteArray)) : spec_l14Most k = some (-1) := by
  simp only [List.mem_cons, List.not_mem_nil, or_false, not_or] at h
  obtain ⟨h1, h2, h3, h4, h5, h6, h7, h8⟩ := h
  unfold spec_l14Most
  rw [cond_df h1, cond_df h4, cond_df h5, cond_df h6, cond_df h2, cond_df h3, cond_df h7, cond_df h8]
theorem event_other (k : ByteArray) (c : Int) (h : k ∉ ([(ByteArray.mk #[99, 111, 109, 101]), (ByteArray.mk #[111, 112, 101, 110]), (ByteArray.mk #[115, 104, 117, 116]), (ByteArray.mk #[101, 110, 116, 101, 114]), (ByteArray.mk #[108, 101, 97, 118, 101]), (ByteArray.mk #[97, 114, 114, 105, 118, 101]), (ByteArray.mk #[108, 101, 118, 101, 108]), (ByteArray.mk #[103, 111])] : List ByteArray)) : spec_l14Event (k, c, ()) = some false := by
  unfold spec_l14Event
  rw [most_other k h, Option.bind_some, cond_df (by omega), cond_df (by omega)]
/-- What a step of either kind brings about. -/
structure StepR (p : Platform) (e : BoardEvent) (q : Platform) (b : Bool) : Prop where
  impl : impl_Platform_step p e = some (q, b)
  spec : spec_l14Step p e = some (cond b q zeroP, b)
  good : b = true → goodB q = true
theorem stepR (p : Platform) (e : BoardEvent) (h : goodB p = true) : ∃ q b, StepR p e q b := by
  obtain ⟨d, s, n, w, l, g, u⟩ := p
  obtain ⟨k, c, v⟩ := e
  by_cases hk : k ∈ ([(ByteArray.mk #[99, 111, 109, 101]), (ByteArray.mk #[111, 112, 101, 110]), (ByteArray.mk #[115, 104, 117, 116]), (ByteArray.mk #[101, 110, 116, 101, 114]), (ByteArray.mk #[108, 101, 97, 118, 101]), (ByteArray.mk #[97, 114, 114, 105, 118, 101]), (ByteArray.mk #[108, 101, 118, 101, 108]), (ByteArray.mk #[103, 111])] : List ByteArray)
  · simp only [List.mem_cons, List.not_mem_nil, or_false] at hk
    rcases hk with rfl | rfl | rfl | rfl | rfl | rfl | rfl | rfl
    · obtain ⟨e1, e2, e3⟩ := step_come d s n w g l c h
      exact ⟨_, _, e1, e2, e3⟩
    · obtain ⟨e1, e2, e3⟩ := step_open d s n w g l c h
      exact ⟨_, _, e1, e2, e3⟩
    · obtain ⟨e1, e2, e3⟩ := step_shut d s n w g l c h
      exact ⟨_, _, e1, e2, e3⟩
    · obtain ⟨e1, e2, e3⟩ := step_enter d s n w g l c h
      exact ⟨_, _, e1, e2, e3⟩
    · obtain ⟨e1, e2, e3⟩ := step_leave d s n w g l c h
      exact ⟨_, _, e1, e2, e3⟩
    · obtain ⟨e1, e2, e3⟩ := step_arrive d s n w g l c h
      exact ⟨_, _, e1, e2, e3⟩
    · obtain ⟨e1, e2, e3⟩ := step_level d s n w g l c h
      exact ⟨_, _, e1, e2, e3⟩
    · obtain ⟨e1, e2, e3⟩ := step_go d s n w g l c h
      exact ⟨_, _, e1, e2, e3⟩
  · refine ⟨(impl_Platform_step (d, s, n, w, l, g, ()) (k, c, ())).elim zeroP (·.1), false, ?_, ?_, fun hb => by cases hb⟩
    · have hk2 := hk
      simp only [List.mem_cons, List.not_mem_nil, or_false, not_or] at hk2
      obtain ⟨h1, h2, h3, h4, h5, h6, h7, h8⟩ := hk2
      have e : impl_Platform_step (d, s, n, w, l, g, ()) (k, c, ()) = some ((d, s, n, w, l, g, ()), false) := by
        unfold impl_Platform_step
        rw [isEvent_other k c hk, Option.bind_some, cond_df h1, cond_df h2, cond_df h3, cond_df h4, cond_df h5, cond_df h6, cond_df h7, cond_df h8]
        rfl
      rw [e]; rfl
    · unfold spec_l14Step
      rw [event_other k c hk]
      rfl
theorem p_eta (p : Platform) : ((p.1, p.2.1, p.2.2.1, p.2.2.2.1, p.2.2.2.2.1, p.2.2.2.2.2.1, ()) : Platform) = p := rfl
theorem e_eta (e : BoardEvent) : ((e.1, e.2.1, ()) : BoardEvent) = e := rfl
theorem iter_tot {S R : Type} {f : S → Option (Lp S R)} (I : Nat → S → Prop) (Q : R → Prop) (n : Nat)
    (h : ∀ k s, k < n → I k s → (∃ s', f s = some (.go s') ∧ I (k + 1) s') ∨ ∃ r, f s = some (.out r) ∧ Q r)
    (h' : ∀ s, I n s → ∃ r, f s = some (.out r) ∧ Q r) {s : S} (h0 : I 0 s) : ∃ r, iter f s = some r ∧ Q r := by
  have key : ∀ d k s, k + d = n → I k s → ∃ r, iter f s = some r ∧ Q r := by
    intro d
    induction d with
    | zero =>
      intro k s hk hI
      obtain rfl : k = n := by omega
      obtain ⟨r, a, q⟩ := h' s hI
      exact ⟨r, iter_out a, q⟩
    | succ d ih =>
      intro k s hk hI
      rcases h k s (by omega) hI with ⟨s', a, hI'⟩ | ⟨r, a, q⟩
      · obtain ⟨r, e, q⟩ := ih (k + 1) s' (by omega) hI'
        exact ⟨r, (iter_go a).trans e, q⟩
      · exact ⟨r, iter_out a, q⟩
  exact key n 0 s (by omega) h0
/-- Running: what is reached, how many events, and each step on the way. -/
noncomputable def runP : List BoardEvent → Platform → Platform × Nat
  | [], p => (p, 0)
  | e :: es, p => match (impl_Platform_step p e).elim (zeroP, false) id with
    | (q, true) => ((runP es q).1, (runP es q).2 + 1)
    | (_, false) => (p, 0)
theorem runP_nil (p : Platform) : runP [] p = (p, 0) := rfl
theorem runP_yes {p q : Platform} {e : BoardEvent} (es : List BoardEvent) (h : StepR p e q true) : runP (e :: es) p = ((runP es q).1, (runP es q).2 + 1) := by
  simp only [runP, h.impl, Option.elim_some, id_eq]
theorem runP_no {p q : Platform} {e : BoardEvent} (es : List BoardEvent) (h : StepR p e q false) : runP (e :: es) p = (p, 0) := by
  simp only [runP, h.impl, Option.elim_some, id_eq]
theorem runP_le : ∀ (es : List BoardEvent) (p : Platform), goodB p = true → (runP es p).2 ≤ es.length ∧ goodB (runP es p).1 = true
  | [], p, h => ⟨Nat.le_refl _, h⟩
  | e :: es, p, h => by
    obtain ⟨q, b, hs⟩ := stepR p e h
    cases b with
    | false => rw [runP_no es hs]; exact ⟨Nat.zero_le _, h⟩
    | true =>
      rw [runP_yes es hs]
      obtain ⟨h1, h2⟩ := runP_le es q (hs.good rfl)
      exact ⟨by simp only [List.length_cons]; omega, h2⟩
theorem run_impl (l : List BoardEvent) (hl : l.length ≤ 1048576) : ∀ (es pre : List BoardEvent) (p : Platform), l = pre ++ es → goodB p = true →
    iter (fun s => impl_RunPlatform_loop1 l s.1 s.2.1 s.2.2.1 s.2.2.2.1 s.2.2.2.2.1 s.2.2.2.2.2.1 s.2.2.2.2.2.2.1 s.2.2.2.2.2.2.2) ((pre.length : Int), (pre.length : Int), p.1, p.2.1, p.2.2.1, p.2.2.2.1, p.2.2.2.2.1, p.2.2.2.2.2.1) =
      some (((pre.length + (runP es p).2 : Nat) : Int), (runP es p).1.1, (runP es p).1.2.1, (runP es p).1.2.2.1, (runP es p).1.2.2.2.1, (runP es p).1.2.2.2.2.1, (runP es p).1.2.2.2.2.2.1)
  | [], pre, p, hp, _ => by
    rw [List.append_nil] at hp
    subst hp
    refine iter_out ?_
    show impl_RunPlatform_loop1 l (l.length : Int) (l.length : Int) p.1 p.2.1 p.2.2.1 p.2.2.2.1 p.2.2.2.2.1 p.2.2.2.2.2.1 = _
    unfold impl_RunPlatform_loop1
    rw [cond_df (by omega)]
    rfl
  | e :: es, pre, p, hp, h => by
    have hlen : pre.length < l.length := by rw [hp]; simp
    have hget : l.getD pre.length d_BoardEvent = e := by rw [hp]; exact getD_mid pre e d_BoardEvent es
    obtain ⟨q, b, hs⟩ := stepR p e h
    have hstep : impl_RunPlatform_loop1 l (pre.length : Int) (pre.length : Int) p.1 p.2.1 p.2.2.1 p.2.2.2.1 p.2.2.2.2.1 p.2.2.2.2.2.1 = cond (!b) (some (.out ((pre.length : Int), p.1, p.2.1, p.2.2.1, p.2.2.2.1, p.2.2.2.2.1, p.2.2.2.2.2.1))) (some (.go (((pre.length + 1 : Nat) : Int), ((pre.length + 1 : Nat) : Int), q.1, q.2.1, q.2.2.1, q.2.2.2.1, q.2.2.2.2.1, q.2.2.2.2.2.1))) := by
      unfold impl_RunPlatform_loop1
      rw [cond_dt (by omega), grd_pos (by omega), Int.toNat_natCast, hget, e_eta, p_eta, hs.impl, Option.bind_some, w64_nat (by omega)]
    cases b with
    | false =>
      rw [runP_no es hs]
      exact iter_out hstep
    | true =>
      have e1 := run_impl l hl es (pre ++ [e]) q (by rw [hp]; simp) (hs.good rfl)
      rw [List.length_append] at e1
      refine (iter_go hstep).trans (e1.trans ?_)
      rw [runP_yes es hs]
      refine congrArg some (congrArg (fun x : Nat => ((x : Int), _)) ?_)
      simp only [List.length_cons, List.length_nil]
      omega
theorem kind_ok (p : Platform) (hg : goodB p = true) (k : ByteArray) (hk : k ∈ ([(ByteArray.mk #[99, 111, 109, 101]), (ByteArray.mk #[111, 112, 101, 110]), (ByteArray.mk #[115, 104, 117, 116]), (ByteArray.mk #[101, 110, 116, 101, 114]), (ByteArray.mk #[108, 101, 97, 118, 101]), (ByteArray.mk #[97, 114, 114, 105, 118, 101]), (ByteArray.mk #[108, 101, 118, 101, 108]), (ByteArray.mk #[103, 111])] : List ByteArray)) :
    ∃ m lo hi C q, spec_l14Most k = some m ∧ spec_l1Least 1 m = some lo ∧ impl_boardCounts k = some (lo, hi) ∧ spec_l14Can p (k, lo, ()) = some C ∧ impl_Platform_step p (k, lo, ()) = some (q, C) := by
  obtain ⟨d, s, n, w, l, g, u⟩ := p
  simp only [List.mem_cons, List.not_mem_nil, or_false] at hk
  rcases hk with rfl | rfl | rfl | rfl | rfl | rfl | rfl | rfl
  · have st := (step_come d s n w g l 1 hg).1
    rw [show (decide (1 ≤ (1 : Int) ∧ (1 : Int) ≤ 16)) = true by decide, Bool.true_and] at st
    refine ⟨16, 1, 16, _, _, ?_, least_eq 1 16, ?_, can_come d s n w g l 1, st⟩
    · unfold spec_l14Most
      simp only [ne_come_open, ne_come_shut, ne_come_enter, ne_come_leave, ne_come_arrive, ne_come_level, ne_come_go, decide_true, decide_false, cond_true, cond_false]
    · unfold impl_boardCounts
      simp only [ne_come_enter, ne_come_leave, ne_come_arrive, decide_true, decide_false, cond_true, cond_false]
  · have st := (step_open d s n w g l 0 hg).1
    rw [show (decide ((0 : Int) = 0)) = true by decide, Bool.true_and] at st
    refine ⟨0, 0, 0, _, _, ?_, least_eq 1 0, ?_, can_open d s n w g l 0, st⟩
    · unfold spec_l14Most
      simp only [ne_open_come, ne_open_shut, ne_open_enter, ne_open_leave, ne_open_arrive, ne_open_level, ne_open_go, decide_true, decide_false, cond_true, cond_false]
    · unfold impl_boardCounts
      simp only [ne_open_come, ne_open_enter, ne_open_leave, ne_open_arrive, decide_false, cond_false]
  · have st := (step_shut d s n w g l 0 hg).1
    rw [show (decide ((0 : Int) = 0)) = true by decide, Bool.true_and] at st
    refine ⟨0, 0, 0, _, _, ?_, least_eq 1 0, ?_, can_shut d s n w g l 0, st⟩
    · unfold spec_l14Most
      simp only [ne_shut_come, ne_shut_open, ne_shut_enter, ne_shut_leave, ne_shut_arrive, ne_shut_level, ne_shut_go, decide_true, decide_false, cond_true, cond_false]
    · unfold impl_boardCounts
      simp only [ne_shut_come, ne_shut_enter, ne_shut_leave, ne_shut_arrive, decide_false, cond_false]
  · have st := (step_enter d s n w g l 1 hg).1
    rw [show (decide (1 ≤ (1 : Int) ∧ (1 : Int) ≤ 16)) = true by decide, Bool.true_and] at st
    refine ⟨16, 1, 16, _, _, ?_, least_eq 1 16, ?_, can_enter d s n w g l 1, st⟩
    · unfold spec_l14Most
      simp only [ne_enter_come, ne_enter_open, ne_enter_shut, ne_enter_leave, ne_enter_arrive, ne_enter_level, ne_enter_go, decide_true, decide_false, cond_true, cond_false]
    · unfold impl_boardCounts
      simp only [ne_enter_come, ne_enter_leave, ne_enter_arrive, decide_true, decide_false, cond_true, cond_false]
  · have st := (step_leave d s n w g l 1 hg).1
    rw [show (decide (1 ≤ (1 : Int) ∧ (1 : Int) ≤ 16)) = true by decide, Bool.true_and] at st
    refine ⟨16, 1, 16, _, _, ?_, least_eq 1 16, ?_, can_leave d s n w g l 1, st⟩
    · unfold spec_l14Most
      simp only [ne_leave_come, ne_leave_open, ne_leave_shut, ne_leave_enter, ne_leave_arrive, ne_leave_level, ne_leave_go, decide_true, decide_false, cond_true, cond_false]
    · unfold impl_boardCounts
      simp only [ne_leave_come, ne_leave_enter, ne_leave_arrive, decide_true, decide_false, cond_true, cond_false]
  · have st := (step_arrive d s n w g l 1 hg).1
    rw [show (decide (1 ≤ (1 : Int) ∧ (1 : Int) ≤ 100)) = true by decide, Bool.true_and] at st
    refine ⟨100, 1, 100, _, _, ?_, least_eq 1 100, ?_, can_arrive d s n w g l 1, st⟩
    · unfold spec_l14Most
      simp only [ne_arrive_come, ne_arrive_open, ne_arrive_shut, ne_arrive_enter, ne_arrive_leave, ne_arrive_level, ne_arrive_go, decide_true, decide_false, cond_true, cond_false]
    · unfold impl_boardCounts
      simp only [ne_arrive_come, ne_arrive_enter, ne_arrive_leave, decide_true, decide_false, cond_true, cond_false]
  · have st := (step_level d s n w g l 0 hg).1
    rw [show (decide ((0 : Int) = 0)) = true by decide, Bool.true_and] at st
    refine ⟨0, 0, 0, _, _, ?_, least_eq 1 0, ?_, can_level d s n w g l 0, st⟩
    · unfold spec_l14Most
      simp only [ne_level_come, ne_level_open, ne_level_shut, ne_level_enter, ne_level_leave, ne_level_arrive, ne_level_go, decide_true, decide_false, cond_true, cond_false]
    · unfold impl_boardCounts
      simp only [ne_level_come, ne_level_enter, ne_level_leave, ne_level_arrive, decide_false, cond_false]
  · have st := (step_go d s n w g l 0 hg).1
    rw [show (decide ((0 : Int) = 0)) = true by decide, Bool.true_and] at st
    refine ⟨0, 0, 0, _, _, ?_, least_eq 1 0, ?_, can_go d s n w g l 0, st⟩
    · unfold spec_l14Most
      simp only [ne_go_come, ne_go_open, ne_go_shut, ne_go_enter, ne_go_leave, ne_go_arrive, ne_go_level, decide_true, decide_false, cond_true, cond_false]
    · unfold impl_boardCounts
      simp only [ne_go_come, ne_go_enter, ne_go_leave, ne_go_arrive, decide_false, cond_false]
/-- The place of the reader stays small; what it reads are bytes. -/
def CG (c : l1Cur) (n : Int) : Prop := (∀ x ∈ c.1, 0 ≤ x ∧ x ≤ 255) ∧ c.1.length ≤ 1048576 ∧ 0 ≤ c.2.1 ∧ c.2.1 ≤ n
theorem CG.up {c : l1Cur} {n m : Int} (h : CG c n) (hm : n ≤ m) : CG c m := ⟨h.1, h.2.1, h.2.2.1, by have := h.2.2.2; omega⟩
def Gives {α : Type} (x : Option (α × l1Cur)) (n : Int) (Q : α → Prop) : Prop := ∃ a c, x = some (a, c) ∧ CG c n ∧ Q a
theorem Gives.ret {α : Type} {a : α} {c : l1Cur} {n : Int} {Q : α → Prop} (h : CG c n) (hq : Q a) : Gives (some (a, c)) n Q := ⟨a, c, rfl, h, hq⟩
theorem Gives.mono {α : Type} {x : Option (α × l1Cur)} {n m : Int} {P Q : α → Prop} (h : Gives x n P) (hm : n ≤ m) (hq : ∀ a, P a → Q a) : Gives x m Q := by
  obtain ⟨a, c, e, h1, h2⟩ := h
  exact ⟨a, c, e, h1.up hm, hq a h2⟩
theorem gives_bind {α β : Type} {x : Option (α × l1Cur)} {f : α × l1Cur → Option (β × l1Cur)} {n m : Int} {P : α → Prop} {Q : β → Prop} (h : Gives x n P)
    (hf : ∀ a code at' seed, P a → CG (code, at', seed, ()) n → Gives (f (a, (code, at', seed, ()))) m Q) : Gives (x.bind f) m Q := by
  obtain ⟨a, ⟨code, at', seed, u⟩, e, h1, h2⟩ := h
  rw [e]
  exact hf a code at' seed h2 h1
theorem gives_cond {α : Type} {b : Bool} {x y : Option (α × l1Cur)} {n : Int} {Q : α → Prop} (h1 : b = true → Gives x n Q) (h2 : b = false → Gives y n Q) : Gives (cond b x y) n Q := by
  cases b
  · exact h2 rfl
  · exact h1 rfl
theorem gives_grd {α : Type} {p : Prop} [Decidable p] {x : Option (α × l1Cur)} {n : Int} {Q : α → Prop} (hp : p) (h : Gives x n Q) : Gives (grd p x) n Q := by
  rw [grd_pos hp]; exact h

theorem and255 (x : Int) : 0 ≤ w64 (wu64 ((BitVec.ofInt (IntKind.u64).bits x &&& BitVec.ofInt (IntKind.u64).bits (255 : Int)).toNat)) ∧ w64 (wu64 ((BitVec.ofInt (IntKind.u64).bits x &&& BitVec.ofInt (IntKind.u64).bits (255 : Int)).toNat)) ≤ 255 := by
  have h : (BitVec.ofInt (IntKind.u64).bits x &&& BitVec.ofInt (IntKind.u64).bits (255 : Int)).toNat ≤ 255 := by
    rw [BitVec.toNat_and]
    exact Nat.le_trans Nat.and_le_right (by decide)
  have e : wu64 ((BitVec.ofInt (IntKind.u64).bits x &&& BitVec.ofInt (IntKind.u64).bits (255 : Int)).toNat : Int) = ((BitVec.ofInt (IntKind.u64).bits x &&& BitVec.ofInt (IntKind.u64).bits (255 : Int)).toNat : Int) := by
    show IntKind.u64.wrap _ = _
    rw [IntKind.wrap_u64]; omega
  rw [e, w64_id (by omega) (by omega)]
  omega
theorem next_ok (c : l1Cur) (n : Int) (h : CG c n) (hn : n ≤ 1000000000000) : Gives (spec_l1Cur_next c) (n + 1) (fun v => 0 ≤ v ∧ v ≤ 255) := by
  obtain ⟨code, at', seed, u⟩ := c
  obtain ⟨hb, hl, h0, h1⟩ := h
  have h0 : 0 ≤ at' := h0
  have h1 : at' ≤ n := h1
  have hw : w64 (at' + 1) = at' + 1 := w64_id (by omega) (by omega)
  have key : ∃ b : Int, (cond (decide (at' < (code.length : Int))) (grd (0 ≤ at' ∧ at' < (code.length : Int)) ((some (w64 (code.getD at'.toNat 0))))) ((some (0 : Int)))) = some b ∧ 0 ≤ b ∧ b ≤ 255 := by
    by_cases hlt : at' < (code.length : Int)
    · rw [cond_dt hlt, grd_pos ⟨h0, hlt⟩]
      have hi : at'.toNat < code.length := by omega
      have hm : code.getD at'.toNat 0 ∈ code := by rw [getD_eq _ _ _ hi]; exact List.getElem_mem hi
      have := hb _ hm
      exact ⟨_, rfl, by rw [w64_id (by omega) (by omega)]; exact this⟩
    · rw [cond_df hlt]; exact ⟨0, rfl, by omega, by omega⟩
  obtain ⟨b, e, b0, b1⟩ := key
  unfold spec_l1Cur_next
  simp only [e, Option.bind_some]
  refine gives_cond (fun _ => ?_) (fun _ => ?_)
  · exact Gives.ret ⟨hb, hl, by show 0 ≤ w64 (at' + 1); omega, by show w64 (at' + 1) ≤ n + 1; omega⟩ ⟨b0, b1⟩
  · refine gives_grd (by omega) ?_
    exact Gives.ret ⟨hb, hl, by show 0 ≤ w64 (at' + 1); omega, by show w64 (at' + 1) ≤ n + 1; omega⟩ (and255 _)
theorem pick_ok (c : l1Cur) (n k : Int) (h : CG c n) (hn : n ≤ 100000000000) : Gives (spec_l1Cur_pick c k) (n + 2) (fun v => 0 ≤ v ∧ (v = 0 ∨ v < k)) := by
  obtain ⟨code, at', seed, u⟩ := c
  unfold spec_l1Cur_pick
  by_cases hk : k ≤ 1
  · rw [cond_dt hk]
    exact Gives.ret (h.up (by omega)) ⟨by omega, .inl rfl⟩
  rw [cond_df hk]
  refine gives_bind (next_ok _ n h (by omega)) fun a code1 at1 seed1 ha hc => ?_
  dsimp only
  by_cases h2 : 200 < k
  · rw [cond_dt h2]
    refine gives_bind (next_ok _ (n + 1) hc (by omega)) fun b code2 at2 seed2 hb hc => ?_
    dsimp only
    refine gives_grd (by omega) (Gives.ret (hc.up (by omega)) ?_)
    rw [w64_id (x := a * 256) (by omega) (by omega), w64_id (by omega) (by omega)]
    exact ⟨Int.tmod_nonneg _ (by omega), .inr (Int.tmod_lt_of_pos _ (by omega))⟩
  · rw [cond_df h2]
    refine gives_grd (by omega) (Gives.ret (hc.up (by omega)) ?_)
    exact ⟨Int.tmod_nonneg _ (by omega), .inr (Int.tmod_lt_of_pos _ (by omega))⟩
theorem among_ok (c : l1Cur) (n : Int) (l : List Int) (hl : l ≠ []) (h : CG c n) (hn : n ≤ 100000000000) : Gives (spec_l1Cur_among c l) (n + 2) (fun v => v ∈ l) := by
  obtain ⟨code, at', seed, u⟩ := c
  unfold spec_l1Cur_among
  refine gives_bind (pick_ok _ n _ h hn) fun a code1 at1 seed1 ha hc => ?_
  dsimp only
  have hpos : 0 < l.length := List.length_pos_iff.2 hl
  have hlt : a < (l.length : Int) := by omega
  refine gives_grd ⟨ha.1, hlt⟩ (Gives.ret hc ?_)
  have hi : a.toNat < l.length := by omega
  show l.getD a.toNat 0 ∈ l
  rw [getD_eq _ _ _ hi]; exact List.getElem_mem hi
theorem one_ok (c : l1Cur) (n k : Int) (h : CG c n) (hn : n ≤ 100000000000) : Gives (spec_l1Cur_one c k) (n + 2) (fun _ => True) := by
  obtain ⟨code, at', seed, u⟩ := c
  unfold spec_l1Cur_one
  refine gives_bind (pick_ok _ n _ h hn) fun a code1 at1 seed1 ha hc => ?_
  dsimp only
  exact Gives.ret hc trivial
def Ex {γ : Type} (x : Option γ) (Q : γ → Prop) : Prop := ∃ z, x = some z ∧ Q z
theorem Ex.ret {γ : Type} {z : γ} {Q : γ → Prop} (h : Q z) : Ex (some z) Q := ⟨z, rfl, h⟩
theorem ex_cond {γ : Type} {b : Bool} {x y : Option γ} {Q : γ → Prop} (h1 : Ex x Q) (h2 : Ex y Q) : Ex (cond b x y) Q := by
  cases b
  · exact h2
  · exact h1
theorem ex_bind {γ δ : Type} {x : Option γ} {f : γ → Option δ} {P : γ → Prop} {Q : δ → Prop} (h : Ex x P) (hf : ∀ z, P z → Ex (f z) Q) : Ex (x.bind f) Q := by
  obtain ⟨z, e, hz⟩ := h
  rw [e]; exact hf z hz
theorem ex_gives {α γ : Type} {x : Option (α × l1Cur)} {f : α × l1Cur → Option γ} {n : Int} {P : α → Prop} {Q : γ → Prop} (h : Gives x n P)
    (hf : ∀ a code at' seed, P a → CG (code, at', seed, ()) n → Ex (f (a, (code, at', seed, ()))) Q) : Ex (x.bind f) Q := by
  obtain ⟨a, ⟨code, at', seed, u⟩, e, h1, h2⟩ := h
  rw [e]; exact hf a code at' seed h2 h1
theorem gives_join {α γ : Type} {x : Option γ} {f : γ → Option (α × l1Cur)} {m : Int} {P : γ → Prop} {Q : α → Prop} (h : Ex x P) (hf : ∀ z, P z → Gives (f z) m Q) : Gives (x.bind f) m Q := by
  obtain ⟨z, e, hz⟩ := h
  rw [e]; exact hf z hz
theorem platform_ok (c : l1Cur) (n : Int) (h : CG c n) (hn : n ≤ 1000000000) : Gives (spec_l1Cur_platform c) (n + 20) (fun _ => True) := by
  obtain ⟨code, at', seed, u⟩ := c
  unfold spec_l1Cur_platform
  refine gives_bind (among_ok _ n _ (by simp) h (by omega)) fun a1 _ _ _ _ hc => ?_
  dsimp only
  refine gives_bind (one_ok _ _ _ hc (by omega)) fun a2 _ _ _ _ hc => ?_
  dsimp only
  refine gives_bind (among_ok _ _ _ (by simp) hc (by omega)) fun a3 _ _ _ _ hc => ?_
  dsimp only
  refine gives_join (P := fun z => CG (z.1, z.2.1, z.2.2.1, ()) (n + 16)) ?_ fun z hz => ?_
  · refine ex_gives (one_ok _ _ _ hc (by omega)) fun a4 _ _ _ _ hc => ?_
    dsimp only
    refine ex_cond ?_ (Ex.ret (hc.up (by omega)))
    refine ex_gives (among_ok _ _ _ (by simp) hc (by omega)) fun a5 _ _ _ _ hc => ?_
    dsimp only
    refine ex_gives (pick_ok _ _ _ hc (by omega)) fun a6 _ _ _ _ hc => ?_
    dsimp only
    refine ex_gives (pick_ok _ _ _ hc (by omega)) fun a7 _ _ _ _ hc => ?_
    exact Ex.ret (hc.up (by omega))
  · refine gives_bind (pick_ok _ _ _ hz (by omega)) fun a9 _ _ _ _ hc => ?_
    dsimp only
    refine gives_cond (fun _ => ?_) (fun _ => gives_cond (fun _ => ?_) (fun _ => gives_cond (fun _ => ?_) (fun _ => gives_cond (fun _ => ?_) (fun _ => gives_cond (fun _ => ?_) (fun _ => Gives.ret (hc.up (by omega)) trivial)))))
    all_goals
      refine gives_bind (among_ok _ _ _ (by simp) hc (by omega)) fun a10 _ _ _ _ hc => ?_
      exact Gives.ret (hc.up (by omega)) trivial
theorem most_ex (k : ByteArray) : Ex (spec_l14Most k) (fun _ => True) := by
  unfold spec_l14Most
  exact ex_cond (Ex.ret trivial) (ex_cond (Ex.ret trivial) (ex_cond (Ex.ret trivial) (ex_cond (Ex.ret trivial) (ex_cond (Ex.ret trivial) (ex_cond (Ex.ret trivial) (ex_cond (Ex.ret trivial) (ex_cond (Ex.ret trivial) (Ex.ret trivial))))))))
theorem quick_loop : ∀ (N : Nat) (p : Platform) (out : List BoardEvent), goodB p = true → p.2.2.2.1 ≤ N → out.length + N ≤ 100000 →
    Ex (iter (fun s => spec_QuickestGo_loop1 s.1 s.2.1 s.2.2.1 s.2.2.2.1 s.2.2.2.2.1 s.2.2.2.2.2.1 s.2.2.2.2.2.2) (p.1, p.2.1, p.2.2.1, p.2.2.2.1, p.2.2.2.2.1, p.2.2.2.2.2.1, out)) (fun r => r.2.2.2.2.2.2.length ≤ out.length + N)
  | N, p, out, hg, hN, hl => by
    obtain ⟨d, s, n, w, l, g, u⟩ := p
    have hg' := (goodB_iff d s n w g l).1 hg
    have hN : w ≤ N := hN
    by_cases h0 : 0 < ent d s n w l
    · have hs1 : w64 (s - n) = s - n := w64_id (by omega) (by omega)
      have hle : ent d s n w l ≤ w ∧ ent d s n w l ≤ 16 := by
        unfold ent
        rw [hs1]
        split
        · split
          · split <;> split <;> omega
          · split <;> omega
        · omega
      cases N with
      | zero => omega
      | succ N =>
        obtain ⟨_, e2, e3⟩ := step_enter d s n w g l (ent d s n w l) hg
        have hb : (decide (1 ≤ ent d s n w l ∧ ent d s n w l ≤ 16) && decide (ent d s n w l ≤ ent d s n w l)) = true := by
          rw [decide_eq_true (by omega), decide_eq_true (by omega)]; rfl
        rw [hb] at e2 e3
        have hq := e3 rfl
        have hw : w64 (w - ent d s n w l) = w - ent d s n w l := w64_id (by omega) (by omega)
        obtain ⟨r, e4, h4⟩ := quick_loop N _ (out ++ [((ByteArray.mk #[101, 110, 116, 101, 114]), ent d s n w l, ())]) hq (by show w64 (w - ent d s n w l) ≤ N; rw [hw]; omega) (by simp only [List.length_append, List.length_cons, List.length_nil]; omega)
        refine ⟨r, (iter_go ?_).trans e4, by simp only [List.length_append, List.length_cons, List.length_nil] at h4; omega⟩
        show spec_QuickestGo_loop1 d s n w l g out = _
        unfold spec_QuickestGo_loop1
        rw [entering_eq, Option.bind_some, cond_dt h0, Option.bind_some, grd_pos (by simp only [List.length_cons, List.length_nil]; omega), e2, Option.bind_some]
        rfl
    · refine ⟨(d, s, n, w, l, g, out), iter_out ?_, by dsimp only; omega⟩
      show spec_QuickestGo_loop1 d s n w l g out = _
      unfold spec_QuickestGo_loop1
      rw [entering_eq, Option.bind_some, cond_df h0]
theorem quick_ok (p : Platform) : Ex (spec_QuickestGo p) (fun r => r.1.length ≤ 2000) := by
  obtain ⟨d, s, n, w, l, g, u⟩ := p
  unfold spec_QuickestGo
  rw [show spec_l14Good _ = some (goodB (d, s, n, w, l, g, ())) from good_eq _, Option.bind_some]
  cases hg : goodB (d, s, n, w, l, g, ()) with
  | false => exact Ex.ret (by simp)
  | true =>
    rw [Bool.not_true, cond_false]
    have hg' := (goodB_iff d s n w g l).1 hg
    dsimp only
    by_cases hs : s = 0
    · rw [cond_dt hs]; exact Ex.ret (by simp)
    rw [cond_df hs]
    refine ex_cond (Ex.ret (by simp)) ?_
    refine ex_bind (P := fun z => goodB (z.1, s, n, w, l, g, ()) = true ∧ z.2.length ≤ 1) ?_ fun z hz => ?_
    · by_cases hd : d = 0
      · rw [cond_dt hd]
        have hop : goodB ((1 : Int), s, n, w, l, g, ()) = true := (goodB_iff 1 s n w g l).2 (by omega)
        refine ex_cond (ex_cond ?_ (Ex.ret ⟨hg, by simp⟩)) (Ex.ret ⟨hg, by simp⟩)
        rw [grd_pos (by simp)]
        exact Ex.ret ⟨hop, by simp⟩
      · rw [cond_df hd]
        exact Ex.ret ⟨hg, by simp⟩
    · obtain ⟨z1, z2⟩ := z
      obtain ⟨hg2, hz2⟩ := hz
      have hz2 : z2.length ≤ 1 := hz2
      have hgz := (goodB_iff z1 s n w g l).1 hg2
      refine ex_bind (quick_loop 500 (z1, s, n, w, l, g, ()) z2 hg2 (by show w ≤ 500; omega) (by omega)) fun r hr => ?_
      refine ex_cond ?_ ?_
      · rw [grd_pos (by simp only [List.length_cons, List.length_nil]; omega), grd_pos (by simp only [List.length_append, List.length_cons, List.length_nil]; omega)]
        exact Ex.ret (by simp only [List.length_append, List.length_cons, List.length_nil]; omega)
      · rw [grd_pos (by simp only [List.length_cons, List.length_nil]; omega)]
        exact Ex.ret (by simp only [List.length_append, List.length_cons, List.length_nil]; omega)
theorem cg0 {code : List Int} (hc : Ty.fit (.sl (.int .u8)) code) : CG (code, 0, 0, ()) 0 := by
  refine ⟨fun x hx => ?_, hc.1, by show (0 : Int) ≤ 0; omega, by show (0 : Int) ≤ 0; omega⟩
  have := hc.2 x hx
  exact ⟨this.1, this.2⟩
theorem step_other (p : Platform) (k : ByteArray) (c : Int) (hk : k ∉ ([(ByteArray.mk #[99, 111, 109, 101]), (ByteArray.mk #[111, 112, 101, 110]), (ByteArray.mk #[115, 104, 117, 116]), (ByteArray.mk #[101, 110, 116, 101, 114]), (ByteArray.mk #[108, 101, 97, 118, 101]), (ByteArray.mk #[97, 114, 114, 105, 118, 101]), (ByteArray.mk #[108, 101, 118, 101, 108]), (ByteArray.mk #[103, 111])] : List ByteArray)) : impl_Platform_step p (k, c, ()) = some (p, false) := by
  have hk2 := hk
  simp only [List.mem_cons, List.not_mem_nil, or_false, not_or] at hk2
  obtain ⟨h1, h2, h3, h4, h5, h6, h7, h8⟩ := hk2
  unfold impl_Platform_step
  rw [isEvent_other k c hk, Option.bind_some, cond_df h1, cond_df h2, cond_df h3, cond_df h4, cond_df h5, cond_df h6, cond_df h7, cond_df h8]
  rfl
theorem mono (p : Platform) (hg : goodB p = true) (k : ByteArray) (c : Int) (q : Platform) (h : impl_Platform_step p (k, c, ()) = some (q, true)) :
    k ∈ ([(ByteArray.mk #[99, 111, 109, 101]), (ByteArray.mk #[111, 112, 101, 110]), (ByteArray.mk #[115, 104, 117, 116]), (ByteArray.mk #[101, 110, 116, 101, 114]), (ByteArray.mk #[108, 101, 97, 118, 101]), (ByteArray.mk #[97, 114, 114, 105, 118, 101]), (ByteArray.mk #[108, 101, 118, 101, 108]), (ByteArray.mk #[103, 111])] : List ByteArray) ∧ ∃ lo hi q', impl_boardCounts k = some (lo, hi) ∧ impl_Platform_step p (k, lo, ()) = some (q', true) := by
  by_cases hk : k ∈ ([(ByteArray.mk #[99, 111, 109, 101]), (ByteArray.mk #[111, 112, 101, 110]), (ByteArray.mk #[115, 104, 117, 116]), (ByteArray.mk #[101, 110, 116, 101, 114]), (ByteArray.mk #[108, 101, 97, 118, 101]), (ByteArray.mk #[97, 114, 114, 105, 118, 101]), (ByteArray.mk #[108, 101, 118, 101, 108]), (ByteArray.mk #[103, 111])] : List ByteArray)
  case neg => rw [step_other p k c hk] at h; cases h
  refine ⟨hk, ?_⟩
  obtain ⟨d, s, n, w, l, g, u⟩ := p
  have hg' := (goodB_iff d s n w g l).1 hg
  simp only [List.mem_cons, List.not_mem_nil, or_false] at hk
  rcases hk with rfl | rfl | rfl | rfl | rfl | rfl | rfl | rfl
  · have h2 := (step_come d s n w g l c hg).1.symm.trans h
    have hb := congrArg Prod.snd (Option.some.inj h2)
    refine ⟨1, 16, _, ?_, (step_come d s n w g l 1 hg).1.trans (congrArg (fun b => some (_, b)) ?_)⟩
    · unfold impl_boardCounts
      simp only [ne_come_enter, ne_come_leave, ne_come_arrive, decide_true, decide_false, cond_true, cond_false]
    · simp only [Bool.and_eq_true, decide_eq_true_eq] at hb ⊢
      omega
  · have h2 := (step_open d s n w g l c hg).1.symm.trans h
    have hb := congrArg Prod.snd (Option.some.inj h2)
    refine ⟨0, 0, _, ?_, (step_open d s n w g l 0 hg).1.trans (congrArg (fun b => some (_, b)) ?_)⟩
    · unfold impl_boardCounts
      simp only [ne_open_come, ne_open_enter, ne_open_leave, ne_open_arrive, decide_false, cond_false]
    · simp only [Bool.and_eq_true, decide_eq_true_eq, true_and] at hb ⊢
      omega
  · have h2 := (step_shut d s n w g l c hg).1.symm.trans h
    have hb := congrArg Prod.snd (Option.some.inj h2)
    refine ⟨0, 0, _, ?_, (step_shut d s n w g l 0 hg).1.trans (congrArg (fun b => some (_, b)) ?_)⟩
    · unfold impl_boardCounts
      simp only [ne_shut_come, ne_shut_enter, ne_shut_leave, ne_shut_arrive, decide_false, cond_false]
    · simp only [Bool.and_eq_true, decide_eq_true_eq, true_and] at hb ⊢
      omega
  · have h2 := (step_enter d s n w g l c hg).1.symm.trans h
    have hb := congrArg Prod.snd (Option.some.inj h2)
    refine ⟨1, 16, _, ?_, (step_enter d s n w g l 1 hg).1.trans (congrArg (fun b => some (_, b)) ?_)⟩
    · unfold impl_boardCounts
      simp only [ne_enter_come, ne_enter_leave, ne_enter_arrive, decide_true, decide_false, cond_true, cond_false]
    · simp only [Bool.and_eq_true, decide_eq_true_eq] at hb ⊢
      omega
  · have h2 := (step_leave d s n w g l c hg).1.symm.trans h
    have hb := congrArg Prod.snd (Option.some.inj h2)
    refine ⟨1, 16, _, ?_, (step_leave d s n w g l 1 hg).1.trans (congrArg (fun b => some (_, b)) ?_)⟩
    · unfold impl_boardCounts
      simp only [ne_leave_come, ne_leave_enter, ne_leave_arrive, decide_true, decide_false, cond_true, cond_false]
    · simp only [Bool.and_eq_true, decide_eq_true_eq] at hb ⊢
      omega
  · have h2 := (step_arrive d s n w g l c hg).1.symm.trans h
    have hb := congrArg Prod.snd (Option.some.inj h2)
    refine ⟨1, 100, _, ?_, (step_arrive d s n w g l 1 hg).1.trans (congrArg (fun b => some (_, b)) ?_)⟩
    · unfold impl_boardCounts
      simp only [ne_arrive_come, ne_arrive_enter, ne_arrive_leave, decide_true, decide_false, cond_true, cond_false]
    · simp only [Bool.and_eq_true, decide_eq_true_eq] at hb ⊢
      rw [w64_id (by omega) (by omega)] at hb
      rw [w64_id (by omega) (by omega)]
      omega
  · have h2 := (step_level d s n w g l c hg).1.symm.trans h
    have hb := congrArg Prod.snd (Option.some.inj h2)
    refine ⟨0, 0, _, ?_, (step_level d s n w g l 0 hg).1.trans (congrArg (fun b => some (_, b)) ?_)⟩
    · unfold impl_boardCounts
      simp only [ne_level_come, ne_level_enter, ne_level_leave, ne_level_arrive, decide_false, cond_false]
    · cases l
      · simp only [Bool.and_eq_true, decide_eq_true_eq, Bool.not_false, true_and] at hb ⊢
        omega
      · simp at hb
  · have h2 := (step_go d s n w g l c hg).1.symm.trans h
    have hb := congrArg Prod.snd (Option.some.inj h2)
    refine ⟨0, 0, _, ?_, (step_go d s n w g l 0 hg).1.trans (congrArg (fun b => some (_, b)) ?_)⟩
    · unfold impl_boardCounts
      simp only [ne_go_come, ne_go_enter, ne_go_leave, ne_go_arrive, decide_false, cond_false]
    · simp only [Bool.and_eq_true, decide_eq_true_eq, true_and] at hb ⊢
      omega
theorem ev_ex (e : BoardEvent) : ∃ b, impl_IsBoardEvent e = some b ∧ spec_l14Event e = some b := by
  obtain ⟨k, c, v⟩ := e
  by_cases hk : k ∈ ([(ByteArray.mk #[99, 111, 109, 101]), (ByteArray.mk #[111, 112, 101, 110]), (ByteArray.mk #[115, 104, 117, 116]), (ByteArray.mk #[101, 110, 116, 101, 114]), (ByteArray.mk #[108, 101, 97, 118, 101]), (ByteArray.mk #[97, 114, 114, 105, 118, 101]), (ByteArray.mk #[108, 101, 118, 101, 108]), (ByteArray.mk #[103, 111])] : List ByteArray)
  · simp only [List.mem_cons, List.not_mem_nil, or_false] at hk
    rcases hk with rfl | rfl | rfl | rfl | rfl | rfl | rfl | rfl
    · exact ⟨_, isEvent_come c, event_come c⟩
    · exact ⟨_, isEvent_open c, event_open c⟩
    · exact ⟨_, isEvent_shut c, event_shut c⟩
    · exact ⟨_, isEvent_enter c, event_enter c⟩
    · exact ⟨_, isEvent_leave c, event_leave c⟩
    · exact ⟨_, isEvent_arrive c, event_arrive c⟩
    · exact ⟨_, isEvent_level c, event_level c⟩
    · exact ⟨_, isEvent_go c, event_go c⟩
  · exact ⟨_, isEvent_other k c hk, event_other k c hk⟩
noncomputable def evOf (e : BoardEvent) : Bool := (impl_IsBoardEvent e).getD false
theorem ev_eq (e : BoardEvent) : impl_IsBoardEvent e = some (evOf e) ∧ spec_l14Event e = some (evOf e) := by
  obtain ⟨b, e1, e2⟩ := ev_ex e
  unfold evOf
  rw [e1, e2]
  exact ⟨rfl, rfl⟩
theorem most_in (k : ByteArray) (hk : k ∈ ([(ByteArray.mk #[99, 111, 109, 101]), (ByteArray.mk #[111, 112, 101, 110]), (ByteArray.mk #[115, 104, 117, 116]), (ByteArray.mk #[101, 110, 116, 101, 114]), (ByteArray.mk #[108, 101, 97, 118, 101]), (ByteArray.mk #[97, 114, 114, 105, 118, 101]), (ByteArray.mk #[108, 101, 118, 101, 108]), (ByteArray.mk #[103, 111])] : List ByteArray)) : ∃ m : Int, 0 ≤ m ∧ spec_l14Most k = some m := by
  simp only [List.mem_cons, List.not_mem_nil, or_false] at hk
  rcases hk with rfl | rfl | rfl | rfl | rfl | rfl | rfl | rfl
  · refine ⟨16, by omega, ?_⟩
    unfold spec_l14Most
    simp only [ne_come_open, ne_come_shut, ne_come_enter, ne_come_leave, ne_come_arrive, ne_come_level, ne_come_go, decide_true, decide_false, cond_true, cond_false]
  · refine ⟨0, by omega, ?_⟩
    unfold spec_l14Most
    simp only [ne_open_come, ne_open_shut, ne_open_enter, ne_open_leave, ne_open_arrive, ne_open_level, ne_open_go, decide_true, decide_false, cond_true, cond_false]
  · refine ⟨0, by omega, ?_⟩
    unfold spec_l14Most
    simp only [ne_shut_come, ne_shut_open, ne_shut_enter, ne_shut_leave, ne_shut_arrive, ne_shut_level, ne_shut_go, decide_true, decide_false, cond_true, cond_false]
  · refine ⟨16, by omega, ?_⟩
    unfold spec_l14Most
    simp only [ne_enter_come, ne_enter_open, ne_enter_shut, ne_enter_leave, ne_enter_arrive, ne_enter_level, ne_enter_go, decide_true, decide_false, cond_true, cond_false]
  · refine ⟨16, by omega, ?_⟩
    unfold spec_l14Most
    simp only [ne_leave_come, ne_leave_open, ne_leave_shut, ne_leave_enter, ne_leave_arrive, ne_leave_level, ne_leave_go, decide_true, decide_false, cond_true, cond_false]
  · refine ⟨100, by omega, ?_⟩
    unfold spec_l14Most
    simp only [ne_arrive_come, ne_arrive_open, ne_arrive_shut, ne_arrive_enter, ne_arrive_leave, ne_arrive_level, ne_arrive_go, decide_true, decide_false, cond_true, cond_false]
  · refine ⟨0, by omega, ?_⟩
    unfold spec_l14Most
    simp only [ne_level_come, ne_level_open, ne_level_shut, ne_level_enter, ne_level_leave, ne_level_arrive, ne_level_go, decide_true, decide_false, cond_true, cond_false]
  · refine ⟨0, by omega, ?_⟩
    unfold spec_l14Most
    simp only [ne_go_come, ne_go_open, ne_go_shut, ne_go_enter, ne_go_leave, ne_go_arrive, ne_go_level, decide_true, decide_false, cond_true, cond_false]
noncomputable def cntK (l : List BoardEvent) (kind : ByteArray) : Nat → Int × Int
  | 0 => (0, 0)
  | k + 1 => cond (decide ((l.getD k d_BoardEvent).1 = kind)) (w64 ((cntK l kind k).1 + 1), w64 ((cntK l kind k).2 + (l.getD k d_BoardEvent).2.1)) (cntK l kind k)
theorem stepPlat_yes {p q : Platform} {e : BoardEvent} (hg : goodB p = true) (h : StepR p e q true) : impl_StepPlatform p e = some (q, true) := by
  unfold impl_StepPlatform
  simp only [p_eta, e_eta, isPlat_eq, hg, h.impl, Option.bind_some, Bool.not_true, cond_false]
theorem stepPlat_no {p q : Platform} {e : BoardEvent} (hg : goodB p = true) (h : StepR p e q false) : impl_StepPlatform p e = some (zeroP, false) := by
  unfold impl_StepPlatform
  simp only [p_eta, e_eta, isPlat_eq, hg, h.impl, Option.bind_some, Bool.not_true, Bool.not_false, cond_false, cond_true]
theorem stops : ∀ (es : List BoardEvent) (p : Platform), goodB p = true → (runP es p).2 < es.length → ∃ q', StepR (runP es p).1 (es.getD (runP es p).2 d_BoardEvent) q' false
  | [], p, _, h => by simp [runP_nil] at h
  | e :: es, p, hg, h => by
    obtain ⟨q, b, hs⟩ := stepR p e hg
    cases b with
    | false => rw [runP_no es hs]; exact ⟨q, hs⟩
    | true =>
      rw [runP_yes es hs] at h ⊢
      have := stops es q (hs.good rfl) (by simpa using h)
      exact this
theorem starts (es : List BoardEvent) (p : Platform) (hg : goodB p = true) (h : 0 < (runP es p).2) : ∃ e0 tl q0, es = e0 :: tl ∧ StepR p e0 q0 true ∧ runP es p = ((runP tl q0).1, (runP tl q0).2 + 1) := by
  cases es with
  | nil => simp [runP_nil] at h
  | cons e es =>
    obtain ⟨q, b, hs⟩ := stepR p e hg
    cases b with
    | false => rw [runP_no es hs] at h; simp at h
    | true => exact ⟨e, es, q, rfl, hs, runP_yes es hs⟩
theorem entering_most (d s n w g : Int) (l : Bool) (h : goodB (d, s, n, w, l, g, ()) = true) : impl_Platform_mostEntering (d, s, n, w, l, g, ()) = some (ent d s n w l) := by
  have hg := (goodB_iff d s n w g l).1 h
  have e1 : w64 (s - n) = s - n := w64_id (by omega) (by omega)
  unfold impl_Platform_mostEntering ent
  dsimp only
  rw [e1]
  by_cases hd : d = 0
  · rw [cond_dt hd, if_neg (show ¬ d = 1 by omega)]
  · rw [cond_df hd, if_pos (show d = 1 by omega)]
    cases l with
    | false =>
      simp only [cond_false, if_true, Bool.false_eq_true, if_false]
      refine congrArg some ?_
      split <;> split <;> omega
    | true =>
      simp only [cond_true, if_true]
      refine congrArg some ?_
      split <;> split <;> split <;> (try split) <;> omega
theorem add_eq (k : ByteArray) (c : Int) (out : List BoardEvent) (p q : Platform) (b : Bool) (h : impl_Platform_step p (k, c, ()) = some (q, b)) (hl : out.length ≤ 1000000) : impl_QuickestGo_1_i1 k c out p = some (out ++ [(k, c, ())], q) := by
  unfold impl_QuickestGo_1_i1
  rw [grd_pos (by simp only [List.length_cons, List.length_nil]; omega), p_eta, h]
  rfl
theorem quick_loops : ∀ (N : Nat) (d s n w g : Int) (l : Bool) (out : List BoardEvent), goodB (d, s, n, w, l, g, ()) = true → w ≤ N → out.length + N ≤ 100000 →
    ∃ (d' s' n' w' g' : Int) (l' : Bool) (out' : List BoardEvent), iter (fun s => spec_QuickestGo_loop1 s.1 s.2.1 s.2.2.1 s.2.2.2.1 s.2.2.2.2.1 s.2.2.2.2.2.1 s.2.2.2.2.2.2) (d, s, n, w, l, g, out) = some (d', s', n', w', l', g', out') ∧
      iter (fun s => impl_QuickestGo_loop1 s.1 s.2.1 s.2.2.1 s.2.2.2.1 s.2.2.2.2.1 s.2.2.2.2.2.1 s.2.2.2.2.2.2) (d, s, n, w, l, g, out) = some (d', s', n', w', l', g', out') ∧ goodB (d', s', n', w', l', g', ()) = true ∧ out'.length ≤ out.length + N
  | N, d, s, n, w, g, l, out, hg, hN, hl => by
    have hg' := (goodB_iff d s n w g l).1 hg
    by_cases h0 : 0 < ent d s n w l
    · have hs1 : w64 (s - n) = s - n := w64_id (by omega) (by omega)
      have hle : ent d s n w l ≤ w ∧ ent d s n w l ≤ 16 := by
        unfold ent
        rw [hs1]
        split
        · split
          · split <;> split <;> omega
          · split <;> omega
        · omega
      cases N with
      | zero => omega
      | succ N =>
        obtain ⟨e1, e2, e3⟩ := step_enter d s n w g l (ent d s n w l) hg
        have hb : (decide (1 ≤ ent d s n w l ∧ ent d s n w l ≤ 16) && decide (ent d s n w l ≤ ent d s n w l)) = true := by
          rw [decide_eq_true (by omega), decide_eq_true (by omega)]; rfl
        rw [hb] at e1 e2 e3
        have hq := e3 rfl
        have hw : w64 (w - ent d s n w l) = w - ent d s n w l := w64_id (by omega) (by omega)
        obtain ⟨d', s', n', w', g', l', out', f1, f2, f3, f4⟩ := quick_loops N d s (w64 (n + ent d s n w l)) (w64 (w - ent d s n w l)) g false (out ++ [((ByteArray.mk #[101, 110, 116, 101, 114]), ent d s n w l, ())]) hq (by rw [hw]; omega) (by simp only [List.length_append, List.length_cons, List.length_nil]; omega)
        refine ⟨d', s', n', w', g', l', out', (iter_go ?_).trans f1, (iter_go ?_).trans f2, f3, by simp only [List.length_append, List.length_cons, List.length_nil] at f4; omega⟩
        · show spec_QuickestGo_loop1 d s n w l g out = _
          unfold spec_QuickestGo_loop1
          rw [entering_eq, Option.bind_some, cond_dt h0, Option.bind_some, grd_pos (by simp only [List.length_cons, List.length_nil]; omega), e2, Option.bind_some]
          rfl
        · show impl_QuickestGo_loop1 d s n w l g out = _
          unfold impl_QuickestGo_loop1
          rw [entering_most d s n w g l hg, Option.bind_some, cond_dt h0, Option.bind_some, add_eq _ _ _ _ _ _ e1 (by omega), Option.bind_some]
    · refine ⟨d, s, n, w, g, l, out, iter_out ?_, iter_out ?_, hg, by omega⟩
      · show spec_QuickestGo_loop1 d s n w l g out = _
        unfold spec_QuickestGo_loop1
        rw [entering_eq, Option.bind_some, cond_df h0]
      · show impl_QuickestGo_loop1 d s n w l g out = _
        unfold impl_QuickestGo_loop1
        rw [entering_most d s n w g l hg, Option.bind_some, cond_df h0]
theorem quick_eq (p : Platform) : (spec_QuickestGo p = some ([], false) ∧ impl_QuickestGo p = some (Sum.inl ())) ∨
    ∃ x, spec_QuickestGo p = some (x, true) ∧ impl_QuickestGo p = some (Sum.inr x) ∧ x.length ≤ 2000 := by
  obtain ⟨d, s, n, w, l, g, u⟩ := p
  unfold spec_QuickestGo impl_QuickestGo
  rw [show spec_l14Good _ = some (goodB (d, s, n, w, l, g, ())) from good_eq _, show impl_IsPlatform _ = some (goodB (d, s, n, w, l, g, ())) from isPlat_eq _, Option.bind_some, Option.bind_some]
  cases hg : goodB (d, s, n, w, l, g, ()) with
  | false => exact .inl ⟨rfl, rfl⟩
  | true =>
    rw [Bool.not_true, cond_false, cond_false]
    have hg' := (goodB_iff d s n w g l).1 hg
    dsimp only
    by_cases hs : s = 0
    · rw [cond_dt hs, cond_dt hs]; exact .inl ⟨rfl, rfl⟩
    rw [cond_df hs, cond_df hs]
    by_cases hgo : g = 9999
    · rw [cond_dt hgo, cond_dt hgo]; exact .inl ⟨rfl, rfl⟩
    rw [cond_df hgo, cond_df hgo]
    right
    have tail : ∀ (d0 : Int) (o0 : List BoardEvent), goodB (d0, s, n, w, l, g, ()) = true → o0.length ≤ 1 →
        ∃ x, ((iter (fun s => spec_QuickestGo_loop1 s.1 s.2.1 s.2.2.1 s.2.2.2.1 s.2.2.2.2.1 s.2.2.2.2.2.1 s.2.2.2.2.2.2) (d0, s, n, w, l, g, o0)).bind (fun r => (cond (decide (r.1 = (1 : Int))) (grd (r.2.2.2.2.2.2.length + [((ByteArray.mk #[115, 104, 117, 116]), (0 : Int), ())].length ≤ 140737488355328 / 24 ∧ r.2.2.2.2.2.2.length + [((ByteArray.mk #[115, 104, 117, 116]), (0 : Int), ())].length ≤ 140737488355328) (grd ((r.2.2.2.2.2.2 ++ [((ByteArray.mk #[115, 104, 117, 116]), (0 : Int), ())]).length + [((ByteArray.mk #[103, 111]), (0 : Int), ())].length ≤ 140737488355328 / 24 ∧ (r.2.2.2.2.2.2 ++ [((ByteArray.mk #[115, 104, 117, 116]), (0 : Int), ())]).length + [((ByteArray.mk #[103, 111]), (0 : Int), ())].length ≤ 140737488355328) ((some (((r.2.2.2.2.2.2 ++ [((ByteArray.mk #[115, 104, 117, 116]), (0 : Int), ())]) ++ [((ByteArray.mk #[103, 111]), (0 : Int), ())]), true))))) (grd (r.2.2.2.2.2.2.length + [((ByteArray.mk #[103, 111]), (0 : Int), ())].length ≤ 140737488355328 / 24 ∧ r.2.2.2.2.2.2.length + [((ByteArray.mk #[103, 111]), (0 : Int), ())].length ≤ 140737488355328) ((some ((r.2.2.2.2.2.2 ++ [((ByteArray.mk #[103, 111]), (0 : Int), ())]), true))))))) = some (x, true) ∧
          ((iter (fun s => impl_QuickestGo_loop1 s.1 s.2.1 s.2.2.1 s.2.2.2.1 s.2.2.2.2.1 s.2.2.2.2.2.1 s.2.2.2.2.2.2) (d0, s, n, w, l, g, o0)).bind (fun r => (cond (decide (r.1 = (1 : Int))) ((impl_QuickestGo_1_i1 (ByteArray.mk #[115, 104, 117, 116]) (0 : Int) r.2.2.2.2.2.2 (r.1, r.2.1, r.2.2.1, r.2.2.2.1, r.2.2.2.2.1, r.2.2.2.2.2.1, ())).bind fun y25 => ((impl_QuickestGo_1_i1 (ByteArray.mk #[103, 111]) (0 : Int) y25.1 (y25.2.1, y25.2.2.1, y25.2.2.2.1, y25.2.2.2.2.1, y25.2.2.2.2.2.1, y25.2.2.2.2.2.2.1, ())).bind fun y26 => (some (Sum.inr y26.1)))) ((impl_QuickestGo_1_i1 (ByteArray.mk #[103, 111]) (0 : Int) r.2.2.2.2.2.2 (r.1, r.2.1, r.2.2.1, r.2.2.2.1, r.2.2.2.2.1, r.2.2.2.2.2.1, ())).bind fun y27 => (some (Sum.inr y27.1)))))) = some (Sum.inr x : Unit ⊕ (List BoardEvent)) ∧ x.length ≤ 2000 := by
      intro d0 o0 h0 ho
      obtain ⟨d', s', n', w', g', l', out', f1, f2, f3, f4⟩ := quick_loops 500 d0 s n w g l o0 h0 (by omega) (by omega)
      rw [f1, f2, Option.bind_some, Option.bind_some]
      dsimp only
      have hg3 := (goodB_iff d' s' n' w' g' l').1 f3
      by_cases hd : d' = 1
      · rw [cond_dt hd, cond_dt hd]
        obtain ⟨e1, _, e3⟩ := step_shut d' s' n' w' g' l' 0 f3
        have hb : (decide ((0 : Int) = 0) && decide (d' = 1)) = true := by rw [decide_eq_true hd]; rfl
        rw [hb] at e1 e3
        obtain ⟨e4, _, _⟩ := step_go 0 s' n' w' g' l' 0 (e3 rfl)
        rw [grd_pos (by simp only [List.length_cons, List.length_nil]; omega), grd_pos (by simp only [List.length_append, List.length_cons, List.length_nil]; omega), add_eq _ _ _ _ _ _ e1 (by omega), Option.bind_some, add_eq _ _ _ _ _ _ e4 (by simp only [List.length_append, List.length_cons, List.length_nil]; omega)]
        exact ⟨_, rfl, rfl, by simp only [List.length_append, List.length_cons, List.length_nil]; omega⟩
      · rw [cond_df hd, cond_df hd]
        obtain ⟨e4, _, _⟩ := step_go d' s' n' w' g' l' 0 f3
        rw [grd_pos (by simp only [List.length_cons, List.length_nil]; omega), add_eq _ _ _ _ _ _ e4 (by omega)]
        exact ⟨_, rfl, rfl, by simp only [List.length_append, List.length_cons, List.length_nil]; omega⟩
    have same : ∃ (d0 : Int) (o0 : List BoardEvent), (cond (decide (d = (0 : Int))) (cond (decide ((0 : Int) < w)) (cond (decide (n < s)) (grd (([] : List BoardEvent).length + [((ByteArray.mk #[111, 112, 101, 110]), (0 : Int), ())].length ≤ 140737488355328 / 24 ∧ ([] : List BoardEvent).length + [((ByteArray.mk #[111, 112, 101, 110]), (0 : Int), ())].length ≤ 140737488355328) ((some ((1 : Int), (([] : List BoardEvent) ++ [((ByteArray.mk #[111, 112, 101, 110]), (0 : Int), ())]))))) ((some (d, ([] : List BoardEvent))))) ((some (d, ([] : List BoardEvent))))) ((some (d, ([] : List BoardEvent))))) = some (d0, o0) ∧ (cond (decide (d = (0 : Int))) (cond (decide ((0 : Int) < w)) (cond (decide (n < s)) ((impl_QuickestGo_1_i1 (ByteArray.mk #[111, 112, 101, 110]) (0 : Int) ([] : List BoardEvent) (d, s, n, w, l, g, ())).bind fun y2 => (some (y2.2.1, y2.2.2.1, y2.2.2.2.1, y2.2.2.2.2.1, y2.2.2.2.2.2.1, y2.2.2.2.2.2.2.1, y2.1))) ((some (d, s, n, w, l, g, ([] : List BoardEvent))))) ((some (d, s, n, w, l, g, ([] : List BoardEvent))))) ((some (d, s, n, w, l, g, ([] : List BoardEvent))))) = some (d0, s, n, w, l, g, o0) ∧ goodB (d0, s, n, w, l, g, ()) = true ∧ o0.length ≤ 1 := by
      have no : ∃ (d0 : Int) (o0 : List BoardEvent), some (d, ([] : List BoardEvent)) = some (d0, o0) ∧ some (d, s, n, w, l, g, ([] : List BoardEvent)) = some (d0, s, n, w, l, g, o0) ∧ goodB (d0, s, n, w, l, g, ()) = true ∧ o0.length ≤ 1 := ⟨d, [], rfl, rfl, hg, by simp⟩
      by_cases h1 : d = 0
      case neg => rw [cond_df h1, cond_df h1]; exact no
      rw [cond_dt h1, cond_dt h1]
      by_cases h2 : 0 < w
      case neg => rw [cond_df h2, cond_df h2]; exact no
      rw [cond_dt h2, cond_dt h2]
      by_cases h3 : n < s
      case neg => rw [cond_df h3, cond_df h3]; exact no
      rw [cond_dt h3, cond_dt h3]
      obtain ⟨e1, _, e3⟩ := step_open d s n w g l 0 hg
      have hb : (decide ((0 : Int) = 0) && (decide (0 < s) && decide (d = 0))) = true := by rw [decide_eq_true h1, decide_eq_true (show 0 < s by omega)]; rfl
      rw [hb] at e1 e3
      rw [grd_pos (by simp), add_eq _ _ _ _ _ _ e1 (by simp)]
      exact ⟨1, _, rfl, rfl, e3 rfl, by simp⟩
    obtain ⟨d0, o0, j1, j2, j3, j4⟩ := same
    obtain ⟨x, t1, t2, t3⟩ := tail d0 o0 j3 j4
    refine ⟨x, ?_, ?_, t3⟩
    · refine (congrArg (fun z => Option.bind z _) j1).trans ?_
      exact t1
    · refine (congrArg (fun z => Option.bind z _) j2).trans ?_
      exact t2
theorem getD_set_self {α : Type} (l : List α) (i : Nat) (a d : α) (h : i < l.length) : (l.set i a).getD i d = a := by
  simp [List.getD_eq_getElem?_getD, h]
end Go.Proofs.YteckiilljhdkpaaDoor
