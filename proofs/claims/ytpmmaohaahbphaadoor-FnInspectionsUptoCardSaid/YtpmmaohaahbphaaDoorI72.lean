/-
  Plain laws of what draws conditions and days.
-/
import Derived.Test.YtpmmaohaahbphaaDoorI71
namespace Go.Proofs.YtpmmaohaahbphaaDoor
open Go.RowKit

/-- A condition whose word is short. -/
def SC (r : Condition) : Prop := r.2.1.size ≤ 100
theorem SC_mk (a : Int) (s : ByteArray) (b c d : Int) (h : s.size ≤ 100) : SC ((a, s, b, c, d, ()) : Condition) := h
theorem word_size {v : ByteArray} {l : List ByteArray} (h : v ∈ l) (hl : (l.all fun s => decide (s.size ≤ 100)) = true) : v.size ≤ 100 := of_decide_eq_true (List.all_eq_true.1 hl v h)
theorem condition_ok (c : l1Cur) (n d : Int) (h : CG c n) (hn : n ≤ 10000000000) : Gives (spec_l1Cur_condition c d) (n + 12) SC := by
  obtain ⟨code, at', seed, u⟩ := c
  unfold spec_l1Cur_condition
  refine gives_bind (of_ok _ n _ (by simp) h (by omega)) fun w code1 at1 seed1 hw h1 => ?_
  have hw := word_size hw (by decide)
  refine gives_bind (among_ok _ _ _ (by simp) h1 (by omega)) fun v2 code2 at2 seed2 _ h2 => ?_
  refine gives_bind (among_ok _ _ _ (by simp) h2 (by omega)) fun v3 code3 at3 seed3 _ h3 => ?_
  refine gives_bind (among_ok _ _ _ (by simp) h3 (by omega)) fun v4 code4 at4 seed4 _ h4 => ?_
  refine gives_bind (pick_ok _ _ _ h4 (by omega)) fun v5 code5 at5 seed5 _ h5 => ?_
  dsimp only
  refine gives_cond (fun _ => ?_) (fun _ => gives_cond (fun _ => ?_) (fun _ => gives_cond (fun _ => ?_) (fun _ => gives_cond (fun _ => ?_) (fun _ => gives_cond (fun _ => ?_) (fun _ => ?_)))))
  · refine gives_bind (among_ok _ _ _ (by simp) h5 (by omega)) fun v6 code6 at6 seed6 _ h6 => ?_
    exact Gives.ret (h6.up (by omega)) (SC_mk _ _ _ _ _ hw)
  · refine gives_bind (of_ok _ _ _ (by simp) h5 (by omega)) fun v6 code6 at6 seed6 hv h6 => ?_
    exact Gives.ret (h6.up (by omega)) (SC_mk _ _ _ _ _ (word_size hv (by decide)))
  · refine gives_bind (among_ok _ _ _ (by simp) h5 (by omega)) fun v6 code6 at6 seed6 _ h6 => ?_
    exact Gives.ret (h6.up (by omega)) (SC_mk _ _ _ _ _ hw)
  · refine gives_bind (among_ok _ _ _ (by simp) h5 (by omega)) fun v6 code6 at6 seed6 _ h6 => ?_
    exact Gives.ret (h6.up (by omega)) (SC_mk _ _ _ _ _ hw)
  · refine gives_bind (among_ok _ _ _ (by simp) h5 (by omega)) fun v6 code6 at6 seed6 _ h6 => ?_
    exact Gives.ret (h6.up (by omega)) (SC_mk _ _ _ _ _ hw)
  · exact Gives.ret (h5.up (by omega)) (SC_mk _ _ _ _ _ hw)

/-- A few short conditions. -/
def LC (m : Nat) (l : List Condition) : Prop := l.length ≤ m ∧ ∀ r ∈ l, SC r
theorem LC.snoc {m : Nat} {l : List Condition} {r : Condition} (h : LC m l) (hr : SC r) : LC (m + 1) (l ++ [r]) := by
  refine ⟨by have := h.1; simp; omega, fun x hx => ?_⟩
  rcases List.mem_append.1 hx with hx | hx
  · exact h.2 x hx
  · rw [List.mem_singleton.1 hx]; exact hr
theorem loop1_ok : ∀ (k : Nat) (v28 v29 : Int) (code : List Int) (at' seed : Int) (l : List Condition) (n : Int) (m : Nat), v29 ≤ k → k ≤ 1000 → CG (code, at', seed, ()) n → n + 20 * k ≤ 1000000000 → m + k ≤ 1000 → LC m l →
    ∃ a code1 at1 seed1 l1, iter (fun s => spec_l1Cur_conditions_loop1 s.1 s.2.1 s.2.2.1 s.2.2.2.1 s.2.2.2.2.1 s.2.2.2.2.2) (v28, v29, code, at', seed, l) = some (a, code1, at1, seed1, l1) ∧ CG (code1, at1, seed1, ()) (n + 20 * k) ∧ LC (m + k) l1
  | 0, v28, v29, code, at', seed, l, n, m, hk, _, h, _, _, hl => by
    refine ⟨v28, code, at', seed, l, iter_out ?_, h.up (by omega), hl⟩
    dsimp only
    unfold spec_l1Cur_conditions_loop1
    rw [cond_df (by omega)]
  | k + 1, v28, v29, code, at', seed, l, n, m, hk, hk2, h, hn, hm, hl => by
    by_cases h0 : 0 < v29
    · have key : ∃ a code1 at1 seed1 r, spec_l1Cur_conditions_loop1 v28 v29 code at' seed l = some (.go (a, w64 (v29 - 1), code1, at1, seed1, l ++ [r])) ∧ CG (code1, at1, seed1, ()) (n + 20) ∧ SC r := by
        unfold spec_l1Cur_conditions_loop1
        rw [cond_dt h0]
        obtain ⟨v2, ⟨c2, t2, s2, u2⟩, e2, h2, _⟩ := pick_ok (code, at', seed, ()) n 3 h (by omega)
        rw [e2, Option.bind_some]
        obtain ⟨v3, ⟨c3, t3, s3, u3⟩, e3, h3, _⟩ := pick_ok (c2, t2, s2, ()) _ 80 h2 (by omega)
        rw [e3, Option.bind_some, grd_pos (by decide)]
        dsimp only
        obtain ⟨r, ⟨c4, t4, s4, u4⟩, e4, h4, hr⟩ := condition_ok (c3, t3, s3, ()) _ (w64 ((w64 ((w64 (v28 + (1 : Int))) + v2)) - (w64 (Int.tdiv v3 (79 : Int))))) h3 (by omega)
        rw [e4, Option.bind_some]
        dsimp only
        have hl1 := hl.1
        have g : ∀ (x : Condition), l.length + [x].length ≤ 140737488355328 / 48 ∧ l.length + [x].length ≤ 140737488355328 := fun x => by simp only [List.length_cons, List.length_nil]; omega
        by_cases h5 : r.2.2.2.2.1 = 5
        · rw [cond_dt h5]
          obtain ⟨b, ⟨c5, t5, s5, u5⟩, e5, h6, _⟩ := one_ok (c4, t4, s4, ()) _ 2 h4 (by omega)
          rw [e5, Option.bind_some]
          cases b with
          | true =>
            dsimp only [cond_true]
            rw [grd_pos (g _)]
            exact ⟨_, _, _, _, _, rfl, h6.up (by omega), SC_mk _ _ _ _ _ hr⟩
          | false =>
            dsimp only [cond_false]
            rw [grd_pos (g _)]
            exact ⟨_, _, _, _, _, rfl, h6.up (by omega), SC_mk _ _ _ _ _ hr⟩
        · rw [cond_df h5, grd_pos (g _)]
          exact ⟨_, _, _, _, _, rfl, h4.up (by omega), SC_mk _ _ _ _ _ hr⟩
      obtain ⟨a, code1, at1, seed1, r, e, hc, hr⟩ := key
      have hw : w64 (v29 - 1) = v29 - 1 := w64_id (by omega) (by omega)
      obtain ⟨a2, code2, at2, seed2, l2, e2, hc2, hl2⟩ := loop1_ok k a (w64 (v29 - 1)) code1 at1 seed1 (l ++ [r]) (n + 20) (m + 1) (by omega) (by omega) hc (by omega) (by omega) (hl.snoc hr)
      refine ⟨a2, code2, at2, seed2, l2, (iter_go (s := (v28, v29, code, at', seed, l)) e).trans e2, hc2.up (by omega), ?_⟩
      rw [show m + (k + 1) = m + 1 + k by omega]; exact hl2
    · refine ⟨v28, code, at', seed, l, iter_out ?_, h.up (by omega), ⟨by have := hl.1; omega, hl.2⟩⟩
      dsimp only
      unfold spec_l1Cur_conditions_loop1
      rw [cond_df h0]
theorem loop2_ok : ∀ (k : Nat) (v46 : Int) (code : List Int) (at' seed : Int) (l : List Condition) (n : Int), 20 ≤ k + l.length → k ≤ 1000 → CG (code, at', seed, ()) n → n + 20 * k ≤ 1000000000 → LC 20 l →
    ∃ code1 at1 seed1 l1, iter (fun s => spec_l1Cur_conditions_loop2 s.1 s.2.1 s.2.2.1 s.2.2.2.1 s.2.2.2.2) (v46, code, at', seed, l) = some (code1, at1, seed1, l1) ∧ CG (code1, at1, seed1, ()) (n + 20 * k + 10) ∧ LC 20 l1
  | k, v46, code, at', seed, l, n, hk, hk2, h, hn, hl => by
    obtain ⟨v2, ⟨c2, t2, s2, u2⟩, e2, h2, hv⟩ := pick_ok (code, at', seed, ()) n 2 h (by omega)
    have hw : w64 (12 + v2) = 12 + v2 := w64_id (by omega) (by omega)
    by_cases hlt : (l.length : Int) < 12 + v2
    · match k, hk, hk2 with
      | 0, hk, _ => omega
      | k + 1, hk, hk2 =>
        have g : ∀ (x : Condition), l.length + [x].length ≤ 140737488355328 / 48 ∧ l.length + [x].length ≤ 140737488355328 := fun x => by simp only [List.length_cons, List.length_nil]; omega
        have e : spec_l1Cur_conditions_loop2 v46 code at' seed l = some (.go (w64 (v46 + 1), c2, t2, s2, l ++ [(w64 (v46 + 1), ByteArray.mk #[120], 5, 0, 1, ())])) := by
          unfold spec_l1Cur_conditions_loop2
          rw [e2, Option.bind_some]
          dsimp only
          rw [hw, cond_dt hlt, grd_pos (g _)]
        have hsn : LC 20 (l ++ [(w64 (v46 + 1), ByteArray.mk #[120], 5, 0, 1, ())]) := ⟨by simp; omega, (hl.snoc (SC_mk _ _ _ _ _ (by decide))).2⟩
        obtain ⟨code3, at3, seed3, l3, e3, hc3, hl3⟩ := loop2_ok k (w64 (v46 + 1)) c2 t2 s2 _ (n + 2) (by simp; omega) (by omega) h2 (by omega) hsn
        exact ⟨code3, at3, seed3, l3, (iter_go (s := (v46, code, at', seed, l)) e).trans e3, hc3.up (by omega), hl3⟩
    · refine ⟨c2, t2, s2, l, iter_out ?_, h2.up (by omega), hl⟩
      dsimp only
      unfold spec_l1Cur_conditions_loop2
      rw [e2, Option.bind_some]
      dsimp only
      rw [hw, cond_df hlt]
theorem conditions_ok (c : l1Cur) (n : Int) (h : CG c n) (hn : n ≤ 10000000) : Gives (spec_l1Cur_conditions c) (n + 1000) (LC 20) := by
  obtain ⟨code, at', seed, u⟩ := c
  unfold spec_l1Cur_conditions
  refine gives_bind (pick_ok _ n _ h (by omega)) fun v code1 at1 seed1 hv h1 => ?_
  dsimp only
  obtain ⟨a, code2, at2, seed2, l2, e2, h2, hl⟩ := loop1_ok 7 0 v code1 at1 seed1 [] _ 0 (by omega) (by omega) h1 (by omega) (by omega) ⟨Nat.le_refl _, fun _ h => by cases h⟩
  rw [e2, Option.bind_some]
  refine gives_bind (one_ok _ _ _ h2 (by omega)) fun b code3 at3 seed3 _ h3 => ?_
  dsimp only
  have hl20 : LC 20 l2 := ⟨by have := hl.1; omega, hl.2⟩
  refine gives_cond (fun _ => ?_) (fun _ => Gives.ret (h3.up (by omega)) hl20)
  obtain ⟨code4, at4, seed4, l4, e4, h4, hl4⟩ := loop2_ok 20 a code3 at3 seed3 l2 _ (by omega) (by omega) h3 (by omega) hl20
  rw [e4, Option.bind_some]
  exact Gives.ret (h4.up (by omega)) hl4
theorem tdiv11 {v : Int} (h : 0 ≤ v ∧ (v = 0 ∨ v < 24)) : Int.tdiv v 11 = v / 11 := Int.tdiv_eq_ediv_of_nonneg h.1
theorem day24_ok (c : l1Cur) (n : Int) (h : CG c n) (hn : n ≤ 10000000) : Gives (spec_l1Cur_day24 c) (n + 4) (fun v => -1 ≤ v ∧ v ≤ 10000) := by
  obtain ⟨code, at', seed, u⟩ := c
  unfold spec_l1Cur_day24
  refine gives_bind (pick_ok _ n _ h (by omega)) fun v code1 at1 seed1 hv h1 => ?_
  dsimp only
  have hd := tdiv11 hv
  have hw1 : w64 (Int.tdiv v 11) = v / 11 := by rw [hd]; exact w64_id (by omega) (by omega)
  have hw2 : w64 (8 + v / 11) = 8 + v / 11 := w64_id (by omega) (by omega)
  rw [hw1, hw2]
  refine gives_grd (by decide) (gives_grd ⟨by omega, by omega, by simp only [List.length_cons, List.length_nil]; omega⟩ ?_)
  refine gives_bind (among_ok _ _ _ ?_ h1 (by omega)) fun w code2 at2 seed2 hm h2 => ?_
  · intro e
    have := congrArg List.length e
    simp only [List.length_take, List.length_drop, List.length_cons, List.length_nil] at this
    omega
  · refine Gives.ret (h2.up (by omega)) ?_
    have hm := List.mem_of_mem_drop (List.mem_of_mem_take hm)
    simp only [List.mem_cons, List.not_mem_nil, or_false] at hm
    dsimp only
    omega
theorem drawPlan_ok (code : List Int) (hb : ∀ x ∈ code, 0 ≤ x ∧ x ≤ 255) (hl : code.length ≤ 1048576) :
    ∃ l f t, spec_DrawInspectionPlan code = some (l, f, t) ∧ LC 20 l ∧ (-1 ≤ f ∧ f ≤ 10000) ∧ (-2 ≤ t ∧ t ≤ 10401) := by
  unfold spec_DrawInspectionPlan
  obtain ⟨l, ⟨c1, t1, s1, u1⟩, e1, h1, hl1⟩ := conditions_ok (code, 0, 0, ()) 0 (cg0 code hb hl) (by omega)
  rw [e1, Option.bind_some]
  dsimp only
  obtain ⟨f, ⟨c2, t2, s2, u2⟩, e2, h2, hf⟩ := day24_ok (c1, t1, s1, ()) _ h1 (by omega)
  rw [e2, Option.bind_some]
  dsimp only
  obtain ⟨v, ⟨c3, t3, s3, u3⟩, e3, h3, hv⟩ := pick_ok (c2, t2, s2, ()) _ 24 h2 (by omega)
  rw [e3, Option.bind_some]
  dsimp only
  have hd := tdiv11 hv
  have hw1 : w64 (Int.tdiv v 11) = v / 11 := by rw [hd]; exact w64_id (by omega) (by omega)
  have hw2 : w64 (5 + v / 11) = 5 + v / 11 := w64_id (by omega) (by omega)
  rw [hw1, hw2, grd_pos (by decide), grd_pos ⟨by omega, by omega, by simp only [List.length_cons, List.length_nil]; omega⟩]
  obtain ⟨w, ⟨c4, t4, s4, u4⟩, e4, h4, hm⟩ := among_ok (c3, t3, s3, ()) _ (([(0 : Int), (5 : Int), (30 : Int), (30 : Int), (400 : Int), ((-1) : Int), (401 : Int)].drop ((0 : Int).toNat)).take ((5 + v / 11 - (0 : Int)).toNat)) (by
    intro e
    have := congrArg List.length e
    simp only [List.length_take, List.length_drop, List.length_cons, List.length_nil] at this
    omega) h3 (by omega)
  rw [e4, Option.bind_some]
  have hm := List.mem_of_mem_drop (List.mem_of_mem_take hm)
  simp only [List.mem_cons, List.not_mem_nil, or_false] at hm
  have hw3 : w64 (f + w) = f + w := w64_id (by omega) (by omega)
  exact ⟨l, f, f + w, by rw [hw3], hl1, hf, by omega⟩
theorem drawAdd_ok (code : List Int) (hb : ∀ x ∈ code, 0 ≤ x ∧ x ≤ 255) (hl : code.length ≤ 1048576) :
    ∃ l r, spec_DrawAddCondition code = some (l, r) ∧ LC 20 l ∧ SC r := by
  unfold spec_DrawAddCondition
  obtain ⟨l, ⟨c1, t1, s1, u1⟩, e1, h1, hl1⟩ := conditions_ok (code, 0, 0, ()) 0 (cg0 code hb hl) (by omega)
  rw [e1, Option.bind_some]
  dsimp only
  obtain ⟨v, ⟨c3, t3, s3, u3⟩, e3, h3, hv⟩ := pick_ok (c1, t1, s1, ()) _ 12 h1 (by omega)
  rw [e3, Option.bind_some]
  dsimp only
  obtain ⟨r, ⟨c4, t4, s4, u4⟩, e4, h4, hr⟩ := condition_ok (c3, t3, s3, ()) _ (w64 (1 + v)) h3 (by omega)
  rw [e4, Option.bind_some]
  exact ⟨l, r, rfl, hl1, hr⟩
theorem drawText_ok (code : List Int) (hb : ∀ x ∈ code, 0 ≤ x ∧ x ≤ 255) (hl : code.length ≤ 1048576) :
    ∃ r d, spec_DrawConditionText code = some (r, d) ∧ SC r ∧ (-1 ≤ d ∧ d ≤ 10000) := by
  unfold spec_DrawConditionText
  obtain ⟨r, ⟨c4, t4, s4, u4⟩, e4, h4, hr⟩ := condition_ok (code, 0, 0, ()) _ 5 (cg0 code hb hl) (by omega)
  rw [e4, Option.bind_some]
  dsimp only
  obtain ⟨f, ⟨c2, t2, s2, u2⟩, e2, h2, hf⟩ := day24_ok (c4, t4, s4, ()) _ h4 (by omega)
  rw [e2, Option.bind_some]
  exact ⟨r, f, rfl, hr, hf⟩
end Go.Proofs.YtpmmaohaahbphaaDoor
