/-
  The law FnQuickest.
-/
import Derived.Test.YteckiilljhdkpaaDoorM37n
namespace Go.Proofs.YteckiilljhdkpaaDoor
open Go.RowKit

theorem runP_snoc {p q : Platform} {e : BoardEvent} (h : impl_Platform_step p e = some (q, true)) : ∀ (out : List BoardEvent) (p0 : Platform), runP out p0 = (p, out.length) → runP (out ++ [e]) p0 = (q, out.length + 1)
  | [], p0, hp => by
    rw [runP_nil] at hp
    obtain rfl := congrArg Prod.fst hp
    simp only [List.nil_append, runP, h, Option.elim_some, id_eq, List.length_nil]
  | e0 :: es, p0, hp => by
    rw [List.cons_append]
    simp only [runP] at hp ⊢
    rcases hx : (impl_Platform_step p0 e0).elim (zeroP, false) id with ⟨q1, b⟩
    rw [hx] at hp
    cases b with
    | false =>
      have := congrArg Prod.snd hp
      simp at this
    | true =>
      have h1 := congrArg Prod.fst hp
      have h2 := congrArg Prod.snd hp
      simp only [List.length_cons, Nat.add_right_cancel_iff] at h1 h2
      have ih := runP_snoc h es q1 (Prod.ext h1 h2)
      simp only [ih, List.length_cons]
theorem run_all (p q : Platform) (l : List BoardEvent) (hg : goodB p = true) (hl : l.length ≤ 20) (h : runP l p = (q, l.length)) : impl_RunPlatform p l = some (q, (l.length : Int), true) := by
  unfold impl_RunPlatform
  simp only [p_eta, isPlat_eq, hg, Option.bind_some, Bool.not_true, cond_false]
  have e3 := run_impl l (by omega) l [] p rfl hg
  simp only [List.length_nil, Nat.zero_add, h] at e3
  rw [cond_df (by omega)]
  exact (congrArg (fun x => Option.bind x _) e3).trans rfl
theorem ent_f (d s n w : Int) : ent d s n w false = if d = 1 then (if w < w64 (s - n) then w else w64 (s - n)) else 0 := by
  simp only [ent, Bool.false_eq_true, if_false]
theorem quick2 : ∀ (m : Nat) (d s n w g : Int) (l : Bool) (out : List BoardEvent) (p0 : Platform), goodB (d, s, n, w, l, g, ()) = true → (0 < ent d s n w l → (if l = true then 2 else 1) ≤ m) → out.length + m ≤ 100 → runP out p0 = ((d, s, n, w, l, g, ()), out.length) →
    ∃ (n' w' : Int) (l' : Bool) (out' : List BoardEvent), iter (fun s => spec_QuickestGo_loop1 s.1 s.2.1 s.2.2.1 s.2.2.2.1 s.2.2.2.2.1 s.2.2.2.2.2.1 s.2.2.2.2.2.2) (d, s, n, w, l, g, out) = some (d, s, n', w', l', g, out') ∧
      iter (fun s => impl_QuickestGo_loop1 s.1 s.2.1 s.2.2.1 s.2.2.2.1 s.2.2.2.2.1 s.2.2.2.2.2.1 s.2.2.2.2.2.2) (d, s, n, w, l, g, out) = some (d, s, n', w', l', g, out') ∧ goodB (d, s, n', w', l', g, ()) = true ∧ out'.length ≤ out.length + m ∧
      runP out' p0 = ((d, s, n', w', l', g, ()), out'.length) ∧ ¬ 0 < ent d s n' w' l' ∧ n' + w' = n + w
  | m, d, s, n, w, g, l, out, p0, hg, hm, hl, hr => by
    have hg' := (goodB_iff d s n w g l).1 hg
    by_cases h0 : 0 < ent d s n w l
    · have hs1 : w64 (s - n) = s - n := w64_id (by omega) (by omega)
      have hle : ent d s n w l ≤ w ∧ ent d s n w l ≤ s - n ∧ (l = false → ent d s n w l = w ∨ ent d s n w l = s - n) := by
        unfold ent at h0 ⊢
        rw [hs1] at h0 ⊢
        cases l with
        | false =>
          simp only [Bool.false_eq_true, if_false] at h0 ⊢
          split
          · refine ⟨by split <;> omega, by split <;> omega, fun _ => by split <;> omega⟩
          · rename_i hd; rw [if_neg hd] at h0; omega
        | true =>
          simp only [if_true] at h0 ⊢
          split
          · rename_i hd
            rw [if_pos hd] at h0
            refine ⟨?_, ?_, fun h => by cases h⟩
            · split at h0 <;> split <;> (try split) <;> (try split at h0) <;> omega
            · split at h0 <;> split <;> (try split) <;> (try split at h0) <;> omega
          · rename_i hd; rw [if_neg hd] at h0; omega
      cases m with
      | zero => have := hm h0; split at this <;> omega
      | succ m =>
        obtain ⟨e1, e2, e3⟩ := step_enter d s n w g l (ent d s n w l) hg
        have hb : (decide (1 ≤ ent d s n w l ∧ ent d s n w l ≤ 16) && decide (ent d s n w l ≤ ent d s n w l)) = true := by
          rw [decide_eq_true (by omega), decide_eq_true (by omega)]; rfl
        rw [hb] at e1 e2 e3
        have hq := e3 rfl
        have hw : w64 (w - ent d s n w l) = w - ent d s n w l := w64_id (by omega) (by omega)
        have hn : w64 (n + ent d s n w l) = n + ent d s n w l := w64_id (by omega) (by omega)
        have hrun := runP_snoc e1 out p0 hr
        obtain ⟨n', w', l', out', f1, f2, f3, f4, f5, f6, f7⟩ := quick2 m d s (w64 (n + ent d s n w l)) (w64 (w - ent d s n w l)) g false (out ++ [((ByteArray.mk #[101, 110, 116, 101, 114]), ent d s n w l, ())]) p0 hq (by
          intro hpos
          have hmm := hm h0
          cases l with
          | true => simp only [if_true, Bool.false_eq_true, if_false] at hmm ⊢; omega
          | false =>
            exfalso
            have h3 := hle.2.2 rfl
            rw [hw, hn] at hpos
            rw [ent_f d s (n + ent d s n w false) (w - ent d s n w false), show w64 (s - (n + ent d s n w false)) = s - (n + ent d s n w false) from w64_id (by omega) (by omega)] at hpos
            split at hpos
            · split at hpos <;> omega
            · omega) (by simp only [List.length_append, List.length_cons, List.length_nil]; omega) (by rw [hrun]; simp only [List.length_append, List.length_cons, List.length_nil])
        refine ⟨n', w', l', out', (iter_go ?_).trans f1, (iter_go ?_).trans f2, f3, by simp only [List.length_append, List.length_cons, List.length_nil] at f4; omega, f5, f6, by rw [hw, hn] at f7; omega⟩
        · show spec_QuickestGo_loop1 d s n w l g out = _
          unfold spec_QuickestGo_loop1
          rw [entering_eq, Option.bind_some, cond_dt h0, Option.bind_some, grd_pos (by simp only [List.length_cons, List.length_nil]; omega), e2, Option.bind_some]
          rfl
        · show impl_QuickestGo_loop1 d s n w l g out = _
          unfold impl_QuickestGo_loop1
          rw [entering_most d s n w g l hg, Option.bind_some, cond_dt h0, Option.bind_some, add_eq _ _ _ _ _ _ e1 (by omega), Option.bind_some]
    · refine ⟨n, w, l, out, iter_out ?_, iter_out ?_, hg, by omega, hr, h0, rfl⟩
      · show spec_QuickestGo_loop1 d s n w l g out = _
        unfold spec_QuickestGo_loop1
        rw [entering_eq, Option.bind_some, cond_df h0]
      · show impl_QuickestGo_loop1 d s n w l g out = _
        unfold impl_QuickestGo_loop1
        rw [entering_most d s n w g l hg, Option.bind_some, cond_df h0]
theorem quick_full (d s n w g : Int) (l : Bool) : (spec_QuickestGo (d, s, n, w, l, g, ()) = some ([], false) ∧ impl_QuickestGo (d, s, n, w, l, g, ()) = some (Sum.inl ())) ∨
    (goodB (d, s, n, w, l, g, ()) = true ∧ ∃ (x : List BoardEvent) (w' : Int) (l' : Bool), spec_QuickestGo (d, s, n, w, l, g, ()) = some (x, true) ∧ impl_QuickestGo (d, s, n, w, l, g, ()) = some (Sum.inr x) ∧ x.length ≤ 20 ∧
      runP x (d, s, n, w, l, g, ()) = (((0 : Int), (0 : Int), (0 : Int), w', l', w64 (g + 1), ()), x.length) ∧ (0 < w' → w64 (w - w') = w64 (s - n))) := by
  unfold spec_QuickestGo impl_QuickestGo
  rw [show spec_l14Good _ = some (goodB (d, s, n, w, l, g, ())) from good_eq _, show impl_IsPlatform _ = some (goodB (d, s, n, w, l, g, ())) from isPlat_eq _, Option.bind_some, Option.bind_some]
  cases hg : goodB (d, s, n, w, l, g, ()) with
  | false => exact .inl ⟨rfl, rfl⟩
  | true =>
    rw [Bool.not_true, cond_false, cond_false]
    have hg' := (goodB_iff d s n w g l).1 hg
    dsimp only
    by_cases hs : s = 0
    · rw [cond_dt hs, cond_dt hs]; exact .inl ⟨rfl, rfl⟩
    rw [cond_df hs, cond_df hs]
    by_cases hgo : g = 9999
    · rw [cond_dt hgo, cond_dt hgo]; exact .inl ⟨rfl, rfl⟩
    rw [cond_df hgo, cond_df hgo]
    refine .inr ⟨rfl, ?_⟩
    have tail : ∀ (d0 : Int) (o0 : List BoardEvent), goodB (d0, s, n, w, l, g, ()) = true → o0.length ≤ 1 → runP o0 (d, s, n, w, l, g, ()) = ((d0, s, n, w, l, g, ()), o0.length) → (d0 = 0 → w = 0 ∨ n = s) →
        ∃ (x : List BoardEvent) (w' : Int) (l' : Bool), ((iter (fun s => spec_QuickestGo_loop1 s.1 s.2.1 s.2.2.1 s.2.2.2.1 s.2.2.2.2.1 s.2.2.2.2.2.1 s.2.2.2.2.2.2) (d0, s, n, w, l, g, o0)).bind (fun r => (cond (decide (r.1 = (1 : Int))) (grd (r.2.2.2.2.2.2.length + [((ByteArray.mk #[115, 104, 117, 116]), (0 : Int), ())].length ≤ 140737488355328 / 24 ∧ r.2.2.2.2.2.2.length + [((ByteArray.mk #[115, 104, 117, 116]), (0 : Int), ())].length ≤ 140737488355328) (grd ((r.2.2.2.2.2.2 ++ [((ByteArray.mk #[115, 104, 117, 116]), (0 : Int), ())]).length + [((ByteArray.mk #[103, 111]), (0 : Int), ())].length ≤ 140737488355328 / 24 ∧ (r.2.2.2.2.2.2 ++ [((ByteArray.mk #[115, 104, 117, 116]), (0 : Int), ())]).length + [((ByteArray.mk #[103, 111]), (0 : Int), ())].length ≤ 140737488355328) ((some (((r.2.2.2.2.2.2 ++ [((ByteArray.mk #[115, 104, 117, 116]), (0 : Int), ())]) ++ [((ByteArray.mk #[103, 111]), (0 : Int), ())]), true))))) (grd (r.2.2.2.2.2.2.length + [((ByteArray.mk #[103, 111]), (0 : Int), ())].length ≤ 140737488355328 / 24 ∧ r.2.2.2.2.2.2.length + [((ByteArray.mk #[103, 111]), (0 : Int), ())].length ≤ 140737488355328) ((some ((r.2.2.2.2.2.2 ++ [((ByteArray.mk #[103, 111]), (0 : Int), ())]), true))))))) = some (x, true) ∧
          ((iter (fun s => impl_QuickestGo_loop1 s.1 s.2.1 s.2.2.1 s.2.2.2.1 s.2.2.2.2.1 s.2.2.2.2.2.1 s.2.2.2.2.2.2) (d0, s, n, w, l, g, o0)).bind (fun r => (cond (decide (r.1 = (1 : Int))) ((impl_QuickestGo_1_i1 (ByteArray.mk #[115, 104, 117, 116]) (0 : Int) r.2.2.2.2.2.2 (r.1, r.2.1, r.2.2.1, r.2.2.2.1, r.2.2.2.2.1, r.2.2.2.2.2.1, ())).bind fun y25 => ((impl_QuickestGo_1_i1 (ByteArray.mk #[103, 111]) (0 : Int) y25.1 (y25.2.1, y25.2.2.1, y25.2.2.2.1, y25.2.2.2.2.1, y25.2.2.2.2.2.1, y25.2.2.2.2.2.2.1, ())).bind fun y26 => (some (Sum.inr y26.1)))) ((impl_QuickestGo_1_i1 (ByteArray.mk #[103, 111]) (0 : Int) r.2.2.2.2.2.2 (r.1, r.2.1, r.2.2.1, r.2.2.2.1, r.2.2.2.2.1, r.2.2.2.2.2.1, ())).bind fun y27 => (some (Sum.inr y27.1)))))) = some (Sum.inr x : Unit ⊕ (List BoardEvent)) ∧ x.length ≤ 20 ∧
          runP x (d, s, n, w, l, g, ()) = (((0 : Int), (0 : Int), (0 : Int), w', l', w64 (g + 1), ()), x.length) ∧ (0 < w' → w64 (w - w') = w64 (s - n)) := by
      intro d0 o0 h0 ho hro hd0
      obtain ⟨n', w', l', out', f1, f2, f3, f4, f5, f6, f7⟩ := quick2 2 d0 s n w g l o0 (d, s, n, w, l, g, ()) h0 (fun _ => by split <;> omega) (by omega) hro
      rw [f1, f2, Option.bind_some, Option.bind_some]
      dsimp only
      have hg3 := (goodB_iff d0 s n' w' g l').1 f3
      have hfin : 0 < w' → w64 (w - w') = w64 (s - n) := by
        intro hw'
        rw [w64_id (x := w - w') (by omega) (by omega), w64_id (x := s - n) (by omega) (by omega)]
        by_cases hd : d0 = 1
        · have hs1 : w64 (s - n') = s - n' := w64_id (by omega) (by omega)
          unfold ent at f6
          rw [if_pos hd, hs1] at f6
          split at f6
          · split at f6 <;> split at f6 <;> (try split at f6) <;> omega
          · split at f6 <;> omega
        · have he : ent d0 s n w l = 0 := by unfold ent; rw [if_neg hd]
          have : n' + w' = n + w := f7
          have hd00 : d0 = 0 := by omega
          have h9 := hd0 hd00
          have hstay : n' = n ∧ w' = w := by
            have g1 : spec_QuickestGo_loop1 d0 s n w l g o0 = some (.out (d0, s, n, w, l, g, o0)) := by
              unfold spec_QuickestGo_loop1
              rw [entering_eq, Option.bind_some, cond_df (by omega)]
            have g2 : iter (fun s => spec_QuickestGo_loop1 s.1 s.2.1 s.2.2.1 s.2.2.2.1 s.2.2.2.2.1 s.2.2.2.2.2.1 s.2.2.2.2.2.2) (d0, s, n, w, l, g, o0) = some (d0, s, n, w, l, g, o0) := iter_out g1
            have g3 := Option.some.inj (g2.symm.trans f1)
            simp only [Prod.mk.injEq] at g3
            exact ⟨g3.2.2.1.symm, g3.2.2.2.1.symm⟩
          omega
      by_cases hd : d0 = 1
      · rw [cond_dt hd, cond_dt hd]
        obtain ⟨e1, _, e3⟩ := step_shut d0 s n' w' g l' 0 f3
        have hb : (decide ((0 : Int) = 0) && decide (d0 = 1)) = true := by rw [decide_eq_true hd]; rfl
        rw [hb] at e1 e3
        obtain ⟨e4, _, e6⟩ := step_go 0 s n' w' g l' 0 (e3 rfl)
        have hb2 : (decide ((0 : Int) = 0) && (decide (0 < s) && (decide ((0 : Int) = 0) && decide (g < 9999)))) = true := by
          rw [decide_eq_true (show 0 < s by omega), decide_eq_true (show g < 9999 by omega)]; rfl
        rw [hb2] at e4
        have r1 := runP_snoc e1 out' _ f5
        have r2 := runP_snoc e4 (out' ++ [((ByteArray.mk #[115, 104, 117, 116]), 0, ())]) _ (by rw [r1]; simp only [List.length_append, List.length_cons, List.length_nil])
        rw [grd_pos (by simp only [List.length_cons, List.length_nil]; omega), grd_pos (by simp only [List.length_append, List.length_cons, List.length_nil]; omega), add_eq _ _ _ _ _ _ e1 (by omega), Option.bind_some, add_eq _ _ _ _ _ _ e4 (by simp only [List.length_append, List.length_cons, List.length_nil]; omega)]
        exact ⟨_, w', l', rfl, rfl, by simp only [List.length_append, List.length_cons, List.length_nil]; omega, by rw [r2]; simp only [List.length_append, List.length_cons, List.length_nil], hfin⟩
      · rw [cond_df hd, cond_df hd]
        obtain ⟨e4, _, _⟩ := step_go d0 s n' w' g l' 0 f3
        have hb2 : (decide ((0 : Int) = 0) && (decide (0 < s) && (decide (d0 = 0) && decide (g < 9999)))) = true := by
          rw [decide_eq_true (show 0 < s by omega), decide_eq_true (show d0 = 0 by omega), decide_eq_true (show g < 9999 by omega)]; rfl
        rw [hb2] at e4
        have r2 := runP_snoc e4 out' _ f5
        have hd00 : d0 = 0 := by omega
        rw [grd_pos (by simp only [List.length_cons, List.length_nil]; omega), add_eq _ _ _ _ _ _ e4 (by omega)]
        exact ⟨_, w', l', rfl, rfl, by simp only [List.length_append, List.length_cons, List.length_nil]; omega, by rw [r2, hd00]; simp only [List.length_append, List.length_cons, List.length_nil], hfin⟩
    have same : ∃ (d0 : Int) (o0 : List BoardEvent), (cond (decide (d = (0 : Int))) (cond (decide ((0 : Int) < w)) (cond (decide (n < s)) (grd (([] : List BoardEvent).length + [((ByteArray.mk #[111, 112, 101, 110]), (0 : Int), ())].length ≤ 140737488355328 / 24 ∧ ([] : List BoardEvent).length + [((ByteArray.mk #[111, 112, 101, 110]), (0 : Int), ())].length ≤ 140737488355328) ((some ((1 : Int), (([] : List BoardEvent) ++ [((ByteArray.mk #[111, 112, 101, 110]), (0 : Int), ())]))))) ((some (d, ([] : List BoardEvent))))) ((some (d, ([] : List BoardEvent))))) ((some (d, ([] : List BoardEvent))))) = some (d0, o0) ∧ (cond (decide (d = (0 : Int))) (cond (decide ((0 : Int) < w)) (cond (decide (n < s)) ((impl_QuickestGo_1_i1 (ByteArray.mk #[111, 112, 101, 110]) (0 : Int) ([] : List BoardEvent) (d, s, n, w, l, g, ())).bind fun y2 => (some (y2.2.1, y2.2.2.1, y2.2.2.2.1, y2.2.2.2.2.1, y2.2.2.2.2.2.1, y2.2.2.2.2.2.2.1, y2.1))) ((some (d, s, n, w, l, g, ([] : List BoardEvent))))) ((some (d, s, n, w, l, g, ([] : List BoardEvent))))) ((some (d, s, n, w, l, g, ([] : List BoardEvent))))) = some (d0, s, n, w, l, g, o0) ∧ goodB (d0, s, n, w, l, g, ()) = true ∧ o0.length ≤ 1 ∧ runP o0 (d, s, n, w, l, g, ()) = ((d0, s, n, w, l, g, ()), o0.length) ∧ (d0 = 0 → w = 0 ∨ n = s) := by
      have no : (d = 0 → w = 0 ∨ n = s) → ∃ (d0 : Int) (o0 : List BoardEvent), some (d, ([] : List BoardEvent)) = some (d0, o0) ∧ some (d, s, n, w, l, g, ([] : List BoardEvent)) = some (d0, s, n, w, l, g, o0) ∧ goodB (d0, s, n, w, l, g, ()) = true ∧ o0.length ≤ 1 ∧ runP o0 (d, s, n, w, l, g, ()) = ((d0, s, n, w, l, g, ()), o0.length) ∧ (d0 = 0 → w = 0 ∨ n = s) := fun h => ⟨d, [], rfl, rfl, hg, by simp, rfl, h⟩
      by_cases h1 : d = 0
      case neg => rw [cond_df h1, cond_df h1]; exact no (fun h => absurd h h1)
      rw [cond_dt h1, cond_dt h1]
      by_cases h2 : 0 < w
      case neg => rw [cond_df h2, cond_df h2]; exact no (fun _ => .inl (by omega))
      rw [cond_dt h2, cond_dt h2]
      by_cases h3 : n < s
      case neg => rw [cond_df h3, cond_df h3]; exact no (fun _ => .inr (by omega))
      rw [cond_dt h3, cond_dt h3]
      obtain ⟨e1, _, e3⟩ := step_open d s n w g l 0 hg
      have hb : (decide ((0 : Int) = 0) && (decide (0 < s) && decide (d = 0))) = true := by rw [decide_eq_true h1, decide_eq_true (show 0 < s by omega)]; rfl
      rw [hb] at e1 e3
      rw [grd_pos (by simp), add_eq _ _ _ _ _ _ e1 (by simp)]
      exact ⟨1, _, rfl, rfl, e3 rfl, by simp, runP_snoc e1 [] _ rfl, (fun h => absurd h (by omega))⟩
    obtain ⟨d0, o0, j1, j2, j3, j4, j5, j6⟩ := same
    obtain ⟨x, w', l', t1, t2, t3, t4, t5⟩ := tail d0 o0 j3 j4 j5 j6
    refine ⟨x, w', l', ?_, ?_, t3, t4, t5⟩
    · refine (congrArg (fun z => Option.bind z _) j1).trans ?_
      exact t1
    · refine (congrArg (fun z => Option.bind z _) j2).trans ?_
      exact t2
/-! ### Texts -/
theorem c1t : (ByteArray.mk #[99, 97, 98, 105, 110, 32]) = bs [99, 97, 98, 105, 110, 32] := rfl
theorem c2t : (ByteArray.mk #[47]) = bs [47] := rfl
theorem c3t : (ByteArray.mk #[32, 115, 104, 117, 116]) = bs [32, 115, 104, 117, 116] := rfl
theorem c4t : (ByteArray.mk #[32, 111, 112, 101, 110]) = bs [32, 111, 112, 101, 110] := rfl
theorem c5t : (ByteArray.mk #[44, 32]) = bs [44, 32] := rfl
theorem c6t : (ByteArray.mk #[32, 119, 97, 105, 116, 105, 110, 103]) = bs [32, 119, 97, 105, 116, 105, 110, 103] := rfl
theorem c7t : (ByteArray.mk #[32, 40, 108, 101, 118, 101, 108, 41]) = bs [32, 40, 108, 101, 118, 101, 108, 41] := rfl
theorem c8t : (ByteArray.mk #[110, 111, 32, 99, 97, 98, 105, 110]) = bs [110, 111, 32, 99, 97, 98, 105, 110] := rfl
theorem dec3 (n : Nat) (h : n ≤ 999) : (Lib.decDigits n).length ≤ 3 := dec_length 2 n (by omega)
theorem board_eq (p : Platform) : ∃ t, impl_BoardText p = some (t, goodB p) ∧ spec_BoardText p = some (t, goodB p) := by
  obtain ⟨d, s, n, w, l, g, u⟩ := p
  unfold impl_BoardText spec_BoardText
  rw [show spec_l14Good _ = some (goodB (d, s, n, w, l, g, ())) from good_eq _, show impl_IsPlatform _ = some (goodB (d, s, n, w, l, g, ())) from isPlat_eq _, Option.bind_some, Option.bind_some]
  cases hg : goodB (d, s, n, w, l, g, ()) with
  | false => exact ⟨_, rfl, rfl⟩
  | true =>
    rw [Bool.not_true, cond_false, cond_false]
    have hg' := (goodB_iff d s n w g l).1 hg
    dsimp only
    have hj : ∃ b : List UInt8, b.length ≤ 100 ∧ (cond (decide ((0 : Int) < s)) ((strconv_Itoa n).bind fun y2 => (grd ((ByteArray.mk #[99, 97, 98, 105, 110, 32]).size + y2.size ≤ 9223372036854775807) (grd (((ByteArray.mk #[99, 97, 98, 105, 110, 32]) ++ y2).size + (ByteArray.mk #[47]).size ≤ 9223372036854775807) ((strconv_Itoa s).bind fun y3 => (grd ((((ByteArray.mk #[99, 97, 98, 105, 110, 32]) ++ y2) ++ (ByteArray.mk #[47])).size + y3.size ≤ 9223372036854775807) (grd (((((ByteArray.mk #[99, 97, 98, 105, 110, 32]) ++ y2) ++ (ByteArray.mk #[47])) ++ y3).size + (ByteArray.mk #[32, 115, 104, 117, 116]).size ≤ 9223372036854775807) (cond (decide (d = (1 : Int))) ((strconv_Itoa n).bind fun y4 => (grd ((ByteArray.mk #[99, 97, 98, 105, 110, 32]).size + y4.size ≤ 9223372036854775807) (grd (((ByteArray.mk #[99, 97, 98, 105, 110, 32]) ++ y4).size + (ByteArray.mk #[47]).size ≤ 9223372036854775807) ((strconv_Itoa s).bind fun y5 => (grd ((((ByteArray.mk #[99, 97, 98, 105, 110, 32]) ++ y4) ++ (ByteArray.mk #[47])).size + y5.size ≤ 9223372036854775807) (grd (((((ByteArray.mk #[99, 97, 98, 105, 110, 32]) ++ y4) ++ (ByteArray.mk #[47])) ++ y5).size + (ByteArray.mk #[32, 111, 112, 101, 110]).size ≤ 9223372036854775807) ((some (((((ByteArray.mk #[99, 97, 98, 105, 110, 32]) ++ y4) ++ (ByteArray.mk #[47])) ++ y5) ++ (ByteArray.mk #[32, 111, 112, 101, 110])))))))))) ((some (((((ByteArray.mk #[99, 97, 98, 105, 110, 32]) ++ y2) ++ (ByteArray.mk #[47])) ++ y3) ++ (ByteArray.mk #[32, 115, 104, 117, 116]))))))))))) ((some (ByteArray.mk #[110, 111, 32, 99, 97, 98, 105, 110])))) = some (bs b) ∧ (cond (decide ((0 : Int) < s)) ((spec_l1Num n).bind fun y2 => (grd ((ByteArray.mk #[99, 97, 98, 105, 110, 32]).size + y2.size ≤ 9223372036854775807) (grd (((ByteArray.mk #[99, 97, 98, 105, 110, 32]) ++ y2).size + (ByteArray.mk #[47]).size ≤ 9223372036854775807) ((spec_l1Num s).bind fun y3 => (grd ((((ByteArray.mk #[99, 97, 98, 105, 110, 32]) ++ y2) ++ (ByteArray.mk #[47])).size + y3.size ≤ 9223372036854775807) (grd (0 ≤ d ∧ d < ([(ByteArray.mk #[32, 115, 104, 117, 116]), (ByteArray.mk #[32, 111, 112, 101, 110])].length : Int)) (grd (((((ByteArray.mk #[99, 97, 98, 105, 110, 32]) ++ y2) ++ (ByteArray.mk #[47])) ++ y3).size + ([(ByteArray.mk #[32, 115, 104, 117, 116]), (ByteArray.mk #[32, 111, 112, 101, 110])].getD d.toNat (ByteArray.mk #[])).size ≤ 9223372036854775807) ((some (((((ByteArray.mk #[99, 97, 98, 105, 110, 32]) ++ y2) ++ (ByteArray.mk #[47])) ++ y3) ++ ([(ByteArray.mk #[32, 115, 104, 117, 116]), (ByteArray.mk #[32, 111, 112, 101, 110])].getD d.toNat (ByteArray.mk #[])))))))))))) ((some (ByteArray.mk #[110, 111, 32, 99, 97, 98, 105, 110])))) = some (bs b) := by
      by_cases hs : 0 < s
      · obtain ⟨n0, rfl⟩ := Int.eq_ofNat_of_zero_le hg'.2.2.1.1
        obtain ⟨s0, rfl⟩ := Int.eq_ofNat_of_zero_le hg'.2.1.1
        have q1 := dec3 n0 (by omega)
        have q2 := dec3 s0 (by omega)
        rw [cond_dt hs, cond_dt hs]
        simp only [itoa_eq n0 (by omega), itoa_eq s0 (by omega), l1Num_eq n0 (by omega), l1Num_eq s0 (by omega), Option.bind_some, c1t, c2t, c3t, c4t, bs_app, bs_size]
        have hd : d = 0 ∨ d = 1 := by omega
        rcases hd with rfl | rfl
        · refine ⟨[99, 97, 98, 105, 110, 32] ++ Lib.decDigits n0 ++ [47] ++ Lib.decDigits s0 ++ [32, 115, 104, 117, 116], by simp; omega, ?_, ?_⟩
          · rw [grd_pos (by simp; omega), grd_pos (by simp; omega), grd_pos (by simp; omega), grd_pos (by simp; omega), cond_df (by omega)]
          · rw [grd_pos (by simp; omega), grd_pos (by simp; omega), grd_pos (by simp; omega), grd_pos (by simp)]
            rw [show ([bs [32, 115, 104, 117, 116], bs [32, 111, 112, 101, 110]].getD ((0 : Int).toNat) (ByteArray.mk #[])) = bs [32, 115, 104, 117, 116] from rfl, bs_size, bs_app, grd_pos (by simp; omega)]
        · refine ⟨[99, 97, 98, 105, 110, 32] ++ Lib.decDigits n0 ++ [47] ++ Lib.decDigits s0 ++ [32, 111, 112, 101, 110], by simp; omega, ?_, ?_⟩
          · rw [grd_pos (by simp; omega), grd_pos (by simp; omega), grd_pos (by simp; omega), grd_pos (by simp; omega), cond_dt rfl, grd_pos (by simp; omega), grd_pos (by simp; omega), grd_pos (by simp; omega), grd_pos (by simp; omega)]
          · rw [grd_pos (by simp; omega), grd_pos (by simp; omega), grd_pos (by simp; omega), grd_pos (by simp)]
            rw [show ([bs [32, 115, 104, 117, 116], bs [32, 111, 112, 101, 110]].getD ((1 : Int).toNat) (ByteArray.mk #[])) = bs [32, 111, 112, 101, 110] from rfl, bs_size, bs_app, grd_pos (by simp; omega)]
      · rw [cond_df hs, cond_df hs]
        exact ⟨[110, 111, 32, 99, 97, 98, 105, 110], by simp, rfl, rfl⟩
    obtain ⟨b, hb, j1, j2⟩ := hj
    obtain ⟨w0, rfl⟩ := Int.eq_ofNat_of_zero_le hg'.2.2.2.1.1
    have q3 := dec3 w0 (by omega)
    refine ⟨bs (b ++ ([44, 32] ++ Lib.decDigits w0 ++ [32, 119, 97, 105, 116, 105, 110, 103]) ++ (if l = true then [32, 40, 108, 101, 118, 101, 108, 41] else [])), ?_, ?_⟩
    · refine (congrArg (fun z => Option.bind z _) j1).trans ?_
      rw [Option.bind_some]
      simp only [itoa_eq w0 (by omega), Option.bind_some, c5t, c6t, c7t, bs_app, bs_size]
      rw [grd_pos (by simp; omega), grd_pos (by simp; omega), grd_pos (by simp; omega)]
      cases l with
      | false => simp
      | true => rw [cond_true, grd_pos (by simp; omega)]; simp
    · refine (congrArg (fun z => Option.bind z _) j2).trans ?_
      rw [Option.bind_some]
      simp only [l1Num_eq w0 (by omega), Option.bind_some, c5t, c6t, c7t, bs_app, bs_size]
      rw [grd_pos (by simp; omega), grd_pos (by simp; omega), grd_pos (by simp; omega)]
      cases l with
      | false => simp
      | true => rw [cond_true, grd_pos (by simp; omega)]; simp
theorem rEvents_eq (l : List BoardEvent) (h : l.length ≤ 1048576) : laws_rEvents l l = some true := by
  unfold laws_rEvents
  rw [cond_ndt rfl]
  have H : iter (fun s => laws_rEvents_loop1 l l s) (0 : Int) = some (Sum.inr ()) :=
    iter_for l.length (fun k => (k : Int)) (fun k hk => by
      show laws_rEvents_loop1 l l (k : Int) = _
      unfold laws_rEvents_loop1
      rw [cond_dt (by omega), grd_pos (by omega), grd_pos (by omega), w64_nat (by omega)]
      simp only [decide_true, Bool.and_true, Bool.not_true, cond_false]) (by
      show laws_rEvents_loop1 l l (l.length : Int) = _
      unfold laws_rEvents_loop1
      rw [cond_df (by omega)]) rfl
  rw [H]; rfl
theorem most_both (d s n w g : Int) (l : Bool) : (goodB (d, s, n, w, l, g, ()) = false ∧ impl_MostEntering (d, s, n, w, l, g, ()) = some (0, false) ∧ spec_MostEntering (d, s, n, w, l, g, ()) = some (0, false)) ∨
    ∃ (m : Int) (q1 q2 : Platform), impl_MostEntering (d, s, n, w, l, g, ()) = some (m, true) ∧ spec_MostEntering (d, s, n, w, l, g, ()) = some (m, true) ∧
      impl_StepPlatform (d, s, n, w, l, g, ()) ((ByteArray.mk #[101, 110, 116, 101, 114]), w64 (m + 1), ()) = some (q1, false) ∧ impl_StepPlatform (d, s, n, w, l, g, ()) ((ByteArray.mk #[101, 110, 116, 101, 114]), m, ()) = some (q2, decide (0 < m)) := by
  unfold impl_MostEntering spec_MostEntering
  rw [show spec_l14Good _ = some (goodB (d, s, n, w, l, g, ())) from good_eq _, show impl_IsPlatform _ = some (goodB (d, s, n, w, l, g, ())) from isPlat_eq _, Option.bind_some, Option.bind_some]
  cases hg : goodB (d, s, n, w, l, g, ()) with
  | false => exact .inl ⟨rfl, rfl, rfl⟩
  | true =>
    right
    have hg' := (goodB_iff d s n w g l).1 hg
    have hs1 : w64 (s - n) = s - n := w64_id (by omega) (by omega)
    have hle : 0 ≤ ent d s n w l ∧ ent d s n w l ≤ 16 := by
      unfold ent
      rw [hs1]
      split
      · split
        · split <;> split <;> omega
        · split <;> omega
      · omega
    dsimp only
    rw [entering_most d s n w g l hg, entering_eq, Option.bind_some]
    have hw : w64 (ent d s n w l + 1) = ent d s n w l + 1 := w64_id (by omega) (by omega)
    obtain ⟨a1, a2, a3⟩ := step_enter d s n w g l (ent d s n w l + 1) hg
    obtain ⟨b1, b2, b3⟩ := step_enter d s n w g l (ent d s n w l) hg
    have h1 : (decide (1 ≤ ent d s n w l + 1 ∧ ent d s n w l + 1 ≤ 16) && decide (ent d s n w l + 1 ≤ ent d s n w l)) = false := by
      rw [decide_eq_false (show ¬ ent d s n w l + 1 ≤ ent d s n w l by omega), Bool.and_false]
    rw [h1] at a1 a2 a3
    by_cases hp : 0 < ent d s n w l
    · have h2 : (decide (1 ≤ ent d s n w l ∧ ent d s n w l ≤ 16) && decide (ent d s n w l ≤ ent d s n w l)) = true := by
        rw [decide_eq_true (by omega), decide_eq_true (by omega)]; rfl
      rw [h2] at b1 b2 b3
      exact ⟨ent d s n w l, _, _, rfl, rfl, (congrArg (fun z => impl_StepPlatform (d, s, n, w, l, g, ()) ((ByteArray.mk #[101, 110, 116, 101, 114]), z, ())) hw).trans (stepPlat_no hg ⟨a1, a2, a3⟩), (stepPlat_yes hg ⟨b1, b2, b3⟩).trans (congrArg some (congrArg (Prod.mk _) (decide_eq_true hp).symm))⟩
    · have h2 : (decide (1 ≤ ent d s n w l ∧ ent d s n w l ≤ 16) && decide (ent d s n w l ≤ ent d s n w l)) = false := by
        rw [decide_eq_false (by omega)]; rfl
      rw [h2] at b1 b2 b3
      exact ⟨ent d s n w l, _, _, rfl, rfl, (congrArg (fun z => impl_StepPlatform (d, s, n, w, l, g, ()) ((ByteArray.mk #[101, 110, 116, 101, 114]), z, ())) hw).trans (stepPlat_no hg ⟨a1, a2, a3⟩), (stepPlat_no hg ⟨b1, b2, b3⟩).trans (congrArg some (congrArg (Prod.mk _) (decide_eq_false hp).symm))⟩
theorem draw_plat (code : List Int) (hc : Ty.fit (.sl (.int .u8)) code) : ∃ p : Platform, spec_DrawQuickestGo code = some p ∧ spec_DrawMostEntering code = some p ∧ spec_DrawBoardText code = some p := by
  obtain ⟨p, c', e, _, _⟩ := platform_ok _ 0 (cg0 hc) (by omega)
  have h : spec_DrawIsPlatform code = some p := by
    unfold spec_DrawIsPlatform
    rw [e]; rfl
  refine ⟨p, ?_, ?_, ?_⟩
  · unfold spec_DrawQuickestGo; rw [h]; rfl
  · unfold spec_DrawMostEntering; rw [h]; rfl
  · unfold spec_DrawBoardText; rw [h]; rfl
theorem law_FnQuickest (code : List Int) (hc : Ty.fit (.sl (.int .u8)) code) : laws_FnQuickest code = some true := by
  obtain ⟨⟨d, s, n, w, l, g, u⟩, d1, d2, d3⟩ := draw_plat code hc
  obtain ⟨t, b1, b2⟩ := board_eq (d, s, n, w, l, g, ())
  have d1 : spec_DrawQuickestGo code = some (d, s, n, w, l, g, ()) := d1
  have d2 : spec_DrawMostEntering code = some (d, s, n, w, l, g, ()) := d2
  have d3 : spec_DrawBoardText code = some (d, s, n, w, l, g, ()) := d3
  have hi := isPlat_eq (d, s, n, w, l, g, ())
  unfold laws_FnQuickest laws_rBig
  rw [Option.bind_some]
  cases decide ((65536 : Int) < (code.length : Int)) with
  | true => rfl
  | false =>
  rw [cond_false]
  rcases quick_full d s n w g l with ⟨e1, e2⟩ | ⟨hg, x, w', l', e1, e2, hx, hr, hw⟩
  · rcases most_both d s n w g l with ⟨hg, m1, m2⟩ | ⟨m, q1, q2, m1, m2, m3, m4⟩
    · simp only [d1, d2, d3, e1, e2, m1, m2, b1, b2, hi, rEvents_eq [] (by simp), Option.bind_some, Sum.elim_inl, decide_true, beq_self_eq_true, Bool.not_true, cond_false, cond_true]
    · simp only [d1, d2, d3, e1, e2, m1, m2, m3, m4, b1, b2, hi, rEvents_eq [] (by simp), Option.bind_some, Sum.elim_inl, decide_true, beq_self_eq_true, Bool.not_true, cond_false, cond_true]
  · have hrun := run_all _ _ x hg hx hr
    rcases most_both d s n w g l with ⟨hg2, _, _⟩ | ⟨m, q1, q2, m1, m2, m3, m4⟩
    · rw [hg] at hg2; cases hg2
    by_cases hw' : 0 < w'
    · have t1 : decide (0 < w') = true := decide_eq_true hw'
      have t2 : decide (w64 (w - w') = w64 (s - n)) = true := decide_eq_true (hw hw')
      simp only [d1, d2, d3, e1, e2, m1, m2, m3, m4, b1, b2, hi, hrun, t1, t2, rEvents_eq x (by omega), Option.bind_some, Sum.elim_inr, decide_true, beq_self_eq_true, Bool.not_true, cond_false, cond_true]
    · have t1 : decide (0 < w') = false := decide_eq_false hw'
      simp only [d1, d2, d3, e1, e2, m1, m2, m3, m4, b1, b2, hi, hrun, t1, rEvents_eq x (by omega), Option.bind_some, Sum.elim_inr, decide_true, beq_self_eq_true, Bool.not_true, cond_false, cond_true]
end Go.Proofs.YteckiilljhdkpaaDoor
