/-
  The quickest events until the cabin leaves.
-/
import Derived.Test.YteckiilljhdkpaaDoorM34a
namespace Go.Proofs.YteckiilljhdkpaaDoor
open Go.RowKit

theorem entering_most (d s n w g : Int) (l : Bool) (h : goodB (d, s, n, w, l, g, ()) = true) : impl_Platform_mostEntering (d, s, n, w, l, g, ()) = some (ent d s n w l) := by
  have hg := (goodB_iff d s n w g l).1 h
  have e1 : w64 (s - n) = s - n := w64_id (by omega) (by omega)
  unfold impl_Platform_mostEntering ent
  dsimp only
  rw [e1]
  by_cases hd : d = 0
  · rw [cond_dt hd, if_neg (show ¬ d = 1 by omega)]
  · rw [cond_df hd, if_pos (show d = 1 by omega)]
    cases l with
    | false =>
      simp only [cond_false, if_true, Bool.false_eq_true, if_false]
      refine congrArg some ?_
      split <;> split <;> omega
    | true =>
      simp only [cond_true, if_true]
      refine congrArg some ?_
      split <;> split <;> split <;> (try split) <;> omega
theorem add_eq (k : ByteArray) (c : Int) (out : List BoardEvent) (p q : Platform) (b : Bool) (h : impl_Platform_step p (k, c, ()) = some (q, b)) (hl : out.length ≤ 1000000) : impl_QuickestGo_1_i1 k c out p = some (out ++ [(k, c, ())], q) := by
  unfold impl_QuickestGo_1_i1
  rw [grd_pos (by simp only [List.length_cons, List.length_nil]; omega), p_eta, h]
  rfl
theorem quick_loops : ∀ (N : Nat) (d s n w g : Int) (l : Bool) (out : List BoardEvent), goodB (d, s, n, w, l, g, ()) = true → w ≤ N → out.length + N ≤ 100000 →
    ∃ (d' s' n' w' g' : Int) (l' : Bool) (out' : List BoardEvent), iter (fun s => spec_QuickestGo_loop1 s.1 s.2.1 s.2.2.1 s.2.2.2.1 s.2.2.2.2.1 s.2.2.2.2.2.1 s.2.2.2.2.2.2) (d, s, n, w, l, g, out) = some (d', s', n', w', l', g', out') ∧
      iter (fun s => impl_QuickestGo_loop1 s.1 s.2.1 s.2.2.1 s.2.2.2.1 s.2.2.2.2.1 s.2.2.2.2.2.1 s.2.2.2.2.2.2) (d, s, n, w, l, g, out) = some (d', s', n', w', l', g', out') ∧ goodB (d', s', n', w', l', g', ()) = true ∧ out'.length ≤ out.length + N
  | N, d, s, n, w, g, l, out, hg, hN, hl => by
    have hg' := (goodB_iff d s n w g l).1 hg
    by_cases h0 : 0 < ent d s n w l
    · have hs1 : w64 (s - n) = s - n := w64_id (by omega) (by omega)
      have hle : ent d s n w l ≤ w ∧ ent d s n w l ≤ 16 := by
        unfold ent
        rw [hs1]
        split
        · split
          · split <;> split <;> omega
          · split <;> omega
        · omega
      cases N with
      | zero => omega
      | succ N =>
        obtain ⟨e1, e2, e3⟩ := step_enter d s n w g l (ent d s n w l) hg
        have hb : (decide (1 ≤ ent d s n w l ∧ ent d s n w l ≤ 16) && decide (ent d s n w l ≤ ent d s n w l)) = true := by
          rw [decide_eq_true (by omega), decide_eq_true (by omega)]; rfl
        rw [hb] at e1 e2 e3
        have hq := e3 rfl
        have hw : w64 (w - ent d s n w l) = w - ent d s n w l := w64_id (by omega) (by omega)
        obtain ⟨d', s', n', w', g', l', out', f1, f2, f3, f4⟩ := quick_loops N d s (w64 (n + ent d s n w l)) (w64 (w - ent d s n w l)) g false (out ++ [((ByteArray.mk #[101, 110, 116, 101, 114]), ent d s n w l, ())]) hq (by rw [hw]; omega) (by simp only [List.length_append, List.length_cons, List.length_nil]; omega)
        refine ⟨d', s', n', w', g', l', out', (iter_go ?_).trans f1, (iter_go ?_).trans f2, f3, by simp only [List.length_append, List.length_cons, List.length_nil] at f4; omega⟩
        · show spec_QuickestGo_loop1 d s n w l g out = _
          unfold spec_QuickestGo_loop1
          rw [entering_eq, Option.bind_some, cond_dt h0, Option.bind_some, grd_pos (by simp only [List.length_cons, List.length_nil]; omega), e2, Option.bind_some]
          rfl
        · show impl_QuickestGo_loop1 d s n w l g out = _
          unfold impl_QuickestGo_loop1
          rw [entering_most d s n w g l hg, Option.bind_some, cond_dt h0, Option.bind_some, add_eq _ _ _ _ _ _ e1 (by omega), Option.bind_some]
    · refine ⟨d, s, n, w, g, l, out, iter_out ?_, iter_out ?_, hg, by omega⟩
      · show spec_QuickestGo_loop1 d s n w l g out = _
        unfold spec_QuickestGo_loop1
        rw [entering_eq, Option.bind_some, cond_df h0]
      · show impl_QuickestGo_loop1 d s n w l g out = _
        unfold impl_QuickestGo_loop1
        rw [entering_most d s n w g l hg, Option.bind_some, cond_df h0]
theorem quick_eq (p : Platform) : (spec_QuickestGo p = some ([], false) ∧ impl_QuickestGo p = some (Sum.inl ())) ∨
    ∃ x, spec_QuickestGo p = some (x, true) ∧ impl_QuickestGo p = some (Sum.inr x) ∧ x.length ≤ 2000 := by
  obtain ⟨d, s, n, w, l, g, u⟩ := p
  unfold spec_QuickestGo impl_QuickestGo
  rw [show spec_l14Good _ = some (goodB (d, s, n, w, l, g, ())) from good_eq _, show impl_IsPlatform _ = some (goodB (d, s, n, w, l, g, ())) from isPlat_eq _, Option.bind_some, Option.bind_some]
  cases hg : goodB (d, s, n, w, l, g, ()) with
  | false => exact .inl ⟨rfl, rfl⟩
  | true =>
    rw [Bool.not_true, cond_false, cond_false]
    have hg' := (goodB_iff d s n w g l).1 hg
    dsimp only
    by_cases hs : s = 0
    · rw [cond_dt hs, cond_dt hs]; exact .inl ⟨rfl, rfl⟩
    rw [cond_df hs, cond_df hs]
    by_cases hgo : g = 9999
    · rw [cond_dt hgo, cond_dt hgo]; exact .inl ⟨rfl, rfl⟩
    rw [cond_df hgo, cond_df hgo]
    right
    have tail : ∀ (d0 : Int) (o0 : List BoardEvent), goodB (d0, s, n, w, l, g, ()) = true → o0.length ≤ 1 →
        ∃ x, ((iter (fun s => spec_QuickestGo_loop1 s.1 s.2.1 s.2.2.1 s.2.2.2.1 s.2.2.2.2.1 s.2.2.2.2.2.1 s.2.2.2.2.2.2) (d0, s, n, w, l, g, o0)).bind (fun r => (cond (decide (r.1 = (1 : Int))) (grd ((r.2.2.2.2.2.2.length + [((ByteArray.mk #[115, 104, 117, 116]), (0 : Int), ())].length) * 24 ≤ 140737488355328 ∧ r.2.2.2.2.2.2.length + [((ByteArray.mk #[115, 104, 117, 116]), (0 : Int), ())].length ≤ 140737488355328) (grd (((r.2.2.2.2.2.2 ++ [((ByteArray.mk #[115, 104, 117, 116]), (0 : Int), ())]).length + [((ByteArray.mk #[103, 111]), (0 : Int), ())].length) * 24 ≤ 140737488355328 ∧ (r.2.2.2.2.2.2 ++ [((ByteArray.mk #[115, 104, 117, 116]), (0 : Int), ())]).length + [((ByteArray.mk #[103, 111]), (0 : Int), ())].length ≤ 140737488355328) ((some (((r.2.2.2.2.2.2 ++ [((ByteArray.mk #[115, 104, 117, 116]), (0 : Int), ())]) ++ [((ByteArray.mk #[103, 111]), (0 : Int), ())]), true))))) (grd ((r.2.2.2.2.2.2.length + [((ByteArray.mk #[103, 111]), (0 : Int), ())].length) * 24 ≤ 140737488355328 ∧ r.2.2.2.2.2.2.length + [((ByteArray.mk #[103, 111]), (0 : Int), ())].length ≤ 140737488355328) ((some ((r.2.2.2.2.2.2 ++ [((ByteArray.mk #[103, 111]), (0 : Int), ())]), true))))))) = some (x, true) ∧
          ((iter (fun s => impl_QuickestGo_loop1 s.1 s.2.1 s.2.2.1 s.2.2.2.1 s.2.2.2.2.1 s.2.2.2.2.2.1 s.2.2.2.2.2.2) (d0, s, n, w, l, g, o0)).bind (fun r => (cond (decide (r.1 = (1 : Int))) ((impl_QuickestGo_1_i1 (ByteArray.mk #[115, 104, 117, 116]) (0 : Int) r.2.2.2.2.2.2 (r.1, r.2.1, r.2.2.1, r.2.2.2.1, r.2.2.2.2.1, r.2.2.2.2.2.1, ())).bind fun y25 => ((impl_QuickestGo_1_i1 (ByteArray.mk #[103, 111]) (0 : Int) y25.1 (y25.2.1, y25.2.2.1, y25.2.2.2.1, y25.2.2.2.2.1, y25.2.2.2.2.2.1, y25.2.2.2.2.2.2.1, ())).bind fun y26 => (some (Sum.inr y26.1)))) ((impl_QuickestGo_1_i1 (ByteArray.mk #[103, 111]) (0 : Int) r.2.2.2.2.2.2 (r.1, r.2.1, r.2.2.1, r.2.2.2.1, r.2.2.2.2.1, r.2.2.2.2.2.1, ())).bind fun y27 => (some (Sum.inr y27.1)))))) = some (Sum.inr x : Unit ⊕ (List BoardEvent)) ∧ x.length ≤ 2000 := by
      intro d0 o0 h0 ho
      obtain ⟨d', s', n', w', g', l', out', f1, f2, f3, f4⟩ := quick_loops 500 d0 s n w g l o0 h0 (by omega) (by omega)
      rw [f1, f2, Option.bind_some, Option.bind_some]
      dsimp only
      have hg3 := (goodB_iff d' s' n' w' g' l').1 f3
      by_cases hd : d' = 1
      · rw [cond_dt hd, cond_dt hd]
        obtain ⟨e1, _, e3⟩ := step_shut d' s' n' w' g' l' 0 f3
        have hb : (decide ((0 : Int) = 0) && decide (d' = 1)) = true := by rw [decide_eq_true hd]; rfl
        rw [hb] at e1 e3
        obtain ⟨e4, _, _⟩ := step_go 0 s' n' w' g' l' 0 (e3 rfl)
        rw [grd_pos (by simp only [List.length_cons, List.length_nil]; omega), grd_pos (by simp only [List.length_append, List.length_cons, List.length_nil]; omega), add_eq _ _ _ _ _ _ e1 (by omega), Option.bind_some, add_eq _ _ _ _ _ _ e4 (by simp only [List.length_append, List.length_cons, List.length_nil]; omega)]
        exact ⟨_, rfl, rfl, by simp only [List.length_append, List.length_cons, List.length_nil]; omega⟩
      · rw [cond_df hd, cond_df hd]
        obtain ⟨e4, _, _⟩ := step_go d' s' n' w' g' l' 0 f3
        rw [grd_pos (by simp only [List.length_cons, List.length_nil]; omega), add_eq _ _ _ _ _ _ e4 (by omega)]
        exact ⟨_, rfl, rfl, by simp only [List.length_append, List.length_cons, List.length_nil]; omega⟩
    have same : ∃ (d0 : Int) (o0 : List BoardEvent), (cond (decide (d = (0 : Int))) (cond (decide ((0 : Int) < w)) (cond (decide (n < s)) (grd ((([] : List BoardEvent).length + [((ByteArray.mk #[111, 112, 101, 110]), (0 : Int), ())].length) * 24 ≤ 140737488355328 ∧ ([] : List BoardEvent).length + [((ByteArray.mk #[111, 112, 101, 110]), (0 : Int), ())].length ≤ 140737488355328) ((some ((1 : Int), (([] : List BoardEvent) ++ [((ByteArray.mk #[111, 112, 101, 110]), (0 : Int), ())]))))) ((some (d, ([] : List BoardEvent))))) ((some (d, ([] : List BoardEvent))))) ((some (d, ([] : List BoardEvent))))) = some (d0, o0) ∧ (cond (decide (d = (0 : Int))) (cond (decide ((0 : Int) < w)) (cond (decide (n < s)) ((impl_QuickestGo_1_i1 (ByteArray.mk #[111, 112, 101, 110]) (0 : Int) ([] : List BoardEvent) (d, s, n, w, l, g, ())).bind fun y2 => (some (y2.2.1, y2.2.2.1, y2.2.2.2.1, y2.2.2.2.2.1, y2.2.2.2.2.2.1, y2.2.2.2.2.2.2.1, y2.1))) ((some (d, s, n, w, l, g, ([] : List BoardEvent))))) ((some (d, s, n, w, l, g, ([] : List BoardEvent))))) ((some (d, s, n, w, l, g, ([] : List BoardEvent))))) = some (d0, s, n, w, l, g, o0) ∧ goodB (d0, s, n, w, l, g, ()) = true ∧ o0.length ≤ 1 := by
      have no : ∃ (d0 : Int) (o0 : List BoardEvent), some (d, ([] : List BoardEvent)) = some (d0, o0) ∧ some (d, s, n, w, l, g, ([] : List BoardEvent)) = some (d0, s, n, w, l, g, o0) ∧ goodB (d0, s, n, w, l, g, ()) = true ∧ o0.length ≤ 1 := ⟨d, [], rfl, rfl, hg, by simp⟩
      by_cases h1 : d = 0
      case neg => rw [cond_df h1, cond_df h1]; exact no
      rw [cond_dt h1, cond_dt h1]
      by_cases h2 : 0 < w
      case neg => rw [cond_df h2, cond_df h2]; exact no
      rw [cond_dt h2, cond_dt h2]
      by_cases h3 : n < s
      case neg => rw [cond_df h3, cond_df h3]; exact no
      rw [cond_dt h3, cond_dt h3]
      obtain ⟨e1, _, e3⟩ := step_open d s n w g l 0 hg
      have hb : (decide ((0 : Int) = 0) && (decide (0 < s) && decide (d = 0))) = true := by rw [decide_eq_true h1, decide_eq_true (show 0 < s by omega)]; rfl
      rw [hb] at e1 e3
      rw [grd_pos (by simp), add_eq _ _ _ _ _ _ e1 (by simp)]
      exact ⟨1, _, rfl, rfl, e3 rfl, by simp⟩
    obtain ⟨d0, o0, j1, j2, j3, j4⟩ := same
    obtain ⟨x, t1, t2, t3⟩ := tail d0 o0 j3 j4
    refine ⟨x, ?_, ?_, t3⟩
    · refine (congrArg (fun z => Option.bind z _) j1).trans ?_
      exact t1
    · refine (congrArg (fun z => Option.bind z _) j2).trans ?_
      exact t2
/-! ### Marks -/
noncomputable def me (i : Nat) : BoardEvent := ((laws_markText (1 + 2 * (i : Int))).getD (ByteArray.mk #[]), 1 + 2 * (i : Int) + 1, ())
theorem me_eq (i : Nat) (h : i ≤ 1048576) : laws_markText (1 + 2 * (i : Int)) = some (me i).1 := by
  obtain ⟨t, e⟩ := markText_ex (1 + 2 * (i : Int)) (by omega) (by omega)
  unfold me
  rw [e]; rfl
theorem getD_set_self {α : Type} (l : List α) (i : Nat) (a d : α) (h : i < l.length) : (l.set i a).getD i d = a := by
  simp [List.getD_eq_getElem?_getD, h]
theorem eqE_eq2 (e : BoardEvent) : laws_eqBoardEvent e e = some true := by
  unfold laws_eqBoardEvent
  simp only [decide_true, Bool.not_true, cond_false]
theorem eqEs_eq2 (l : List BoardEvent) (h : l.length ≤ 1048576) : laws_eqBoardEventS l l = some true := by
  unfold laws_eqBoardEventS
  rw [cond_ndt rfl]
  have H : iter (fun s => laws_eqBoardEventS_loop1 l l s) (0 : Int) = some (Sum.inr ()) :=
    iter_for l.length (fun k => (k : Int)) (fun k hk => by
      show laws_eqBoardEventS_loop1 l l (k : Int) = _
      unfold laws_eqBoardEventS_loop1
      rw [cond_dt (by omega), grd_pos (by omega), grd_pos (by omega), e_eta, eqE_eq2, w64_nat (by omega)]
      rfl) (by
      show laws_eqBoardEventS_loop1 l l (l.length : Int) = _
      unfold laws_eqBoardEventS_loop1
      rw [cond_df (by omega)]) rfl
  rw [H]; rfl
theorem markEs_eq (l : List BoardEvent) (h : l.length ≤ 1048576) : laws_markBoardEventS l 1 = some (1 + 2 * (l.length : Int), (List.range l.length).map me) := by
  unfold laws_markBoardEventS
  have H : iter (fun s => laws_markBoardEventS_loop1 s.1 s.2.1 s.2.2) ((1 : Int), (0 : Int), l) = some (1 + 2 * (l.length : Int), (List.range l.length).map me) :=
    iter_for l.length (fun k => (1 + 2 * (k : Int), (k : Int), (List.range k).map me ++ l.drop k)) (fun k hk => by
      show laws_markBoardEventS_loop1 (1 + 2 * (k : Int)) (k : Int) ((List.range k).map me ++ l.drop k) = _
      have hlen : ((List.range k).map me ++ l.drop k).length = l.length := by simp; omega
      have hset : ((List.range k).map me ++ l.drop k).set k (me k) = (List.range (k + 1)).map me ++ l.drop (k + 1) := by
        rw [List.drop_eq_getElem_cons hk]
        have := set_mid ((List.range k).map me) l[k] (me k) (l.drop (k + 1))
        rw [List.length_map, List.length_range] at this
        rw [this, List.range_succ, List.map_append, List.append_assoc]; rfl
      unfold laws_markBoardEventS_loop1
      rw [cond_dt (by omega), me_eq k (by omega), Option.bind_some, grd_pos (by omega), grd_pos (by rw [List.length_set]; omega), Int.toNat_natCast, w64_nat (by omega), List.set_set, getD_set_self _ _ _ _ (by omega), w64_id (x := 1 + 2 * (k : Int) + 1) (by omega) (by omega), w64_id (by omega) (by omega)]
      rw [← hset]
      refine congrArg (fun x => some (Lp.go (x, _))) ?_
      omega) (by
      show laws_markBoardEventS_loop1 (1 + 2 * (l.length : Int)) (l.length : Int) ((List.range l.length).map me ++ l.drop l.length) = _
      unfold laws_markBoardEventS_loop1
      rw [List.drop_length, List.append_nil, cond_df (by simp)]) (by simp)
  rw [H]; rfl
theorem heldEs_eq (n : Nat) (h : n ≤ 1048576) : laws_heldBoardEventS ((List.range n).map me) 1 = some (1 + 2 * (n : Int)) := by
  unfold laws_heldBoardEventS
  have hlen : ((List.range n).map me).length = n := by simp
  have H : iter (fun s => laws_heldBoardEventS_loop1 ((List.range n).map me) s.1 s.2) ((1 : Int), (0 : Int)) = some (Sum.inr (1 + 2 * (n : Int))) :=
    iter_for n (fun k => (1 + 2 * (k : Int), (k : Int))) (fun k hk => by
      show laws_heldBoardEventS_loop1 ((List.range n).map me) (1 + 2 * (k : Int)) (k : Int) = _
      have hg : ((List.range n).map me).getD k d_BoardEvent = me k := by
        rw [getD_eq _ k _ (by omega)]; simp
      unfold laws_heldBoardEventS_loop1
      rw [cond_dt (by omega), grd_pos (by omega), Int.toNat_natCast, hg, me_eq k (by omega), Option.bind_some, cond_ndt rfl, grd_pos (by omega), w64_nat (by omega), w64_id (x := 1 + 2 * (k : Int) + 1) (by omega) (by omega), cond_ndt (show (me k).2.1 = 1 + 2 * (k : Int) + 1 from rfl), w64_id (by omega) (by omega)]
      refine congrArg (fun x => some (Lp.go (x, _))) ?_
      omega) (by
      show laws_heldBoardEventS_loop1 ((List.range n).map me) (1 + 2 * (n : Int)) (n : Int) = _
      unfold laws_heldBoardEventS_loop1
      rw [cond_df (by omega)]) rfl
  rw [H]; rfl
theorem markEs_nil : laws_markBoardEventS_i1 1 = some 1 := by
  unfold laws_markBoardEventS_i1
  rw [show iter (fun _ : Unit => laws_markBoardEventS_i1_loop1) () = some () from iter_out rfl]; rfl
theorem heldEs_nil : laws_heldBoardEventS [] 1 = some 1 := heldEs_eq 0 (by omega)
theorem law_FnExactQuickestGo (p : Platform) (_ : Ty.fit ty_Platform p) : laws_FnExactQuickestGo p = some true := by
  unfold laws_FnExactQuickestGo
  rcases quick_eq p with ⟨e1, e2⟩ | ⟨x, e1, e2, hx⟩
  · simp only [toP_eq, p_eta, e1, e2, Option.bind_some, Sum.elim_inl, eqEs_eq2 [] (by simp), markEs_nil, heldEs_nil, decide_true, Bool.not_true, cond_false, beq_self_eq_true]
    rfl
  · have h2 : ¬ (1 : Int) + 2 * (x.length : Int) < 0 := by omega
    simp only [toP_eq, p_eta, e1, e2, Option.bind_some, Sum.elim_inr, eqEs_eq2 x (by omega), markEs_eq x (by omega), heldEs_eq x.length (by omega), decide_true, Bool.not_true, cond_false, beq_self_eq_true]
    simp only [cond_df h2]
end Go.Proofs.YteckiilljhdkpaaDoor
