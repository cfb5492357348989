/-
  Plain laws of the grip in steps, as the law 'FnGripSteps' asks.
-/
import Derived.Test.YtmknleaomfpmmaaM12a
namespace Go.Proofs.Ytmknleaomfpmmaa
open Go.RowKit

theorem stepGrip_full (st z f n k v : Int) : ∃ (a b c d : Int) (ok : Bool), spec_StepGrip (st, z, f, n, ()) (k, v, ()) = some ((a, b, c, d, ()), ok) ∧ impl_StepGrip (st, z, f, n, ()) (k, v, ()) = some ((a, b, c, d, ()), ok) ∧
    (ok = true → GP st z f n ∧ GP a b c d ∧ okb st z f n k v = true) := by
  unfold spec_StepGrip impl_StepGrip
  simp only [l21Good_eq, isGrip_eq, Option.bind_some]
  by_cases hg : GP st z f n
  · obtain ⟨⟨a, b, c, d, u⟩, ok, h1, hgood, q, h2, h3, h4⟩ := step_ok st z f n k v hg
    have hok : okb st z f n k v = ok := by unfold okb; rw [h1]
    rw [cond_ndt hg, cond_ndt hg]
    simp only [h1, h2, Option.bind_some]
    cases q with
    | false => rw [h3 rfl]; exact ⟨_, _, _, _, _, rfl, rfl, fun h => by cases h⟩
    | true =>
      obtain ⟨r', h5, h6⟩ := h4 rfl
      simp only [h5, Option.bind_some, Bool.not_true, cond_false]
      cases ok with
      | false => exact ⟨_, _, _, _, _, rfl, rfl, fun h => by cases h⟩
      | true => rw [h6 rfl]; exact ⟨a, b, c, d, true, rfl, rfl, fun _ => ⟨hg, hgood rfl, hok⟩⟩
  · rw [cond_ndf hg, cond_ndf hg]
    exact ⟨_, _, _, _, _, rfl, rfl, fun h => by cases h⟩
theorem okb_oks {st z f n k v : Int} (hg : GP st z f n) (h : okb st z f n k v = true) : 1 ≤ k ∧ k ≤ 5 ∧ oks st z f n k = true := by
  have hc : (if k = 2 ∧ st = 1 then decide (1 ≤ v ∧ v ≤ 2000) else decide (1 ≤ k ∧ k ≤ 5 ∧ v = 0)) = true := by
    cases hb : (if k = 2 ∧ st = 1 then decide (1 ≤ v ∧ v ≤ 2000) else decide (1 ≤ k ∧ k ≤ 5 ∧ v = 0)) with
    | true => rfl
    | false => rw [ok_no hg k v hb] at h; cases h
  by_cases hp : k = 2 ∧ st = 1
  · obtain ⟨rfl, hs⟩ := hp
    refine ⟨by omega, by omega, ?_⟩
    unfold oks
    rw [if_pos ⟨rfl, hs⟩, push_yes hg hs]
  · rw [if_neg hp] at hc
    have hc := of_decide_eq_true hc
    obtain ⟨h1, h5, rfl⟩ := hc
    refine ⟨h1, h5, ?_⟩
    rcases kinds_k hg k ⟨h1, h5⟩ with ⟨e, _⟩ | ⟨_, e⟩ | ⟨_, e⟩
    · exfalso
      unfold its at e
      rw [if_pos h] at e
      simp at e
    · exact e
    · exact e
theorem vInts_eq (l : List Int) (h : l.length ≤ 1048576) : laws_vInts l l = some true := by
  unfold laws_vInts
  rw [cond_ndt rfl]
  have H : iter (fun s => laws_vInts_loop1 l l s) (0 : Int) = some (Sum.inr ()) :=
    iter_for l.length (fun k => (k : Int)) (fun k hk => by
      show laws_vInts_loop1 l l (k : Int) = _
      unfold laws_vInts_loop1
      rw [cond_dt (by omega), grd_pos (by omega), grd_pos (by omega), cond_ndt rfl, w64_nat (by omega)]) (by
      show laws_vInts_loop1 l l (l.length : Int) = _
      unfold laws_vInts_loop1
      rw [cond_df (by omega)]) rfl
  rw [H]; rfl
theorem vHas_yes (l : List Int) (h : l.length ≤ 1048576) (x : Int) (hx : x ∈ l) : laws_vHas l x = some true := by
  unfold laws_vHas
  obtain ⟨r, e, hr⟩ := iter_ex (f := fun s => laws_vHas_loop1 l x s) (miss := (Sum.inr () : Unit ⊕ Unit)) l.length (fun k => decide (l.getD k 0 = x)) (fun _ => Sum.inl ()) (fun k => (k : Int)) (fun k hk => by
      show laws_vHas_loop1 l x (k : Int) = _
      unfold laws_vHas_loop1
      rw [cond_dt (by omega), grd_pos (by omega), w64_nat (by omega), Int.toNat_natCast]
      by_cases he : l.getD k 0 = x
      · rw [cond_dt he, decide_eq_true he]; rfl
      · rw [cond_df he, decide_eq_false he]; rfl) (by
      show laws_vHas_loop1 l x (l.length : Int) = _
      unfold laws_vHas_loop1
      rw [cond_df (by omega)]) (s := (0 : Int)) rfl
  rw [e, Option.bind_some]
  rcases hr with ⟨k, _, _, _, rfl⟩ | ⟨hn, _⟩
  · rfl
  · obtain ⟨i, hi, he⟩ := List.getElem_of_mem hx
    have := hn i hi
    rw [getD_eq _ _ _ hi] at this
    exact absurd he (of_decide_eq_false this)

/-! ### The run -/
abbrev R4 : Type := Int × Int × Int × Int × Int
noncomputable def rst (l : List GripStep) (st z f n : Int) : Nat → R4
  | 0 => (0, st, z, f, n)
  | k + 1 =>
    match impl_GripState_step ((rst l st z f n k).2.1, (rst l st z f n k).2.2.1, (rst l st z f n k).2.2.2.1, (rst l st z f n k).2.2.2.2, ()) ((l.getD k d_GripStep).1, (l.getD k d_GripStep).2.1, ()) with
    | some (r, true) => (w64 ((rst l st z f n k).1 + 1), r.1, r.2.1, r.2.2.1, r.2.2.2.1)
    | _ => rst l st z f n k
theorem rst_ok {st z f n : Int} (hg : GP st z f n) (l : List GripStep) : ∀ k, GP (rst l st z f n k).2.1 (rst l st z f n k).2.2.1 (rst l st z f n k).2.2.2.1 (rst l st z f n k).2.2.2.2
  | 0 => hg
  | k + 1 => by
    have ih := rst_ok hg l k
    obtain ⟨r, b, h1, hgood, _⟩ := step_ok _ _ _ _ (l.getD k d_GripStep).1 (l.getD k d_GripStep).2.1 ih
    simp only [rst, h1]
    cases b with
    | false => exact ih
    | true => exact hgood rfl
theorem run_yes {st z f n : Int} (hg : GP st z f n) (l : List GripStep) (h : l.length ≤ 30) :
    spec_RunGrip (st, z, f, n, ()) l = some (((rst l st z f n l.length).2.1, (rst l st z f n l.length).2.2.1, (rst l st z f n l.length).2.2.2.1, (rst l st z f n l.length).2.2.2.2, ()), (rst l st z f n l.length).1, true) ∧
    impl_RunGrip (st, z, f, n, ()) l = some (((rst l st z f n l.length).2.1, (rst l st z f n l.length).2.2.1, (rst l st z f n l.length).2.2.2.1, (rst l st z f n l.length).2.2.2.2, ()), (rst l st z f n l.length).1, true) ∧
    ∀ e1 e2 e3 e4 e5 : Int, iter (fun s => laws_FnGripSteps_loop1 s.1 s.2.1 s.2.2.1 s.2.2.2.1 s.2.2.2.2.1 s.2.2.2.2.2.1 s.2.2.2.2.2.2.1 s.2.2.2.2.2.2.2.1 s.2.2.2.2.2.2.2.2.1 s.2.2.2.2.2.2.2.2.2.1 s.2.2.2.2.2.2.2.2.2.2.1 s.2.2.2.2.2.2.2.2.2.2.2) (e1, (0 : Int), (0 : Int), l, e2, e3, e4, e5, st, z, f, n) =
      some (e1, (rst l st z f n l.length).1, e2, e3, e4, e5, (rst l st z f n l.length).2.1, (rst l st z f n l.length).2.2.1, (rst l st z f n l.length).2.2.2.1, (rst l st z f n l.length).2.2.2.2) := by
  refine ⟨?_, ?_, ?_⟩
  · unfold spec_RunGrip
    simp only [l21Good_eq, Option.bind_some]
    rw [cond_ndt hg, cond_df (by omega)]
    have H : iter (fun s => spec_RunGrip_loop1 l s.1 s.2.1 s.2.2.1 s.2.2.2.1 s.2.2.2.2.1 s.2.2.2.2.2) ((0 : Int), (0 : Int), st, z, f, n) = some (rst l st z f n l.length) :=
      iter_for l.length (fun k => ((rst l st z f n k).1, (k : Int), (rst l st z f n k).2)) (fun k hk => by
        show spec_RunGrip_loop1 l (rst l st z f n k).1 (k : Int) (rst l st z f n k).2.1 (rst l st z f n k).2.2.1 (rst l st z f n k).2.2.2.1 (rst l st z f n k).2.2.2.2 = _
        obtain ⟨r, b, h1, _, q, h2, h3, h4⟩ := step_ok _ _ _ _ (l.getD k d_GripStep).1 (l.getD k d_GripStep).2.1 (rst_ok hg l k)
        unfold spec_RunGrip_loop1
        rw [cond_dt (by omega), grd_pos (by omega), Int.toNat_natCast, w64_nat (by omega)]
        simp only [h2, Option.bind_some, rst, h1]
        cases q with
        | false => rw [h3 rfl]; rfl
        | true =>
          obtain ⟨r', h5, h6⟩ := h4 rfl
          rw [Bool.not_true, cond_false, grd_pos (by omega)]
          simp only [h5, Option.bind_some]
          cases b with
          | false => rfl
          | true => rw [h6 rfl]; rfl) (by
        show spec_RunGrip_loop1 l (rst l st z f n l.length).1 (l.length : Int) (rst l st z f n l.length).2.1 (rst l st z f n l.length).2.2.1 (rst l st z f n l.length).2.2.2.1 (rst l st z f n l.length).2.2.2.2 = _
        unfold spec_RunGrip_loop1
        rw [cond_df (by omega)]) rfl
    rw [H]; rfl
  · unfold impl_RunGrip
    simp only [isGrip_eq, Option.bind_some]
    rw [cond_ndt hg, cond_df (by omega)]
    have H : iter (fun s => impl_RunGrip_loop1 l s.1 s.2.1 s.2.2.1 s.2.2.2.1 s.2.2.2.2.1 s.2.2.2.2.2) ((0 : Int), (0 : Int), st, z, f, n) = some (rst l st z f n l.length) :=
      iter_for l.length (fun k => ((rst l st z f n k).1, (k : Int), (rst l st z f n k).2)) (fun k hk => by
        show impl_RunGrip_loop1 l (rst l st z f n k).1 (k : Int) (rst l st z f n k).2.1 (rst l st z f n k).2.2.1 (rst l st z f n k).2.2.2.1 (rst l st z f n k).2.2.2.2 = _
        obtain ⟨r, b, h1, _⟩ := step_ok _ _ _ _ (l.getD k d_GripStep).1 (l.getD k d_GripStep).2.1 (rst_ok hg l k)
        unfold impl_RunGrip_loop1
        rw [cond_dt (by omega), grd_pos (by omega), Int.toNat_natCast, w64_nat (by omega)]
        simp only [Option.bind_some, rst, h1]
        cases b <;> rfl) (by
        show impl_RunGrip_loop1 l (rst l st z f n l.length).1 (l.length : Int) (rst l st z f n l.length).2.1 (rst l st z f n l.length).2.2.1 (rst l st z f n l.length).2.2.2.1 (rst l st z f n l.length).2.2.2.2 = _
        unfold impl_RunGrip_loop1
        rw [cond_df (by omega)]) rfl
    rw [H]; rfl
  · intro e1 e2 e3 e4 e5
    refine iter_for l.length (fun k => (e1, (rst l st z f n k).1, (k : Int), l, e2, e3, e4, e5, (rst l st z f n k).2)) (fun k hk => ?_) ?_ rfl
    · show laws_FnGripSteps_loop1 e1 (rst l st z f n k).1 (k : Int) l e2 e3 e4 e5 (rst l st z f n k).2.1 (rst l st z f n k).2.2.1 (rst l st z f n k).2.2.2.1 (rst l st z f n k).2.2.2.2 = _
      obtain ⟨r, b, h1, _⟩ := step_ok _ _ _ _ (l.getD k d_GripStep).1 (l.getD k d_GripStep).2.1 (rst_ok hg l k)
      unfold laws_FnGripSteps_loop1 impl_StepGrip
      rw [cond_dt (by omega), grd_pos (by omega), Int.toNat_natCast, w64_nat (by omega)]
      simp only [isGrip_eq, Option.bind_some]
      rw [cond_ndt (rst_ok hg l k)]
      simp only [Option.bind_some, rst, h1]
      cases b <;> rfl
    · show laws_FnGripSteps_loop1 e1 (rst l st z f n l.length).1 (l.length : Int) l e2 e3 e4 e5 (rst l st z f n l.length).2.1 (rst l st z f n l.length).2.2.1 (rst l st z f n l.length).2.2.2.1 (rst l st z f n l.length).2.2.2.2 = _
      unfold laws_FnGripSteps_loop1
      rw [cond_df (by omega)]
theorem run_no (st z f n : Int) (l : List GripStep) (h : ¬ (GP st z f n ∧ l.length ≤ 30)) :
    spec_RunGrip (st, z, f, n, ()) l = some ((0, 0, 0, 0, ()), 0, false) ∧ impl_RunGrip (st, z, f, n, ()) l = some ((0, 0, 0, 0, ()), 0, false) := by
  unfold spec_RunGrip impl_RunGrip
  simp only [l21Good_eq, isGrip_eq, Option.bind_some]
  by_cases hg : GP st z f n
  · rw [cond_ndt hg, cond_ndt hg, cond_dt (by omega), cond_dt (by omega)]; exact ⟨rfl, rfl⟩
  · rw [cond_ndf hg, cond_ndf hg]; exact ⟨rfl, rfl⟩

/-! ### The draws -/
theorem gripStep_ok (c : l1Cur) (g : GripState) (n : Int) (h : CG c n) (hn : n ≤ 1000000000) : Gives (spec_l1Cur_gripStep c g) (n + 10) (fun _ => True) := by
  obtain ⟨code, at', seed, u⟩ := c
  unfold spec_l1Cur_gripStep
  refine gives_bind (among_ok _ n _ (by simp) h (by omega)) fun a code1 at1 seed1 _ hc => ?_
  dsimp only
  have key : ∃ c2 t2 s2 v, (cond (decide (a = (2 : Int))) (cond (decide (g.1 = (1 : Int))) ((spec_l1Cur_among (code1, at1, seed1, ()) [(1 : Int), (499 : Int), (500 : Int), (501 : Int), (1500 : Int), (2000 : Int), (2000 : Int), (2001 : Int), (0 : Int)]).bind fun y2 => (some (y2.2.1, y2.2.2.1, y2.2.2.2.1, a, y2.1))) ((some (code1, at1, seed1, a, (0 : Int))))) ((some (code1, at1, seed1, a, (0 : Int))))) = some (c2, t2, s2, a, v) ∧ CG (c2, t2, s2, ()) (n + 4) := by
    by_cases h1 : a = 2
    · rw [cond_dt h1]
      by_cases h2 : g.1 = 1
      · rw [cond_dt h2]
        obtain ⟨v, ⟨c2, t2, s2, _⟩, e, hc2, _⟩ := among_ok (code1, at1, seed1, ()) (n + 2) [(1 : Int), (499 : Int), (500 : Int), (501 : Int), (1500 : Int), (2000 : Int), (2000 : Int), (2001 : Int), (0 : Int)] (by simp) hc (by omega)
        rw [e]; exact ⟨c2, t2, s2, v, rfl, hc2.up (by omega)⟩
      · rw [cond_df h2]; exact ⟨_, _, _, _, rfl, hc.up (by omega)⟩
    · rw [cond_df h1]; exact ⟨_, _, _, _, rfl, hc.up (by omega)⟩
  obtain ⟨c2, t2, s2, v, e, hc2⟩ := key
  simp only [e, Option.bind_some]
  refine gives_bind (one_ok _ (n + 4) 32 hc2 (by omega)) fun b code3 at3 seed3 _ hc3 => ?_
  dsimp only
  refine gives_cond (fun _ => ?_) (fun _ => Gives.ret (hc3.up (by omega)) trivial)
  refine gives_bind (among_ok _ (n + 6) _ (by simp) (hc3.up (by omega)) (by omega)) fun k code4 at4 seed4 _ hc4 => ?_
  dsimp only
  refine gives_bind (among_ok _ (n + 8) _ (by simp) (hc4.up (by omega)) (by omega)) fun k code5 at5 seed5 _ hc5 => ?_
  dsimp only
  exact Gives.ret (hc5.up (by omega)) trivial
theorem grip_loop : ∀ (d : Nat) (code : List Int) (at' seed a b c e : Int) (n : Int), CG (code, at', seed, ()) n → n + 10 * d ≤ 1000000 → d ≤ 1000 →
    ∃ code2 at2 seed2 a2 b2 c2 e2, iter (fun s => spec_l1Cur_gripState_loop1 s.1 s.2.1 s.2.2.1 s.2.2.2.1 s.2.2.2.2.1 s.2.2.2.2.2.1 s.2.2.2.2.2.2.1 s.2.2.2.2.2.2.2) ((d : Int), code, at', seed, a, b, c, e) = some (code2, at2, seed2, a2, b2, c2, e2) ∧ CG (code2, at2, seed2, ()) (n + 10 * d)
  | 0, code, at', seed, a, b, c, e, n, hc, _, _ => by
    refine ⟨code, at', seed, a, b, c, e, iter_out ?_, hc.up (by omega)⟩
    show spec_l1Cur_gripState_loop1 ((0 : Nat) : Int) code at' seed a b c e = _
    unfold spec_l1Cur_gripState_loop1
    rw [cond_df (by omega)]
  | d + 1, code, at', seed, a, b, c, e, n, hc, hn, hd => by
    obtain ⟨⟨k, v, _⟩, ⟨code1, at1, seed1, _⟩, e1, hc1, _⟩ := gripStep_ok (code, at', seed, ()) (a, b, c, e, ()) n hc (by omega)
    obtain ⟨a1, b1, c1, d1, ok, e2, _, _⟩ := stepGrip_full a b c e k v
    have ih := fun a b c e => grip_loop d code1 at1 seed1 a b c e (n + 10) hc1 (by omega) (by omega)
    have hw : w64 (((d + 1 : Nat) : Int) - 1) = (d : Int) := by rw [w64_id (by omega) (by omega)]; omega
    cases ok with
    | true =>
      obtain ⟨code2, at2, seed2, a2, b2, c2, e2', h1, h2⟩ := ih a1 b1 c1 d1
      refine ⟨code2, at2, seed2, a2, b2, c2, e2', (iter_go ?_).trans h1, h2.up (by omega)⟩
      show spec_l1Cur_gripState_loop1 ((d + 1 : Nat) : Int) code at' seed a b c e = _
      unfold spec_l1Cur_gripState_loop1
      rw [cond_dt (by omega), e1, Option.bind_some, hw]
      simp only [e2, Option.bind_some, cond_true]
    | false =>
      obtain ⟨code2, at2, seed2, a2, b2, c2, e2', h1, h2⟩ := ih a b c e
      refine ⟨code2, at2, seed2, a2, b2, c2, e2', (iter_go ?_).trans h1, h2.up (by omega)⟩
      show spec_l1Cur_gripState_loop1 ((d + 1 : Nat) : Int) code at' seed a b c e = _
      unfold spec_l1Cur_gripState_loop1
      rw [cond_dt (by omega), e1, Option.bind_some, hw]
      simp only [e2, Option.bind_some, cond_false]
theorem gripState_ok (c : l1Cur) (n : Int) (h : CG c n) (hn : n ≤ 100000) : Gives (spec_l1Cur_gripState c) (n + 130) (fun _ => True) := by
  obtain ⟨code, at', seed, u⟩ := c
  unfold spec_l1Cur_gripState
  refine gives_bind (among_ok _ n _ (by simp) h (by omega)) fun a code1 at1 seed1 _ hc => ?_
  dsimp only
  refine gives_bind (pick_ok _ (n + 2) 12 hc (by omega)) fun k code2 at2 seed2 hk hc2 => ?_
  dsimp only
  obtain ⟨code3, at3, seed3, a3, b3, c3, e3, h3, hc3⟩ := grip_loop k.toNat code2 at2 seed2 0 0 0 a (n + 4) (hc2.up (by omega)) (by omega) (by omega)
  rw [show ((k.toNat : Nat) : Int) = k by omega] at h3
  simp only [h3, Option.bind_some]
  have hc3 : CG (code3, at3, seed3, ()) (n + 120) := hc3.up (by omega)
  refine gives_bind (pick_ok _ (n + 120) 24 hc3 (by omega)) fun q code4 at4 seed4 _ hc4 => ?_
  dsimp only
  refine gives_cond (fun _ => ?_) (fun _ => gives_cond (fun _ => ?_) (fun _ => gives_cond (fun _ => ?_) (fun _ => gives_cond (fun _ => ?_) (fun _ => Gives.ret (hc4.up (by omega)) trivial))))
  all_goals
    refine gives_bind (among_ok _ (n + 122) _ (by simp) (hc4.up (by omega)) (by omega)) fun r code5 at5 seed5 _ hc5 => ?_
    dsimp only
    exact Gives.ret (hc5.up (by omega)) trivial
theorem cg0 (code : List Int) (hb : ∀ x ∈ code, 0 ≤ x ∧ x ≤ 255) (hl : code.length ≤ 1048576) : CG (code, (0 : Int), (0 : Int), ()) 0 := ⟨hb, hl, by show (0 : Int) ≤ 0; omega, by show (0 : Int) ≤ 0; omega⟩
theorem drawIsGrip_ok (code : List Int) (hb : ∀ x ∈ code, 0 ≤ x ∧ x ≤ 255) (hl : code.length ≤ 1048576) : ∃ st z f n, spec_DrawIsGripState code = some (st, z, f, n, ()) := by
  obtain ⟨⟨st, z, f, n, _⟩, ⟨_, _, _, _⟩, e, _, _⟩ := gripState_ok _ 0 (cg0 code hb hl) (by omega)
  unfold spec_DrawIsGripState
  rw [e]; exact ⟨st, z, f, n, rfl⟩
theorem drawStepGrip_ok (code : List Int) (hb : ∀ x ∈ code, 0 ≤ x ∧ x ≤ 255) (hl : code.length ≤ 1048576) : ∃ st z f n k v, spec_DrawStepGrip code = some ((st, z, f, n, ()), (k, v, ())) := by
  obtain ⟨⟨st, z, f, n, _⟩, ⟨c1, t1, s1, _⟩, e, hc, _⟩ := gripState_ok _ 0 (cg0 code hb hl) (by omega)
  obtain ⟨⟨k, v, _⟩, ⟨c2, t2, s2, _⟩, e2, _, _⟩ := gripStep_ok (c1, t1, s1, ()) (st, z, f, n, ()) _ hc (by omega)
  unfold spec_DrawStepGrip
  rw [e, Option.bind_some]
  simp only [e2]
  exact ⟨st, z, f, n, k, v, rfl⟩
theorem run_loop1 : ∀ (d : Nat) (code : List Int) (at' seed p q r s : Int) (acc : List GripStep) (a b c e : Int) (n : Int), CG (code, at', seed, ()) n → n + 10 * d ≤ 1000000 → acc.length + d ≤ 1000 → d ≤ 1000 →
    ∃ code2 at2 seed2 acc2, iter (fun s => spec_DrawRunGrip_loop1 s.1 s.2.1 s.2.2.1 s.2.2.2.1 s.2.2.2.2.1 s.2.2.2.2.2.1 s.2.2.2.2.2.2.1 s.2.2.2.2.2.2.2.1 s.2.2.2.2.2.2.2.2.1 s.2.2.2.2.2.2.2.2.2.1 s.2.2.2.2.2.2.2.2.2.2.1 s.2.2.2.2.2.2.2.2.2.2.2.1 s.2.2.2.2.2.2.2.2.2.2.2.2) ((d : Int), code, at', seed, p, q, r, s, acc, a, b, c, e) = some (code2, at2, seed2, p, q, r, s, acc2) ∧ CG (code2, at2, seed2, ()) (n + 10 * d) ∧ acc2.length ≤ acc.length + d
  | 0, code, at', seed, p, q, r, s, acc, a, b, c, e, n, hc, _, _, _ => by
    refine ⟨code, at', seed, acc, iter_out ?_, hc.up (by omega), by omega⟩
    show spec_DrawRunGrip_loop1 ((0 : Nat) : Int) code at' seed p q r s acc a b c e = _
    unfold spec_DrawRunGrip_loop1
    rw [cond_df (by omega)]
  | d + 1, code, at', seed, p, q, r, s, acc, a, b, c, e, n, hc, hn, ha, hd => by
    obtain ⟨⟨k, v, _⟩, ⟨code1, at1, seed1, _⟩, e1, hc1, _⟩ := gripStep_ok (code, at', seed, ()) (a, b, c, e, ()) n hc (by omega)
    obtain ⟨a1, b1, c1, d1, ok, e2, _, _⟩ := stepGrip_full a b c e k v
    have ih := fun a b c e => run_loop1 d code1 at1 seed1 p q r s (acc ++ [(k, v, ())]) a b c e (n + 10) hc1 (by omega) (by simp; omega) (by omega)
    have hw : w64 (((d + 1 : Nat) : Int) - 1) = (d : Int) := by rw [w64_id (by omega) (by omega)]; omega
    have hlen : (acc ++ [((k, v, ()) : GripStep)]).length = acc.length + 1 := by simp
    cases ok with
    | true =>
      obtain ⟨code2, at2, seed2, acc2, h1, h2, h3⟩ := ih a1 b1 c1 d1
      refine ⟨code2, at2, seed2, acc2, (iter_go ?_).trans h1, h2.up (by omega), by omega⟩
      show spec_DrawRunGrip_loop1 ((d + 1 : Nat) : Int) code at' seed p q r s acc a b c e = _
      unfold spec_DrawRunGrip_loop1
      rw [cond_dt (by omega), e1, Option.bind_some, hw]
      rw [grd_pos (by simp; omega)]
      simp only [e2, Option.bind_some, cond_true]
    | false =>
      obtain ⟨code2, at2, seed2, acc2, h1, h2, h3⟩ := ih a b c e
      refine ⟨code2, at2, seed2, acc2, (iter_go ?_).trans h1, h2.up (by omega), by omega⟩
      show spec_DrawRunGrip_loop1 ((d + 1 : Nat) : Int) code at' seed p q r s acc a b c e = _
      unfold spec_DrawRunGrip_loop1
      rw [cond_dt (by omega), e1, Option.bind_some, hw]
      rw [grd_pos (by simp; omega)]
      simp only [e2, Option.bind_some, cond_false]
theorem run_loop2 : ∀ (d : Nat) (code : List Int) (at' seed p q r s : Int) (acc : List GripStep) (n : Int), CG (code, at', seed, ()) n → n + 2 * d ≤ 1000000 → 32 ≤ acc.length + d → acc.length ≤ 40 → d ≤ 100 →
    ∃ acc2, iter (fun s => spec_DrawRunGrip_loop2 s.1 s.2.1 s.2.2.1 s.2.2.2.1 s.2.2.2.2.1 s.2.2.2.2.2.1 s.2.2.2.2.2.2.1 s.2.2.2.2.2.2.2) (code, at', seed, p, q, r, s, acc) = some (p, q, r, s, acc2) ∧ acc2.length ≤ 41
  | 0, code, at', seed, p, q, r, s, acc, n, hc, hn, ha, hb, hd => by
    obtain ⟨v, ⟨code1, at1, seed1, _⟩, e1, hc1, hv⟩ := pick_ok (code, at', seed, ()) n 2 hc (by omega)
    refine ⟨acc, iter_out ?_, by omega⟩
    show spec_DrawRunGrip_loop2 code at' seed p q r s acc = _
    unfold spec_DrawRunGrip_loop2
    rw [e1, Option.bind_some]
    dsimp only
    rw [w64_id (x := 30 + v) (by omega) (by omega), cond_df (by omega)]
  | d + 1, code, at', seed, p, q, r, s, acc, n, hc, hn, ha, hb, hd => by
    obtain ⟨v, ⟨code1, at1, seed1, _⟩, e1, hc1, hv⟩ := pick_ok (code, at', seed, ()) n 2 hc (by omega)
    by_cases hlt : (acc.length : Int) < 30 + v
    · obtain ⟨acc2, h1, h2⟩ := run_loop2 d code1 at1 seed1 p q r s (acc ++ [(1, 0, ())]) (n + 2) hc1 (by omega) (by simp; omega) (by simp; omega) (by omega)
      refine ⟨acc2, (iter_go ?_).trans h1, h2⟩
      show spec_DrawRunGrip_loop2 code at' seed p q r s acc = _
      unfold spec_DrawRunGrip_loop2
      rw [e1, Option.bind_some]
      dsimp only
      rw [w64_id (x := 30 + v) (by omega) (by omega), cond_dt hlt, grd_pos (by simp; omega)]
    · refine ⟨acc, iter_out ?_, by omega⟩
      show spec_DrawRunGrip_loop2 code at' seed p q r s acc = _
      unfold spec_DrawRunGrip_loop2
      rw [e1, Option.bind_some]
      dsimp only
      rw [w64_id (x := 30 + v) (by omega) (by omega), cond_df hlt]
theorem drawRunGrip_ok (code : List Int) (hb : ∀ x ∈ code, 0 ≤ x ∧ x ≤ 255) (hl : code.length ≤ 1048576) : ∃ st z f n l, spec_DrawRunGrip code = some ((st, z, f, n, ()), l) := by
  obtain ⟨⟨st, z, f, n, _⟩, ⟨c1, t1, s1, _⟩, e, hc, _⟩ := gripState_ok _ 0 (cg0 code hb hl) (by omega)
  obtain ⟨k, ⟨c2, t2, s2, _⟩, e2, hc2, hk⟩ := pick_ok (c1, t1, s1, ()) _ 12 hc (by omega)
  obtain ⟨c3, t3, s3, acc, e3, hc3, ha⟩ := run_loop1 k.toNat c2 t2 s2 st z f n [] st z f n _ hc2 (by omega) (by simp; omega) (by omega)
  rw [show ((k.toNat : Nat) : Int) = k by omega] at e3
  obtain ⟨b, ⟨c4, t4, s4, _⟩, e4, hc4, _⟩ := one_ok (c3, t3, s3, ()) _ 24 (hc3.up (m := 1000) (by omega)) (by omega)
  unfold spec_DrawRunGrip
  rw [e, Option.bind_some]
  simp only [e2, Option.bind_some, e3, e4]
  simp only [List.length_nil] at ha
  cases b with
  | true =>
    obtain ⟨acc2, e5, _⟩ := run_loop2 40 c4 t4 s4 st z f n acc _ hc4 (by omega) (by omega) (by omega) (by omega)
    simp only [cond_true, e5, Option.bind_some]
    exact ⟨st, z, f, n, acc2, rfl⟩
  | false => exact ⟨st, z, f, n, acc, rfl⟩

theorem joinx_unit {Y : Type} {X : Option (Lp Unit Y)} {k : Unit → Option Y} {y : Option Y} (h : X = some (.go ())) (hk : k () = y) : joinx X k = y := by rw [h]; exact hk
theorem law_FnGripSteps (code : List Int) (hc : Ty.fit (.sl (.int .u8)) code) : laws_FnGripSteps code = some true := by
  have hl : code.length ≤ 1048576 := hc.1
  have hb : ∀ x ∈ code, 0 ≤ x ∧ x ≤ 255 := fun x hx => by
    have := hc.2 x hx
    exact this
  obtain ⟨st, z, f, n, k, v, d1⟩ := drawStepGrip_ok code hb hl
  obtain ⟨st2, z2, f2, n2, l, d2⟩ := drawRunGrip_ok code hb hl
  obtain ⟨st3, z3, f3, n3, d3⟩ := drawIsGrip_ok code hb hl
  obtain ⟨a, b, c, d, ok, s1, s2, hok⟩ := stepGrip_full st z f n k v
  have d3' : spec_DrawPossibleSteps code = some (st3, z3, f3, n3, ()) := by
    unfold spec_DrawPossibleSteps
    rw [d3]; rfl
  unfold laws_FnGripSteps laws_vBig
  rw [Option.bind_some]
  by_cases hbig : (65536 : Int) < code.length
  · rw [cond_dt hbig]
  rw [cond_df hbig]
  simp only [d1, s1, s2, Option.bind_some, spec_IsGripState, l21Good_eq, isGrip_eq, decide_true, Bool.and_true, Bool.not_true, cond_false, beq_self_eq_true]
  refine joinx_unit ?_ ?_
  · cases ok with
    | false => rfl
    | true =>
      obtain ⟨hg, hg', hkb⟩ := hok rfl
      obtain ⟨k1, k5, hks⟩ := okb_oks hg hkb
      rcases possible_ok (st, z, f, n, ()) with ⟨_, _, hn⟩ | ⟨m, _, e2, hm, hmem⟩
      · exact absurd hg hn
      simp only [cond_true, e2, Option.bind_some, Sum.elim_inr, isGrip_eq, decide_eq_true hg', Bool.not_true, cond_false, vHas_yes m hm k (hmem k k1 k5 hks)]
      by_cases h2 : b = 2
      · have := hg'.2.2.2.2.2.2.2.2.2.2.1 h2
        rw [cond_dt h2, cond_ndt this.1, cond_df (by omega)]
      · rw [cond_df h2]
  simp only [d2, Option.bind_some]
  have tail : ((spec_DrawPossibleSteps code).bind fun y67 => (((impl_PossibleSteps (y67.1, y67.2.1, y67.2.2.1, y67.2.2.2.1, ())).bind (Sum.elim (fun _ => (some ((Tg.mk : Tg 2), [], false, y67.1, y67.2.1, y67.2.2.1, y67.2.2.2.1))) (fun y70 => (some ((Tg.mk : Tg 2), y70, true, y67.1, y67.2.1, y67.2.2.1, y67.2.2.2.1))))).bind fun z71 => ((spec_PossibleSteps (z71.2.2.2.1, z71.2.2.2.2.1, z71.2.2.2.2.2.1, z71.2.2.2.2.2.2, ())).bind fun y72 => (cond (z71.2.2.1 == y72.2) ((laws_vInts z71.2.1 y72.1).bind fun y73 => (some y73)) ((some false)))))) = some true := by
    rw [d3', Option.bind_some]
    rcases possible_ok (st3, z3, f3, n3, ()) with ⟨e1, e2, _⟩ | ⟨m, e1, e2, hm, _⟩
    · simp only [e1, e2, Option.bind_some, Sum.elim_inl, beq_self_eq_true, cond_true, vInts_eq [] (by simp)]
    · simp only [e1, e2, Option.bind_some, Sum.elim_inr, beq_self_eq_true, cond_true, vInts_eq m hm]
  by_cases hr : GP st2 z2 f2 n2 ∧ l.length ≤ 30
  · obtain ⟨r1, r2, r3⟩ := run_yes hr.1 l hr.2
    simp only [r1, r2, r3, Option.bind_some, decide_true, Bool.and_true, Bool.not_true, cond_false, cond_true, beq_self_eq_true, joinx_go]
    exact tail
  · obtain ⟨r1, r2⟩ := run_no st2 z2 f2 n2 l hr
    simp only [r1, r2, Option.bind_some, decide_true, Bool.and_true, Bool.not_true, cond_false, beq_self_eq_true, joinx_go]
    exact tail
end Go.Proofs.Ytmknleaomfpmmaa
