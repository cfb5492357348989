/-
  What is drawn for many steps, and the law: no step loses anybody.
-/
import Derived.Test.YtpopcdnjnligiaaR61
namespace Go.Proofs.Ytpopcdnjnligiaa
open Go.RowKit

theorem Gives.tt {α : Type} {a : α} {c : l1Cur} {n : Int} (h : CG c n) : Gives (some (a, c)) n (fun _ => True) := Gives.ret h trivial
theorem ropeStep1_ok (c : l1Cur) (m : Int) (l : List Slot) (w t d : Int) (n : Int) (hr : l.length ≤ 1048576) (h : CG c n) (hn : n ≤ 1000000000) : Gives (spec_l1Cur_ropeStep_i1 c m l w t d) (n + 20) (fun _ => True) := by
  obtain ⟨code, at', seed, u⟩ := c
  have tail : ∀ (code : List Int) (at' seed : Int), CG (code, at', seed, ()) (n + 6) → Gives ((spec_l1Cur_one (code, at', seed, ()) (20 : Int)).bind fun y14 => (cond y14.1 ((spec_l1Cur_among (y14.2.1, y14.2.2.1, y14.2.2.2.1, ()) [(0 : Int), (8 : Int), (2 : Int)]).bind fun y15 => ((spec_l1Cur_among (y15.2.1, y15.2.2.1, y15.2.2.2.1, ()) [((-1) : Int), (2 : Int), (0 : Int)]).bind fun y16 => (some ((y15.1, y16.1, ()), (y16.2.1, y16.2.2.1, y16.2.2.2.1, ()))))) ((spec_l1Cur_pick (y14.2.1, y14.2.2.1, y14.2.2.2.1, ()) (2 : Int)).bind fun y17 => (some (((5 : Int), y17.1, ()), (y17.2.1, y17.2.2.1, y17.2.2.2.1, ())))))) (n + 20) (fun _ => True) := fun code at' seed hc => by
    refine gives_bind (one_ok _ (n + 6) 20 hc (by omega)) fun b code1 at1 seed1 _ hc => ?_
    dsimp only
    refine gives_cond (fun _ => ?_) (fun _ => ?_)
    · refine gives_bind (among_ok _ (n + 6 + 2) _ (by simp) hc (by omega)) fun x code2 at2 seed2 _ hc => ?_
      dsimp only
      refine gives_bind (among_ok _ (n + 6 + 2 + 2) _ (by simp) hc (by omega)) fun y code3 at3 seed3 _ hc => ?_
      exact Gives.tt (hc.up (by omega))
    · refine gives_bind (pick_ok _ (n + 6 + 2) _ hc (by omega)) fun x code2 at2 seed2 _ hc => ?_
      exact Gives.tt (hc.up (by omega))
  unfold spec_l1Cur_ropeStep_i1
  refine gives_bind (pick_ok _ n _ h (by omega)) fun a code1 at1 seed1 ha hc => ?_
  dsimp only
  refine gives_cond (fun _ => ?_) (fun _ => ?_)
  · refine gives_bind (among_ok _ (n + 2) _ (by simp) hc (by omega)) fun x code2 at2 seed2 _ hc => ?_
    exact Gives.tt (hc.up (by omega))
  obtain ⟨b, hb⟩ : ∃ b : Bool, (cond (decide (a = (1 : Int))) ((some (a, true, code1, at1, seed1))) (cond (decide (a = (2 : Int))) ((some (a, true, code1, at1, seed1))) ((some (a, (decide (a = (3 : Int))), code1, at1, seed1))))) = some (a, b, code1, at1, seed1) := by
    by_cases h1 : a = 1
    · rw [cond_dt h1]; exact ⟨_, rfl⟩
    · rw [cond_df h1]
      by_cases h2 : a = 2
      · rw [cond_dt h2]; exact ⟨_, rfl⟩
      · rw [cond_df h2]; exact ⟨_, rfl⟩
  rw [hb, Option.bind_some]
  dsimp only
  refine gives_cond (fun _ => ?_) (fun _ => gives_cond (fun _ => ?_) (fun _ => gives_cond (fun _ => ?_) (fun _ => gives_cond (fun _ => ?_) (fun _ => gives_cond (fun _ => ?_) (fun _ => gives_cond (fun _ => ?_) (fun _ => ?_))))))
  · refine gives_cond (fun _ => ?_) (fun _ => Gives.tt (hc.up (by omega)))
    obtain ⟨y, e⟩ := openAny (m, l, w, t, d, ()) hr
    rw [e, Option.bind_some]
    refine gives_cond (fun _ => gives_cond (fun _ => Gives.tt (hc.up (by omega))) (fun _ => Gives.tt (hc.up (by omega)))) (fun _ => Gives.tt (hc.up (by omega)))
  · refine gives_bind (among_ok _ (n + 2) _ (by simp) hc (by omega)) fun x code2 at2 seed2 _ hc => ?_
    exact Gives.tt (hc.up (by omega))
  · refine gives_bind (one_ok _ (n + 2) 3 hc (by omega)) fun x code2 at2 seed2 _ hc => ?_
    dsimp only
    exact gives_cond (fun _ => Gives.tt (hc.up (by omega))) (fun _ => tail _ _ _ (hc.up (by omega)))
  · refine gives_bind (pick_ok _ (n + 2) _ hc (by omega)) fun x code2 at2 seed2 _ hc => ?_
    exact Gives.tt (hc.up (by omega))
  · refine gives_bind (pick_ok _ (n + 2) _ hc (by omega)) fun x code2 at2 seed2 _ hc => ?_
    exact Gives.tt (hc.up (by omega))
  · refine gives_bind (pick_ok _ (n + 2) _ hc (by omega)) fun x code2 at2 seed2 _ hc => ?_
    exact Gives.tt (hc.up (by omega))
  · exact tail _ _ _ (hc.up (by omega))
theorem runLoop1 : ∀ (v : Nat) (code : List Int) (at' seed xm : Int) (xl : List Slot) (xw xt xd : Int) (ss : List RopeStep) (m : Int) (l : List Slot) (w t d : Int) (n : Int), v ≤ 100 → CG (code, at', seed, ()) n → n + 20 * v ≤ 1000000000 → l.length ≤ 1048576 → ss.length + v ≤ 1000 →
    ∃ code' at2 seed' ss', iter (fun s => spec_DrawRunRopeway_loop1 s.1 s.2.1 s.2.2.1 s.2.2.2.1 s.2.2.2.2.1 s.2.2.2.2.2.1 s.2.2.2.2.2.2.1 s.2.2.2.2.2.2.2.1 s.2.2.2.2.2.2.2.2.1 s.2.2.2.2.2.2.2.2.2.1 s.2.2.2.2.2.2.2.2.2.2.1 s.2.2.2.2.2.2.2.2.2.2.2.1 s.2.2.2.2.2.2.2.2.2.2.2.2.1 s.2.2.2.2.2.2.2.2.2.2.2.2.2.1 s.2.2.2.2.2.2.2.2.2.2.2.2.2.2) ((v : Int), code, at', seed, xm, xl, xw, xt, xd, ss, m, l, w, t, d) = some (code', at2, seed', xm, xl, xw, xt, xd, ss') ∧ CG (code', at2, seed', ()) (n + 20 * v) ∧ ss'.length ≤ 1000
  | 0, code, at', seed, xm, xl, xw, xt, xd, ss, m, l, w, t, d, n, _, hc, _, hl, h4 => by
    refine ⟨code, at', seed, ss, iter_out ?_, hc.up (by omega), by omega⟩
    show spec_DrawRunRopeway_loop1 ((0 : Nat) : Int) code at' seed xm xl xw xt xd ss m l w t d = _
    unfold spec_DrawRunRopeway_loop1
    rw [cond_df (by omega)]
  | v + 1, code, at', seed, xm, xl, xw, xt, xd, ss, m, l, w, t, d, n, hv, hc, hn, hl, h4 => by
    obtain ⟨e, ⟨code1, at1, seed1, u1⟩, e1, hc1, _⟩ := ropeStep1_ok _ m l w t d n hl hc (by omega)
    obtain ⟨o, e2, _, ho⟩ := stepBoth (m, l, w, t, d, ()) e hl
    have e2 : spec_StepRopeway (m, l, w, t, d, ()) (e.1, e.2.1, ()) = some (o.elim (.inl (0, [], 0, 0, 0, ())) .inr) := e2
    have hw : w64 (((v + 1 : Nat) : Int) - 1) = (v : Int) := by rw [w64_id (by omega) (by omega)]; omega
    have step : ∃ m2 w2 t2 d2 l2, spec_DrawRunRopeway_loop1 ((v + 1 : Nat) : Int) code at' seed xm xl xw xt xd ss m l w t d = some (.go ((v : Int), code1, at1, seed1, xm, xl, xw, xt, xd, ss ++ [(e.1, e.2.1, ())], m2, l2, w2, t2, d2)) ∧ l2.length ≤ 1048576 := by
      unfold spec_DrawRunRopeway_loop1
      rw [cond_dt (by omega), hw]
      simp only [e1, e2, Option.bind_some]
      rw [grd_pos (by simp; omega)]
      cases o with
      | none => exact ⟨_, _, _, _, _, rfl, hl⟩
      | some y =>
        obtain ⟨m2, l2, w2, t2, d2, u2⟩ := y
        exact ⟨_, _, _, _, _, rfl, ho _ rfl⟩
    obtain ⟨m2, w2, t2, d2, l2, e4, hl2⟩ := step
    obtain ⟨code3, at3, seed3, ss3, e5, hc3, hs3⟩ := runLoop1 v code1 at1 seed1 xm xl xw xt xd (ss ++ [(e.1, e.2.1, ())]) m2 l2 w2 t2 d2 (n + 20) (by omega) hc1 (by omega) hl2 (by simp; omega)
    exact ⟨code3, at3, seed3, ss3, (iter_go e4).trans e5, hc3.up (by omega), hs3⟩
theorem runLoop2 : ∀ (v : Nat) (code : List Int) (at' seed xm : Int) (xl : List Slot) (xw xt xd : Int) (ss : List RopeStep) (n : Int), CG (code, at', seed, ()) n → n + 2 * v ≤ 100000000 → ss.length ≤ 1000 → 41 ≤ ss.length + v → v ≤ 100 →
    ∃ ss', iter (fun s => spec_DrawRunRopeway_loop2 s.1 s.2.1 s.2.2.1 s.2.2.2.1 s.2.2.2.2.1 s.2.2.2.2.2.1 s.2.2.2.2.2.2.1 s.2.2.2.2.2.2.2.1 s.2.2.2.2.2.2.2.2) (code, at', seed, xm, xl, xw, xt, xd, ss) = some (xm, xl, xw, xt, xd, ss') ∧ ss'.length ≤ 1100
  | v, code, at', seed, xm, xl, xw, xt, xd, ss, n, hc, hn, hs, h4, hv => by
    obtain ⟨p, ⟨code1, at1, seed1, u1⟩, e1, hc1, hp⟩ := pick_ok _ n 2 hc (by omega)
    have hw : w64 ((40 : Int) + p) = 40 + p := w64_id (by omega) (by omega)
    by_cases hlt : (ss.length : Int) < w64 ((40 : Int) + p)
    · have e4 : spec_DrawRunRopeway_loop2 code at' seed xm xl xw xt xd ss = some (.go (code1, at1, seed1, xm, xl, xw, xt, xd, ss ++ [((2 : Int), (0 : Int), ())])) := by
        unfold spec_DrawRunRopeway_loop2
        simp only [e1, Option.bind_some]
        rw [cond_dt hlt, grd_pos (by simp; omega)]
      have hlt : (ss.length : Int) < 40 + p := by omega
      match v, hn, h4, hv with
      | 0, _, h4, _ => exact absurd h4 (by omega)
      | v + 1, hn, h4, hv =>
        obtain ⟨ss', e5, hs'⟩ := runLoop2 v code1 at1 seed1 xm xl xw xt xd (ss ++ [((2 : Int), (0 : Int), ())]) (n + 2) hc1 (by omega) (by simp; omega) (by simp; omega) (by omega)
        exact ⟨ss', (iter_go e4).trans e5, hs'⟩
    · refine ⟨ss, iter_out ?_, by omega⟩
      show spec_DrawRunRopeway_loop2 code at' seed xm xl xw xt xd ss = _
      unfold spec_DrawRunRopeway_loop2
      simp only [e1, Option.bind_some]
      rw [cond_df hlt]
theorem drawRun_ok {code : List Int} (hb : ∀ x ∈ code, 0 ≤ x ∧ x ≤ 255) (hl : code.length ≤ 1048576) : ∃ r ss, spec_DrawRunRopeway code = some (r, ss) ∧ r.2.1.length ≤ 1048576 ∧ ss.length ≤ 1048576 := by
  obtain ⟨⟨m, l, w, t, d, u⟩, ⟨code0, at0, seed0, u0⟩, e, hc, hr⟩ := ropeway_ok (code, 0, 0, ()) 0 ⟨hb, hl, by show (0 : Int) ≤ 0; omega, by show (0 : Int) ≤ 0; omega⟩ (by omega)
  have hr : l.length ≤ 11 := hr
  obtain ⟨p, ⟨code1, at1, seed1, u1⟩, e1, hc, hp⟩ := pick_ok _ _ 12 hc (by omega)
  obtain ⟨v, rfl⟩ : ∃ v : Nat, p = (v : Int) := ⟨p.toNat, by omega⟩
  obtain ⟨code2, at2, seed2, ss, e2, hc, hs⟩ := runLoop1 v code1 at1 seed1 m l w t d [] m l w t d _ (by omega) hc (by omega) (by omega) (by simp; omega)
  obtain ⟨b, ⟨code3, at3, seed3, u3⟩, e3, hc, _⟩ := one_ok _ _ 24 hc (by omega)
  unfold spec_DrawRunRopeway
  simp only [e, e1, e2, e3, Option.bind_some, Sum.elim_inr]
  cases b
  · exact ⟨_, _, rfl, by show l.length ≤ 1048576; omega, by omega⟩
  · obtain ⟨ss', e4, hs'⟩ := runLoop2 41 code3 at3 seed3 m l w t d ss _ hc (by omega) hs (by omega) (by omega)
    rw [cond_true, e4]
    exact ⟨_, _, rfl, by show l.length ≤ 1048576; omega, by show ss'.length ≤ 1048576; omega⟩
theorem drawStep_ok {code : List Int} (hb : ∀ x ∈ code, 0 ≤ x ∧ x ≤ 255) (hl : code.length ≤ 1048576) : ∃ r s, spec_DrawStepRopeway code = some (Sum.inr (r, s)) ∧ r.2.1.length ≤ 1048576 := by
  obtain ⟨⟨m, l, w, t, d, u⟩, ⟨code0, at0, seed0, u0⟩, e, hc, hr⟩ := ropeway_ok (code, 0, 0, ()) 0 ⟨hb, hl, by show (0 : Int) ≤ 0; omega, by show (0 : Int) ≤ 0; omega⟩ (by omega)
  have hr : l.length ≤ 11 := hr
  obtain ⟨s, ⟨code1, at1, seed1, u1⟩, e1, _⟩ := ropeStep_ok _ (m, l, w, t, d, ()) _ (by show l.length ≤ 1048576; omega) hc (by omega)
  unfold spec_DrawStepRopeway
  simp only [e, e1, Option.bind_some, Sum.elim_inr]
  exact ⟨_, _, rfl, by show l.length ≤ 1048576; omega⟩
theorem drawNew_ok {code : List Int} (hb : ∀ x ∈ code, 0 ≤ x ∧ x ≤ 255) (hl : code.length ≤ 1048576) : ∃ n w, spec_DrawNewRopeway code = some (n, w) := by
  obtain ⟨a, ⟨code1, at1, seed1, u1⟩, e1, hc, _⟩ := among_ok (code, 0, 0, ()) 0 [(4 : Int), (5 : Int), (6 : Int), (10 : Int), (11 : Int), (12 : Int), (2 : Int)] (by simp) ⟨hb, hl, by show (0 : Int) ≤ 0; omega, by show (0 : Int) ≤ 0; omega⟩ (by omega)
  obtain ⟨b, ⟨code2, at2, seed2, u2⟩, e2, hc, _⟩ := among_ok _ _ [(0 : Int), (7 : Int), (500 : Int), (501 : Int), ((-1) : Int)] (by simp) hc (by omega)
  unfold spec_DrawNewRopeway
  simp only [e1, e2, Option.bind_some]
  exact ⟨_, _, rfl⟩
noncomputable def restN (a0 : List Int) : Option Bool :=
  ((spec_DrawNewRopeway a0).bind fun y189 => (((impl_NewRopeway y189.1 y189.2).bind (Sum.elim (fun y191 => (some ((Tg.mk : Tg 7), y189.1, y189.2, false, y191.1, [], y191.2.2.1, y191.2.2.2.1, y191.2.2.2.2.1))) (fun y192 => (some ((Tg.mk : Tg 7), y189.1, y189.2, true, y192.1, y192.2.1, y192.2.2.1, y192.2.2.2.1, y192.2.2.2.2.1))))).bind fun z193 => (((spec_NewRopeway z193.2.1 z193.2.2.1).bind (Sum.elim (fun y195 => (some ((Tg.mk : Tg 8), z193.2.2.2.1, false, z193.2.2.2.2.1, z193.2.2.2.2.2.1, z193.2.2.2.2.2.2.1, z193.2.2.2.2.2.2.2.1, z193.2.2.2.2.2.2.2.2, y195.1, [], y195.2.2.1, y195.2.2.2.1, y195.2.2.2.2.1))) (fun y196 => (some ((Tg.mk : Tg 8), z193.2.2.2.1, true, z193.2.2.2.2.1, z193.2.2.2.2.2.1, z193.2.2.2.2.2.2.1, z193.2.2.2.2.2.2.2.1, z193.2.2.2.2.2.2.2.2, y196.1, y196.2.1, y196.2.2.1, y196.2.2.2.1, y196.2.2.2.2.1))))).bind fun z197 => (cond (z197.2.1 == z197.2.2.1) ((laws_vRopeway (z197.2.2.2.1, z197.2.2.2.2.1, z197.2.2.2.2.2.1, z197.2.2.2.2.2.2.1, z197.2.2.2.2.2.2.2.1, ()) (z197.2.2.2.2.2.2.2.2.1, z197.2.2.2.2.2.2.2.2.2.1, z197.2.2.2.2.2.2.2.2.2.2.1, z197.2.2.2.2.2.2.2.2.2.2.2.1, z197.2.2.2.2.2.2.2.2.2.2.2.2, ())).bind fun y198 => (some y198)) ((some false))))))
noncomputable def restR (a0 : List Int) : Option Bool :=
  ((spec_DrawRunRopeway a0).bind fun y80 => (((impl_RunRopeway (y80.1.1, y80.1.2.1, y80.1.2.2.1, y80.1.2.2.2.1, y80.1.2.2.2.2.1, ()) y80.2).bind (Sum.elim (fun y82 => (some ((Tg.mk : Tg 5), y82.2, false, y80.1.1, y80.1.2.1, y80.1.2.2.1, y80.1.2.2.2.1, y80.1.2.2.2.2.1, y80.2, y82.1.1, [], y82.1.2.2.1, y82.1.2.2.2.1, y82.1.2.2.2.2.1))) (fun y83 => (some ((Tg.mk : Tg 5), y83.2, true, y80.1.1, y80.1.2.1, y80.1.2.2.1, y80.1.2.2.2.1, y80.1.2.2.2.2.1, y80.2, y83.1.1, y83.1.2.1, y83.1.2.2.1, y83.1.2.2.2.1, y83.1.2.2.2.2.1))))).bind fun z84 => (((spec_RunRopeway (z84.2.2.2.1, z84.2.2.2.2.1, z84.2.2.2.2.2.1, z84.2.2.2.2.2.2.1, z84.2.2.2.2.2.2.2.1, ()) z84.2.2.2.2.2.2.2.2.1).bind (Sum.elim (fun y86 => (some ((Tg.mk : Tg 6), z84.2.1, z84.2.2.1, y86.2, false, z84.2.2.2.1, z84.2.2.2.2.1, z84.2.2.2.2.2.1, z84.2.2.2.2.2.2.1, z84.2.2.2.2.2.2.2.1, z84.2.2.2.2.2.2.2.2.1, z84.2.2.2.2.2.2.2.2.2.1, z84.2.2.2.2.2.2.2.2.2.2.1, z84.2.2.2.2.2.2.2.2.2.2.2.1, z84.2.2.2.2.2.2.2.2.2.2.2.2.1, z84.2.2.2.2.2.2.2.2.2.2.2.2.2, y86.1.1, [], y86.1.2.2.1, y86.1.2.2.2.1, y86.1.2.2.2.2.1))) (fun y87 => (some ((Tg.mk : Tg 6), z84.2.1, z84.2.2.1, y87.2, true, z84.2.2.2.1, z84.2.2.2.2.1, z84.2.2.2.2.2.1, z84.2.2.2.2.2.2.1, z84.2.2.2.2.2.2.2.1, z84.2.2.2.2.2.2.2.2.1, z84.2.2.2.2.2.2.2.2.2.1, z84.2.2.2.2.2.2.2.2.2.2.1, z84.2.2.2.2.2.2.2.2.2.2.2.1, z84.2.2.2.2.2.2.2.2.2.2.2.2.1, z84.2.2.2.2.2.2.2.2.2.2.2.2.2, y87.1.1, y87.1.2.1, y87.1.2.2.1, y87.1.2.2.2.1, y87.1.2.2.2.2.1))))).bind fun z88 => (cond (!(z88.2.2.1 == z88.2.2.2.2.1)) ((some false)) (cond (!decide (z88.2.1 = z88.2.2.2.1)) ((some false)) ((laws_vRopeway (z88.2.2.2.2.2.2.2.2.2.2.2.1, z88.2.2.2.2.2.2.2.2.2.2.2.2.1, z88.2.2.2.2.2.2.2.2.2.2.2.2.2.1, z88.2.2.2.2.2.2.2.2.2.2.2.2.2.2.1, z88.2.2.2.2.2.2.2.2.2.2.2.2.2.2.2.1, ()) (z88.2.2.2.2.2.2.2.2.2.2.2.2.2.2.2.2.1, z88.2.2.2.2.2.2.2.2.2.2.2.2.2.2.2.2.2.1, z88.2.2.2.2.2.2.2.2.2.2.2.2.2.2.2.2.2.2.1, z88.2.2.2.2.2.2.2.2.2.2.2.2.2.2.2.2.2.2.2.1, z88.2.2.2.2.2.2.2.2.2.2.2.2.2.2.2.2.2.2.2.2, ())).bind fun y89 => (cond (!y89) ((some false)) (joinx (cond z88.2.2.1 ((iter (fun s => laws_FnRopeways_loop3 s.1 s.2.1 s.2.2.1 s.2.2.2.1 s.2.2.2.2.1 s.2.2.2.2.2.1 s.2.2.2.2.2.2.1 s.2.2.2.2.2.2.2.1 s.2.2.2.2.2.2.2.2.1 s.2.2.2.2.2.2.2.2.2.1 s.2.2.2.2.2.2.2.2.2.2.1 s.2.2.2.2.2.2.2.2.2.2.2.1 s.2.2.2.2.2.2.2.2.2.2.2.2.1 s.2.2.2.2.2.2.2.2.2.2.2.2.2) (z88.2.1, (0 : Int), (0 : Int), z88.2.2.2.2.2.2.2.2.2.2.1, z88.2.2.2.2.2.2.2.2.2.2.2.1, z88.2.2.2.2.2.2.2.2.2.2.2.2.1, z88.2.2.2.2.2.2.2.2.2.2.2.2.2.1, z88.2.2.2.2.2.2.2.2.2.2.2.2.2.2.1, z88.2.2.2.2.2.2.2.2.2.2.2.2.2.2.2.1, z88.2.2.2.2.2.1, z88.2.2.2.2.2.2.1, z88.2.2.2.2.2.2.2.1, z88.2.2.2.2.2.2.2.2.1, z88.2.2.2.2.2.2.2.2.2.1)).bind (fun r186 => (cond (!decide (r186.2.1 = r186.1)) (outm ((some false))) ((laws_vRopeway (r186.2.2.2.2.2.2.2.1, r186.2.2.2.2.2.2.2.2.1, r186.2.2.2.2.2.2.2.2.2.1, r186.2.2.2.2.2.2.2.2.2.2.1, r186.2.2.2.2.2.2.2.2.2.2.2, ()) (r186.2.2.1, r186.2.2.2.1, r186.2.2.2.2.1, r186.2.2.2.2.2.1, r186.2.2.2.2.2.2.1, ())).bind fun y187 => (cond (!y187) (outm ((some false))) ((some (.go ())))))))) ((some (.go ())))) (fun (_ : Unit) => ((spec_DrawNewRopeway a0).bind fun y189 => (((impl_NewRopeway y189.1 y189.2).bind (Sum.elim (fun y191 => (some ((Tg.mk : Tg 7), y189.1, y189.2, false, y191.1, [], y191.2.2.1, y191.2.2.2.1, y191.2.2.2.2.1))) (fun y192 => (some ((Tg.mk : Tg 7), y189.1, y189.2, true, y192.1, y192.2.1, y192.2.2.1, y192.2.2.2.1, y192.2.2.2.2.1))))).bind fun z193 => (((spec_NewRopeway z193.2.1 z193.2.2.1).bind (Sum.elim (fun y195 => (some ((Tg.mk : Tg 8), z193.2.2.2.1, false, z193.2.2.2.2.1, z193.2.2.2.2.2.1, z193.2.2.2.2.2.2.1, z193.2.2.2.2.2.2.2.1, z193.2.2.2.2.2.2.2.2, y195.1, [], y195.2.2.1, y195.2.2.2.1, y195.2.2.2.2.1))) (fun y196 => (some ((Tg.mk : Tg 8), z193.2.2.2.1, true, z193.2.2.2.2.1, z193.2.2.2.2.2.1, z193.2.2.2.2.2.2.1, z193.2.2.2.2.2.2.2.1, z193.2.2.2.2.2.2.2.2, y196.1, y196.2.1, y196.2.2.1, y196.2.2.2.1, y196.2.2.2.2.1))))).bind fun z197 => (cond (z197.2.1 == z197.2.2.1) ((laws_vRopeway (z197.2.2.2.1, z197.2.2.2.2.1, z197.2.2.2.2.2.1, z197.2.2.2.2.2.2.1, z197.2.2.2.2.2.2.2.1, ()) (z197.2.2.2.2.2.2.2.2.1, z197.2.2.2.2.2.2.2.2.2.1, z197.2.2.2.2.2.2.2.2.2.2.1, z197.2.2.2.2.2.2.2.2.2.2.2.1, z197.2.2.2.2.2.2.2.2.2.2.2.2, ())).bind fun y198 => (some y198)) ((some false)))))))))))))))
theorem rest_go {Z : Type} (z : Z) (X : Option (Lp Z Bool)) (K : Z → Option Bool) (hX : X = some (.go z)) (hK : K z = some true) : joinx X K = some true := by rw [hX]; exact hK
theorem restN_ok {code : List Int} (hb : ∀ x ∈ code, 0 ≤ x ∧ x ≤ 255) (hl : code.length ≤ 1048576) : restN code = some true := by
  obtain ⟨nn, nw, d3⟩ := drawNew_ok hb hl
  unfold restN
  rw [d3, Option.bind_some]
  rcases newRopeway_ok nn nw with ⟨n1, n2⟩ | ⟨l5, n1, n2, hl5⟩
  · simp only [n1, n2, Option.bind_some, Sum.elim_inl, beq_self_eq_true, cond_true, vRopeway_eq _ [] _ _ _ (by simp)]
  · simp only [n1, n2, Option.bind_some, Sum.elim_inr, beq_self_eq_true, cond_true, vRopeway_eq _ l5 _ _ _ hl5]
theorem restR_ok {code : List Int} (hb : ∀ x ∈ code, 0 ≤ x ∧ x ≤ 255) (hl : code.length ≤ 1048576) : restR code = some true := by
  obtain ⟨⟨m2, l2, w2, t2, dn2, u2⟩, ss, d2, hr2, hss⟩ := drawRun_ok hb hl
  have hr2 : l2.length ≤ 1048576 := hr2
  obtain ⟨o2, r1, r2, hro⟩ := runBoth (m2, l2, w2, t2, dn2, ()) ss hr2 hss
  have r3 := run_impl (m2, l2, w2, t2, dn2, ()) ss hr2
  have hn := restN_ok hb hl
  unfold restR
  rw [d2, Option.bind_some]
  cases o2 with
  | none =>
    simp only [Option.elim_none] at r1 r2
    simp only [r1, r2, Option.bind_some, Sum.elim_inl, beq_self_eq_true, decide_true, Bool.not_true, cond_false, vRopeway_eq _ [] _ _ _ (by simp)]
    exact rest_go () _ _ rfl hn
  | some z =>
    obtain ⟨⟨m3, l3, w3, t3, d3, u3⟩, n⟩ := z
    have hl3 : l3.length ≤ 1048576 := hro _ rfl
    simp only [Option.elim_some] at r1 r2
    rw [r2] at r3
    split at r3
    case isFalse => cases r3
    rename_i hgs
    have r4 := Sum.inr.inj (Option.some.inj r3)
    have q1 := congrArg Prod.fst r4
    have q2 := congrArg Prod.snd r4
    have q1 : ((m3, l3, w3, t3, d3, u3) : Ropeway) = (runK (m2, l2, w2, t2, dn2, ()) ss ss.length).1 := q1
    have q2 : n = ((runK (m2, l2, w2, t2, dn2, ()) ss ss.length).2 : Int) := q2
    have lr := loopRun n m3 l3 w3 t3 d3 (m2, l2, w2, t2, dn2, ()) ss hgs.1 hgs.2
    rw [← q1, ← q2] at lr
    simp only [r1, r2, Option.bind_some, Sum.elim_inr, beq_self_eq_true, decide_true, Bool.not_true, cond_false, vRopeway_eq _ l3 _ _ _ hl3]
    refine rest_go () _ _ ?_ hn
    rw [cond_true, lr, Option.bind_some]
    simp only [decide_true, Bool.not_true, cond_false, vRopeway_eq _ l3 _ _ _ hl3, Option.bind_some]
theorem law_FnRopeways (code : List Int) (hc : Ty.fit (.sl (.int .u8)) code) : laws_FnRopeways code = some true := by
  have hl : code.length ≤ 1048576 := hc.1
  have hb : ∀ x ∈ code, 0 ≤ x ∧ x ≤ 255 := fun x hx => by
    have := hc.2 x hx
    exact this
  obtain ⟨⟨m, l, w, t, d, u⟩, s, d1, hr⟩ := drawStep_ok hb hl
  have hr : l.length ≤ 1048576 := hr
  obtain ⟨o, s1, s2, ho⟩ := stepBoth (m, l, w, t, d, ()) s hr
  have s1 : spec_StepRopeway (m, l, w, t, d, ()) (s.1, s.2.1, ()) = _ := s1
  have s2 : impl_StepRopeway (m, l, w, t, d, ()) (s.1, s.2.1, ()) = _ := s2
  have i1 := isRopeway_eq (m, l, w, t, d, ()) hr
  have i2 : spec_IsRopeway (m, l, w, t, d, ()) = some (gd (m, l, w, t, d, ())) := by
    unfold spec_IsRopeway
    rw [goodS_eq (m, l, w, t, d, ()) hr]; rfl
  have hrest := restR_ok hb hl
  unfold laws_FnRopeways laws_vBig
  rw [Option.bind_some]
  by_cases h0 : (65536 : Int) < (code.length : Int)
  · rw [cond_dt h0]
  rw [cond_df h0]
  cases o with
  | none =>
    simp only [Option.elim_none] at s1 s2
    simp only [d1, s1, s2, i1, i2, Option.bind_some, Sum.elim_inl, Sum.elim_inr, beq_self_eq_true, Bool.not_true, cond_false, vRopeway_eq _ [] _ _ _ (by simp)]
    refine rest_go _ _ _ rfl ?_
    exact rest_go () _ _ rfl hrest
  | some y =>
    have hg : gd (m, l, w, t, d, ()) = true := by
      cases hg : gd (m, l, w, t, d, ()) with
      | true => rfl
      | false =>
        have e2 : impl_StepRopeway (m, l, w, t, d, ()) s = some (Sum.inl (0, [], 0, 0, 0, ())) := by
          unfold impl_StepRopeway
          rw [show impl_IsRopeway (m, l, w, t, d, ()) = some false from i1.trans (by rw [hg]), Option.bind_some]; rfl
        have e3 := e2.symm.trans s2
        rw [Option.elim_some] at e3
        cases e3
    have hy : outc (m, l, w, t, d, ()) s = some y := by
      have e := implStep (m, l, w, t, d, ()) s hr hg
      have e := Option.some.inj (e.symm.trans s2)
      cases ho : outc (m, l, w, t, d, ()) s with
      | none => rw [ho] at e; cases e
      | some z => rw [ho] at e; exact congrArg some (Sum.inr.inj e)
    have hgy := outc_good _ _ _ hy
    have hcon := conserve _ _ hg _ hy
    obtain ⟨⟨z1, p1⟩, b1, b2⟩ := peopleOn_val _ hg
    obtain ⟨⟨z2, p2⟩, b3, b4⟩ := peopleOn_val _ hgy
    obtain ⟨m3, l3, w3, t3, d3, u3⟩ := y
    obtain ⟨_, hL, hw, ht, hd, _⟩ := gd_out hg
    obtain ⟨_, hL3, hw3, ht3, hd3, hk3⟩ := gd_out hgy
    have hl3 : l3.length ≤ 1048576 := by omega
    have i3 : impl_IsRopeway (m3, l3, w3, t3, d3, ()) = some true := (isRopeway_eq (m3, l3, w3, t3, d3, ()) hl3).trans (congrArg some hgy)
    simp only [Option.elim_some] at s1 s2
    have b1 : 0 ≤ sm l := b1
    have b2 : sm l ≤ 80 := b2
    have b3 : 0 ≤ sm l3 := b3
    have b4 : sm l3 ≤ 80 := b4
    have hcon : w + sm l + t + d = w3 + sm l3 + t3 + d3 := hcon
    have p1 : impl_PeopleOn (m, l, w, t, d, ()) = some (sm l, z1, true) := p1
    have p2 : impl_PeopleOn (m3, l3, w3, t3, d3, ()) = some (sm l3, z2, true) := p2
    simp only [d1, s1, s2, i1, i2, i3, Option.bind_some, Sum.elim_inr, beq_self_eq_true, Bool.not_true, cond_false, cond_true, vRopeway_eq _ l3 _ _ _ hl3]
    refine rest_go _ _ _ rfl ?_
    refine rest_go () _ _ ?_ hrest
    have dd : impl_OpenDoors (m3, l3, w3, t3, d3, ()) = some (Sum.inr (opnL l3 l3.length)) := by
      rcases doors_ok (m3, l3, w3, t3, d3, ()) hl3 with ⟨_, h2⟩ | ⟨_, _, h⟩
      · exfalso
        unfold impl_OpenDoors at h2
        rw [i3, Option.bind_some, Bool.not_true, cond_false] at h2
        cases hh : iter (fun s => impl_OpenDoors_loop1 (m3, l3, w3, t3, d3, ()) s.1 s.2) ((0 : Int), ([] : List Int)) with
        | none => rw [hh] at h2; cases h2
        | some q => rw [hh] at h2; cases h2
      · exact h
    have ha : w64 (w64 (w64 (w + sm l) + t) + d) = w + sm l + t + d := by
      rw [w64_id (x := w + sm l) (by omega) (by omega), w64_id (x := w + sm l + t) (by omega) (by omega), w64_id (by omega) (by omega)]
    have hb' : w64 (w64 (w64 (w3 + sm l3) + t3) + d3) = w3 + sm l3 + t3 + d3 := by
      rw [w64_id (x := w3 + sm l3) (by omega) (by omega), w64_id (x := w3 + sm l3 + t3) (by omega) (by omega), w64_id (by omega) (by omega)]
    simp only [cond_true, p1, p2, dd, Option.bind_some, Sum.elim_inr, Bool.not_true, cond_false, ha, hb']
    rw [cond_ndt hcon, loopDoors m3 l3 w3 t3 d3 hL3 hk3]
    simp only [Option.bind_some, Sum.elim_inr]
    rw [loopNext m3 l3 w3 t3 d3 hL3 hk3]
    rfl
end Go.Proofs.Ytpopcdnjnligiaa
