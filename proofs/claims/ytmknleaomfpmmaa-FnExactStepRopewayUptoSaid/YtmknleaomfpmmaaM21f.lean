/-
  The law of many steps.
-/
import Derived.Test.YtmknleaomfpmmaaM21e
namespace Go.Proofs.Ytmknleaomfpmmaa
open Go.RowKit

theorem toRopeStepS_eq (l : List RopeStep) (h : l.length ≤ 1048576) : laws_toRopeStepS l = some l := by
  unfold laws_toRopeStepS
  rw [grd_pos (by omega)]
  have H : iter (fun s => laws_toRopeStepS_loop1 l s.1 s.2) ((0 : Int), (List.replicate (l.length : Int).toNat ((0 : Int), (0 : Int), ()))) = some l :=
    iter_copy l ((0 : Int), (0 : Int), ()) d_RopeStep (fun k m hk hm => by
      show laws_toRopeStepS_loop1 l (k : Int) m = _
      unfold laws_toRopeStepS_loop1 laws_toRopeStep
      rw [cond_dt (by omega), grd_pos (by omega), Option.bind_some, grd_pos (by omega), w64_nat (by omega)]
      rfl) (by
      show laws_toRopeStepS_loop1 l (l.length : Int) l = _
      unfold laws_toRopeStepS_loop1
      rw [cond_df (by omega)]) rfl
  rw [H]; rfl
theorem eqRopeStepS_eq (l : List RopeStep) (h : l.length ≤ 1048576) : laws_eqRopeStepS l l = some true := by
  unfold laws_eqRopeStepS
  rw [cond_ndt rfl]
  have H : iter (fun s => laws_eqRopeStepS_loop1 l l s) (0 : Int) = some (Sum.inr ()) :=
    iter_for l.length (fun k => (k : Int)) (fun k hk => by
      show laws_eqRopeStepS_loop1 l l (k : Int) = _
      unfold laws_eqRopeStepS_loop1
      rw [cond_dt (by omega), grd_pos (by omega), grd_pos (by omega), eqRopeStep_eq, w64_nat (by omega)]
      rfl) (by
      show laws_eqRopeStepS_loop1 l l (l.length : Int) = _
      unfold laws_eqRopeStepS_loop1
      rw [cond_df (by omega)]) rfl
  rw [H]; rfl
abbrev adv2 (k : Int) : Int := w64 (w64 (k + 1) + 1)
abbrev mkR (k : Int) : RopeStep := (k, w64 (k + 1), ())
theorem markRopeStepS_ex (l : List RopeStep) (k0 : Int) (h : l.length ≤ 1048576) (hk : 0 ≤ k0 ∧ k0 ≤ 4000000) : ∃ y, laws_markRopeStepS l k0 = some y ∧ ¬ y.1 < 0 := by
  unfold laws_markRopeStepS
  have H : iter (fun s => laws_markRopeStepS_loop1 s.1 s.2.1 s.2.2) (k0, (0 : Int), l) = some (advN adv2 l.length k0, marksL adv2 mkR l.length k0) :=
    iter_mark _ _ l k0 (fun k i m hi hm => by
      show laws_markRopeStepS_loop1 k (i : Int) m = _
      unfold laws_markRopeStepS_loop1
      simp only [Int.toNat_natCast, List.set_set, getD_set_self _ _ _ _ hi, List.length_set]
      rw [cond_dt (by omega), grd_pos (by omega), grd_pos (by omega), w64_nat (by omega)]) (fun k m hm => by
      show laws_markRopeStepS_loop1 k (m.length : Int) m = _
      unfold laws_markRopeStepS_loop1
      rw [cond_df (by omega)])
  have ha : advN adv2 l.length k0 = k0 + 2 * (l.length : Int) := by
    rw [advN_add adv2 2 4611686018427387904 (fun k h1 h2 => by
      show w64 (w64 (k + 1) + 1) = _
      rw [w64_id (x := k + 1) (by omega) (by omega), w64_id (x := k + 1 + 1) (by omega) (by omega)]; omega) l.length k0 (by omega) (by omega)]
    rfl
  rw [H, ha]
  exact ⟨_, rfl, by show ¬ k0 + 2 * (l.length : Int) < 0; omega⟩
theorem szRopeStepS_ex (l : List RopeStep) (n : Int) : ∃ y, laws_szRopeStepS l n = some y := by
  unfold laws_szRopeStepS
  by_cases h1 : w64 (n - (l.length : Int)) < 0
  · rw [cond_dt h1]; exact ⟨_, rfl⟩
  · rw [cond_df h1]; exact ⟨_, rfl⟩
theorem runBoth (a : Ropeway) (ss : List RopeStep) (h : a.2.1.length ≤ 1048576) (hs : ss.length ≤ 1048576) : ∃ o : Option (Ropeway × Int), spec_RunRopeway a ss = some (o.elim (.inl ((0, [], 0, 0, 0, ()), 0)) .inr) ∧ impl_RunRopeway a ss = some (o.elim (.inl ((0, [], 0, 0, 0, ()), 0)) .inr) ∧ ∀ y, o = some y → y.1.2.1.length ≤ 1048576 := by
  have e1 : spec_l25Good (a.1, a.2.1, a.2.2.1, a.2.2.2.1, a.2.2.2.2.1, ()) = some (gd a) := goodS_eq a h
  have e2 : impl_IsRopeway (a.1, a.2.1, a.2.2.1, a.2.2.2.1, a.2.2.2.2.1, ()) = some (gd a) := isRopeway_eq a h
  unfold spec_RunRopeway impl_RunRopeway
  simp only [e1, e2, Option.bind_some]
  cases hg : gd a
  · exact ⟨none, rfl, rfl, fun y h => by cases h⟩
  simp only [Bool.not_true, cond_false]
  by_cases hn : (40 : Int) < (ss.length : Int)
  · rw [cond_dt hn, cond_dt hn]; exact ⟨none, rfl, rfl, fun y h => by cases h⟩
  rw [cond_df hn, cond_df hn]
  obtain ⟨m, l, w, t, d, u⟩ := a
  obtain ⟨_, hl, _⟩ := gd_out hg
  have e3 := own_eq (m, l, w, t, d, ()) h
  have e4 : impl_copyRopeway (m, l, w, t, d, ()) = some (m, l, w, t, d, ()) := by
    unfold impl_copyRopeway
    dsimp only
    rw [clone_eq l (by omega)]; rfl
  rw [e3, e4]
  simp only [Option.bind_some]
  obtain ⟨y, y', d1, d2, rfl, hy⟩ := iter_rel (f := fun s : Int × Int × Int × Int × Int × Int × List Slot => spec_RunRopeway_loop1 ss s.1 s.2.1 s.2.2.1 s.2.2.2.1 s.2.2.2.2.1 s.2.2.2.2.2.1 s.2.2.2.2.2.2) (g := fun s : Int × Int × Int × Int × Int × Int × List Slot => impl_RunRopeway_loop1 ss s.1 s.2.1 s.2.2.1 s.2.2.2.1 s.2.2.2.2.1 s.2.2.2.2.2.1 s.2.2.2.2.2.2)
    (fun (k : Nat) s t => ∃ (c m w t' d : Int) (l : List Slot), s = (c, (k : Int), m, w, t', d, l) ∧ t = (c, (k : Int), m, w, t', d, l) ∧ gd (m, l, w, t', d, ()) = true) (fun r r' => r = r' ∧ r.2.2.2.2.2.length ≤ 1048576) ss.length
    (by
      rintro k _ _ hk ⟨c, m, w, t, d, l, rfl, rfl, hgd⟩
      refine .inl ?_
      obtain ⟨_, hl, _⟩ := gd_out hgd
      have ea := ask_eq (ss.getD k d_RopeStep)
      have es := step_eq (m, l, w, t, d, ()) (ss.getD k d_RopeStep) hgd
      have hw : w64 ((k : Int) + 1) = ((k + 1 : Nat) : Int) := w64_nat (by omega)
      dsimp only
      unfold spec_RunRopeway_loop1 impl_RunRopeway_loop1
      have hkk : 0 ≤ (k : Int) ∧ (k : Int) < (ss.length : Int) := by omega
      rw [cond_dt (by omega), cond_dt (by omega)]
      simp only [grd_pos hkk]
      rw [hw, Int.toNat_natCast]
      have ea : spec_l25Step ((ss.getD k d_RopeStep).1, (ss.getD k d_RopeStep).2.1, ()) = some (askB (ss.getD k d_RopeStep)) := ea
      have es : impl_Ropeway_step (m, l, w, t, d, ()) ((ss.getD k d_RopeStep).1, (ss.getD k d_RopeStep).2.1, ()) = _ := es
      rw [ea, es, Option.bind_some, Option.bind_some]
      cases ha : askB (ss.getD k d_RopeStep)
      · rw [ask_no _ _ hgd ha]
        exact ⟨_, _, rfl, rfl, c, m, w, t, d, l, rfl, rfl, hgd⟩
      · obtain ⟨y, ok, e5, e6⟩ := make_eq _ _ hgd ha
        have e5 : spec_l25Make (m, l, w, t, d, ()) ((ss.getD k d_RopeStep).1, (ss.getD k d_RopeStep).2.1, ()) = some (y, ok) := e5
        rw [Bool.not_true, cond_false, e5, Option.bind_some]
        cases ok
        · rw [e6]
          exact ⟨_, _, rfl, rfl, c, m, w, t, d, l, rfl, rfl, hgd⟩
        · have e6 : outc (m, l, w, t, d, ()) (ss.getD k d_RopeStep) = some y := e6
          have hgy := outc_good _ _ _ e6
          rw [e6]
          obtain ⟨m', l', w', t', d', u'⟩ := y
          exact ⟨_, _, rfl, rfl, _, m', w', t', d', l', rfl, rfl, hgy⟩)
    (by
      rintro _ _ ⟨c, m, w, t, d, l, rfl, rfl, hgd⟩
      obtain ⟨_, hl, _⟩ := gd_out hgd
      refine ⟨(c, m, w, t, d, l), (c, m, w, t, d, l), ?_, ?_, rfl, by show l.length ≤ 1048576; omega⟩
      · dsimp only
        unfold spec_RunRopeway_loop1
        rw [cond_df (by omega)]
      · dsimp only
        unfold impl_RunRopeway_loop1
        rw [cond_df (by omega)])
    (s := ((0 : Int), (0 : Int), m, w, t, d, l)) (t := ((0 : Int), (0 : Int), m, w, t, d, l)) ⟨0, m, w, t, d, l, rfl, rfl, hg⟩
  rw [d1, d2]
  exact ⟨some ((y.2.1, y.2.2.2.2.2, y.2.2.1, y.2.2.2.1, y.2.2.2.2.1, ()), y.1), rfl, rfl, fun z hz => by cases hz; exact hy⟩
theorem law_FnExactRunRopeway (a : Ropeway) (ss : List RopeStep) (ha : Ty.fit ty_Ropeway a) (hs : Ty.fit (.sl ty_RopeStep) ss) : laws_FnExactRunRopeway a ss = some true := by
  obtain ⟨x, l, p, q, r, u⟩ := a
  have h : l.length ≤ 1048576 := ha.2.1.1
  have h' : ss.length ≤ 1048576 := hs.1
  obtain ⟨y, hy⟩ := szRopeway_eq (x, l, p, q, r, ()) 1048576
  obtain ⟨y2, hy2⟩ := szRopeStepS_ex ss y
  have h1 : ¬ (1 : Int) + 3 * (l.length : Int) < 0 := by omega
  obtain ⟨yr, er, hr⟩ := markRopeStepS_ex ss (1 + 3 * (l.length : Int)) h' (by omega)
  obtain ⟨o, e1, e2, ho⟩ := runBoth (x, l, p, q, r, ()) ss h h'
  unfold laws_FnExactRunRopeway
  simp only [hy, Option.bind_some]
  by_cases h0 : y < 0
  · rw [cond_dt h0]
  rw [cond_df h0, hy2, Option.bind_some]
  by_cases h02 : y2 < 0
  · rw [cond_dt h02]
  rw [cond_df h02]
  cases o with
  | none =>
    simp only [Option.elim_none] at e1 e2
    simp only [toRopeway_eq (x, l, p, q, r, ()) h, toRopeStepS_eq ss h', e1, e2, Option.bind_some, Sum.elim_inl, eqRopeway_eq (0, [], 0, 0, 0, ()) (by simp), eqRopeway_eq (x, l, p, q, r, ()) h, eqRopeStepS_eq ss h', markRopeway_eq _ _ _ _ l h, er, markRopeway_nil, heldRopeway_nil, decide_true, Bool.not_true, cond_false, beq_self_eq_true]
    rw [cond_df hr]
    rfl
  | some z =>
    obtain ⟨⟨m', l', w', t', d', u''⟩, n⟩ := z
    have hl' : l'.length ≤ 1048576 := ho _ rfl
    have h2 : ¬ (1 : Int) + 3 * (l'.length : Int) < 0 := by omega
    simp only [Option.elim_some] at e1 e2
    simp only [toRopeway_eq (x, l, p, q, r, ()) h, toRopeStepS_eq ss h', e1, e2, Option.bind_some, Sum.elim_inr, eqRopeway_eq (m', l', w', t', d', ()) hl', eqRopeway_eq (x, l, p, q, r, ()) h, eqRopeStepS_eq ss h', markRopeway_eq _ _ _ _ l h, er, markRopeway_eq _ _ _ _ l' hl', heldRopeway_eq _ _ _ _ l'.length hl', decide_true, Bool.not_true, cond_false, beq_self_eq_true]
    simp only [cond_df hr, cond_df h2]
end Go.Proofs.Ytmknleaomfpmmaa
