/-
  Plain laws of the ways of a grip: the reference's search, and the two laws.
-/
import Derived.Test.YtaajchikfgbecaaS73
namespace Go.Proofs.Ytaajchikfgbecaa
open Go.RowKit

theorem DD_self {g r : GripState} {t : Int} (h : DD t r + 1 = DD t g) : r ≠ g := fun e => by rw [e] at h; omega
/-- What the reference does with a kind. -/
noncomputable def addS (x : GripState) (nx : List GripState) (k : Int) : List GripState :=
  match spec_l21Make x (k, tryv x.1 k, ()) with
  | some (r, true) => if r ∈ nx then nx else if r = x then nx else nx ++ [r]
  | _ => nx
noncomputable def addSX (nx : List GripState) (x : GripState) : List GripState := addS x (addS x (addS x (addS x (addS x nx 1) 2) 3) 4) 5
theorem addS_out {x : GripState} (hx : Good x) (nx : List GripState) {k : Int} (hk : 1 ≤ k ∧ k ≤ 5) :
    (∀ y ∈ nx, y ∈ addS x nx k) ∧ (∀ y ∈ addS x nx k, y ∈ nx ∨ Near x y) ∧ (∀ r, spec_l21Make x (k, tryv x.1 k, ()) = some (r, true) → r ≠ x → r ∈ addS x nx k) ∧ (addS x nx k).length ≤ nx.length + 1 := by
  obtain ⟨r, b, h1, h2⟩ := nearB_out (stepS x.1 x.2.1 x.2.2.1 x.2.2.2.1 k hx hk)
  have h1' : spec_l21Make x (k, tryv x.1 k, ()) = some (r, b) := h1
  unfold addS
  rw [h1']
  cases b
  · exact ⟨fun y hy => hy, fun y hy => .inl hy, fun r' h => (by cases h), by simp⟩
  · have hn := h2 rfl
    by_cases e1 : r ∈ nx
    · simp only [e1, if_true]
      refine ⟨fun y hy => hy, fun y hy => .inl hy, fun r' h _ => ?_, by simp⟩
      obtain rfl : r = r' := (Prod.mk.inj (Option.some.inj h)).1
      exact e1
    · by_cases e2 : r = x
      · simp only [e1, if_false]; rw [if_pos e2]
        refine ⟨fun y hy => hy, fun y hy => .inl hy, fun r' h hne => ?_, by simp⟩
        obtain rfl : r = r' := (Prod.mk.inj (Option.some.inj h)).1
        exact absurd e2 hne
      · simp only [e1, if_false]; rw [if_neg e2]
        refine ⟨fun y hy => List.mem_append_left _ hy, fun y hy => ?_, fun r' h _ => ?_, by simp⟩
        · rcases List.mem_append.1 hy with e | e
          · exact .inl e
          · rw [List.mem_singleton.1 e]; exact .inr hn
        · obtain rfl : r = r' := (Prod.mk.inj (Option.some.inj h)).1
          simp
theorem addSX_out {x : GripState} (hx : Good x) (nx : List GripState) :
    (∀ y ∈ nx, y ∈ addSX nx x) ∧ (∀ y ∈ addSX nx x, y ∈ nx ∨ Near x y) ∧ (∀ k r, 1 ≤ k ∧ k ≤ 5 → spec_l21Make x (k, tryv x.1 k, ()) = some (r, true) → r ≠ x → r ∈ addSX nx x) ∧ (addSX nx x).length ≤ nx.length + 5 := by
  have q1 := addS_out hx nx (k := 1) (by omega)
  have q2 := addS_out hx (addS x nx 1) (k := 2) (by omega)
  have q3 := addS_out hx (addS x (addS x nx 1) 2) (k := 3) (by omega)
  have q4 := addS_out hx (addS x (addS x (addS x nx 1) 2) 3) (k := 4) (by omega)
  have q5 := addS_out hx (addS x (addS x (addS x (addS x nx 1) 2) 3) 4) (k := 5) (by omega)
  unfold addSX
  refine ⟨fun y hy => q5.1 y (q4.1 y (q3.1 y (q2.1 y (q1.1 y hy)))), fun y hy => ?_, fun k r hk h hne => ?_, ?_⟩
  · rcases q5.2.1 y hy with e | e
    · rcases q4.2.1 y e with e | e
      · rcases q3.2.1 y e with e | e
        · rcases q2.2.1 y e with e | e
          · exact q1.2.1 y e
          · exact .inr e
        · exact .inr e
      · exact .inr e
    · exact .inr e
  · have : k = 1 ∨ k = 2 ∨ k = 3 ∨ k = 4 ∨ k = 5 := by omega
    rcases this with rfl | rfl | rfl | rfl | rfl
    · exact q5.1 r (q4.1 r (q3.1 r (q2.1 r (q1.2.2.1 r h hne))))
    · exact q5.1 r (q4.1 r (q3.1 r (q2.2.2.1 r h hne)))
    · exact q5.1 r (q4.1 r (q3.2.2.1 r h hne))
    · exact q5.1 r (q4.2.2.1 r h hne)
    · exact q5.2.2.1 r h hne
  · have := q1.2.2.2; have := q2.2.2.2; have := q3.2.2.2; have := q4.2.2.2; have := q5.2.2.2
    omega
theorem sloop3_eq (S : List GripState) (i : Nat) (hi : i < S.length) (hg : Good (S.getD i d_GripState)) (nx : List GripState) (hp : nx.length ≤ 4000000000000) :
    iter (fun s => spec_l21To_loop3 S (i : Int) s.1 s.2) ((1 : Int), nx) = some (addSX nx (S.getD i d_GripState)) := by
  have hx : ∀ xa xb xc xd : Int, ((xa, xb, xc, xd, ()) : GripState) = S.getD i d_GripState → ∀ (k : Nat) (m : List GripState), 1 ≤ k → k ≤ 5 → m.length ≤ 4000000000100 →
      spec_l21To_loop3 S (i : Int) (k : Int) m = some (.go (((k + 1 : Nat) : Int), addS (S.getD i d_GripState) m (k : Int))) := by
    intro xa xb xc xd ex k m h1 h5 hm
    rw [← ex] at hg
    have ht := try_eq xa xb xc xd (k : Int)
    obtain ⟨r, b, hr, _⟩ := nearB_out (stepS xa xb xc xd (k : Int) hg (by omega))
    obtain ⟨ra, rb, rc, rd, hre⟩ : ∃ ra rb rc rd : Int, r = (ra, rb, rc, rd, ()) := ⟨r.1, r.2.1, r.2.2.1, r.2.2.2.1, rfl⟩
    subst hre
    unfold spec_l21To_loop3 addS
    rw [cond_dt (by omega), grd_pos (by omega), grd_pos (by omega)]
    simp only [Int.toNat_natCast, ← ex]
    simp only [ht, Option.bind_some, hr]
    rw [w64_nat (by omega)]
    cases b
    · simp only [cond_false]
    · simp only [cond_true]
      rw [l21In_eq _ _ (by omega)]
      simp only [Option.bind_some]
      by_cases e1 : ((ra, rb, rc, rd, ()) : GripState) ∈ m
      · rw [cond_ndt e1, if_pos e1]
      · rw [cond_ndf e1, if_neg e1, grd_pos (by omega)]
        by_cases e2 : ((ra, rb, rc, rd, ()) : GripState) = (xa, xb, xc, xd, ())
        · rw [if_pos e2]
          obtain ⟨rfl, rfl, rfl, rfl⟩ : ra = xa ∧ rb = xb ∧ rc = xc ∧ rd = xd := by simpa using e2
          simp
        · rw [if_neg e2]
          have e3 : (decide (ra = xa) && (decide (rb = xb) && (decide (rc = xc) && (decide (rd = xd) && true)))) = false := by
            rw [Bool.eq_false_iff]; intro e; apply e2; simpa using e
          rw [e3]
          simp only [Bool.not_false, cond_true]
          rw [grd_pos (by simp only [List.length_singleton]; omega)]
  have one := hx _ _ _ _ (eta4 (S.getD i d_GripState))
  have s1 := one 1 nx (by omega) (by omega) (by omega)
  have q1 := (addS_out hg nx (k := 1) (by omega)).2.2.2
  have s2 := one 2 (addS (S.getD i d_GripState) nx 1) (by omega) (by omega) (by omega)
  have q2 := (addS_out hg (addS (S.getD i d_GripState) nx 1) (k := 2) (by omega)).2.2.2
  have s3 := one 3 (addS (S.getD i d_GripState) (addS (S.getD i d_GripState) nx 1) 2) (by omega) (by omega) (by omega)
  have q3 := (addS_out hg (addS (S.getD i d_GripState) (addS (S.getD i d_GripState) nx 1) 2) (k := 3) (by omega)).2.2.2
  have s4 := one 4 (addS (S.getD i d_GripState) (addS (S.getD i d_GripState) (addS (S.getD i d_GripState) nx 1) 2) 3) (by omega) (by omega) (by omega)
  have q4 := (addS_out hg (addS (S.getD i d_GripState) (addS (S.getD i d_GripState) (addS (S.getD i d_GripState) nx 1) 2) 3) (k := 4) (by omega)).2.2.2
  have s5 := one 5 (addS (S.getD i d_GripState) (addS (S.getD i d_GripState) (addS (S.getD i d_GripState) (addS (S.getD i d_GripState) nx 1) 2) 3) 4) (by omega) (by omega) (by omega)
  refine (iter_go s1).trans ((iter_go s2).trans ((iter_go s3).trans ((iter_go s4).trans ((iter_go s5).trans (iter_out ?_)))))
  show spec_l21To_loop3 S (i : Int) ((6 : Nat) : Int) _ = _
  unfold spec_l21To_loop3
  rw [cond_df (by omega)]
  rfl
theorem foldl_addSX (t : Int) (T n : Nat) : ∀ (S : List GripState) (nx : List GripState), (∀ y ∈ nx, Good y ∧ T ≤ n + 1 + DD t y) → (∀ x ∈ S, Good x ∧ T ≤ n + DD t x) →
    (∀ y ∈ S.foldl addSX nx, Good y ∧ T ≤ n + 1 + DD t y) ∧ (∀ y ∈ nx, y ∈ S.foldl addSX nx) ∧
    (∀ x ∈ S, ∀ k r, 1 ≤ k ∧ k ≤ 5 → spec_l21Make x (k, tryv x.1 k, ()) = some (r, true) → r ≠ x → r ∈ S.foldl addSX nx) ∧ (S.foldl addSX nx).length ≤ nx.length + 5 * S.length := by
  intro S
  induction S with
  | nil => intro nx h _; exact ⟨h, fun _ hy => hy, fun x hx => (by cases hx), by simp⟩
  | cons a S ih =>
    intro nx h hS
    have ha := hS a (by simp)
    obtain ⟨q1, q2, q3, q4⟩ := addSX_out ha.1 nx
    obtain ⟨i1, i2, i3, i4⟩ := ih (addSX nx a) (fun y hy => by
      rcases q2 y hy with e | e
      · exact h y e
      · have := Near_DD e t; exact ⟨e.1, by omega⟩) (fun x hx => hS x (by simp [hx]))
    refine ⟨i1, fun y hy => i2 y (q1 y hy), fun x hx k r hk hr hne => ?_, ?_⟩
    · rcases List.mem_cons.1 hx with e | e
      · rw [e] at hr hne; exact i2 r (q3 k r hk hr hne)
      · exact i3 x e k r hk hr hne
    · simp only [List.foldl_cons, List.length_cons]; omega
theorem sloop2_eq (t : Int) (S : List GripState) (hS : ∀ x ∈ S, Good x) (hl : S.length ≤ 200000000000) :
    iter (fun s => spec_l21To_loop2 t S s.1 s.2) ((0 : Int), ([] : List GripState)) = some (if S.any (fun x => decide (x.2.1 = t)) = true then .inl () else .inr (S.foldl addSX [])) := by
  refine iter_scan (f := fun s => spec_l21To_loop2 t S s.1 s.2) d_GripState S (fun x => decide (x.2.1 = t)) () addSX id (fun k s => s.length ≤ 5 * k) ?_ ?_ ?_ [] (by simp)
  · intro k s hk hj hh
    have hz : ¬ (S.getD k d_GripState).2.1 = t := of_decide_eq_false hh
    have hmem : S.getD k d_GripState ∈ S := by rw [getD_eq S k _ hk]; exact List.getElem_mem hk
    have hg := hS _ hmem
    refine ⟨?_, by have := (addSX_out hg s).2.2.2; omega⟩
    show spec_l21To_loop2 t S (k : Int) s = _
    unfold spec_l21To_loop2
    rw [cond_dt (by omega), grd_pos (by omega)]
    simp only [Int.toNat_natCast]
    rw [cond_df hz, sloop3_eq S k hk hg s (by omega)]
    simp only [Option.bind_some]
    rw [w64_nat (by omega)]
  · intro k s hk hj hh
    have hz : (S.getD k d_GripState).2.1 = t := of_decide_eq_true hh
    show spec_l21To_loop2 t S (k : Int) s = _
    unfold spec_l21To_loop2
    rw [cond_dt (by omega), grd_pos (by omega)]
    simp only [Int.toNat_natCast]
    rw [cond_dt hz]
  · intro s _
    show spec_l21To_loop2 t S (S.length : Int) s = _
    unfold spec_l21To_loop2
    rw [cond_df (by omega)]; rfl
theorem pow_bd5 {n : Nat} (h : n ≤ 9) : 5 ^ n ≤ 1953125 := by
  have := Nat.pow_le_pow_right (n := 5) (by omega) h
  omega
theorem ssearch_eq (t : Int) (ht : t = 0 ∨ t = 2) (T : Nat) (hT : T ≤ 9) : ∀ (m n : Nat) (S : List GripState), n + m = T → Lev t T n S → S.length ≤ 5 ^ n →
    iter (fun s => spec_l21To_loop1 t s.1 s.2) ((n : Int), S) = some (.inl (T : Int)) := by
  intro m
  induction m with
  | zero =>
    intro n S hn h hl
    have hb := pow_bd5 (n := n) (by omega)
    refine iter_out ?_
    show spec_l21To_loop1 t (n : Int) S = _
    unfold spec_l21To_loop1
    rw [cond_dt (by omega), sloop2_eq t S (fun x hx => (h.all x hx).1) (by omega), h.hit ht (by omega), decide_eq_true (show n = T by omega)]
    simp only [if_true, Option.bind_some, Sum.elim_inl]
    rw [show n = T by omega]
  | succ m ih =>
    intro n S hn h hl
    have hb := pow_bd5 (n := n) (by omega)
    obtain ⟨f1, f2, f3, f4⟩ := foldl_addSX t T n S [] (fun y hy => (by cases hy)) h.all
    have hgo : spec_l21To_loop1 t (n : Int) S = some (.go (((n + 1 : Nat) : Int), S.foldl addSX [])) := by
      unfold spec_l21To_loop1
      rw [cond_dt (by omega), sloop2_eq t S (fun x hx => (h.all x hx).1) (by omega), h.hit ht (by omega), decide_eq_false (show ¬ n = T by omega)]
      simp only [Bool.false_eq_true, if_false, Option.bind_some, Sum.elim_inr]
      rw [w64_nat (by omega)]
    rw [iter_go hgo]
    refine ih (n + 1) _ (by omega) ⟨f1, ?_⟩ ?_
    · obtain ⟨x, hx, e⟩ := h.one
      have hz : x.2.1 ≠ t := fun e' => by have := (DD_zero t ht x).2 e'; omega
      obtain ⟨r, hr, hd⟩ := stepWS x.1 x.2.1 x.2.2.1 x.2.2.2.1 (h.all x hx).1
      have e2 : DD t r + 1 = DD t x := lead_DD (n := x.2.2.2.1) t ht hz hd
      exact ⟨r, f3 x hx _ r (wk_range _ _ _) hr (DD_self e2), by omega⟩
    · rw [Nat.pow_succ]
      simp only [List.length_nil] at f4; omega
theorem l21To_eq (t : Int) (ht : t = 0 ∨ t = 2) (g : GripState) (hg : Good g) : spec_l21To g t = some (DD t g : Int) := by
  unfold spec_l21To
  have h := ssearch_eq t ht (DD t g) (DD_le t g) (DD t g) 0 [g] (by omega) ⟨fun x hx => by
    rw [List.mem_singleton.1 hx]; exact ⟨hg, by omega⟩, g, by simp, by omega⟩ (by simp)
  show (iter (fun s => spec_l21To_loop1 t s.1 s.2) (((0 : Nat) : Int), [g])).bind _ = _
  rw [h]
  rfl
instance goodDec (g : GripState) : Decidable (Good g) := inferInstanceAs (Decidable (GP g.1 g.2.1 g.2.2.1 g.2.2.2.1))
theorem toGrip_eq (g : GripState) : laws_toGripState g = some g := rfl
theorem good_eq (g : GripState) : spec_l21Good g = some (decide (Good g)) := l21Good_eq g.1 g.2.1 g.2.2.1 g.2.2.2.1
theorem grip_eq (g : GripState) : impl_IsGripState g = some (decide (Good g)) := isGrip_eq g.1 g.2.1 g.2.2.1 g.2.2.2.1
theorem specHome_eq (g : GripState) : spec_StepsHome g = some (if Good g then ((DD 0 g : Int), true) else (0, false)) := by
  unfold spec_StepsHome
  simp only [eta4]
  rw [good_eq]
  simp only [Option.bind_some]
  by_cases h : Good g
  · rw [cond_ndt h, l21To_eq 0 (.inl rfl) g h, if_pos h]; rfl
  · rw [cond_ndf h, if_neg h]
theorem implHome_eq (g : GripState) : impl_StepsHome g = some (if Good g then ((DD 0 g : Int), true) else (0, false)) := by
  unfold impl_StepsHome
  simp only [eta4]
  rw [grip_eq]
  simp only [Option.bind_some]
  by_cases h : Good g
  · rw [cond_ndt h, stepsTo_eq 0 (.inl rfl) g h, if_pos h]; rfl
  · rw [cond_ndf h, if_neg h]
theorem specRope_eq (g : GripState) : spec_StepsToRope g = some (if Good g then ((DD 2 g : Int), true) else (0, false)) := by
  unfold spec_StepsToRope
  simp only [eta4]
  rw [good_eq]
  simp only [Option.bind_some]
  by_cases h : Good g
  · rw [cond_ndt h, l21To_eq 2 (.inr rfl) g h, if_pos h]; rfl
  · rw [cond_ndf h, if_neg h]
theorem implRope_eq (g : GripState) : impl_StepsToRope g = some (if Good g then ((DD 2 g : Int), true) else (0, false)) := by
  unfold impl_StepsToRope
  simp only [eta4]
  rw [grip_eq]
  simp only [Option.bind_some]
  by_cases h : Good g
  · rw [cond_ndt h, stepsTo_eq 2 (.inr rfl) g h, if_pos h]; rfl
  · rw [cond_ndf h, if_neg h]
theorem law_FnExactStepsHome (g : GripState) {p : Prop} (_ : p) : laws_FnExactStepsHome g = some true := by
  unfold laws_FnExactStepsHome
  simp only [eta4, toGrip_eq, Option.bind_some]
  rw [specHome_eq, implHome_eq]
  simp only [Option.bind_some, beq_self_eq_true]
  rfl
theorem law_FnExactStepsToRope (g : GripState) {p : Prop} (_ : p) : laws_FnExactStepsToRope g = some true := by
  unfold laws_FnExactStepsToRope
  simp only [eta4, toGrip_eq, Option.bind_some]
  rw [specRope_eq, implRope_eq]
  simp only [Option.bind_some, beq_self_eq_true]
  rfl
end Go.Proofs.Ytaajchikfgbecaa
