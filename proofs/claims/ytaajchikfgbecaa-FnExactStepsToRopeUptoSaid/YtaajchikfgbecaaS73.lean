/-
  Plain laws of the ways of a grip: the search, level by level.
-/
import Derived.Test.YtaajchikfgbecaaS72
namespace Go.Proofs.Ytaajchikfgbecaa
open Go.RowKit

/-- A walk along a list that may stop. -/
theorem iter_scan {α σ τ ρ : Type} {f : Int × σ → Option (Lp (Int × σ) (ρ ⊕ τ))} (d : α) (S : List α) (hit : α → Bool) (rho : ρ) (stepf : σ → α → σ) (fin : σ → τ) (J : Nat → σ → Prop)
    (hgo : ∀ (k : Nat) (s : σ), k < S.length → J k s → hit (S.getD k d) = false → f ((k : Int), s) = some (.go (((k + 1 : Nat) : Int), stepf s (S.getD k d))) ∧ J (k + 1) (stepf s (S.getD k d)))
    (hhit : ∀ (k : Nat) (s : σ), k < S.length → J k s → hit (S.getD k d) = true → f ((k : Int), s) = some (.out (.inl rho)))
    (hend : ∀ (s : σ), J S.length s → f ((S.length : Int), s) = some (.out (.inr (fin s)))) (s : σ) (hJ : J 0 s) :
    iter f ((0 : Int), s) = some (if S.any hit = true then .inl rho else .inr (fin (S.foldl stepf s))) := by
  have H : ∀ (m k : Nat) (s : σ), k + m = S.length → J k s → iter f ((k : Int), s) = some (if (S.drop k).any hit = true then .inl rho else .inr (fin ((S.drop k).foldl stepf s))) := by
    intro m
    induction m with
    | zero =>
      intro k s hk hj
      have hk' : k = S.length := by omega
      subst hk'
      rw [iter_out (hend s hj)]
      simp
    | succ m ih =>
      intro k s hk hj
      have hlt : k < S.length := by omega
      have hd : S.drop k = S.getD k d :: S.drop (k + 1) := by
        rw [List.drop_eq_getElem_cons hlt, getD_eq S k d hlt]
      rw [hd]
      cases hc : hit (S.getD k d)
      · obtain ⟨h1, h2⟩ := hgo k s hlt hj hc
        rw [iter_go h1, ih (k + 1) _ (by omega) h2]
        simp only [List.any_cons, hc, Bool.false_or, List.foldl_cons]
      · rw [iter_out (hhit k s hlt hj hc)]
        simp only [List.any_cons, hc, Bool.true_or, if_true]
  have := H S.length 0 s (by omega) hJ
  simpa using this

theorem eta4 (g : GripState) : ((g.1, g.2.1, g.2.2.1, g.2.2.2.1, ()) : GripState) = g := rfl
theorem eta2 (g : GripStep) : ((g.1, g.2.1, ()) : GripStep) = g := rfl
/-- How far a state is from the zone `t`. -/
def DD (t : Int) (g : GripState) : Nat := if t = 2 then D2 g.1 g.2.1 g.2.2.1 else D0 g.1 g.2.1 g.2.2.1
theorem DD_le (t : Int) (g : GripState) : DD t g ≤ 9 := by
  unfold DD D2 D0; repeat' split
  all_goals omega
theorem DD_zero (t : Int) (ht : t = 0 ∨ t = 2) (g : GripState) : DD t g = 0 ↔ g.2.1 = t := by
  rcases ht with rfl | rfl
  · unfold DD D0; rw [if_neg (by omega)]
    repeat' split
    all_goals (constructor <;> intro _ <;> first | omega | (exfalso; omega) | assumption | rfl)
  · unfold DD D2; rw [if_pos rfl]
    repeat' split
    all_goals (constructor <;> intro _ <;> first | omega | (exfalso; omega) | assumption | rfl)
theorem Near_DD {g r : GripState} (h : Near g r) (t : Int) : DD t g ≤ DD t r + 1 := by
  unfold DD; split
  · exact h.2.1
  · exact h.2.2
theorem lead_DD {st z f n : Int} {r : GripState} (t : Int) (ht : t = 0 ∨ t = 2) (hz : z ≠ t) (h : (z ≠ 2 → D2 r.1 r.2.1 r.2.2.1 + 1 = D2 st z f) ∧ (z ≠ 0 → D0 r.1 r.2.1 r.2.2.1 + 1 = D0 st z f)) : DD t r + 1 = DD t (st, z, f, n, ()) := by
  unfold DD
  rcases ht with rfl | rfl
  · rw [if_neg (by omega), if_neg (by omega)]; exact h.2 hz
  · rw [if_pos rfl, if_pos rfl]; exact h.1 hz

/-! ## The program's search -/
noncomputable def stp (g : GripState) (s : GripStep) : GripState := match impl_GripState_step g s with
  | some (r, _) => r
  | none => g
noncomputable def itsG (g : GripState) : List GripStep := its g.1 g.2.1 g.2.2.1 g.2.2.2.1 1 ++ its g.1 g.2.1 g.2.2.1 g.2.2.2.1 2 ++ its g.1 g.2.1 g.2.2.1 g.2.2.2.1 3 ++ its g.1 g.2.1 g.2.2.1 g.2.2.2.1 4 ++ its g.1 g.2.1 g.2.2.1 g.2.2.2.1 5
noncomputable def addK (p : List GripState × List GripState) (r : GripState) : List GripState × List GripState :=
  if r ∈ p.1 then p else (p.1 ++ [r], p.2 ++ [r])
theorem eqK_iff (x y : GripState) : eqK ty_GripState x y = true ↔ x = y := by
  obtain ⟨x1, x2, x3, x4, _⟩ := x
  obtain ⟨y1, y2, y3, y4, _⟩ := y
  show (eqI x1 y1 && (eqI x2 y2 && (eqI x3 y3 && (eqI x4 y4 && true)))) = true ↔ _
  simp [eqI]
theorem hasK_iff (x : GripState) (ks : List GripState) : hasK ty_GripState x ks = true ↔ x ∈ ks := by
  show (List.any (α := GripState) ks (fun y => eqK ty_GripState x y)) = true ↔ _
  rw [List.any_eq_true]
  constructor
  · rintro ⟨y, hy, e⟩
    rw [(eqK_iff x y).1 e]; exact hy
  · intro h; exact ⟨x, h, (eqK_iff x x).2 rfl⟩
theorem addK_eq (p : List GripState × List GripState) (r : GripState) : addK p r = if hasK ty_GripState r p.1 = true then p else (insK ty_GripState r p.1, p.2 ++ [r]) := by
  unfold addK insK
  by_cases h : r ∈ p.1
  · rw [if_pos h, if_pos ((hasK_iff r p.1).2 h)]
  · have h' : ¬ hasK ty_GripState r p.1 = true := fun e => h ((hasK_iff r p.1).1 e)
    rw [if_neg h, if_neg h']
    exact congrArg (fun z : List GripState => (z, p.2 ++ [r])) (if_neg h').symm
theorem l21In_eq (l : List GripState) (x : GripState) (h : l.length < 4611686018427387904) : spec_l21In l x = some (decide (x ∈ l)) := by
  have hp : ∀ y : GripState, (decide (y.1 = x.1) && (decide (y.2.1 = x.2.1) && (decide (y.2.2.1 = x.2.2.1) && (decide (y.2.2.2.1 = x.2.2.2.1) && true)))) = decide (y = x) := by
    rintro ⟨y1, y2, y3, y4, _⟩
    obtain ⟨x1, x2, x3, x4, _⟩ := x
    rw [Bool.eq_iff_iff]; simp
  obtain ⟨r, hr, h1⟩ := iter_ex (f := fun s => spec_l21In_loop1 l x s) (miss := Sum.inr ()) l.length (fun k => decide (l.getD k d_GripState = x)) (fun _ => Sum.inl ()) (fun k => (k : Int)) (fun k hk => by
    show spec_l21In_loop1 l x (k : Int) = _
    unfold spec_l21In_loop1
    rw [cond_dt (by omega), grd_pos (by omega), Int.toNat_natCast, hp, w64_nat (by omega)]
    by_cases e : l.getD k d_GripState = x
    · rw [cond_dt e, decide_eq_true e]; rfl
    · rw [cond_df e, decide_eq_false e]; rfl) (by
    show spec_l21In_loop1 l x (l.length : Int) = _
    unfold spec_l21In_loop1
    rw [cond_df (by omega)]) (s := (0 : Int)) rfl
  rcases h1 with ⟨k, hk, hq, _, rfl⟩ | ⟨h2, rfl⟩
  · unfold spec_l21In; rw [hr]
    have e : l.getD k d_GripState = x := of_decide_eq_true hq
    have hm : x ∈ l := by rw [← e, getD_eq _ _ _ hk]; exact List.getElem_mem hk
    rw [decide_eq_true hm]; rfl
  · unfold spec_l21In; rw [hr]
    have hm : x ∉ l := fun hm => by
      obtain ⟨k, hk, e⟩ := List.mem_iff_getElem.1 hm
      have := h2 k hk
      rw [getD_eq _ _ _ hk, e] at this
      simp at this
    rw [decide_eq_false hm]; rfl

noncomputable def addX (p : List GripState × List GripState) (g : GripState) : List GripState × List GripState := ((itsG g).map (stp g)).foldl addK p
theorem itsG_length (g : GripState) : (itsG g).length ≤ 15 := by
  unfold itsG
  have h := its_length g.1 g.2.1 g.2.2.1 g.2.2.2.1
  have := h 1; have := h 2; have := h 3; have := h 4; have := h 5
  simp only [List.length_append]; omega
theorem mem_its {g : GripState} {k : Int} {s : GripStep} (h : s ∈ its g.1 g.2.1 g.2.2.1 g.2.2.2.1 k) : ∃ v, s = (k, v, ()) ∧ (v = 0 ∨ v = 1 ∨ v = 500) ∧ okb g.1 g.2.1 g.2.2.1 g.2.2.2.1 k v = true := by
  unfold its at h
  simp only [List.mem_append] at h
  rcases h with h | h | h
  all_goals
    split at h
    · rename_i ho
      have hs := List.mem_singleton.1 h
      first | exact ⟨0, hs, .inl rfl, ho⟩ | exact ⟨1, hs, .inr (.inl rfl), ho⟩ | exact ⟨500, hs, .inr (.inr rfl), ho⟩
    · cases h
theorem its_mem {g : GripState} {k v : Int} (hv : v = 0 ∨ v = 1 ∨ v = 500) (ho : okb g.1 g.2.1 g.2.2.1 g.2.2.2.1 k v = true) : ((k, v, ()) : GripStep) ∈ its g.1 g.2.1 g.2.2.1 g.2.2.2.1 k := by
  unfold its
  simp only [List.mem_append]
  rcases hv with rfl | rfl | rfl
  · exact .inl (by rw [if_pos ho]; simp)
  · exact .inr (.inl (by rw [if_pos ho]; simp))
  · exact .inr (.inr (by rw [if_pos ho]; simp))
theorem mem_itsG {g : GripState} {s : GripStep} (h : s ∈ itsG g) : ∃ k v, s = (k, v, ()) ∧ (1 ≤ k ∧ k ≤ 5) ∧ (v = 0 ∨ v = 1 ∨ v = 500) ∧ okb g.1 g.2.1 g.2.2.1 g.2.2.2.1 k v = true := by
  unfold itsG at h
  simp only [List.mem_append] at h
  rcases h with (((h | h) | h) | h) | h
  all_goals
    obtain ⟨v, h1, h2, h3⟩ := mem_its h
    exact ⟨_, v, h1, by omega, h2, h3⟩
theorem itsG_mem {g : GripState} {k v : Int} (hk : 1 ≤ k ∧ k ≤ 5) (hv : v = 0 ∨ v = 1 ∨ v = 500) (ho : okb g.1 g.2.1 g.2.2.1 g.2.2.2.1 k v = true) : ((k, v, ()) : GripStep) ∈ itsG g := by
  have h := its_mem hv ho
  unfold itsG
  simp only [List.mem_append]
  have : k = 1 ∨ k = 2 ∨ k = 3 ∨ k = 4 ∨ k = 5 := by omega
  rcases this with rfl | rfl | rfl | rfl | rfl
  · exact .inl (.inl (.inl (.inl h)))
  · exact .inl (.inl (.inl (.inr h)))
  · exact .inl (.inl (.inr h))
  · exact .inl (.inr h)
  · exact .inr h
theorem stp_near {g : GripState} (hg : Good g) {s : GripStep} (h : s ∈ itsG g) : Near g (stp g s) ∧ impl_GripState_step g s = some (stp g s, true) := by
  obtain ⟨k, v, rfl, hk, hv, ho⟩ := mem_itsG h
  obtain ⟨r, hr⟩ := step_some (st := g.1) (z := g.2.1) (f := g.2.2.1) (n := g.2.2.2.1) hg k v
  rw [ho] at hr
  have hr' : impl_GripState_step g (k, v, ()) = some (r, true) := hr
  have hn := stepI g.1 g.2.1 g.2.2.1 g.2.2.2.1 k v hg hk hv
  rw [hr] at hn
  have e : stp g (k, v, ()) = r := by unfold stp; rw [hr']
  rw [e]
  exact ⟨hn, hr'⟩
theorem stp_lead {g : GripState} (hg : Good g) (t : Int) (ht : t = 0 ∨ t = 2) (hz : g.2.1 ≠ t) : ∃ r ∈ (itsG g).map (stp g), DD t r + 1 = DD t g := by
  obtain ⟨r, h1, h2⟩ := stepW g.1 g.2.1 g.2.2.1 g.2.2.2.1 hg
  have h1' : impl_GripState_step g (wk g.1 g.2.1 g.2.2.1, wv g.1 g.2.1, ()) = some (r, true) := h1
  have ho : okb g.1 g.2.1 g.2.2.1 g.2.2.2.1 (wk g.1 g.2.1 g.2.2.1) (wv g.1 g.2.1) = true := by unfold okb; rw [h1]
  refine ⟨r, List.mem_map.2 ⟨_, itsG_mem (wk_range _ _ _) (wv_range _ _) ho, ?_⟩, lead_DD (n := g.2.2.2.1) t ht hz h2⟩
  unfold stp; rw [h1']
theorem addK_mem (p : List GripState × List GripState) (r y : GripState) : (y ∈ (addK p r).1 ↔ y = r ∨ y ∈ p.1) ∧ (y ∈ p.2 → y ∈ (addK p r).2) ∧ (y ∈ (addK p r).2 → y = r ∨ y ∈ p.2) ∧ (y = r → y ∈ p.1 ∨ y ∈ (addK p r).2) ∧ (addK p r).2.length ≤ p.2.length + 1 := by
  unfold addK
  by_cases h : r ∈ p.1
  · rw [if_pos h]
    exact ⟨⟨.inr, fun e => e.elim (fun e => e ▸ h) id⟩, id, .inr, fun e => .inl (e ▸ h), by omega⟩
  · rw [if_neg h]
    refine ⟨?_, ?_, ?_, ?_, ?_⟩
    · simp only [List.mem_append, List.mem_singleton]; exact ⟨Or.symm, Or.symm⟩
    · intro e; exact List.mem_append_left _ e
    · intro e; simpa using Or.symm (List.mem_append.1 e)
    · intro e; right; simp [e]
    · simp
/-- What a level keeps: the states found are good and no nearer than they can be, and whoever is known is new or was so before. -/
structure LevI (t : Int) (T n : Nat) (p : List GripState × List GripState) : Prop where
  good : ∀ y ∈ p.2, Good y ∧ T ≤ n + 1 + DD t y
  known : ∀ y ∈ p.1, y ∈ p.2 ∨ T ≤ n + DD t y
theorem foldl_addK (t : Int) (T n : Nat) : ∀ (L : List GripState) (p : List GripState × List GripState), LevI t T n p → (∀ r ∈ L, Good r ∧ T ≤ n + 1 + DD t r) →
    LevI t T n (L.foldl addK p) ∧ (∀ y ∈ p.1, y ∈ (L.foldl addK p).1) ∧ (∀ r ∈ L, r ∈ (L.foldl addK p).1) ∧ (L.foldl addK p).2.length ≤ p.2.length + L.length := by
  intro L
  induction L with
  | nil => intro p h _; exact ⟨h, fun _ hy => hy, fun r hr => (by cases hr), by simp⟩
  | cons a L ih =>
    intro p h hL
    have h' : LevI t T n (addK p a) := by
      refine ⟨fun y hy => ?_, fun y hy => ?_⟩
      · rcases (addK_mem p a y).2.2.1 hy with e | e
        · rw [e]; exact hL a (by simp)
        · exact h.good y e
      · rcases (addK_mem p a y).1.1 hy with e | e
        · rcases (addK_mem p a y).2.2.2.1 e with e2 | e2
          · rcases h.known y e2 with e3 | e3
            · exact .inl ((addK_mem p a y).2.1 e3)
            · exact .inr e3
          · exact .inl e2
        · rcases h.known y e with e3 | e3
          · exact .inl ((addK_mem p a y).2.1 e3)
          · exact .inr e3
    obtain ⟨i1, i2, i3, i4⟩ := ih (addK p a) h' (fun r hr => hL r (by simp [hr]))
    refine ⟨i1, fun y hy => i2 y ((addK_mem p a y).1.2 (.inr hy)), fun r hr => ?_, ?_⟩
    · rcases List.mem_cons.1 hr with e | e
      · exact i2 r ((addK_mem p a r).1.2 (.inl e))
      · exact i3 r e
    · have := (addK_mem p a a).2.2.2.2
      simp only [List.foldl_cons, List.length_cons]; omega
theorem foldl_addX (t : Int) (T n : Nat) : ∀ (S : List GripState) (p : List GripState × List GripState), LevI t T n p → (∀ x ∈ S, Good x ∧ T ≤ n + DD t x) →
    LevI t T n (S.foldl addX p) ∧ (∀ y ∈ p.1, y ∈ (S.foldl addX p).1) ∧ (∀ x ∈ S, ∀ r ∈ (itsG x).map (stp x), r ∈ (S.foldl addX p).1) ∧ (S.foldl addX p).2.length ≤ p.2.length + 15 * S.length := by
  intro S
  induction S with
  | nil => intro p h _; exact ⟨h, fun _ hy => hy, fun x hx => (by cases hx), by simp⟩
  | cons a S ih =>
    intro p h hS
    have ha := hS a (by simp)
    obtain ⟨f1, f2, f3, f4⟩ := foldl_addK t T n ((itsG a).map (stp a)) p h (fun r hr => by
      obtain ⟨s, hs, rfl⟩ := List.mem_map.1 hr
      have hn := (stp_near ha.1 hs).1
      have := Near_DD hn t
      exact ⟨hn.1, by omega⟩)
    obtain ⟨i1, i2, i3, i4⟩ := ih (addX p a) f1 (fun x hx => hS x (by simp [hx]))
    refine ⟨i1, fun y hy => i2 y (f2 y hy), fun x hx r hr => ?_, ?_⟩
    · rcases List.mem_cons.1 hx with e | e
      · rw [e] at hr; exact i2 r (f3 r hr)
      · exact i3 x e r hr
    · have := itsG_length a
      have h5 : (addX p a).2.length ≤ p.2.length + 15 := by
        have : (addX p a).2.length ≤ p.2.length + ((itsG a).map (stp a)).length := f4
        simp only [List.length_map] at this; omega
      simp only [List.foldl_cons, List.length_cons]; omega
theorem foldl_addK_len : ∀ (L : List GripState) (p : List GripState × List GripState), (L.foldl addK p).2.length ≤ p.2.length + L.length := by
  intro L
  induction L with
  | nil => intro p; simp
  | cons a L ih =>
    intro p
    have := ih (addK p a)
    have := (addK_mem p a a).2.2.2.2
    simp only [List.foldl_cons, List.length_cons]; omega
theorem addX_len (p : List GripState × List GripState) (g : GripState) : (addX p g).2.length ≤ p.2.length + 15 := by
  have h : (addX p g).2.length ≤ p.2.length + ((itsG g).map (stp g)).length := foldl_addK_len _ _
  have := itsG_length g
  simp only [List.length_map] at h; omega
theorem someG {g : GripState} (hg : Good g) : impl_GripState_someSteps g = some (itsG g) := some_eq (st := g.1) (z := g.2.1) (f := g.2.2.1) (n := g.2.2.2.1) hg
theorem loop3_eq (S : List GripState) (i : Nat) (_hi : i < S.length) (L : List GripStep) (hL : L.length ≤ 15) (hst : ∀ s ∈ L, impl_GripState_step (S.getD i d_GripState) s = some (stp (S.getD i d_GripState) s, true))
    (p : List GripState × List GripState) (hp : p.2.length ≤ 4000000000000) :
    iter (fun s => impl_GripState_stepsTo_loop3 S (i : Int) s.1 s.2.1 s.2.2.1 s.2.2.2.1 s.2.2.2.2) ((L.length : Int), (0 : Int), p.1, p.2, L) = some ((L.map (stp (S.getD i d_GripState))).foldl addK p) := by
  have H : ∀ (m k : Nat) (p : List GripState × List GripState), k + m = L.length → p.2.length + m ≤ 4300000000000 →
      iter (fun s => impl_GripState_stepsTo_loop3 S (i : Int) s.1 s.2.1 s.2.2.1 s.2.2.2.1 s.2.2.2.2) ((L.length : Int), (k : Int), p.1, p.2, L) = some (((L.drop k).map (stp (S.getD i d_GripState))).foldl addK p) := by
    intro m
    induction m with
    | zero =>
      intro k p hk _
      have e : L.drop k = [] := List.drop_eq_nil_of_le (by omega)
      rw [e]
      refine iter_out ?_
      show impl_GripState_stepsTo_loop3 S (i : Int) (L.length : Int) (k : Int) p.1 p.2 L = _
      unfold impl_GripState_stepsTo_loop3
      rw [cond_df (by omega)]; rfl
    | succ m ih =>
      intro k p hk hp
      have hlt : k < L.length := by omega
      have hd : L.drop k = L.getD k d_GripStep :: L.drop (k + 1) := by
        rw [List.drop_eq_getElem_cons hlt, getD_eq L k _ hlt]
      have hmem : L.getD k d_GripStep ∈ L := by rw [getD_eq L k _ hlt]; exact List.getElem_mem hlt
      have hstep := hst _ hmem
      have hgen : ∀ r : GripState, impl_GripState_step (S.getD i d_GripState) (L.getD k d_GripStep) = some (r, true) → impl_GripState_stepsTo_loop3 S (i : Int) (L.length : Int) (k : Int) p.1 p.2 L = some (.go ((L.length : Int), ((k + 1 : Nat) : Int), (addK p r).1, (addK p r).2, L)) := by
        rintro ⟨a, b, c, d, ⟨⟩⟩ hr
        unfold impl_GripState_stepsTo_loop3
        rw [cond_dt (by omega), grd_pos (by omega)]
        simp only [Int.toNat_natCast, eta2, hr, Option.bind_some]
        show _ = some (Lp.go ((L.length : Int), ((k + 1 : Nat) : Int), (addK p (a, b, c, d, ())).1, (addK p (a, b, c, d, ())).2, L))
        cases hc : hasK ty_GripState (a, b, c, d, ()) p.1
        · simp only [Bool.not_false, cond_true]
          rw [grd_pos (by simp only [List.length_singleton]; omega), w64_nat (by omega), show addK p (a, b, c, d, ()) = (insK ty_GripState (a, b, c, d, ()) p.1, p.2 ++ [(a, b, c, d, ())]) from (addK_eq p (a, b, c, d, ())).trans (if_neg (fun e => by cases hc.symm.trans e))]
        · simp only [Bool.not_true, cond_false]
          rw [w64_nat (by omega), show addK p (a, b, c, d, ()) = p from (addK_eq p (a, b, c, d, ())).trans (if_pos hc)]
      have hone := hgen _ hstep
      rw [iter_go hone, ih (k + 1) _ (by omega) (by have := (addK_mem p (stp (S.getD i d_GripState) (L.getD k d_GripStep)) d_GripState).2.2.2.2; omega), hd]
      rfl
  exact H L.length 0 p (by omega) (by omega)
theorem loop2_eq (t : Int) (S : List GripState) (hS : ∀ x ∈ S, Good x) (hl : S.length ≤ 200000000000) (K : List GripState) :
    iter (fun s => impl_GripState_stepsTo_loop2 t S s.1 s.2.1 s.2.2) ((0 : Int), K, ([] : List GripState)) = some (if S.any (fun x => decide (x.2.1 = t)) = true then .inl () else .inr (S.foldl addX (K, []))) := by
  refine iter_scan (f := fun s => impl_GripState_stepsTo_loop2 t S s.1 s.2.1 s.2.2) d_GripState S (fun x => decide (x.2.1 = t)) () addX id (fun k s => s.2.length ≤ 15 * k) ?_ ?_ ?_ (K, []) (by simp)
  · intro k s hk hj hh
    have hz : ¬ (S.getD k d_GripState).2.1 = t := of_decide_eq_false hh
    have hmem : S.getD k d_GripState ∈ S := by rw [getD_eq S k _ hk]; exact List.getElem_mem hk
    have hg := hS _ hmem
    refine ⟨?_, by have := addX_len s (S.getD k d_GripState); omega⟩
    show impl_GripState_stepsTo_loop2 t S (k : Int) s.1 s.2 = _
    unfold impl_GripState_stepsTo_loop2
    rw [cond_dt (by omega), grd_pos (by omega)]
    simp only [Int.toNat_natCast, eta4]
    rw [cond_df hz, someG hg]
    simp only [Option.bind_some]
    rw [loop3_eq S k hk (itsG (S.getD k d_GripState)) (itsG_length _) (fun x hx => (stp_near hg hx).2) s (by omega)]
    simp only [Option.bind_some]
    rw [w64_nat (by omega)]; rfl
  · intro k s hk hj hh
    have hz : (S.getD k d_GripState).2.1 = t := of_decide_eq_true hh
    show impl_GripState_stepsTo_loop2 t S (k : Int) s.1 s.2 = _
    unfold impl_GripState_stepsTo_loop2
    rw [cond_dt (by omega), grd_pos (by omega)]
    simp only [Int.toNat_natCast]
    rw [cond_dt hz]
  · intro s _
    show impl_GripState_stepsTo_loop2 t S (S.length : Int) s.1 s.2 = _
    unfold impl_GripState_stepsTo_loop2
    rw [cond_df (by omega)]; rfl
/-- A level of the search. -/
structure Lev (t : Int) (T n : Nat) (S : List GripState) : Prop where
  all : ∀ x ∈ S, Good x ∧ T ≤ n + DD t x
  one : ∃ x ∈ S, n + DD t x = T
theorem Lev.hit {t : Int} (ht : t = 0 ∨ t = 2) {T n : Nat} {S : List GripState} (h : Lev t T n S) (hn : n ≤ T) : S.any (fun x => decide (x.2.1 = t)) = decide (n = T) := by
  rw [Bool.eq_iff_iff, List.any_eq_true, decide_eq_true_eq]
  constructor
  · rintro ⟨x, hx, e⟩
    have e' : x.2.1 = t := of_decide_eq_true e
    have := (h.all x hx).2
    have := (DD_zero t ht x).2 e'
    omega
  · intro e
    obtain ⟨x, hx, e2⟩ := h.one
    exact ⟨x, hx, decide_eq_true ((DD_zero t ht x).1 (by omega))⟩
theorem pow_bd {n : Nat} (h : n ≤ 9) : 15 ^ n ≤ 38443359375 := by
  have := Nat.pow_le_pow_right (n := 15) (by omega) h
  omega
theorem search_eq (t : Int) (ht : t = 0 ∨ t = 2) (T : Nat) (hT : T ≤ 9) : ∀ (m n : Nat) (K S : List GripState), n + m = T → Lev t T n S → (∀ y ∈ K, T ≤ n + DD t y) → S.length ≤ 15 ^ n →
    iter (fun s => impl_GripState_stepsTo_loop1 t s.1 s.2.1 s.2.2) ((n : Int), K, S) = some (.inl (T : Int)) := by
  intro m
  induction m with
  | zero =>
    intro n K S hn h hK hl
    have hb := pow_bd (n := n) (by omega)
    have hpos : 0 < S.length := by obtain ⟨x, hx, _⟩ := h.one; exact List.length_pos_of_mem hx
    refine iter_out ?_
    show impl_GripState_stepsTo_loop1 t (n : Int) K S = _
    unfold impl_GripState_stepsTo_loop1
    rw [cond_dt (by omega), loop2_eq t S (fun x hx => (h.all x hx).1) (by omega) K, h.hit ht (by omega), decide_eq_true (show n = T by omega)]
    simp only [if_true, Option.bind_some, Sum.elim_inl]
    rw [show n = T by omega]
  | succ m ih =>
    intro n K S hn h hK hl
    have hb := pow_bd (n := n) (by omega)
    have hpos : 0 < S.length := by obtain ⟨x, hx, _⟩ := h.one; exact List.length_pos_of_mem hx
    obtain ⟨f1, f2, f3, f4⟩ := foldl_addX t T n S (K, []) ⟨fun y hy => (by cases hy), fun y hy => .inr (hK y hy)⟩ h.all
    have hgo : impl_GripState_stepsTo_loop1 t (n : Int) K S = some (.go (((n + 1 : Nat) : Int), (S.foldl addX (K, [])).1, (S.foldl addX (K, [])).2)) := by
      unfold impl_GripState_stepsTo_loop1
      rw [cond_dt (by omega), loop2_eq t S (fun x hx => (h.all x hx).1) (by omega) K, h.hit ht (by omega), decide_eq_false (show ¬ n = T by omega)]
      simp only [Bool.false_eq_true, if_false, Option.bind_some, Sum.elim_inr]
      rw [w64_nat (by omega)]
    rw [iter_go hgo]
    refine ih (n + 1) _ _ (by omega) ⟨f1.good, ?_⟩ (fun y hy => ?_) ?_
    · obtain ⟨x, hx, e⟩ := h.one
      have hz : x.2.1 ≠ t := fun e' => by have := (DD_zero t ht x).2 e'; omega
      obtain ⟨r, hr, e2⟩ := stp_lead (h.all x hx).1 t ht hz
      rcases f1.known r (f3 x hx r hr) with e3 | e3
      · exact ⟨r, e3, by omega⟩
      · omega
    · rcases f1.known y hy with e | e
      · exact (f1.good y e).2
      · omega
    · rw [Nat.pow_succ]
      simp only [List.length_nil] at f4; omega
theorem stepsTo_eq (t : Int) (ht : t = 0 ∨ t = 2) (g : GripState) (hg : Good g) : impl_GripState_stepsTo g t = some ((DD t g : Int), true) := by
  unfold impl_GripState_stepsTo
  have h := search_eq t ht (DD t g) (DD_le t g) (DD t g) 0 [g] [g] (by omega) ⟨fun x hx => by
    rw [List.mem_singleton.1 hx]; exact ⟨hg, by omega⟩, g, by simp, by omega⟩ (fun y hy => by rw [List.mem_singleton.1 hy]; omega) (by simp)
  show (iter (fun s => impl_GripState_stepsTo_loop1 t s.1 s.2.1 s.2.2) (((0 : Nat) : Int), [g], [g])).bind _ = _
  rw [h]
  rfl
end Go.Proofs.Ytaajchikfgbecaa
