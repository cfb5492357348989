/-
  Contracts, printed by a program.
-/
import Derived.Test.YtaajchikfgbecaaC732
namespace Go.Proofs.Ytaajchikfgbecaa
open Go.RowKit
attribute [local irreducible] Ob loopwp Sub Spec Fin Again CallW CutC KOb iter joinx outm

attribute [local irreducible] laws_szDayRow laws_szDayRowS laws_toDayRow laws_toDayRowS spec_l1In spec_l2Word spec_l26One spec_l26Good spec_OpenRuns impl_within impl_isDay impl_isWord impl_IsDayRow impl_AreDayRows

noncomputable def impl_OpenRuns_loop1 (a0 : (List DayRow)) (v5 : Int) (v6 : (List (List Int))) : Option (Lp (Int × (List (List Int))) (((List (List Int))))) :=
  (cond (decide (v5 < (a0.length : Int))) (grd (0 ≤ v5 ∧ v5 < (a0.length : Int)) (cond (decide (((a0.getD v5.toNat d_DayRow).2.2.2.1) = (0 : Int))) (some (.go ((w64 (v5 + (1 : Int))), v6))) (cond (decide ((0 : Int) ≤ (w64 ((v6.length : Int) - (1 : Int))))) (grd (0 ≤ (w64 ((v6.length : Int) - (1 : Int))) ∧ (w64 ((v6.length : Int) - (1 : Int))) < (v6.length : Int)) (grd (0 ≤ (1 : Int) ∧ (1 : Int) < ((v6.getD ((w64 ((v6.length : Int) - (1 : Int))).toNat) []).length : Int)) (cond (decide (((v6.getD ((w64 ((v6.length : Int) - (1 : Int))).toNat) []).getD ((1 : Int).toNat) 0) = (w64 (((a0.getD v5.toNat d_DayRow).1) - (1 : Int))))) (grd (0 ≤ (w64 ((v6.length : Int) - (1 : Int))) ∧ (w64 ((v6.length : Int) - (1 : Int))) < (v6.length : Int)) (grd (0 ≤ (1 : Int) ∧ (1 : Int) < ((v6.getD ((w64 ((v6.length : Int) - (1 : Int))).toNat) []).length : Int)) (some (.go ((w64 (v5 + (1 : Int))), (v6.set ((w64 ((v6.length : Int) - (1 : Int))).toNat) ((v6.getD ((w64 ((v6.length : Int) - (1 : Int))).toNat) []).set ((1 : Int).toNat) ((a0.getD v5.toNat d_DayRow).1)))))))) (grd (v6.length + [[(a0.getD v5.toNat d_DayRow).1, (a0.getD v5.toNat d_DayRow).1]].length ≤ 140737488355328 / 24 ∧ v6.length + [[(a0.getD v5.toNat d_DayRow).1, (a0.getD v5.toNat d_DayRow).1]].length ≤ 140737488355328) (some (.go ((w64 (v5 + (1 : Int))), (v6 ++ [[(a0.getD v5.toNat d_DayRow).1, (a0.getD v5.toNat d_DayRow).1]])))))))) (grd (v6.length + [[(a0.getD v5.toNat d_DayRow).1, (a0.getD v5.toNat d_DayRow).1]].length ≤ 140737488355328 / 24 ∧ v6.length + [[(a0.getD v5.toNat d_DayRow).1, (a0.getD v5.toNat d_DayRow).1]].length ≤ 140737488355328) (some (.go ((w64 (v5 + (1 : Int))), (v6 ++ [[(a0.getD v5.toNat d_DayRow).1, (a0.getD v5.toNat d_DayRow).1]])))))))) ((some (.out v6))))
noncomputable def impl_OpenRuns (a0 : (List DayRow)) : Option ((Unit) ⊕ ((List (List Int)))) :=
  ((impl_AreDayRows a0).bind fun y1 => (cond (!y1) ((some (Sum.inl ()))) ((iter (fun s => impl_OpenRuns_loop1 a0 s.1 s.2) ((0 : Int), ([] : List (List Int)))).bind (fun r7 => (some (Sum.inr r7))))))
def impl_OpenRuns.res (_ : (List DayRow)) (y : (Unit) ⊕ ((List (List Int)))) : AV := match y with
  | (.inl y) => (.tup [(.v (.slice none 0 0)), (.v (.bool false))])
  | (.inr y) => (.tup [(.own 0), (.v (.bool true))])
def impl_OpenRuns.out (_ : (List DayRow)) (y : (Unit) ⊕ ((List (List Int)))) : List (Option LB) := match y with
  | (.inl y) => []
  | (.inr y) => [some (.nst 42 3 (.int .i64) y)]
def impl_OpenRuns.S (ar : List AV) (h : List (Option LB)) (r : AV) (h1 : List (Option LB)) : Prop := ∃ a0 y, impl_OpenRuns a0 = some y ∧ leL ar [(.tree ty_DayRow a0)] ∧ leH h [] ∧ r = impl_OpenRuns.res a0 y ∧ h1 = impl_OpenRuns.out a0 y
theorem impl_OpenRuns.call {ar : List AV} {h : List (Option LB)} {a0 : (List DayRow)} {y : (Unit) ⊕ ((List (List Int)))} (H : impl_OpenRuns a0 = some y) (h0 : leLk ar [(.tree ty_DayRow a0)] (leHk h [])) : impl_OpenRuns.S ar h (impl_OpenRuns.res a0 y) (impl_OpenRuns.out a0 y) := ⟨a0, y, H, (args_ok h0).1, (args_ok h0).2, rfl, rfl⟩
set_option maxHeartbeats 100000000 in
set_option maxRecDepth 100000 in
theorem impl_OpenRuns.spec (a0 : (List DayRow)) (y : (Unit) ⊕ ((List (List Int)))) (H : impl_OpenRuns a0 = some y) : Spec Try.prog 10 [(.tree ty_DayRow a0)] [] (impl_OpenRuns.res a0 y) (impl_OpenRuns.out a0 y) := by
  have hlen : Nat.ble ([] : List (Option LB)).length (impl_OpenRuns.out a0 y).length = true := by
    rcases y with y | y <;> rfl
  refine spec_intro (G14_ok.at tok [11, 27]) (ct := [(11, some [4, 6, 7, 12, 13, 14, 33, 37, 38, 39, 40, 41, 42, 43, 44, 45, 46]), (13, some [4])]) Try.func10 rfl (by kernel_rfl) (by kernel_rfl) hlen ?_
  repeat' first
    | ((with_reducible refine eqg ?_); exact rfl)
    | ((with_reducible refine KOb.mk ?_); kernel_rfl)
    | ((with_reducible intro h); (repeat (first | replace H := grd_k H | replace H := out_step H (by assumption))); first | replace H := cond_t h H | replace H := cond_f h H | exact absurd h (by decide) | skip)
    | ((with_reducible refine Ob.mk ?_); first | (with_reducible rfl) | (first | ((repeat (first | (with_reducible exact grd_p H) | (replace H := grd_k H) | (replace H := out_step H (by assumption)))); done) | rfl | ((repeat (first | exact grd_p H | replace H := grd_k H | replace H := out_step H (by assumption))); done) | ((repeat (first | exact grd_p H | (have hp := grd_p H; exact hp) | replace H := grd_k H | replace H := out_step H (by assumption) | (replace H := bind_some H; obtain ⟨_, _, H⟩ := H))); done) | (repeat (first | exact grd_p H | replace H := grd_k H | replace H := out_step H (by assumption)))))
    | (with_reducible exact True.intro)
    | ((conv => whnf); first
        | (with_reducible refine And.intro ?_ ?_)
        | (with_reducible exact True.intro)
        | ((with_reducible refine Ob.mk ?_); first | (with_reducible rfl) | (first | ((repeat (first | (with_reducible exact grd_p H) | (replace H := grd_k H) | (replace H := out_step H (by assumption)))); done) | rfl | ((repeat (first | exact grd_p H | replace H := grd_k H | replace H := out_step H (by assumption))); done) | ((repeat (first | exact grd_p H | (have hp := grd_p H; exact hp) | replace H := grd_k H | replace H := out_step H (by assumption) | (replace H := bind_some H; obtain ⟨_, _, H⟩ := H))); done) | (repeat (first | exact grd_p H | replace H := grd_k H | replace H := out_step H (by assumption)))))
        | ((with_reducible refine CallW.mk ?_); (repeat (first | replace H := grd_k H | replace H := out_step H (by assumption))); replace H := bind_some H; obtain ⟨y, hy, H⟩ := H; first | ((with_reducible have hz : impl_AreDayRows _ = some y := hy); clear hz; refine Exists.intro _ (Exists.intro _ ⟨impl_AreDayRows.call hy ?_, rfl, rfl, ?_⟩)))
        | ((repeat (first | replace H := grd_k H | replace H := out_step H (by assumption))); refine loop_iter (G14_ok.at tok [11, 27]) (ct := [(11, some [4, 6, 7, 12, 13, 14, 33, 37, 38, 39, 40, 41, 42, 43, 44, 45, 46]), (13, some [4])]) (F := (fun s1 : Int × (List (List Int)) => ⟨sl [(4, (.own 0)), (12, (.tree ty_DayRow a0)), (13, (.v (.int .i64 (a0.length : Int)))), (14, (.v (.int .i64 s1.1)))], [some (.nst 42 3 (.int .i64) s1.2)]⟩)) (step := (fun s : Int × (List (List Int)) => impl_OpenRuns_loop1 _ s.1 s.2)) _ H (by kernel_rfl) (sub_auto ?_) ?_; rotate_left; (intro s1 r v hr H); rotate_right)
        | ((repeat (first | replace H := grd_k H | replace H := out_step H (by assumption))); refine again_step H (by assumption) (sub_auto ?_))
        | ((with_reducible refine fin_mk ?_); (repeat (first | replace H := grd_k H | replace H := out_step H (by assumption))); have H := Option.some.inj H; subst H))
    | constructor
def G15 : Env := G14.add 10 [] impl_OpenRuns.S
theorem G15_ok : EnvOk Try.prog G15 := G14_ok.add ent_10 fun ar h r h1 ⟨a0, y, hy, e1, e2, e3, e4⟩ => by
  subst e3 e4; exact (impl_OpenRuns.spec a0 y hy).le e1 e2
attribute [local irreducible] impl_OpenRuns

noncomputable def laws_eqIntS_loop1 (a0 : (List Int)) (a1 : (List Int)) (v2 : Int) : Option (Lp (Int) ((Unit) ⊕ (Unit))) :=
  (cond (decide (v2 < (a0.length : Int))) (grd (0 ≤ v2 ∧ v2 < (a0.length : Int)) (grd (0 ≤ v2 ∧ v2 < (a1.length : Int)) (cond (!decide ((a0.getD v2.toNat 0) = (a1.getD v2.toNat 0))) ((some (.out (Sum.inl ())))) (some (.go (w64 (v2 + (1 : Int)))))))) ((some (.out (Sum.inr ())))))
noncomputable def laws_eqIntS (a0 : (List Int)) (a1 : (List Int)) : Option (Bool) :=
  (cond (!decide ((a0.length : Int) = (a1.length : Int))) ((some false)) ((iter (fun s => laws_eqIntS_loop1 a0 a1 s) (0 : Int)).bind (Sum.elim (fun _ => (some false)) (fun _ => (some true)))))
def laws_eqIntS.res (_ : (List Int)) (_ : (List Int)) (y : Bool) : AV := (.bl y)
def laws_eqIntS.out (_ : (List Int)) (_ : (List Int)) (_ : Bool) : List (Option LB) := []
def laws_eqIntS.S (ar : List AV) (h : List (Option LB)) (r : AV) (h1 : List (Option LB)) : Prop := ∃ a0 a1 y, laws_eqIntS a0 a1 = some y ∧ leL ar [(.tree (.int .i64) a0), (.tree (.int .i64) a1)] ∧ leH h [] ∧ r = laws_eqIntS.res a0 a1 y ∧ h1 = laws_eqIntS.out a0 a1 y
theorem laws_eqIntS.call {ar : List AV} {h : List (Option LB)} {a0 : (List Int)} {a1 : (List Int)} {y : Bool} (H : laws_eqIntS a0 a1 = some y) (h0 : leLk ar [(.tree (.int .i64) a0), (.tree (.int .i64) a1)] (leHk h [])) : laws_eqIntS.S ar h (laws_eqIntS.res a0 a1 y) (laws_eqIntS.out a0 a1 y) := ⟨a0, a1, y, H, (args_ok h0).1, (args_ok h0).2, rfl, rfl⟩
set_option maxHeartbeats 100000000 in
set_option maxRecDepth 100000 in
theorem laws_eqIntS.spec (a0 : (List Int)) (a1 : (List Int)) (y : Bool) (H : laws_eqIntS a0 a1 = some y) : Spec Try.prog 40 [(.tree (.int .i64) a0), (.tree (.int .i64) a1)] [] (laws_eqIntS.res a0 a1 y) (laws_eqIntS.out a0 a1 y) := by
  refine spec_intro (G15_ok.at tok []) (ct := [(5, some [0, 1, 5])]) Try.func40 rfl (by kernel_rfl) (by kernel_rfl) rfl ?_
  repeat' first
    | ((with_reducible refine eqg ?_); exact rfl)
    | ((with_reducible refine KOb.mk ?_); kernel_rfl)
    | ((with_reducible intro h); (repeat (first | replace H := grd_k H | replace H := out_step H (by assumption))); first | replace H := cond_t h H | replace H := cond_f h H | exact absurd h (by decide) | skip)
    | ((with_reducible refine Ob.mk ?_); first | (with_reducible rfl) | (first | ((repeat (first | (with_reducible exact grd_p H) | (replace H := grd_k H) | (replace H := out_step H (by assumption)))); done) | rfl | ((repeat (first | exact grd_p H | replace H := grd_k H | replace H := out_step H (by assumption))); done) | ((repeat (first | exact grd_p H | (have hp := grd_p H; exact hp) | replace H := grd_k H | replace H := out_step H (by assumption) | (replace H := bind_some H; obtain ⟨_, _, H⟩ := H))); done) | (repeat (first | exact grd_p H | replace H := grd_k H | replace H := out_step H (by assumption)))))
    | (with_reducible exact True.intro)
    | ((conv => whnf); first
        | (with_reducible refine And.intro ?_ ?_)
        | (with_reducible exact True.intro)
        | ((with_reducible refine Ob.mk ?_); first | (with_reducible rfl) | (first | ((repeat (first | (with_reducible exact grd_p H) | (replace H := grd_k H) | (replace H := out_step H (by assumption)))); done) | rfl | ((repeat (first | exact grd_p H | replace H := grd_k H | replace H := out_step H (by assumption))); done) | ((repeat (first | exact grd_p H | (have hp := grd_p H; exact hp) | replace H := grd_k H | replace H := out_step H (by assumption) | (replace H := bind_some H; obtain ⟨_, _, H⟩ := H))); done) | (repeat (first | exact grd_p H | replace H := grd_k H | replace H := out_step H (by assumption)))))
        | ((repeat (first | replace H := grd_k H | replace H := out_step H (by assumption))); refine loop_iter (G15_ok.at tok []) (ct := [(5, some [0, 1, 5])]) (F := (fun s1 : Int => ⟨sl [(0, (.tree (.int .i64) a0)), (1, (.tree (.int .i64) a1)), (5, (.v (.int .i64 s1)))], []⟩)) (step := (fun s : Int => laws_eqIntS_loop1 _ _ s)) _ H (by kernel_rfl) (sub_auto ?_) ?_; rotate_left; (intro s1 r v hr H); rotate_right)
        | ((repeat (first | replace H := grd_k H | replace H := out_step H (by assumption))); refine again_step H (by assumption) (sub_auto ?_))
        | ((with_reducible refine fin_mk ?_); (repeat (first | replace H := grd_k H | replace H := out_step H (by assumption))); have H := Option.some.inj H; subst H))
    | constructor
def G16 : Env := G15.add 40 [] laws_eqIntS.S
theorem G16_ok : EnvOk Try.prog G16 := G15_ok.add ent_40 fun ar h r h1 ⟨a0, a1, y, hy, e1, e2, e3, e4⟩ => by
  subst e3 e4; exact (laws_eqIntS.spec a0 a1 y hy).le e1 e2
attribute [local irreducible] laws_eqIntS

noncomputable def laws_eqIntSS_loop1 (a0 : (List (List Int))) (a1 : (List (List Int))) (v4 : Int) : Option (Lp (Int) ((Unit) ⊕ (Unit))) :=
  (cond (decide (v4 < (a0.length : Int))) (grd (0 ≤ v4 ∧ v4 < (a0.length : Int)) (grd (0 ≤ v4 ∧ v4 < (a1.length : Int)) ((laws_eqIntS (a0.getD v4.toNat []) (a1.getD v4.toNat [])).bind fun y5 => (cond (!y5) ((some (.out (Sum.inl ())))) (some (.go (w64 (v4 + (1 : Int))))))))) ((some (.out (Sum.inr ())))))
noncomputable def laws_eqIntSS (a0 : (List (List Int))) (a1 : (List (List Int))) : Option (Bool) :=
  (cond (!decide ((a0.length : Int) = (a1.length : Int))) ((some false)) ((iter (fun s => laws_eqIntSS_loop1 a0 a1 s) (0 : Int)).bind (Sum.elim (fun _ => (some false)) (fun _ => (some true)))))
def laws_eqIntSS.res (_ : (List (List Int))) (_ : (List (List Int))) (y : Bool) : AV := (.bl y)
def laws_eqIntSS.out (_ : (List (List Int))) (_ : (List (List Int))) (_ : Bool) : List (Option LB) := []
def laws_eqIntSS.S (ar : List AV) (h : List (Option LB)) (r : AV) (h1 : List (Option LB)) : Prop := ∃ a0 a1 y, laws_eqIntSS a0 a1 = some y ∧ leL ar [(.tree (.sl (.int .i64)) a0), (.tree (.sl (.int .i64)) a1)] ∧ leH h [] ∧ r = laws_eqIntSS.res a0 a1 y ∧ h1 = laws_eqIntSS.out a0 a1 y
theorem laws_eqIntSS.call {ar : List AV} {h : List (Option LB)} {a0 : (List (List Int))} {a1 : (List (List Int))} {y : Bool} (H : laws_eqIntSS a0 a1 = some y) (h0 : leLk ar [(.tree (.sl (.int .i64)) a0), (.tree (.sl (.int .i64)) a1)] (leHk h [])) : laws_eqIntSS.S ar h (laws_eqIntSS.res a0 a1 y) (laws_eqIntSS.out a0 a1 y) := ⟨a0, a1, y, H, (args_ok h0).1, (args_ok h0).2, rfl, rfl⟩
set_option maxHeartbeats 100000000 in
set_option maxRecDepth 100000 in
theorem laws_eqIntSS.spec (a0 : (List (List Int))) (a1 : (List (List Int))) (y : Bool) (H : laws_eqIntSS a0 a1 = some y) : Spec Try.prog 11 [(.tree (.sl (.int .i64)) a0), (.tree (.sl (.int .i64)) a1)] [] (laws_eqIntSS.res a0 a1 y) (laws_eqIntSS.out a0 a1 y) := by
  refine spec_intro (G16_ok.at tok []) (ct := [(7, some [0, 1, 5, 26])]) Try.func11 rfl (by kernel_rfl) (by kernel_rfl) rfl ?_
  repeat' first
    | ((with_reducible refine eqg ?_); exact rfl)
    | ((with_reducible refine KOb.mk ?_); kernel_rfl)
    | ((with_reducible intro h); (repeat (first | replace H := grd_k H | replace H := out_step H (by assumption))); first | replace H := cond_t h H | replace H := cond_f h H | exact absurd h (by decide) | skip)
    | ((with_reducible refine Ob.mk ?_); first | (with_reducible rfl) | (first | ((repeat (first | (with_reducible exact grd_p H) | (replace H := grd_k H) | (replace H := out_step H (by assumption)))); done) | rfl | ((repeat (first | exact grd_p H | replace H := grd_k H | replace H := out_step H (by assumption))); done) | ((repeat (first | exact grd_p H | (have hp := grd_p H; exact hp) | replace H := grd_k H | replace H := out_step H (by assumption) | (replace H := bind_some H; obtain ⟨_, _, H⟩ := H))); done) | (repeat (first | exact grd_p H | replace H := grd_k H | replace H := out_step H (by assumption)))))
    | (with_reducible exact True.intro)
    | ((conv => whnf); first
        | (with_reducible refine And.intro ?_ ?_)
        | (with_reducible exact True.intro)
        | ((with_reducible refine Ob.mk ?_); first | (with_reducible rfl) | (first | ((repeat (first | (with_reducible exact grd_p H) | (replace H := grd_k H) | (replace H := out_step H (by assumption)))); done) | rfl | ((repeat (first | exact grd_p H | replace H := grd_k H | replace H := out_step H (by assumption))); done) | ((repeat (first | exact grd_p H | (have hp := grd_p H; exact hp) | replace H := grd_k H | replace H := out_step H (by assumption) | (replace H := bind_some H; obtain ⟨_, _, H⟩ := H))); done) | (repeat (first | exact grd_p H | replace H := grd_k H | replace H := out_step H (by assumption)))))
        | ((with_reducible refine CallW.mk ?_); (repeat (first | replace H := grd_k H | replace H := out_step H (by assumption))); replace H := bind_some H; obtain ⟨y, hy, H⟩ := H; first | ((with_reducible have hz : laws_eqIntS _ _ = some y := hy); clear hz; refine Exists.intro _ (Exists.intro _ ⟨laws_eqIntS.call hy ?_, rfl, rfl, ?_⟩)))
        | ((repeat (first | replace H := grd_k H | replace H := out_step H (by assumption))); refine loop_iter (G16_ok.at tok []) (ct := [(7, some [0, 1, 5, 26])]) (F := (fun s1 : Int => ⟨sl [(0, (.tree (.sl (.int .i64)) a0)), (1, (.tree (.sl (.int .i64)) a1)), (5, (.v (.int .i64 s1)))], []⟩)) (step := (fun s : Int => laws_eqIntSS_loop1 _ _ s)) _ H (by kernel_rfl) (sub_auto ?_) ?_; rotate_left; (intro s1 r v hr H); rotate_right)
        | ((repeat (first | replace H := grd_k H | replace H := out_step H (by assumption))); refine again_step H (by assumption) (sub_auto ?_))
        | ((with_reducible refine fin_mk ?_); (repeat (first | replace H := grd_k H | replace H := out_step H (by assumption))); have H := Option.some.inj H; subst H))
    | constructor
def G17 : Env := G16.add 11 [] laws_eqIntSS.S
theorem G17_ok : EnvOk Try.prog G17 := G16_ok.add ent_11 fun ar h r h1 ⟨a0, a1, y, hy, e1, e2, e3, e4⟩ => by
  subst e3 e4; exact (laws_eqIntSS.spec a0 a1 y hy).le e1 e2
attribute [local irreducible] laws_eqIntSS

noncomputable def laws_eqDayRow (a0 : DayRow) (a1 : DayRow) : Option (Bool) :=
  (cond (!decide (a0.1 = a1.1)) ((some false)) (cond (!decide (a0.2.1 = a1.2.1)) ((some false)) (cond (!decide (a0.2.2.1 = a1.2.2.1)) ((some false)) (cond (!decide (a0.2.2.2.1 = a1.2.2.2.1)) ((some false)) (cond (!decide (a0.2.2.2.2.1 = a1.2.2.2.2.1)) ((some false)) (cond (!decide (a0.2.2.2.2.2.1 = a1.2.2.2.2.2.1)) ((some false)) ((some true))))))))
def laws_eqDayRow.res (_ : DayRow) (_ : DayRow) (y : Bool) : AV := (.bl y)
def laws_eqDayRow.out (_ : DayRow) (_ : DayRow) (_ : Bool) : List (Option LB) := []
def laws_eqDayRow.S (ar : List AV) (h : List (Option LB)) (r : AV) (h1 : List (Option LB)) : Prop := ∃ a0 a1 y, laws_eqDayRow a0 a1 = some y ∧ leL ar [(.agg [(.v (.int .i64 a0.1)), (.v (.int .i64 a0.2.1)), (.v (.int .i64 a0.2.2.1)), (.v (.int .i64 a0.2.2.2.1)), (.v (.int .i64 a0.2.2.2.2.1)), (.v (.string a0.2.2.2.2.2.1))]), (.agg [(.v (.int .i64 a1.1)), (.v (.int .i64 a1.2.1)), (.v (.int .i64 a1.2.2.1)), (.v (.int .i64 a1.2.2.2.1)), (.v (.int .i64 a1.2.2.2.2.1)), (.v (.string a1.2.2.2.2.2.1))])] ∧ leH h [] ∧ r = laws_eqDayRow.res a0 a1 y ∧ h1 = laws_eqDayRow.out a0 a1 y
theorem laws_eqDayRow.call {ar : List AV} {h : List (Option LB)} {a0 : DayRow} {a1 : DayRow} {y : Bool} (H : laws_eqDayRow a0 a1 = some y) (h0 : leLk ar [(.agg [(.v (.int .i64 a0.1)), (.v (.int .i64 a0.2.1)), (.v (.int .i64 a0.2.2.1)), (.v (.int .i64 a0.2.2.2.1)), (.v (.int .i64 a0.2.2.2.2.1)), (.v (.string a0.2.2.2.2.2.1))]), (.agg [(.v (.int .i64 a1.1)), (.v (.int .i64 a1.2.1)), (.v (.int .i64 a1.2.2.1)), (.v (.int .i64 a1.2.2.2.1)), (.v (.int .i64 a1.2.2.2.2.1)), (.v (.string a1.2.2.2.2.2.1))])] (leHk h [])) : laws_eqDayRow.S ar h (laws_eqDayRow.res a0 a1 y) (laws_eqDayRow.out a0 a1 y) := ⟨a0, a1, y, H, (args_ok h0).1, (args_ok h0).2, rfl, rfl⟩
set_option maxHeartbeats 100000000 in
set_option maxRecDepth 100000 in
theorem laws_eqDayRow.spec (a0 : DayRow) (a1 : DayRow) (y : Bool) (H : laws_eqDayRow a0 a1 = some y) : Spec Try.prog 41 [(.agg [(.v (.int .i64 a0.1)), (.v (.int .i64 a0.2.1)), (.v (.int .i64 a0.2.2.1)), (.v (.int .i64 a0.2.2.2.1)), (.v (.int .i64 a0.2.2.2.2.1)), (.v (.string a0.2.2.2.2.2.1))]), (.agg [(.v (.int .i64 a1.1)), (.v (.int .i64 a1.2.1)), (.v (.int .i64 a1.2.2.1)), (.v (.int .i64 a1.2.2.2.1)), (.v (.int .i64 a1.2.2.2.2.1)), (.v (.string a1.2.2.2.2.2.1))])] [] (laws_eqDayRow.res a0 a1 y) (laws_eqDayRow.out a0 a1 y) := by
  refine spec_intro (G17_ok.at tok []) (ct := [(4, some [2, 3, 14]), (10, some [2, 3, 29])]) Try.func41 rfl (by kernel_rfl) (by kernel_rfl) rfl ?_
  repeat' first
    | ((with_reducible refine eqg ?_); exact rfl)
    | ((with_reducible refine KOb.mk ?_); kernel_rfl)
    | ((with_reducible intro h); (repeat (first | replace H := grd_k H | replace H := out_step H (by assumption))); first | replace H := cond_t h H | replace H := cond_f h H | exact absurd h (by decide) | skip)
    | ((with_reducible refine Ob.mk ?_); first | (with_reducible rfl) | (first | ((repeat (first | (with_reducible exact grd_p H) | (replace H := grd_k H) | (replace H := out_step H (by assumption)))); done) | rfl | ((repeat (first | exact grd_p H | replace H := grd_k H | replace H := out_step H (by assumption))); done) | ((repeat (first | exact grd_p H | (have hp := grd_p H; exact hp) | replace H := grd_k H | replace H := out_step H (by assumption) | (replace H := bind_some H; obtain ⟨_, _, H⟩ := H))); done) | (repeat (first | exact grd_p H | replace H := grd_k H | replace H := out_step H (by assumption)))))
    | (with_reducible exact True.intro)
    | ((conv => whnf); first
        | (with_reducible refine And.intro ?_ ?_)
        | (with_reducible exact True.intro)
        | ((with_reducible refine Ob.mk ?_); first | (with_reducible rfl) | (first | ((repeat (first | (with_reducible exact grd_p H) | (replace H := grd_k H) | (replace H := out_step H (by assumption)))); done) | rfl | ((repeat (first | exact grd_p H | replace H := grd_k H | replace H := out_step H (by assumption))); done) | ((repeat (first | exact grd_p H | (have hp := grd_p H; exact hp) | replace H := grd_k H | replace H := out_step H (by assumption) | (replace H := bind_some H; obtain ⟨_, _, H⟩ := H))); done) | (repeat (first | exact grd_p H | replace H := grd_k H | replace H := out_step H (by assumption)))))
        | ((with_reducible refine fin_mk ?_); (repeat (first | replace H := grd_k H | replace H := out_step H (by assumption))); have H := Option.some.inj H; subst H))
    | constructor
def G18 : Env := G17.add 41 [] laws_eqDayRow.S
theorem G18_ok : EnvOk Try.prog G18 := G17_ok.add ent_41 fun ar h r h1 ⟨a0, a1, y, hy, e1, e2, e3, e4⟩ => by
  subst e3 e4; exact (laws_eqDayRow.spec a0 a1 y hy).le e1 e2
attribute [local irreducible] laws_eqDayRow

noncomputable def laws_eqDayRowS_loop1 (a0 : (List DayRow)) (a1 : (List DayRow)) (v4 : Int) : Option (Lp (Int) ((Unit) ⊕ (Unit))) :=
  (cond (decide (v4 < (a0.length : Int))) (grd (0 ≤ v4 ∧ v4 < (a0.length : Int)) (grd (0 ≤ v4 ∧ v4 < (a1.length : Int)) ((laws_eqDayRow ((a0.getD v4.toNat d_DayRow).1, (a0.getD v4.toNat d_DayRow).2.1, (a0.getD v4.toNat d_DayRow).2.2.1, (a0.getD v4.toNat d_DayRow).2.2.2.1, (a0.getD v4.toNat d_DayRow).2.2.2.2.1, (a0.getD v4.toNat d_DayRow).2.2.2.2.2.1, ()) ((a1.getD v4.toNat d_DayRow).1, (a1.getD v4.toNat d_DayRow).2.1, (a1.getD v4.toNat d_DayRow).2.2.1, (a1.getD v4.toNat d_DayRow).2.2.2.1, (a1.getD v4.toNat d_DayRow).2.2.2.2.1, (a1.getD v4.toNat d_DayRow).2.2.2.2.2.1, ())).bind fun y5 => (cond (!y5) ((some (.out (Sum.inl ())))) (some (.go (w64 (v4 + (1 : Int))))))))) ((some (.out (Sum.inr ())))))
noncomputable def laws_eqDayRowS (a0 : (List DayRow)) (a1 : (List DayRow)) : Option (Bool) :=
  (cond (!decide ((a0.length : Int) = (a1.length : Int))) ((some false)) ((iter (fun s => laws_eqDayRowS_loop1 a0 a1 s) (0 : Int)).bind (Sum.elim (fun _ => (some false)) (fun _ => (some true)))))
def laws_eqDayRowS.res (_ : (List DayRow)) (_ : (List DayRow)) (y : Bool) : AV := (.bl y)
def laws_eqDayRowS.out (_ : (List DayRow)) (_ : (List DayRow)) (_ : Bool) : List (Option LB) := []
def laws_eqDayRowS.S (ar : List AV) (h : List (Option LB)) (r : AV) (h1 : List (Option LB)) : Prop := ∃ a0 a1 y, laws_eqDayRowS a0 a1 = some y ∧ leL ar [(.tree ty_DayRow a0), (.tree ty_DayRow a1)] ∧ leH h [] ∧ r = laws_eqDayRowS.res a0 a1 y ∧ h1 = laws_eqDayRowS.out a0 a1 y
theorem laws_eqDayRowS.call {ar : List AV} {h : List (Option LB)} {a0 : (List DayRow)} {a1 : (List DayRow)} {y : Bool} (H : laws_eqDayRowS a0 a1 = some y) (h0 : leLk ar [(.tree ty_DayRow a0), (.tree ty_DayRow a1)] (leHk h [])) : laws_eqDayRowS.S ar h (laws_eqDayRowS.res a0 a1 y) (laws_eqDayRowS.out a0 a1 y) := ⟨a0, a1, y, H, (args_ok h0).1, (args_ok h0).2, rfl, rfl⟩
set_option maxHeartbeats 100000000 in
set_option maxRecDepth 100000 in
theorem laws_eqDayRowS.spec (a0 : (List DayRow)) (a1 : (List DayRow)) (y : Bool) (H : laws_eqDayRowS a0 a1 = some y) : Spec Try.prog 12 [(.tree ty_DayRow a0), (.tree ty_DayRow a1)] [] (laws_eqDayRowS.res a0 a1 y) (laws_eqDayRowS.out a0 a1 y) := by
  refine spec_intro (G18_ok.at tok []) (ct := [(7, some [0, 1, 5, 26])]) Try.func12 rfl (by kernel_rfl) (by kernel_rfl) rfl ?_
  repeat' first
    | ((with_reducible refine eqg ?_); exact rfl)
    | ((with_reducible refine KOb.mk ?_); kernel_rfl)
    | ((with_reducible intro h); (repeat (first | replace H := grd_k H | replace H := out_step H (by assumption))); first | replace H := cond_t h H | replace H := cond_f h H | exact absurd h (by decide) | skip)
    | ((with_reducible refine Ob.mk ?_); first | (with_reducible rfl) | (first | ((repeat (first | (with_reducible exact grd_p H) | (replace H := grd_k H) | (replace H := out_step H (by assumption)))); done) | rfl | ((repeat (first | exact grd_p H | replace H := grd_k H | replace H := out_step H (by assumption))); done) | ((repeat (first | exact grd_p H | (have hp := grd_p H; exact hp) | replace H := grd_k H | replace H := out_step H (by assumption) | (replace H := bind_some H; obtain ⟨_, _, H⟩ := H))); done) | (repeat (first | exact grd_p H | replace H := grd_k H | replace H := out_step H (by assumption)))))
    | (with_reducible exact True.intro)
    | ((conv => whnf); first
        | (with_reducible refine And.intro ?_ ?_)
        | (with_reducible exact True.intro)
        | ((with_reducible refine Ob.mk ?_); first | (with_reducible rfl) | (first | ((repeat (first | (with_reducible exact grd_p H) | (replace H := grd_k H) | (replace H := out_step H (by assumption)))); done) | rfl | ((repeat (first | exact grd_p H | replace H := grd_k H | replace H := out_step H (by assumption))); done) | ((repeat (first | exact grd_p H | (have hp := grd_p H; exact hp) | replace H := grd_k H | replace H := out_step H (by assumption) | (replace H := bind_some H; obtain ⟨_, _, H⟩ := H))); done) | (repeat (first | exact grd_p H | replace H := grd_k H | replace H := out_step H (by assumption)))))
        | ((with_reducible refine CallW.mk ?_); (repeat (first | replace H := grd_k H | replace H := out_step H (by assumption))); replace H := bind_some H; obtain ⟨y, hy, H⟩ := H; first | ((with_reducible have hz : laws_eqDayRow _ _ = some y := hy); clear hz; refine Exists.intro _ (Exists.intro _ ⟨laws_eqDayRow.call hy ?_, rfl, rfl, ?_⟩)))
        | ((repeat (first | replace H := grd_k H | replace H := out_step H (by assumption))); refine loop_iter (G18_ok.at tok []) (ct := [(7, some [0, 1, 5, 26])]) (F := (fun s1 : Int => ⟨sl [(0, (.tree ty_DayRow a0)), (1, (.tree ty_DayRow a1)), (5, (.v (.int .i64 s1)))], []⟩)) (step := (fun s : Int => laws_eqDayRowS_loop1 _ _ s)) _ H (by kernel_rfl) (sub_auto ?_) ?_; rotate_left; (intro s1 r v hr H); rotate_right)
        | ((repeat (first | replace H := grd_k H | replace H := out_step H (by assumption))); refine again_step H (by assumption) (sub_auto ?_))
        | ((with_reducible refine fin_mk ?_); (repeat (first | replace H := grd_k H | replace H := out_step H (by assumption))); have H := Option.some.inj H; subst H))
    | constructor
def G19 : Env := G18.add 12 [] laws_eqDayRowS.S
theorem G19_ok : EnvOk Try.prog G19 := G18_ok.add ent_12 fun ar h r h1 ⟨a0, a1, y, hy, e1, e2, e3, e4⟩ => by
  subst e3 e4; exact (laws_eqDayRowS.spec a0 a1 y hy).le e1 e2
attribute [local irreducible] laws_eqDayRowS

noncomputable def laws_markText_loop1  (v3 : Int) (v4 : ByteArray) : Option (Lp (Int × ByteArray) ((ByteArray))) :=
  (cond (decide ((0 : Int) < v3)) (grd ((10 : Int) ≠ 0) (grd ((strOfN [(wu8 (w64 ((48 : Int) + (Int.tmod v3 (10 : Int)))))]).size + v4.size ≤ 9223372036854775807) (grd ((10 : Int) ≠ 0) (some (.go ((w64 (Int.tdiv v3 (10 : Int))), ((strOfN [(wu8 (w64 ((48 : Int) + (Int.tmod v3 (10 : Int)))))]) ++ v4))))))) ((some (.out v4))))
noncomputable def laws_markText (a0 : Int) : Option (ByteArray) :=
  (cond (decide (a0 ≤ (0 : Int))) ((some (ByteArray.mk #[109, 48]))) ((iter (fun s => laws_markText_loop1 s.1 s.2) (a0, (ByteArray.mk #[]))).bind (fun r5 => (grd ((ByteArray.mk #[109]).size + r5.size ≤ 9223372036854775807) ((some ((ByteArray.mk #[109]) ++ r5)))))))
def laws_markText.res (_ : Int) (y : ByteArray) : AV := (.v (.string y))
def laws_markText.out (_ : Int) (_ : ByteArray) : List (Option LB) := []
def laws_markText.S (ar : List AV) (h : List (Option LB)) (r : AV) (h1 : List (Option LB)) : Prop := ∃ a0 y, laws_markText a0 = some y ∧ leL ar [(.v (.int .i64 a0))] ∧ leH h [] ∧ r = laws_markText.res a0 y ∧ h1 = laws_markText.out a0 y
theorem laws_markText.call {ar : List AV} {h : List (Option LB)} {a0 : Int} {y : ByteArray} (H : laws_markText a0 = some y) (h0 : leLk ar [(.v (.int .i64 a0))] (leHk h [])) : laws_markText.S ar h (laws_markText.res a0 y) (laws_markText.out a0 y) := ⟨a0, y, H, (args_ok h0).1, (args_ok h0).2, rfl, rfl⟩
set_option maxHeartbeats 100000000 in
set_option maxRecDepth 100000 in
theorem laws_markText.spec (a0 : Int) (y : ByteArray) (H : laws_markText a0 = some y) : Spec Try.prog 42 [(.v (.int .i64 a0))] [] (laws_markText.res a0 y) (laws_markText.out a0 y) := by
  refine spec_intro (G19_ok.at tok []) (ct := []) Try.func42 rfl (by kernel_rfl) (by kernel_rfl) rfl ?_
  repeat' first
    | ((with_reducible refine eqg ?_); exact rfl)
    | ((with_reducible refine KOb.mk ?_); kernel_rfl)
    | ((with_reducible intro h); (repeat (first | replace H := grd_k H | replace H := out_step H (by assumption))); first | replace H := cond_t h H | replace H := cond_f h H | exact absurd h (by decide) | skip)
    | ((with_reducible refine Ob.mk ?_); first | (with_reducible rfl) | (first | ((repeat (first | (with_reducible exact grd_p H) | (replace H := grd_k H) | (replace H := out_step H (by assumption)))); done) | rfl | ((repeat (first | exact grd_p H | replace H := grd_k H | replace H := out_step H (by assumption))); done) | ((repeat (first | exact grd_p H | (have hp := grd_p H; exact hp) | replace H := grd_k H | replace H := out_step H (by assumption) | (replace H := bind_some H; obtain ⟨_, _, H⟩ := H))); done) | (repeat (first | exact grd_p H | replace H := grd_k H | replace H := out_step H (by assumption)))))
    | (with_reducible exact True.intro)
    | ((conv => whnf); first
        | (with_reducible refine And.intro ?_ ?_)
        | (with_reducible exact True.intro)
        | ((with_reducible refine Ob.mk ?_); first | (with_reducible rfl) | (first | ((repeat (first | (with_reducible exact grd_p H) | (replace H := grd_k H) | (replace H := out_step H (by assumption)))); done) | rfl | ((repeat (first | exact grd_p H | replace H := grd_k H | replace H := out_step H (by assumption))); done) | ((repeat (first | exact grd_p H | (have hp := grd_p H; exact hp) | replace H := grd_k H | replace H := out_step H (by assumption) | (replace H := bind_some H; obtain ⟨_, _, H⟩ := H))); done) | (repeat (first | exact grd_p H | replace H := grd_k H | replace H := out_step H (by assumption)))))
        | ((repeat (first | replace H := grd_k H | replace H := out_step H (by assumption))); refine loop_iter (G19_ok.at tok []) (ct := []) (F := (fun s1 : Int × ByteArray => ⟨sl [(0, (.v (.int .i64 s1.1))), (3, (.v (.string s1.2)))], []⟩)) (step := (fun s : Int × ByteArray => laws_markText_loop1 s.1 s.2)) _ H (by kernel_rfl) (sub_auto ?_) ?_; rotate_left; (intro s1 r v hr H); rotate_right)
        | ((repeat (first | replace H := grd_k H | replace H := out_step H (by assumption))); refine again_step H (by assumption) (sub_auto ?_))
        | ((with_reducible refine fin_mk ?_); (repeat (first | replace H := grd_k H | replace H := out_step H (by assumption))); have H := Option.some.inj H; subst H))
    | constructor
def G20 : Env := G19.add 42 [] laws_markText.S
theorem G20_ok : EnvOk Try.prog G20 := G19_ok.add ent_42 fun ar h r h1 ⟨a0, y, hy, e1, e2, e3, e4⟩ => by
  subst e3 e4; exact (laws_markText.spec a0 y hy).le e1 e2
attribute [local irreducible] laws_markText

noncomputable def laws_markDayRowS_loop1  (v18 : Int) (v19 : Int) (v20 : (List DayRow)) : Option (Lp (Int × Int × (List DayRow)) ((Int × (List DayRow)))) :=
  (cond (decide (v19 < (v20.length : Int))) ((grd (0 ≤ v19 ∧ v19 < (v20.length : Int)) ((some ((Tg.mk : Tg 13), (v20.set v19.toNat (v18, (v20.getD v19.toNat d_DayRow).2.1, (v20.getD v19.toNat d_DayRow).2.2.1, (v20.getD v19.toNat d_DayRow).2.2.2.1, (v20.getD v19.toNat d_DayRow).2.2.2.2.1, (v20.getD v19.toNat d_DayRow).2.2.2.2.2.1, ())))))).bind fun z21 => ((grd (0 ≤ v19 ∧ v19 < (z21.2.length : Int)) ((some ((Tg.mk : Tg 14), (z21.2.set v19.toNat ((z21.2.getD v19.toNat d_DayRow).1, (w64 (v18 + (1 : Int))), (z21.2.getD v19.toNat d_DayRow).2.2.1, (z21.2.getD v19.toNat d_DayRow).2.2.2.1, (z21.2.getD v19.toNat d_DayRow).2.2.2.2.1, (z21.2.getD v19.toNat d_DayRow).2.2.2.2.2.1, ())))))).bind fun z22 => ((grd (0 ≤ v19 ∧ v19 < (z22.2.length : Int)) ((some ((Tg.mk : Tg 15), (z22.2.set v19.toNat ((z22.2.getD v19.toNat d_DayRow).1, (z22.2.getD v19.toNat d_DayRow).2.1, (w64 ((w64 (v18 + (1 : Int))) + (1 : Int))), (z22.2.getD v19.toNat d_DayRow).2.2.2.1, (z22.2.getD v19.toNat d_DayRow).2.2.2.2.1, (z22.2.getD v19.toNat d_DayRow).2.2.2.2.2.1, ())))))).bind fun z23 => ((grd (0 ≤ v19 ∧ v19 < (z23.2.length : Int)) ((some ((Tg.mk : Tg 16), (z23.2.set v19.toNat ((z23.2.getD v19.toNat d_DayRow).1, (z23.2.getD v19.toNat d_DayRow).2.1, (z23.2.getD v19.toNat d_DayRow).2.2.1, (w64 ((w64 ((w64 (v18 + (1 : Int))) + (1 : Int))) + (1 : Int))), (z23.2.getD v19.toNat d_DayRow).2.2.2.2.1, (z23.2.getD v19.toNat d_DayRow).2.2.2.2.2.1, ())))))).bind fun z24 => ((grd (0 ≤ v19 ∧ v19 < (z24.2.length : Int)) ((some ((Tg.mk : Tg 17), (z24.2.set v19.toNat ((z24.2.getD v19.toNat d_DayRow).1, (z24.2.getD v19.toNat d_DayRow).2.1, (z24.2.getD v19.toNat d_DayRow).2.2.1, (z24.2.getD v19.toNat d_DayRow).2.2.2.1, (w64 ((w64 ((w64 ((w64 (v18 + (1 : Int))) + (1 : Int))) + (1 : Int))) + (1 : Int))), (z24.2.getD v19.toNat d_DayRow).2.2.2.2.2.1, ())))))).bind fun z25 => (((laws_markText (w64 ((w64 ((w64 ((w64 ((w64 (v18 + (1 : Int))) + (1 : Int))) + (1 : Int))) + (1 : Int))) + (1 : Int)))).bind fun y26 => (grd (0 ≤ v19 ∧ v19 < (z25.2.length : Int)) ((some ((Tg.mk : Tg 18), (z25.2.set v19.toNat ((z25.2.getD v19.toNat d_DayRow).1, (z25.2.getD v19.toNat d_DayRow).2.1, (z25.2.getD v19.toNat d_DayRow).2.2.1, (z25.2.getD v19.toNat d_DayRow).2.2.2.1, (z25.2.getD v19.toNat d_DayRow).2.2.2.2.1, y26, ()))))))).bind fun z27 => (some (.go ((w64 ((w64 ((w64 ((w64 ((w64 ((w64 (v18 + (1 : Int))) + (1 : Int))) + (1 : Int))) + (1 : Int))) + (1 : Int))) + (1 : Int))), (w64 (v19 + (1 : Int))), z27.2))))))))) ((some (.out (v18, v20)))))
noncomputable def laws_markDayRowS (a0 : (List DayRow)) (a1 : Int) : Option (Int × (List DayRow)) :=
  ((iter (fun s => laws_markDayRowS_loop1 s.1 s.2.1 s.2.2) (a1, (0 : Int), a0)).bind (fun r28 => (some (r28.1, r28.2))))
def laws_markDayRowS.res (_ : (List DayRow)) (_ : Int) (y : Int × (List DayRow)) : AV := (.v (.int .i64 y.1))
def laws_markDayRowS.out (_ : (List DayRow)) (_ : Int) (y : Int × (List DayRow)) : List (Option LB) := [some (.arr 65 ty_DayRow y.2)]
def laws_markDayRowS.S (ar : List AV) (h : List (Option LB)) (r : AV) (h1 : List (Option LB)) : Prop := ∃ a0 a1 y, laws_markDayRowS a0 a1 = some y ∧ leL ar [(.own 0), (.v (.int .i64 a1))] ∧ leH h [some (.arr 65 ty_DayRow a0)] ∧ r = laws_markDayRowS.res a0 a1 y ∧ h1 = laws_markDayRowS.out a0 a1 y
theorem laws_markDayRowS.call {ar : List AV} {h : List (Option LB)} {a0 : (List DayRow)} {a1 : Int} {y : Int × (List DayRow)} (H : laws_markDayRowS a0 a1 = some y) (h0 : leLk ar [(.own 0), (.v (.int .i64 a1))] (leHk h [some (.arr 65 ty_DayRow a0)])) : laws_markDayRowS.S ar h (laws_markDayRowS.res a0 a1 y) (laws_markDayRowS.out a0 a1 y) := ⟨a0, a1, y, H, (args_ok h0).1, (args_ok h0).2, rfl, rfl⟩
set_option maxHeartbeats 100000000 in
set_option maxRecDepth 100000 in
theorem laws_markDayRowS.spec (a0 : (List DayRow)) (a1 : Int) (y : Int × (List DayRow)) (H : laws_markDayRowS a0 a1 = some y) : Spec Try.prog 13 [(.own 0), (.v (.int .i64 a1))] [some (.arr 65 ty_DayRow a0)] (laws_markDayRowS.res a0 a1 y) (laws_markDayRowS.out a0 a1 y) := by
  refine spec_intro (G20_ok.at tok []) (ct := [(5, none), (7, none), (9, none), (11, none), (13, none), (15, none)]) Try.func13 rfl (by kernel_rfl) (by kernel_rfl) rfl ?_
  repeat' first
    | ((with_reducible refine eqg ?_); exact rfl)
    | ((with_reducible refine KOb.mk ?_); kernel_rfl)
    | ((with_reducible intro h); (repeat (first | replace H := grd_k H | replace H := out_step H (by assumption))); first | replace H := cond_t h H | replace H := cond_f h H | exact absurd h (by decide) | skip)
    | ((with_reducible refine Ob.mk ?_); first | (with_reducible rfl) | (first | ((repeat (first | (with_reducible exact grd_p H) | (replace H := grd_k H) | (replace H := out_step H (by assumption)))); done) | rfl | ((repeat (first | exact grd_p H | replace H := grd_k H | replace H := out_step H (by assumption))); done) | ((repeat (first | exact grd_p H | (have hp := grd_p H; exact hp) | replace H := grd_k H | replace H := out_step H (by assumption) | (replace H := bind_some H; obtain ⟨_, _, H⟩ := H))); done) | (repeat (first | exact grd_p H | replace H := grd_k H | replace H := out_step H (by assumption)))))
    | (with_reducible exact True.intro)
    | ((conv => whnf); first
        | (with_reducible refine And.intro ?_ ?_)
        | (with_reducible exact True.intro)
        | ((with_reducible refine Ob.mk ?_); first | (with_reducible rfl) | (first | ((repeat (first | (with_reducible exact grd_p H) | (replace H := grd_k H) | (replace H := out_step H (by assumption)))); done) | rfl | ((repeat (first | exact grd_p H | replace H := grd_k H | replace H := out_step H (by assumption))); done) | ((repeat (first | exact grd_p H | (have hp := grd_p H; exact hp) | replace H := grd_k H | replace H := out_step H (by assumption) | (replace H := bind_some H; obtain ⟨_, _, H⟩ := H))); done) | (repeat (first | exact grd_p H | replace H := grd_k H | replace H := out_step H (by assumption)))))
        | ((with_reducible refine CallW.mk ?_); (repeat (first | replace H := grd_k H | replace H := out_step H (by assumption))); replace H := bind_some H; obtain ⟨y, hy, H⟩ := H; first | ((with_reducible have hz : laws_markText _ = some y := hy); clear hz; refine Exists.intro _ (Exists.intro _ ⟨laws_markText.call hy ?_, rfl, rfl, ?_⟩)))
        | ((repeat (first | replace H := grd_k H | replace H := out_step H (by assumption))); refine loop_iter (G20_ok.at tok []) (ct := [(5, none), (7, none), (9, none), (11, none), (13, none), (15, none)]) (F := (fun s1 : Int × Int × (List DayRow) => ⟨sl [(0, (.own 0)), (1, (.v (.int .i64 s1.1))), (5, (.v (.int .i64 s1.2.1)))], [some (.arr 65 ty_DayRow s1.2.2)]⟩)) (step := (fun s : Int × Int × (List DayRow) => laws_markDayRowS_loop1 s.1 s.2.1 s.2.2)) _ H (by kernel_rfl) (sub_auto ?_) ?_; rotate_left; (intro s1 r v hr H); rotate_right)
        | ((with_reducible refine cutAt (id := 5) ?_); (repeat (first | replace H := grd_k H | replace H := out_step H (by assumption))); first | (replace H := bind_some H; obtain ⟨z, hz, H⟩ := H; have hT : Tg 13 × (List DayRow) := z; clear hT; refine CutC.mk (id := 5) ⟨sl [(0, (.own 0)), (1, (.v (.int .i64 s1.1))), (5, (.v (.int .i64 s1.2.1)))], [some (.arr 65 ty_DayRow z.2)]⟩ ?_ ?_; (replace H := hz)))
        | ((with_reducible refine cutAt (id := 7) ?_); (repeat (first | replace H := grd_k H | replace H := out_step H (by assumption))); first | (replace H := bind_some H; obtain ⟨z, hz, H⟩ := H; have hT : Tg 14 × (List DayRow) := z; clear hT; refine CutC.mk (id := 7) ⟨sl [(0, (.own 0)), (1, (.v (.int .i64 (w64 (s1.1 + (1 : Int)))))), (5, (.v (.int .i64 s1.2.1)))], [some (.arr 65 ty_DayRow z.2)]⟩ ?_ ?_; (replace H := hz)))
        | ((with_reducible refine cutAt (id := 9) ?_); (repeat (first | replace H := grd_k H | replace H := out_step H (by assumption))); first | (replace H := bind_some H; obtain ⟨z, hz, H⟩ := H; have hT : Tg 15 × (List DayRow) := z; clear hT; refine CutC.mk (id := 9) ⟨sl [(0, (.own 0)), (1, (.v (.int .i64 (w64 ((w64 (s1.1 + (1 : Int))) + (1 : Int)))))), (5, (.v (.int .i64 s1.2.1)))], [some (.arr 65 ty_DayRow z.2)]⟩ ?_ ?_; (replace H := hz)))
        | ((with_reducible refine cutAt (id := 11) ?_); (repeat (first | replace H := grd_k H | replace H := out_step H (by assumption))); first | (replace H := bind_some H; obtain ⟨z, hz, H⟩ := H; have hT : Tg 16 × (List DayRow) := z; clear hT; refine CutC.mk (id := 11) ⟨sl [(0, (.own 0)), (1, (.v (.int .i64 (w64 ((w64 ((w64 (s1.1 + (1 : Int))) + (1 : Int))) + (1 : Int)))))), (5, (.v (.int .i64 s1.2.1)))], [some (.arr 65 ty_DayRow z.2)]⟩ ?_ ?_; (replace H := hz)))
        | ((with_reducible refine cutAt (id := 13) ?_); (repeat (first | replace H := grd_k H | replace H := out_step H (by assumption))); first | (replace H := bind_some H; obtain ⟨z, hz, H⟩ := H; have hT : Tg 17 × (List DayRow) := z; clear hT; refine CutC.mk (id := 13) ⟨sl [(0, (.own 0)), (1, (.v (.int .i64 (w64 ((w64 ((w64 ((w64 (s1.1 + (1 : Int))) + (1 : Int))) + (1 : Int))) + (1 : Int)))))), (5, (.v (.int .i64 s1.2.1)))], [some (.arr 65 ty_DayRow z.2)]⟩ ?_ ?_; (replace H := hz)))
        | ((with_reducible refine cutAt (id := 15) ?_); (repeat (first | replace H := grd_k H | replace H := out_step H (by assumption))); first | (replace H := bind_some H; obtain ⟨z, hz, H⟩ := H; have hT : Tg 18 × (List DayRow) := z; clear hT; refine CutC.mk (id := 15) ⟨sl [(0, (.own 0)), (1, (.v (.int .i64 (w64 ((w64 ((w64 ((w64 ((w64 (s1.1 + (1 : Int))) + (1 : Int))) + (1 : Int))) + (1 : Int))) + (1 : Int)))))), (5, (.v (.int .i64 s1.2.1)))], [some (.arr 65 ty_DayRow z.2)]⟩ ?_ ?_; (replace H := hz)))
        | ((repeat (first | replace H := grd_k H | replace H := out_step H (by assumption))); have H := Option.some.inj H; subst H; with_reducible refine sub_auto ?_)
        | ((repeat (first | replace H := grd_k H | replace H := out_step H (by assumption))); refine again_step H (by assumption) (sub_auto ?_))
        | ((with_reducible refine fin_mk ?_); (repeat (first | replace H := grd_k H | replace H := out_step H (by assumption))); have H := Option.some.inj H; subst H))
    | constructor
def G21 : Env := G20.add 13 [true] laws_markDayRowS.S
theorem G21_ok : EnvOk Try.prog G21 := G20_ok.add ent_13 fun ar h r h1 ⟨a0, a1, y, hy, e1, e2, e3, e4⟩ => by
  subst e3 e4; exact (laws_markDayRowS.spec a0 a1 y hy).le e1 e2
attribute [local irreducible] laws_markDayRowS

end Go.Proofs.Ytaajchikfgbecaa
