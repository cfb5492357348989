/-
  Contracts, printed by a program.
-/
import Derived.Test.YtaajchikfgbecaaC733
namespace Go.Proofs.Ytaajchikfgbecaa
open Go.RowKit
attribute [local irreducible] Ob loopwp Sub Spec Fin Again CallW CutC KOb iter joinx outm

attribute [local irreducible] laws_szDayRow laws_szDayRowS laws_toDayRow laws_toDayRowS spec_l1In spec_l2Word spec_l26One spec_l26Good spec_OpenRuns impl_within impl_isDay impl_isWord impl_IsDayRow impl_AreDayRows impl_OpenRuns laws_eqIntS laws_eqIntSS laws_eqDayRow laws_eqDayRowS laws_markText laws_markDayRowS

noncomputable def laws_markIntS_loop1  (v4 : Int) (v5 : Int) (v6 : (List Int)) : Option (Lp (Int × Int × (List Int)) ((Int × (List Int)))) :=
  (cond (decide (v5 < (v6.length : Int))) (grd (0 ≤ v5 ∧ v5 < (v6.length : Int)) (some (.go ((w64 (v4 + (1 : Int))), (w64 (v5 + (1 : Int))), (v6.set v5.toNat v4))))) ((some (.out (v4, v6)))))
noncomputable def laws_markIntS (a0 : (List Int)) (a1 : Int) : Option (Int × (List Int)) :=
  ((iter (fun s => laws_markIntS_loop1 s.1 s.2.1 s.2.2) (a1, (0 : Int), a0)).bind (fun r7 => (some (r7.1, r7.2))))
def laws_markIntS.res (_ : (List Int)) (_ : Int) (y : Int × (List Int)) : AV := (.v (.int .i64 y.1))
def laws_markIntS.out (_ : (List Int)) (_ : Int) (y : Int × (List Int)) : List (Option LB) := [some (.arr 3 (.int .i64) y.2)]
def laws_markIntS.S (ar : List AV) (h : List (Option LB)) (r : AV) (h1 : List (Option LB)) : Prop := ∃ a0 a1 y, laws_markIntS a0 a1 = some y ∧ leL ar [(.own 0), (.v (.int .i64 a1))] ∧ leH h [some (.arr 3 (.int .i64) a0)] ∧ r = laws_markIntS.res a0 a1 y ∧ h1 = laws_markIntS.out a0 a1 y
theorem laws_markIntS.call {ar : List AV} {h : List (Option LB)} {a0 : (List Int)} {a1 : Int} {y : Int × (List Int)} (H : laws_markIntS a0 a1 = some y) (h0 : leLk ar [(.own 0), (.v (.int .i64 a1))] (leHk h [some (.arr 3 (.int .i64) a0)])) : laws_markIntS.S ar h (laws_markIntS.res a0 a1 y) (laws_markIntS.out a0 a1 y) := ⟨a0, a1, y, H, (args_ok h0).1, (args_ok h0).2, rfl, rfl⟩
set_option maxHeartbeats 100000000 in
set_option maxRecDepth 100000 in
theorem laws_markIntS.spec (a0 : (List Int)) (a1 : Int) (y : Int × (List Int)) (H : laws_markIntS a0 a1 = some y) : Spec Try.prog 43 [(.own 0), (.v (.int .i64 a1))] [some (.arr 3 (.int .i64) a0)] (laws_markIntS.res a0 a1 y) (laws_markIntS.out a0 a1 y) := by
  refine spec_intro (G21_ok.at tok []) (ct := []) Try.func43 rfl (by kernel_rfl) (by kernel_rfl) rfl ?_
  repeat' first
    | ((with_reducible refine eqg ?_); exact rfl)
    | ((with_reducible refine KOb.mk ?_); kernel_rfl)
    | ((with_reducible intro h); (repeat (first | replace H := grd_k H | replace H := out_step H (by assumption))); first | replace H := cond_t h H | replace H := cond_f h H | exact absurd h (by decide) | skip)
    | ((with_reducible refine Ob.mk ?_); first | (with_reducible rfl) | (first | ((repeat (first | (with_reducible exact grd_p H) | (replace H := grd_k H) | (replace H := out_step H (by assumption)))); done) | rfl | ((repeat (first | exact grd_p H | replace H := grd_k H | replace H := out_step H (by assumption))); done) | ((repeat (first | exact grd_p H | (have hp := grd_p H; exact hp) | replace H := grd_k H | replace H := out_step H (by assumption) | (replace H := bind_some H; obtain ⟨_, _, H⟩ := H))); done) | (repeat (first | exact grd_p H | replace H := grd_k H | replace H := out_step H (by assumption)))))
    | (with_reducible exact True.intro)
    | ((conv => whnf); first
        | (with_reducible refine And.intro ?_ ?_)
        | (with_reducible exact True.intro)
        | ((with_reducible refine Ob.mk ?_); first | (with_reducible rfl) | (first | ((repeat (first | (with_reducible exact grd_p H) | (replace H := grd_k H) | (replace H := out_step H (by assumption)))); done) | rfl | ((repeat (first | exact grd_p H | replace H := grd_k H | replace H := out_step H (by assumption))); done) | ((repeat (first | exact grd_p H | (have hp := grd_p H; exact hp) | replace H := grd_k H | replace H := out_step H (by assumption) | (replace H := bind_some H; obtain ⟨_, _, H⟩ := H))); done) | (repeat (first | exact grd_p H | replace H := grd_k H | replace H := out_step H (by assumption)))))
        | ((repeat (first | replace H := grd_k H | replace H := out_step H (by assumption))); refine loop_iter (G21_ok.at tok []) (ct := []) (F := (fun s1 : Int × Int × (List Int) => ⟨sl [(0, (.own 0)), (1, (.v (.int .i64 s1.1))), (5, (.v (.int .i64 s1.2.1)))], [some (.arr 3 (.int .i64) s1.2.2)]⟩)) (step := (fun s : Int × Int × (List Int) => laws_markIntS_loop1 s.1 s.2.1 s.2.2)) _ H (by kernel_rfl) (sub_auto ?_) ?_; rotate_left; (intro s1 r v hr H); rotate_right)
        | ((repeat (first | replace H := grd_k H | replace H := out_step H (by assumption))); refine again_step H (by assumption) (sub_auto ?_))
        | ((with_reducible refine fin_mk ?_); (repeat (first | replace H := grd_k H | replace H := out_step H (by assumption))); have H := Option.some.inj H; subst H))
    | constructor
def G22 : Env := G21.add 43 [true] laws_markIntS.S
theorem G22_ok : EnvOk Try.prog G22 := G21_ok.add ent_43 fun ar h r h1 ⟨a0, a1, y, hy, e1, e2, e3, e4⟩ => by
  subst e3 e4; exact (laws_markIntS.spec a0 a1 y hy).le e1 e2
attribute [local irreducible] laws_markIntS

noncomputable def laws_markIntS_i1_loop1 (a100 : Nat) (v4 : Int) (v5 : Int) (v6 : (List (List Int))) : Option (Lp (Int × Int × (List (List Int))) ((Int × (List (List Int))))) :=
  (cond (decide (v5 < ((v6.getD a100 []).length : Int))) (grd (0 ≤ v5 ∧ v5 < ((v6.getD a100 []).length : Int)) (some (.go ((w64 (v4 + (1 : Int))), (w64 (v5 + (1 : Int))), (v6.set a100 ((v6.getD a100 []).set v5.toNat v4)))))) ((some (.out (v4, v6)))))
noncomputable def laws_markIntS_i1 (a0 : List ((List Int))) (a100 : Nat) (a1 : Int) : Option (Int × List ((List Int))) :=
  ((iter (fun s => laws_markIntS_i1_loop1 a100 s.1 s.2.1 s.2.2) (a1, (0 : Int), a0)).bind (fun r7 => (some (r7.1, r7.2))))
def laws_markIntS_i1.res (_ : List ((List Int))) (_ : Nat) (_ : Int) (y : Int × List ((List Int))) : AV := (.v (.int .i64 y.1))
def laws_markIntS_i1.out (_ : List ((List Int))) (_ : Nat) (_ : Int) (y : Int × List ((List Int))) : List (Option LB) := [some (.nst 42 3 (.int .i64) y.2)]
def laws_markIntS_i1.S (ar : List AV) (h : List (Option LB)) (r : AV) (h1 : List (Option LB)) : Prop := ∃ a0 a100 a1 y, laws_markIntS_i1 a0 a100 a1 = some y ∧ leL ar [(.rowv 0 a100), (.v (.int .i64 a1))] ∧ leH h [some (.nst 42 3 (.int .i64) a0)] ∧ r = laws_markIntS_i1.res a0 a100 a1 y ∧ h1 = laws_markIntS_i1.out a0 a100 a1 y
theorem laws_markIntS_i1.call {ar : List AV} {h : List (Option LB)} {a0 : List ((List Int))} {a100 : Nat} {a1 : Int} {y : Int × List ((List Int))} (H : laws_markIntS_i1 a0 a100 a1 = some y) (h0 : leLk ar [(.rowv 0 a100), (.v (.int .i64 a1))] (leHk h [some (.nst 42 3 (.int .i64) a0)])) : laws_markIntS_i1.S ar h (laws_markIntS_i1.res a0 a100 a1 y) (laws_markIntS_i1.out a0 a100 a1 y) := ⟨a0, a100, a1, y, H, (args_ok h0).1, (args_ok h0).2, rfl, rfl⟩
set_option maxHeartbeats 100000000 in
set_option maxRecDepth 100000 in
theorem laws_markIntS_i1.spec (a0 : List ((List Int))) (a100 : Nat) (a1 : Int) (y : Int × List ((List Int))) (H : laws_markIntS_i1 a0 a100 a1 = some y) : Spec Try.prog 43 [(.rowv 0 a100), (.v (.int .i64 a1))] [some (.nst 42 3 (.int .i64) a0)] (laws_markIntS_i1.res a0 a100 a1 y) (laws_markIntS_i1.out a0 a100 a1 y) := by
  refine spec_intro (G22_ok.at tok []) (ct := []) Try.func43 rfl (by kernel_rfl) (by kernel_rfl) rfl ?_
  repeat' first
    | ((with_reducible refine eqg ?_); exact rfl)
    | ((with_reducible refine KOb.mk ?_); kernel_rfl)
    | ((with_reducible intro h); (repeat (first | replace H := grd_k H | replace H := out_step H (by assumption))); first | replace H := cond_t h H | replace H := cond_f h H | exact absurd h (by decide) | skip)
    | ((with_reducible refine Ob.mk ?_); first | (with_reducible rfl) | (first | ((repeat (first | (with_reducible exact grd_p H) | (replace H := grd_k H) | (replace H := out_step H (by assumption)))); done) | rfl | ((repeat (first | exact grd_p H | replace H := grd_k H | replace H := out_step H (by assumption))); done) | ((repeat (first | exact grd_p H | (have hp := grd_p H; exact hp) | replace H := grd_k H | replace H := out_step H (by assumption) | (replace H := bind_some H; obtain ⟨_, _, H⟩ := H))); done) | (repeat (first | exact grd_p H | replace H := grd_k H | replace H := out_step H (by assumption)))))
    | (with_reducible exact True.intro)
    | ((conv => whnf); first
        | (with_reducible refine And.intro ?_ ?_)
        | (with_reducible exact True.intro)
        | ((with_reducible refine Ob.mk ?_); first | (with_reducible rfl) | (first | ((repeat (first | (with_reducible exact grd_p H) | (replace H := grd_k H) | (replace H := out_step H (by assumption)))); done) | rfl | ((repeat (first | exact grd_p H | replace H := grd_k H | replace H := out_step H (by assumption))); done) | ((repeat (first | exact grd_p H | (have hp := grd_p H; exact hp) | replace H := grd_k H | replace H := out_step H (by assumption) | (replace H := bind_some H; obtain ⟨_, _, H⟩ := H))); done) | (repeat (first | exact grd_p H | replace H := grd_k H | replace H := out_step H (by assumption)))))
        | ((repeat (first | replace H := grd_k H | replace H := out_step H (by assumption))); refine loop_iter (G22_ok.at tok []) (ct := []) (F := (fun s1 : Int × Int × (List (List Int)) => ⟨sl [(0, (.rowv 0 a100)), (1, (.v (.int .i64 s1.1))), (5, (.v (.int .i64 s1.2.1)))], [some (.nst 42 3 (.int .i64) s1.2.2)]⟩)) (step := (fun s : Int × Int × (List (List Int)) => laws_markIntS_i1_loop1 _ s.1 s.2.1 s.2.2)) _ H (by kernel_rfl) (sub_auto ?_) ?_; rotate_left; (intro s1 r v hr H); rotate_right)
        | ((repeat (first | replace H := grd_k H | replace H := out_step H (by assumption))); refine again_step H (by assumption) (sub_auto ?_))
        | ((with_reducible refine fin_mk ?_); (repeat (first | replace H := grd_k H | replace H := out_step H (by assumption))); have H := Option.some.inj H; subst H))
    | constructor
def G23 : Env := G22.addOr 43 [true] laws_markIntS_i1.S
theorem G23_ok : EnvOk Try.prog G23 := G22_ok.addOr ent_43 fun ar h r h1 ⟨a0, a100, a1, y, hy, e1, e2, e3, e4⟩ => by
  subst e3 e4; exact (laws_markIntS_i1.spec a0 a100 a1 y hy).le e1 e2
attribute [local irreducible] laws_markIntS_i1

noncomputable def laws_markIntSS_loop1  (v6 : Int) (v7 : Int) (v8 : (List (List Int))) : Option (Lp (Int × Int × (List (List Int))) ((Int × (List (List Int))))) :=
  (cond (decide (v7 < (v8.length : Int))) (grd (0 ≤ v7 ∧ v7 < (v8.length : Int)) ((laws_markIntS_i1 v8 v7.toNat v6).bind fun y9 => (some (.go (y9.1, (w64 (v7 + (1 : Int))), y9.2))))) ((some (.out (v6, v8)))))
noncomputable def laws_markIntSS (a0 : (List (List Int))) (a1 : Int) : Option (Int × (List (List Int))) :=
  ((iter (fun s => laws_markIntSS_loop1 s.1 s.2.1 s.2.2) (a1, (0 : Int), a0)).bind (fun r10 => (some (r10.1, r10.2))))
def laws_markIntSS.res (_ : (List (List Int))) (_ : Int) (y : Int × (List (List Int))) : AV := (.v (.int .i64 y.1))
def laws_markIntSS.out (_ : (List (List Int))) (_ : Int) (y : Int × (List (List Int))) : List (Option LB) := [some (.nst 42 3 (.int .i64) y.2)]
def laws_markIntSS.S (ar : List AV) (h : List (Option LB)) (r : AV) (h1 : List (Option LB)) : Prop := ∃ a0 a1 y, laws_markIntSS a0 a1 = some y ∧ leL ar [(.own 0), (.v (.int .i64 a1))] ∧ leH h [some (.nst 42 3 (.int .i64) a0)] ∧ r = laws_markIntSS.res a0 a1 y ∧ h1 = laws_markIntSS.out a0 a1 y
theorem laws_markIntSS.call {ar : List AV} {h : List (Option LB)} {a0 : (List (List Int))} {a1 : Int} {y : Int × (List (List Int))} (H : laws_markIntSS a0 a1 = some y) (h0 : leLk ar [(.own 0), (.v (.int .i64 a1))] (leHk h [some (.nst 42 3 (.int .i64) a0)])) : laws_markIntSS.S ar h (laws_markIntSS.res a0 a1 y) (laws_markIntSS.out a0 a1 y) := ⟨a0, a1, y, H, (args_ok h0).1, (args_ok h0).2, rfl, rfl⟩
set_option maxHeartbeats 100000000 in
set_option maxRecDepth 100000 in
theorem laws_markIntSS.spec (a0 : (List (List Int))) (a1 : Int) (y : Int × (List (List Int))) (H : laws_markIntSS a0 a1 = some y) : Spec Try.prog 14 [(.own 0), (.v (.int .i64 a1))] [some (.nst 42 3 (.int .i64) a0)] (laws_markIntSS.res a0 a1 y) (laws_markIntSS.out a0 a1 y) := by
  refine spec_intro (G23_ok.at tok []) (ct := []) Try.func14 rfl (by kernel_rfl) (by kernel_rfl) rfl ?_
  repeat' first
    | ((with_reducible refine eqg ?_); exact rfl)
    | ((with_reducible refine KOb.mk ?_); kernel_rfl)
    | ((with_reducible intro h); (repeat (first | replace H := grd_k H | replace H := out_step H (by assumption))); first | replace H := cond_t h H | replace H := cond_f h H | exact absurd h (by decide) | skip)
    | ((with_reducible refine Ob.mk ?_); first | (with_reducible rfl) | (first | ((repeat (first | (with_reducible exact grd_p H) | (replace H := grd_k H) | (replace H := out_step H (by assumption)))); done) | rfl | ((repeat (first | exact grd_p H | replace H := grd_k H | replace H := out_step H (by assumption))); done) | ((repeat (first | exact grd_p H | (have hp := grd_p H; exact hp) | replace H := grd_k H | replace H := out_step H (by assumption) | (replace H := bind_some H; obtain ⟨_, _, H⟩ := H))); done) | (repeat (first | exact grd_p H | replace H := grd_k H | replace H := out_step H (by assumption)))))
    | (with_reducible exact True.intro)
    | ((conv => whnf); first
        | (with_reducible refine And.intro ?_ ?_)
        | (with_reducible exact True.intro)
        | ((with_reducible refine Ob.mk ?_); first | (with_reducible rfl) | (first | ((repeat (first | (with_reducible exact grd_p H) | (replace H := grd_k H) | (replace H := out_step H (by assumption)))); done) | rfl | ((repeat (first | exact grd_p H | replace H := grd_k H | replace H := out_step H (by assumption))); done) | ((repeat (first | exact grd_p H | (have hp := grd_p H; exact hp) | replace H := grd_k H | replace H := out_step H (by assumption) | (replace H := bind_some H; obtain ⟨_, _, H⟩ := H))); done) | (repeat (first | exact grd_p H | replace H := grd_k H | replace H := out_step H (by assumption)))))
        | ((with_reducible refine CallW.mk ?_); (repeat (first | replace H := grd_k H | replace H := out_step H (by assumption))); replace H := bind_some H; obtain ⟨y, hy, H⟩ := H; first | ((with_reducible have hz : laws_markIntS_i1 _ _ _ = some y := hy); clear hz; refine Exists.intro _ (Exists.intro _ ⟨Or.inl (laws_markIntS_i1.call hy ?_), rfl, rfl, ?_⟩)))
        | ((repeat (first | replace H := grd_k H | replace H := out_step H (by assumption))); refine loop_iter (G23_ok.at tok []) (ct := []) (F := (fun s1 : Int × Int × (List (List Int)) => ⟨sl [(0, (.own 0)), (1, (.v (.int .i64 s1.1))), (5, (.v (.int .i64 s1.2.1)))], [some (.nst 42 3 (.int .i64) s1.2.2)]⟩)) (step := (fun s : Int × Int × (List (List Int)) => laws_markIntSS_loop1 s.1 s.2.1 s.2.2)) _ H (by kernel_rfl) (sub_auto ?_) ?_; rotate_left; (intro s1 r v hr H); rotate_right)
        | ((repeat (first | replace H := grd_k H | replace H := out_step H (by assumption))); refine again_step H (by assumption) (sub_auto ?_))
        | ((with_reducible refine fin_mk ?_); (repeat (first | replace H := grd_k H | replace H := out_step H (by assumption))); have H := Option.some.inj H; subst H))
    | constructor
def G24 : Env := G23.add 14 [true] laws_markIntSS.S
theorem G24_ok : EnvOk Try.prog G24 := G23_ok.add ent_14 fun ar h r h1 ⟨a0, a1, y, hy, e1, e2, e3, e4⟩ => by
  subst e3 e4; exact (laws_markIntSS.spec a0 a1 y hy).le e1 e2
attribute [local irreducible] laws_markIntSS

noncomputable def laws_heldIntS_loop1 (a0 : (List Int)) (v3 : Int) (v4 : Int) : Option (Lp (Int × Int) ((Unit) ⊕ (Int))) :=
  (cond (decide (v4 < (a0.length : Int))) (grd (0 ≤ v4 ∧ v4 < (a0.length : Int)) (cond (!decide ((a0.getD v4.toNat 0) = v3)) ((some (.out (Sum.inl ())))) (some (.go ((w64 (v3 + (1 : Int))), (w64 (v4 + (1 : Int)))))))) ((some (.out (Sum.inr v3)))))
noncomputable def laws_heldIntS (a0 : (List Int)) (a1 : Int) : Option (Int) :=
  ((iter (fun s => laws_heldIntS_loop1 a0 s.1 s.2) (a1, (0 : Int))).bind (Sum.elim (fun _ => (some ((-1) : Int))) (fun r7 => (some r7))))
def laws_heldIntS.res (_ : (List Int)) (_ : Int) (y : Int) : AV := (.v (.int .i64 y))
def laws_heldIntS.out (_ : (List Int)) (_ : Int) (_ : Int) : List (Option LB) := []
def laws_heldIntS.S (ar : List AV) (h : List (Option LB)) (r : AV) (h1 : List (Option LB)) : Prop := ∃ a0 a1 y, laws_heldIntS a0 a1 = some y ∧ leL ar [(.tree (.int .i64) a0), (.v (.int .i64 a1))] ∧ leH h [] ∧ r = laws_heldIntS.res a0 a1 y ∧ h1 = laws_heldIntS.out a0 a1 y
theorem laws_heldIntS.call {ar : List AV} {h : List (Option LB)} {a0 : (List Int)} {a1 : Int} {y : Int} (H : laws_heldIntS a0 a1 = some y) (h0 : leLk ar [(.tree (.int .i64) a0), (.v (.int .i64 a1))] (leHk h [])) : laws_heldIntS.S ar h (laws_heldIntS.res a0 a1 y) (laws_heldIntS.out a0 a1 y) := ⟨a0, a1, y, H, (args_ok h0).1, (args_ok h0).2, rfl, rfl⟩
set_option maxHeartbeats 100000000 in
set_option maxRecDepth 100000 in
theorem laws_heldIntS.spec (a0 : (List Int)) (a1 : Int) (y : Int) (H : laws_heldIntS a0 a1 = some y) : Spec Try.prog 44 [(.tree (.int .i64) a0), (.v (.int .i64 a1))] [] (laws_heldIntS.res a0 a1 y) (laws_heldIntS.out a0 a1 y) := by
  refine spec_intro (G24_ok.at tok []) (ct := [(3, some [0, 1, 5])]) Try.func44 rfl (by kernel_rfl) (by kernel_rfl) rfl ?_
  repeat' first
    | ((with_reducible refine eqg ?_); exact rfl)
    | ((with_reducible refine KOb.mk ?_); kernel_rfl)
    | ((with_reducible intro h); (repeat (first | replace H := grd_k H | replace H := out_step H (by assumption))); first | replace H := cond_t h H | replace H := cond_f h H | exact absurd h (by decide) | skip)
    | ((with_reducible refine Ob.mk ?_); first | (with_reducible rfl) | (first | ((repeat (first | (with_reducible exact grd_p H) | (replace H := grd_k H) | (replace H := out_step H (by assumption)))); done) | rfl | ((repeat (first | exact grd_p H | replace H := grd_k H | replace H := out_step H (by assumption))); done) | ((repeat (first | exact grd_p H | (have hp := grd_p H; exact hp) | replace H := grd_k H | replace H := out_step H (by assumption) | (replace H := bind_some H; obtain ⟨_, _, H⟩ := H))); done) | (repeat (first | exact grd_p H | replace H := grd_k H | replace H := out_step H (by assumption)))))
    | (with_reducible exact True.intro)
    | ((conv => whnf); first
        | (with_reducible refine And.intro ?_ ?_)
        | (with_reducible exact True.intro)
        | ((with_reducible refine Ob.mk ?_); first | (with_reducible rfl) | (first | ((repeat (first | (with_reducible exact grd_p H) | (replace H := grd_k H) | (replace H := out_step H (by assumption)))); done) | rfl | ((repeat (first | exact grd_p H | replace H := grd_k H | replace H := out_step H (by assumption))); done) | ((repeat (first | exact grd_p H | (have hp := grd_p H; exact hp) | replace H := grd_k H | replace H := out_step H (by assumption) | (replace H := bind_some H; obtain ⟨_, _, H⟩ := H))); done) | (repeat (first | exact grd_p H | replace H := grd_k H | replace H := out_step H (by assumption)))))
        | ((repeat (first | replace H := grd_k H | replace H := out_step H (by assumption))); refine loop_iter (G24_ok.at tok []) (ct := [(3, some [0, 1, 5])]) (F := (fun s1 : Int × Int => ⟨sl [(0, (.tree (.int .i64) a0)), (1, (.v (.int .i64 s1.1))), (5, (.v (.int .i64 s1.2)))], []⟩)) (step := (fun s : Int × Int => laws_heldIntS_loop1 _ s.1 s.2)) _ H (by kernel_rfl) (sub_auto ?_) ?_; rotate_left; (intro s1 r v hr H); rotate_right)
        | ((repeat (first | replace H := grd_k H | replace H := out_step H (by assumption))); refine again_step H (by assumption) (sub_auto ?_))
        | ((with_reducible refine fin_mk ?_); (repeat (first | replace H := grd_k H | replace H := out_step H (by assumption))); have H := Option.some.inj H; subst H))
    | constructor
def G25 : Env := G24.add 44 [] laws_heldIntS.S
theorem G25_ok : EnvOk Try.prog G25 := G24_ok.add ent_44 fun ar h r h1 ⟨a0, a1, y, hy, e1, e2, e3, e4⟩ => by
  subst e3 e4; exact (laws_heldIntS.spec a0 a1 y hy).le e1 e2
attribute [local irreducible] laws_heldIntS

noncomputable def laws_heldIntSS_loop1 (a0 : (List (List Int))) (v5 : Int) (v6 : Int) : Option (Lp (Int × Int) ((Unit) ⊕ (Int))) :=
  (cond (decide (v6 < (a0.length : Int))) (grd (0 ≤ v6 ∧ v6 < (a0.length : Int)) ((laws_heldIntS (a0.getD v6.toNat []) v5).bind fun y7 => (cond (decide (y7 < (0 : Int))) ((some (.out (Sum.inl ())))) (some (.go (y7, (w64 (v6 + (1 : Int))))))))) ((some (.out (Sum.inr v5)))))
noncomputable def laws_heldIntSS (a0 : (List (List Int))) (a1 : Int) : Option (Int) :=
  ((iter (fun s => laws_heldIntSS_loop1 a0 s.1 s.2) (a1, (0 : Int))).bind (Sum.elim (fun _ => (some ((-1) : Int))) (fun r10 => (some r10))))
def laws_heldIntSS.res (_ : (List (List Int))) (_ : Int) (y : Int) : AV := (.v (.int .i64 y))
def laws_heldIntSS.out (_ : (List (List Int))) (_ : Int) (_ : Int) : List (Option LB) := []
def laws_heldIntSS.S (ar : List AV) (h : List (Option LB)) (r : AV) (h1 : List (Option LB)) : Prop := ∃ a0 a1 y, laws_heldIntSS a0 a1 = some y ∧ leL ar [(.tree (.sl (.int .i64)) a0), (.v (.int .i64 a1))] ∧ leH h [] ∧ r = laws_heldIntSS.res a0 a1 y ∧ h1 = laws_heldIntSS.out a0 a1 y
theorem laws_heldIntSS.call {ar : List AV} {h : List (Option LB)} {a0 : (List (List Int))} {a1 : Int} {y : Int} (H : laws_heldIntSS a0 a1 = some y) (h0 : leLk ar [(.tree (.sl (.int .i64)) a0), (.v (.int .i64 a1))] (leHk h [])) : laws_heldIntSS.S ar h (laws_heldIntSS.res a0 a1 y) (laws_heldIntSS.out a0 a1 y) := ⟨a0, a1, y, H, (args_ok h0).1, (args_ok h0).2, rfl, rfl⟩
set_option maxHeartbeats 100000000 in
set_option maxRecDepth 100000 in
theorem laws_heldIntSS.spec (a0 : (List (List Int))) (a1 : Int) (y : Int) (H : laws_heldIntSS a0 a1 = some y) : Spec Try.prog 15 [(.tree (.sl (.int .i64)) a0), (.v (.int .i64 a1))] [] (laws_heldIntSS.res a0 a1 y) (laws_heldIntSS.out a0 a1 y) := by
  refine spec_intro (G25_ok.at tok []) (ct := [(3, some [0, 1, 5])]) Try.func15 rfl (by kernel_rfl) (by kernel_rfl) rfl ?_
  repeat' first
    | ((with_reducible refine eqg ?_); exact rfl)
    | ((with_reducible refine KOb.mk ?_); kernel_rfl)
    | ((with_reducible intro h); (repeat (first | replace H := grd_k H | replace H := out_step H (by assumption))); first | replace H := cond_t h H | replace H := cond_f h H | exact absurd h (by decide) | skip)
    | ((with_reducible refine Ob.mk ?_); first | (with_reducible rfl) | (first | ((repeat (first | (with_reducible exact grd_p H) | (replace H := grd_k H) | (replace H := out_step H (by assumption)))); done) | rfl | ((repeat (first | exact grd_p H | replace H := grd_k H | replace H := out_step H (by assumption))); done) | ((repeat (first | exact grd_p H | (have hp := grd_p H; exact hp) | replace H := grd_k H | replace H := out_step H (by assumption) | (replace H := bind_some H; obtain ⟨_, _, H⟩ := H))); done) | (repeat (first | exact grd_p H | replace H := grd_k H | replace H := out_step H (by assumption)))))
    | (with_reducible exact True.intro)
    | ((conv => whnf); first
        | (with_reducible refine And.intro ?_ ?_)
        | (with_reducible exact True.intro)
        | ((with_reducible refine Ob.mk ?_); first | (with_reducible rfl) | (first | ((repeat (first | (with_reducible exact grd_p H) | (replace H := grd_k H) | (replace H := out_step H (by assumption)))); done) | rfl | ((repeat (first | exact grd_p H | replace H := grd_k H | replace H := out_step H (by assumption))); done) | ((repeat (first | exact grd_p H | (have hp := grd_p H; exact hp) | replace H := grd_k H | replace H := out_step H (by assumption) | (replace H := bind_some H; obtain ⟨_, _, H⟩ := H))); done) | (repeat (first | exact grd_p H | replace H := grd_k H | replace H := out_step H (by assumption)))))
        | ((with_reducible refine CallW.mk ?_); (repeat (first | replace H := grd_k H | replace H := out_step H (by assumption))); replace H := bind_some H; obtain ⟨y, hy, H⟩ := H; first | ((with_reducible have hz : laws_heldIntS _ _ = some y := hy); clear hz; refine Exists.intro _ (Exists.intro _ ⟨laws_heldIntS.call hy ?_, rfl, rfl, ?_⟩)))
        | ((repeat (first | replace H := grd_k H | replace H := out_step H (by assumption))); refine loop_iter (G25_ok.at tok []) (ct := [(3, some [0, 1, 5])]) (F := (fun s1 : Int × Int => ⟨sl [(0, (.tree (.sl (.int .i64)) a0)), (1, (.v (.int .i64 s1.1))), (5, (.v (.int .i64 s1.2)))], []⟩)) (step := (fun s : Int × Int => laws_heldIntSS_loop1 _ s.1 s.2)) _ H (by kernel_rfl) (sub_auto ?_) ?_; rotate_left; (intro s1 r v hr H); rotate_right)
        | ((repeat (first | replace H := grd_k H | replace H := out_step H (by assumption))); refine again_step H (by assumption) (sub_auto ?_))
        | ((with_reducible refine fin_mk ?_); (repeat (first | replace H := grd_k H | replace H := out_step H (by assumption))); have H := Option.some.inj H; subst H))
    | constructor
def G26 : Env := G25.add 15 [] laws_heldIntSS.S
theorem G26_ok : EnvOk Try.prog G26 := G25_ok.add ent_15 fun ar h r h1 ⟨a0, a1, y, hy, e1, e2, e3, e4⟩ => by
  subst e3 e4; exact (laws_heldIntSS.spec a0 a1 y hy).le e1 e2
attribute [local irreducible] laws_heldIntSS

noncomputable def laws_markIntSS_i1_loop1   : Option (Lp (Unit) ((Unit))) :=
  (some (.out ()))
noncomputable def laws_markIntSS_i1 (a1 : Int) : Option (Int) :=
  ((iter (fun _ => laws_markIntSS_i1_loop1) ()).bind (fun _ => (some a1)))
def laws_markIntSS_i1.res (_ : Int) (y : Int) : AV := (.v (.int .i64 y))
def laws_markIntSS_i1.out (_ : Int) (_ : Int) : List (Option LB) := []
def laws_markIntSS_i1.S (ar : List AV) (h : List (Option LB)) (r : AV) (h1 : List (Option LB)) : Prop := ∃ a1 y, laws_markIntSS_i1 a1 = some y ∧ leL ar [(.v (.slice none 0 0)), (.v (.int .i64 a1))] ∧ leH h [] ∧ r = laws_markIntSS_i1.res a1 y ∧ h1 = laws_markIntSS_i1.out a1 y
theorem laws_markIntSS_i1.call {ar : List AV} {h : List (Option LB)} {a1 : Int} {y : Int} (H : laws_markIntSS_i1 a1 = some y) (h0 : leLk ar [(.v (.slice none 0 0)), (.v (.int .i64 a1))] (leHk h [])) : laws_markIntSS_i1.S ar h (laws_markIntSS_i1.res a1 y) (laws_markIntSS_i1.out a1 y) := ⟨a1, y, H, (args_ok h0).1, (args_ok h0).2, rfl, rfl⟩
set_option maxHeartbeats 100000000 in
set_option maxRecDepth 100000 in
theorem laws_markIntSS_i1.spec (a1 : Int) (y : Int) (H : laws_markIntSS_i1 a1 = some y) : Spec Try.prog 14 [(.v (.slice none 0 0)), (.v (.int .i64 a1))] [] (laws_markIntSS_i1.res a1 y) (laws_markIntSS_i1.out a1 y) := by
  refine spec_intro (G26_ok.at tok []) (ct := []) Try.func14 rfl (by kernel_rfl) (by kernel_rfl) rfl ?_
  repeat' first
    | ((with_reducible refine eqg ?_); exact rfl)
    | ((with_reducible refine KOb.mk ?_); kernel_rfl)
    | ((with_reducible intro h); (repeat (first | replace H := grd_k H | replace H := out_step H (by assumption))); first | replace H := cond_t h H | replace H := cond_f h H | exact absurd h (by decide) | skip)
    | ((with_reducible refine Ob.mk ?_); first | (with_reducible rfl) | (first | ((repeat (first | (with_reducible exact grd_p H) | (replace H := grd_k H) | (replace H := out_step H (by assumption)))); done) | rfl | ((repeat (first | exact grd_p H | replace H := grd_k H | replace H := out_step H (by assumption))); done) | ((repeat (first | exact grd_p H | (have hp := grd_p H; exact hp) | replace H := grd_k H | replace H := out_step H (by assumption) | (replace H := bind_some H; obtain ⟨_, _, H⟩ := H))); done) | (repeat (first | exact grd_p H | replace H := grd_k H | replace H := out_step H (by assumption)))))
    | (with_reducible exact True.intro)
    | ((conv => whnf); first
        | (with_reducible refine And.intro ?_ ?_)
        | (with_reducible exact True.intro)
        | ((with_reducible refine Ob.mk ?_); first | (with_reducible rfl) | (first | ((repeat (first | (with_reducible exact grd_p H) | (replace H := grd_k H) | (replace H := out_step H (by assumption)))); done) | rfl | ((repeat (first | exact grd_p H | replace H := grd_k H | replace H := out_step H (by assumption))); done) | ((repeat (first | exact grd_p H | (have hp := grd_p H; exact hp) | replace H := grd_k H | replace H := out_step H (by assumption) | (replace H := bind_some H; obtain ⟨_, _, H⟩ := H))); done) | (repeat (first | exact grd_p H | replace H := grd_k H | replace H := out_step H (by assumption)))))
        | ((repeat (first | replace H := grd_k H | replace H := out_step H (by assumption))); refine loop_iter (G26_ok.at tok []) (ct := []) (F := (fun s1 : Unit => ⟨sl [(0, (.v (.slice none 0 0))), (1, (.v (.int .i64 a1))), (5, (.v (.int .i64 (0 : Int))))], []⟩)) (step := (fun s : Unit => laws_markIntSS_i1_loop1)) _ H (by kernel_rfl) (sub_auto ?_) ?_; rotate_left; (intro s1 r v hr H); rotate_right)
        | ((repeat (first | replace H := grd_k H | replace H := out_step H (by assumption))); refine again_step H (by assumption) (sub_auto ?_))
        | ((with_reducible refine fin_mk ?_); (repeat (first | replace H := grd_k H | replace H := out_step H (by assumption))); have H := Option.some.inj H; subst H))
    | constructor
def G27 : Env := G26.addOr 14 [true] laws_markIntSS_i1.S
theorem G27_ok : EnvOk Try.prog G27 := G26_ok.addOr ent_14 fun ar h r h1 ⟨a1, y, hy, e1, e2, e3, e4⟩ => by
  subst e3 e4; exact (laws_markIntSS_i1.spec a1 y hy).le e1 e2
attribute [local irreducible] laws_markIntSS_i1

noncomputable def laws_FnExactOpenRuns (a0 : (List DayRow)) : Option (Bool) :=
  ((laws_szDayRowS a0 (1048576 : Int)).bind fun y1 => (cond (decide (y1 < (0 : Int))) ((some true)) ((laws_toDayRowS a0).bind fun y2 => ((spec_OpenRuns y2).bind fun y3 => ((laws_toDayRowS a0).bind fun y4 => ((impl_OpenRuns y4).bind (Sum.elim (fun _ => ((laws_eqIntSS [] y3.1).bind fun y7 => (cond (!y7) ((some false)) (cond (!(false == y3.2.1)) ((some false)) ((laws_toDayRowS a0).bind fun y8 => ((laws_eqDayRowS y4 y8).bind fun y9 => (cond (!y9) ((some false)) ((laws_markDayRowS y4 (1 : Int)).bind fun y10 => (cond (decide (y10.1 < (0 : Int))) ((some false)) ((laws_eqIntSS [] y3.1).bind fun y11 => (cond (!y11) ((some false)) (cond (!(false == y3.2.1)) ((some false)) ((laws_markIntSS_i1 (1 : Int)).bind fun y12 => ((laws_heldIntSS [] (1 : Int)).bind fun y13 => (cond (decide (y13 < (0 : Int))) ((some false)) (cond (!decide (y13 = y12)) ((some false)) (((laws_toDayRowS a0).bind fun y14 => ((impl_OpenRuns y14).bind (Sum.elim (fun _ => (some ((Tg.mk : Tg 1), y3.2.1, y12, [], false, y3.1))) (fun y17 => (some ((Tg.mk : Tg 1), y3.2.1, y12, y17, true, y3.1)))))).bind fun z18 => ((laws_eqIntSS z18.2.2.2.1 z18.2.2.2.2.2).bind fun y19 => (cond (!y19) ((some false)) (cond (!(z18.2.2.2.2.1 == z18.2.1)) ((some false)) ((laws_heldIntSS [] (1 : Int)).bind fun y20 => (cond (decide (y20 < (0 : Int))) ((some false)) (cond (!decide (y20 = z18.2.2.1)) ((some false)) ((some true))))))))))))))))))))))))) (fun y21 => ((laws_eqIntSS y21 y3.1).bind fun y22 => (cond (!y22) ((some false)) (cond (!(true == y3.2.1)) ((some false)) ((laws_toDayRowS a0).bind fun y23 => ((laws_eqDayRowS y4 y23).bind fun y24 => (cond (!y24) ((some false)) ((laws_markDayRowS y4 (1 : Int)).bind fun y25 => (cond (decide (y25.1 < (0 : Int))) ((some false)) ((laws_eqIntSS y21 y3.1).bind fun y26 => (cond (!y26) ((some false)) (cond (!(true == y3.2.1)) ((some false)) ((laws_markIntSS y21 (1 : Int)).bind fun y27 => ((laws_heldIntSS y27.2 (1 : Int)).bind fun y28 => (cond (decide (y28 < (0 : Int))) ((some false)) (cond (!decide (y28 = y27.1)) ((some false)) (((laws_toDayRowS a0).bind fun y29 => ((impl_OpenRuns y29).bind (Sum.elim (fun _ => (some ((Tg.mk : Tg 2), y3.2.1, y27.1, [], false, y3.1, y27.2))) (fun y32 => (some ((Tg.mk : Tg 2), y3.2.1, y27.1, y32, true, y3.1, y27.2)))))).bind fun z33 => ((laws_eqIntSS z33.2.2.2.1 z33.2.2.2.2.2.1).bind fun y34 => (cond (!y34) ((some false)) (cond (!(z33.2.2.2.2.1 == z33.2.1)) ((some false)) ((laws_heldIntSS z33.2.2.2.2.2.2 (1 : Int)).bind fun y35 => (cond (decide (y35 < (0 : Int))) ((some false)) (cond (!decide (y35 = z33.2.2.1)) ((some false)) ((some true))))))))))))))))))))))))))))))))
def laws_FnExactOpenRuns.res (_ : (List DayRow)) (y : Bool) : AV := (.bl y)
def laws_FnExactOpenRuns.out (_ : (List DayRow)) (_ : Bool) : List (Option LB) := []
def laws_FnExactOpenRuns.S (ar : List AV) (h : List (Option LB)) (r : AV) (h1 : List (Option LB)) : Prop := ∃ a0 y, laws_FnExactOpenRuns a0 = some y ∧ leL ar [(.tree ty_DayRow a0)] ∧ leH h [] ∧ r = laws_FnExactOpenRuns.res a0 y ∧ h1 = laws_FnExactOpenRuns.out a0 y
theorem laws_FnExactOpenRuns.call {ar : List AV} {h : List (Option LB)} {a0 : (List DayRow)} {y : Bool} (H : laws_FnExactOpenRuns a0 = some y) (h0 : leLk ar [(.tree ty_DayRow a0)] (leHk h [])) : laws_FnExactOpenRuns.S ar h (laws_FnExactOpenRuns.res a0 y) (laws_FnExactOpenRuns.out a0 y) := ⟨a0, y, H, (args_ok h0).1, (args_ok h0).2, rfl, rfl⟩
set_option maxHeartbeats 100000000 in
set_option maxRecDepth 100000 in
theorem laws_FnExactOpenRuns.spec (a0 : (List DayRow)) (y : Bool) (H : laws_FnExactOpenRuns a0 = some y) : Spec Try.prog 3 [(.tree ty_DayRow a0)] [] (laws_FnExactOpenRuns.res a0 y) (laws_FnExactOpenRuns.out a0 y) := by
  refine spec_intro (G27_ok.at tok []) (ct := [(25, none), (6, some [0, 4, 5, 37, 38, 39, 52, 53, 54, 55, 58, 59, 60, 84, 85, 86]), (9, some [0, 4, 5, 6, 7, 8, 40, 52, 53, 54, 55, 58, 59, 60, 84, 85, 86]), (15, some [0, 4, 5, 7, 61, 84, 85, 86]), (22, some [0, 4, 5, 7, 10, 11, 84, 85, 86]), (29, some [10, 11])]) Try.func3 rfl (by kernel_rfl) (by kernel_rfl) rfl ?_
  repeat' first
    | ((with_reducible refine eqg ?_); exact rfl)
    | ((with_reducible refine KOb.mk ?_); kernel_rfl)
    | ((with_reducible intro h); (repeat (first | replace H := grd_k H | replace H := out_step H (by assumption))); first | replace H := cond_t h H | replace H := cond_f h H | exact absurd h (by decide) | skip)
    | ((with_reducible refine Ob.mk ?_); first | (with_reducible rfl) | (first | ((repeat (first | (with_reducible exact grd_p H) | (replace H := grd_k H) | (replace H := out_step H (by assumption)))); done) | rfl | ((repeat (first | exact grd_p H | replace H := grd_k H | replace H := out_step H (by assumption))); done) | ((repeat (first | exact grd_p H | (have hp := grd_p H; exact hp) | replace H := grd_k H | replace H := out_step H (by assumption) | (replace H := bind_some H; obtain ⟨_, _, H⟩ := H))); done) | (repeat (first | exact grd_p H | replace H := grd_k H | replace H := out_step H (by assumption)))))
    | (with_reducible exact True.intro)
    | ((conv => whnf); first
        | (with_reducible refine And.intro ?_ ?_)
        | (with_reducible exact True.intro)
        | ((with_reducible refine Ob.mk ?_); first | (with_reducible rfl) | (first | ((repeat (first | (with_reducible exact grd_p H) | (replace H := grd_k H) | (replace H := out_step H (by assumption)))); done) | rfl | ((repeat (first | exact grd_p H | replace H := grd_k H | replace H := out_step H (by assumption))); done) | ((repeat (first | exact grd_p H | (have hp := grd_p H; exact hp) | replace H := grd_k H | replace H := out_step H (by assumption) | (replace H := bind_some H; obtain ⟨_, _, H⟩ := H))); done) | (repeat (first | exact grd_p H | replace H := grd_k H | replace H := out_step H (by assumption)))))
        | ((with_reducible refine CallW.mk ?_); (repeat (first | replace H := grd_k H | replace H := out_step H (by assumption))); replace H := bind_some H; obtain ⟨y, hy, H⟩ := H; first | ((with_reducible have hz : laws_szDayRowS _ _ = some y := hy); clear hz; refine Exists.intro _ (Exists.intro _ ⟨laws_szDayRowS.call hy ?_, rfl, rfl, ?_⟩)) | ((with_reducible have hz : laws_toDayRowS _ = some y := hy); clear hz; refine Exists.intro _ (Exists.intro _ ⟨laws_toDayRowS.call hy ?_, rfl, rfl, ?_⟩)) | ((with_reducible have hz : spec_OpenRuns _ = some y := hy); clear hz; refine Exists.intro _ (Exists.intro _ ⟨spec_OpenRuns.call hy ?_, rfl, rfl, ?_⟩)) | ((with_reducible have hz : impl_OpenRuns _ = some y := hy); clear hz; rcases y with y | y <;> refine Exists.intro _ (Exists.intro _ ⟨impl_OpenRuns.call hy ?_, rfl, rfl, ?_⟩)) | ((with_reducible have hz : laws_eqIntSS _ _ = some y := hy); clear hz; refine Exists.intro _ (Exists.intro _ ⟨laws_eqIntSS.call hy ?_, rfl, rfl, ?_⟩)) | ((with_reducible have hz : laws_eqDayRowS _ _ = some y := hy); clear hz; refine Exists.intro _ (Exists.intro _ ⟨laws_eqDayRowS.call hy ?_, rfl, rfl, ?_⟩)) | ((with_reducible have hz : laws_markDayRowS _ _ = some y := hy); clear hz; refine Exists.intro _ (Exists.intro _ ⟨laws_markDayRowS.call hy ?_, rfl, rfl, ?_⟩)) | ((with_reducible have hz : laws_markIntSS_i1 _ = some y := hy); clear hz; refine Exists.intro _ (Exists.intro _ ⟨Or.inl (laws_markIntSS_i1.call hy ?_), rfl, rfl, ?_⟩)) | ((with_reducible have hz : laws_heldIntSS _ _ = some y := hy); clear hz; refine Exists.intro _ (Exists.intro _ ⟨laws_heldIntSS.call hy ?_, rfl, rfl, ?_⟩)) | ((with_reducible have hz : laws_markIntSS _ _ = some y := hy); clear hz; refine Exists.intro _ (Exists.intro _ ⟨Or.inr (laws_markIntSS.call hy ?_), rfl, rfl, ?_⟩)))
        | ((with_reducible refine cutAt (id := 25) ?_); (repeat (first | replace H := grd_k H | replace H := out_step H (by assumption))); first | (replace H := bind_some H; obtain ⟨z, hz, H⟩ := H; have hT : Tg 1 × Bool × Int × (List (List Int)) × Bool × (List (List Int)) := z; clear hT; refine CutC.mk (id := 25) ⟨sl [(4, (.own 0)), (5, (.bl z.2.1)), (7, (.v (.slice none 0 0))), (10, (.v (.int .i64 z.2.2.1))), (12, (.tree (.sl (.int .i64)) z.2.2.2.1)), (13, (.bl z.2.2.2.2.1))], [some (.arr 42 (.sl (.int .i64)) z.2.2.2.2.2)]⟩ ?_ ?_; (replace H := hz)) | (replace H := bind_some H; obtain ⟨z, hz, H⟩ := H; have hT : Tg 2 × Bool × Int × (List (List Int)) × Bool × (List (List Int)) × (List (List Int)) := z; clear hT; refine CutC.mk (id := 25) ⟨sl [(4, (.own 0)), (5, (.bl z.2.1)), (7, (.own 1)), (10, (.v (.int .i64 z.2.2.1))), (12, (.tree (.sl (.int .i64)) z.2.2.2.1)), (13, (.bl z.2.2.2.2.1))], [some (.arr 42 (.sl (.int .i64)) z.2.2.2.2.2.1), some (.nst 42 3 (.int .i64) z.2.2.2.2.2.2)]⟩ ?_ ?_; (replace H := hz)))
        | ((repeat (first | replace H := grd_k H | replace H := out_step H (by assumption))); have H := Option.some.inj H; subst H; with_reducible refine sub_auto ?_)
        | ((with_reducible refine fin_mk ?_); (repeat (first | replace H := grd_k H | replace H := out_step H (by assumption))); have H := Option.some.inj H; subst H))
    | constructor
def G28 : Env := G27.add 3 [] laws_FnExactOpenRuns.S
theorem G28_ok : EnvOk Try.prog G28 := G27_ok.add ent_3 fun ar h r h1 ⟨a0, y, hy, e1, e2, e3, e4⟩ => by
  subst e3 e4; exact (laws_FnExactOpenRuns.spec a0 y hy).le e1 e2
attribute [local irreducible] laws_FnExactOpenRuns

end Go.Proofs.Ytaajchikfgbecaa
