/-
  Contracts, printed by a program.
-/
import Derived.Test.YtplknllbpdookaaTy
namespace Go.Proofs.Ytplknllbpdookaa
open Go.RowKit
attribute [local irreducible] Ob loopwp Sub Spec Fin Again CallW CutC KOb iter

noncomputable def laws_toWindRule (a0 : WindRule) : Option (WindRule) :=
  (some (a0.1, a0.2.1, a0.2.2.1, a0.2.2.2.1, ()))
def laws_toWindRule.res (_ : WindRule) (y : WindRule) : AV := (.agg [(.v (.int .i64 y.1)), (.v (.int .i64 y.2.1)), (.v (.int .i64 y.2.2.1)), (.v (.int .i64 y.2.2.2.1))])
def laws_toWindRule.out (_ : WindRule) (_ : WindRule) : List (Option LB) := []
def laws_toWindRule.S (ar : List AV) (h : List (Option LB)) (r : AV) (h1 : List (Option LB)) : Prop := ∃ a0 y, laws_toWindRule a0 = some y ∧ leL ar [(.agg [(.v (.int .i64 a0.1)), (.v (.int .i64 a0.2.1)), (.v (.int .i64 a0.2.2.1)), (.v (.int .i64 a0.2.2.2.1))])] ∧ leH h [] ∧ r = laws_toWindRule.res a0 y ∧ h1 = laws_toWindRule.out a0 y
theorem laws_toWindRule.call {ar : List AV} {h : List (Option LB)} {a0 : WindRule} {y : WindRule} (H : laws_toWindRule a0 = some y) (h1 : leL ar [(.agg [(.v (.int .i64 a0.1)), (.v (.int .i64 a0.2.1)), (.v (.int .i64 a0.2.2.1)), (.v (.int .i64 a0.2.2.2.1))])]) (h2 : leH h []) : laws_toWindRule.S ar h (laws_toWindRule.res a0 y) (laws_toWindRule.out a0 y) := ⟨a0, y, H, h1, h2, rfl, rfl⟩
set_option maxHeartbeats 4000000 in
set_option maxRecDepth 100000 in
theorem laws_toWindRule.spec (a0 : WindRule) (y : WindRule) (H : laws_toWindRule a0 = some y) : Spec Try.prog 16 [(.agg [(.v (.int .i64 a0.1)), (.v (.int .i64 a0.2.1)), (.v (.int .i64 a0.2.2.1)), (.v (.int .i64 a0.2.2.2.1))])] [] (laws_toWindRule.res a0 y) (laws_toWindRule.out a0 y) := by
  refine spec_intro G0_ok (ct := []) Try.func16 rfl (by kernel_rfl) (by kernel_rfl) rfl ?_
  repeat' first
    | ((with_reducible refine eqg ?_); exact rfl)
    | ((with_reducible refine KOb.mk ?_); kernel_rfl)
    | ((with_reducible intro h); (repeat (first | replace H := grd_k H | replace H := out_step H (by assumption))); first | replace H := cond_t h H | replace H := cond_f h H)
    | ((with_reducible refine Ob.mk ?_); first | rfl | (repeat (first | exact grd_p H | replace H := grd_k H | replace H := out_step H (by assumption))))
    | (with_reducible exact True.intro)
    | constructor
    | ((conv => whnf); first
        | ((with_reducible refine Ob.mk ?_); first | rfl | (repeat (first | exact grd_p H | replace H := grd_k H | replace H := out_step H (by assumption))))
        | ((with_reducible refine fin_mk ?_); (repeat (first | replace H := grd_k H | replace H := out_step H (by assumption))); have H := Option.some.inj H; subst H))
def G1 : Env := G0.add 16 [] laws_toWindRule.S
theorem G1_ok : EnvOk Try.prog G1 := G0_ok.add ent_16 fun ar h r h1 ⟨a0, y, hy, e1, e2, e3, e4⟩ => by
  subst e3 e4; exact (laws_toWindRule.spec a0 y hy).le e1 e2
attribute [local irreducible] laws_toWindRule

noncomputable def laws_toIntS_loop1 (a0 : (List Int)) (v3 : Int) (v4 : (List Int)) : Option (Lp (Int × (List Int)) (((List Int)))) :=
  (cond (decide (v3 < (a0.length : Int))) (grd (0 ≤ v3 ∧ v3 < (a0.length : Int)) (grd (0 ≤ v3 ∧ v3 < (v4.length : Int)) (some (.go ((w64 (v3 + (1 : Int))), (v4.set v3.toNat (a0.getD v3.toNat 0))))))) ((some (.out v4))))
noncomputable def laws_toIntS (a0 : (List Int)) : Option ((List Int)) :=
  (grd (0 ≤ (a0.length : Int) ∧ (a0.length : Int) ≤ (a0.length : Int) ∧ (8 : Int) * (a0.length : Int) ≤ 140737488355328 ∧ (a0.length : Int) ≤ 140737488355328) ((iter (fun s => laws_toIntS_loop1 a0 s.1 s.2) ((0 : Int), (List.replicate (a0.length : Int).toNat (0 : Int)))).bind (fun r5 => (some r5))))
def laws_toIntS.res (_ : (List Int)) (_ : (List Int)) : AV := (.own 0)
def laws_toIntS.out (_ : (List Int)) (y : (List Int)) : List (Option LB) := [some (.arr 3 (.int .i64) y)]
def laws_toIntS.S (ar : List AV) (h : List (Option LB)) (r : AV) (h1 : List (Option LB)) : Prop := ∃ a0 y, laws_toIntS a0 = some y ∧ leL ar [(.tree (.int .i64) a0)] ∧ leH h [] ∧ r = laws_toIntS.res a0 y ∧ h1 = laws_toIntS.out a0 y
theorem laws_toIntS.call {ar : List AV} {h : List (Option LB)} {a0 : (List Int)} {y : (List Int)} (H : laws_toIntS a0 = some y) (h1 : leL ar [(.tree (.int .i64) a0)]) (h2 : leH h []) : laws_toIntS.S ar h (laws_toIntS.res a0 y) (laws_toIntS.out a0 y) := ⟨a0, y, H, h1, h2, rfl, rfl⟩
set_option maxHeartbeats 4000000 in
set_option maxRecDepth 100000 in
theorem laws_toIntS.spec (a0 : (List Int)) (y : (List Int)) (H : laws_toIntS a0 = some y) : Spec Try.prog 17 [(.tree (.int .i64) a0)] [] (laws_toIntS.res a0 y) (laws_toIntS.out a0 y) := by
  refine spec_intro G1_ok (ct := []) Try.func17 rfl (by kernel_rfl) (by kernel_rfl) rfl ?_
  repeat' first
    | ((with_reducible refine eqg ?_); exact rfl)
    | ((with_reducible refine KOb.mk ?_); kernel_rfl)
    | ((with_reducible intro h); (repeat (first | replace H := grd_k H | replace H := out_step H (by assumption))); first | replace H := cond_t h H | replace H := cond_f h H)
    | ((with_reducible refine Ob.mk ?_); first | rfl | (repeat (first | exact grd_p H | replace H := grd_k H | replace H := out_step H (by assumption))))
    | (with_reducible exact True.intro)
    | constructor
    | ((conv => whnf); first
        | ((with_reducible refine Ob.mk ?_); first | rfl | (repeat (first | exact grd_p H | replace H := grd_k H | replace H := out_step H (by assumption))))
        | ((repeat (first | replace H := grd_k H | replace H := out_step H (by assumption))); refine loop_iter G1_ok (ct := []) (F := (fun s1 : Int × (List Int) => ⟨sl [(0, (.tree (.int .i64) a0)), (3, (.own 0)), (4, (.v (.int .i64 s1.1)))], [some (.arr 3 (.int .i64) s1.2)]⟩)) (step := (fun s : Int × (List Int) => laws_toIntS_loop1 _ s.1 s.2)) _ H (by kernel_rfl) (sub_auto ?_) ?_; rotate_left; (intro s1 r v hr H); rotate_right)
        | ((repeat (first | replace H := grd_k H | replace H := out_step H (by assumption))); refine again_step H (by assumption) (sub_auto ?_))
        | ((with_reducible refine fin_mk ?_); (repeat (first | replace H := grd_k H | replace H := out_step H (by assumption))); have H := Option.some.inj H; subst H))
def G2 : Env := G1.add 17 [] laws_toIntS.S
theorem G2_ok : EnvOk Try.prog G2 := G1_ok.add ent_17 fun ar h r h1 ⟨a0, y, hy, e1, e2, e3, e4⟩ => by
  subst e3 e4; exact (laws_toIntS.spec a0 y hy).le e1 e2
attribute [local irreducible] laws_toIntS

noncomputable def spec_l1In (a0 : Int) (a1 : Int) (a2 : Int) : Option (Bool) :=
  (cond (decide (a1 ≤ a0)) ((some (decide (a0 ≤ a2)))) ((some false)))
def spec_l1In.res (_ : Int) (_ : Int) (_ : Int) (y : Bool) : AV := (.bl y)
def spec_l1In.out (_ : Int) (_ : Int) (_ : Int) (_ : Bool) : List (Option LB) := []
def spec_l1In.S (ar : List AV) (h : List (Option LB)) (r : AV) (h1 : List (Option LB)) : Prop := ∃ a0 a1 a2 y, spec_l1In a0 a1 a2 = some y ∧ leL ar [(.v (.int .i64 a0)), (.v (.int .i64 a1)), (.v (.int .i64 a2))] ∧ leH h [] ∧ r = spec_l1In.res a0 a1 a2 y ∧ h1 = spec_l1In.out a0 a1 a2 y
theorem spec_l1In.call {ar : List AV} {h : List (Option LB)} {a0 : Int} {a1 : Int} {a2 : Int} {y : Bool} (H : spec_l1In a0 a1 a2 = some y) (h1 : leL ar [(.v (.int .i64 a0)), (.v (.int .i64 a1)), (.v (.int .i64 a2))]) (h2 : leH h []) : spec_l1In.S ar h (spec_l1In.res a0 a1 a2 y) (spec_l1In.out a0 a1 a2 y) := ⟨a0, a1, a2, y, H, h1, h2, rfl, rfl⟩
set_option maxHeartbeats 4000000 in
set_option maxRecDepth 100000 in
theorem spec_l1In.spec (a0 : Int) (a1 : Int) (a2 : Int) (y : Bool) (H : spec_l1In a0 a1 a2 = some y) : Spec Try.prog 120 [(.v (.int .i64 a0)), (.v (.int .i64 a1)), (.v (.int .i64 a2))] [] (spec_l1In.res a0 a1 a2 y) (spec_l1In.out a0 a1 a2 y) := by
  refine spec_intro G2_ok (ct := []) Try.func120 rfl (by kernel_rfl) (by kernel_rfl) rfl ?_
  repeat' first
    | ((with_reducible refine eqg ?_); exact rfl)
    | ((with_reducible refine KOb.mk ?_); kernel_rfl)
    | ((with_reducible intro h); (repeat (first | replace H := grd_k H | replace H := out_step H (by assumption))); first | replace H := cond_t h H | replace H := cond_f h H)
    | ((with_reducible refine Ob.mk ?_); first | rfl | (repeat (first | exact grd_p H | replace H := grd_k H | replace H := out_step H (by assumption))))
    | (with_reducible exact True.intro)
    | constructor
    | ((conv => whnf); first
        | ((with_reducible refine Ob.mk ?_); first | rfl | (repeat (first | exact grd_p H | replace H := grd_k H | replace H := out_step H (by assumption))))
        | ((with_reducible refine fin_mk ?_); (repeat (first | replace H := grd_k H | replace H := out_step H (by assumption))); have H := Option.some.inj H; subst H))
def G3 : Env := G2.add 120 [] spec_l1In.S
theorem G3_ok : EnvOk Try.prog G3 := G2_ok.add ent_120 fun ar h r h1 ⟨a0, a1, a2, y, hy, e1, e2, e3, e4⟩ => by
  subst e3 e4; exact (spec_l1In.spec a0 a1 a2 y hy).le e1 e2
attribute [local irreducible] spec_l1In

noncomputable def spec_l12Rule (a0 : WindRule) : Option (Bool) :=
  ((spec_l1In a0.1 (2 : Int) (60 : Int)).bind fun y1 => (cond y1 ((spec_l1In a0.2.1 (w64 (a0.1 + (1 : Int))) (60 : Int)).bind fun y2 => (cond y2 ((spec_l1In a0.2.2.1 (1 : Int) (w64 (a0.1 - (1 : Int)))).bind fun y3 => (cond y3 ((spec_l1In a0.2.2.2.1 (1 : Int) (10 : Int)).bind fun y4 => (some y4)) ((some false)))) ((some false)))) ((some false))))
def spec_l12Rule.res (_ : WindRule) (y : Bool) : AV := (.bl y)
def spec_l12Rule.out (_ : WindRule) (_ : Bool) : List (Option LB) := []
def spec_l12Rule.S (ar : List AV) (h : List (Option LB)) (r : AV) (h1 : List (Option LB)) : Prop := ∃ a0 y, spec_l12Rule a0 = some y ∧ leL ar [(.agg [(.v (.int .i64 a0.1)), (.v (.int .i64 a0.2.1)), (.v (.int .i64 a0.2.2.1)), (.v (.int .i64 a0.2.2.2.1))])] ∧ leH h [] ∧ r = spec_l12Rule.res a0 y ∧ h1 = spec_l12Rule.out a0 y
theorem spec_l12Rule.call {ar : List AV} {h : List (Option LB)} {a0 : WindRule} {y : Bool} (H : spec_l12Rule a0 = some y) (h1 : leL ar [(.agg [(.v (.int .i64 a0.1)), (.v (.int .i64 a0.2.1)), (.v (.int .i64 a0.2.2.1)), (.v (.int .i64 a0.2.2.2.1))])]) (h2 : leH h []) : spec_l12Rule.S ar h (spec_l12Rule.res a0 y) (spec_l12Rule.out a0 y) := ⟨a0, y, H, h1, h2, rfl, rfl⟩
set_option maxHeartbeats 4000000 in
set_option maxRecDepth 100000 in
theorem spec_l12Rule.spec (a0 : WindRule) (y : Bool) (H : spec_l12Rule a0 = some y) : Spec Try.prog 88 [(.agg [(.v (.int .i64 a0.1)), (.v (.int .i64 a0.2.1)), (.v (.int .i64 a0.2.2.1)), (.v (.int .i64 a0.2.2.2.1))])] [] (spec_l12Rule.res a0 y) (spec_l12Rule.out a0 y) := by
  refine spec_intro G3_ok (ct := []) Try.func88 rfl (by kernel_rfl) (by kernel_rfl) rfl ?_
  repeat' first
    | ((with_reducible refine eqg ?_); exact rfl)
    | ((with_reducible refine KOb.mk ?_); kernel_rfl)
    | ((with_reducible intro h); (repeat (first | replace H := grd_k H | replace H := out_step H (by assumption))); first | replace H := cond_t h H | replace H := cond_f h H)
    | ((with_reducible refine Ob.mk ?_); first | rfl | (repeat (first | exact grd_p H | replace H := grd_k H | replace H := out_step H (by assumption))))
    | (with_reducible exact True.intro)
    | constructor
    | ((conv => whnf); first
        | ((with_reducible refine Ob.mk ?_); first | rfl | (repeat (first | exact grd_p H | replace H := grd_k H | replace H := out_step H (by assumption))))
        | ((with_reducible refine CallW.mk ?_); (repeat (first | replace H := grd_k H | replace H := out_step H (by assumption))); obtain ⟨y, hy, H⟩ := bind_some H; first | ((with_reducible have hz : spec_l1In _ _ _ = some y := hy); clear hz; refine Exists.intro _ (Exists.intro _ ⟨spec_l1In.call hy ?_ ?_, rfl, rfl, ?_⟩)))
        | ((with_reducible refine fin_mk ?_); (repeat (first | replace H := grd_k H | replace H := out_step H (by assumption))); have H := Option.some.inj H; subst H))
def G4 : Env := G3.add 88 [] spec_l12Rule.S
theorem G4_ok : EnvOk Try.prog G4 := G3_ok.add ent_88 fun ar h r h1 ⟨a0, y, hy, e1, e2, e3, e4⟩ => by
  subst e3 e4; exact (spec_l12Rule.spec a0 y hy).le e1 e2
attribute [local irreducible] spec_l12Rule

noncomputable def spec_l12Vote (a0 : Int) : Option (Bool) :=
  ((spec_l1In a0 (0 : Int) (60 : Int)).bind fun y1 => (some y1))
def spec_l12Vote.res (_ : Int) (y : Bool) : AV := (.bl y)
def spec_l12Vote.out (_ : Int) (_ : Bool) : List (Option LB) := []
def spec_l12Vote.S (ar : List AV) (h : List (Option LB)) (r : AV) (h1 : List (Option LB)) : Prop := ∃ a0 y, spec_l12Vote a0 = some y ∧ leL ar [(.v (.int .i64 a0))] ∧ leH h [] ∧ r = spec_l12Vote.res a0 y ∧ h1 = spec_l12Vote.out a0 y
theorem spec_l12Vote.call {ar : List AV} {h : List (Option LB)} {a0 : Int} {y : Bool} (H : spec_l12Vote a0 = some y) (h1 : leL ar [(.v (.int .i64 a0))]) (h2 : leH h []) : spec_l12Vote.S ar h (spec_l12Vote.res a0 y) (spec_l12Vote.out a0 y) := ⟨a0, y, H, h1, h2, rfl, rfl⟩
set_option maxHeartbeats 4000000 in
set_option maxRecDepth 100000 in
theorem spec_l12Vote.spec (a0 : Int) (y : Bool) (H : spec_l12Vote a0 = some y) : Spec Try.prog 111 [(.v (.int .i64 a0))] [] (spec_l12Vote.res a0 y) (spec_l12Vote.out a0 y) := by
  refine spec_intro G4_ok (ct := []) Try.func111 rfl (by kernel_rfl) (by kernel_rfl) rfl ?_
  repeat' first
    | ((with_reducible refine eqg ?_); exact rfl)
    | ((with_reducible refine KOb.mk ?_); kernel_rfl)
    | ((with_reducible intro h); (repeat (first | replace H := grd_k H | replace H := out_step H (by assumption))); first | replace H := cond_t h H | replace H := cond_f h H)
    | ((with_reducible refine Ob.mk ?_); first | rfl | (repeat (first | exact grd_p H | replace H := grd_k H | replace H := out_step H (by assumption))))
    | (with_reducible exact True.intro)
    | constructor
    | ((conv => whnf); first
        | ((with_reducible refine Ob.mk ?_); first | rfl | (repeat (first | exact grd_p H | replace H := grd_k H | replace H := out_step H (by assumption))))
        | ((with_reducible refine CallW.mk ?_); (repeat (first | replace H := grd_k H | replace H := out_step H (by assumption))); obtain ⟨y, hy, H⟩ := bind_some H; first | ((with_reducible have hz : spec_l1In _ _ _ = some y := hy); clear hz; refine Exists.intro _ (Exists.intro _ ⟨spec_l1In.call hy ?_ ?_, rfl, rfl, ?_⟩)))
        | ((with_reducible refine fin_mk ?_); (repeat (first | replace H := grd_k H | replace H := out_step H (by assumption))); have H := Option.some.inj H; subst H))
def G5 : Env := G4.add 111 [] spec_l12Vote.S
theorem G5_ok : EnvOk Try.prog G5 := G4_ok.add ent_111 fun ar h r h1 ⟨a0, y, hy, e1, e2, e3, e4⟩ => by
  subst e3 e4; exact (spec_l12Vote.spec a0 y hy).le e1 e2
attribute [local irreducible] spec_l12Vote

noncomputable def spec_l12Votes_loop1 (a0 : (List Int)) (v4 : Int) : Option (Lp (Int) ((Unit) ⊕ (Unit))) :=
  (cond (decide (v4 < (a0.length : Int))) (grd (0 ≤ v4 ∧ v4 < (a0.length : Int)) ((spec_l12Vote (a0.getD v4.toNat 0)).bind fun y5 => (cond (!y5) ((some (.out (Sum.inl ())))) (some (.go (w64 (v4 + (1 : Int)))))))) ((some (.out (Sum.inr ())))))
noncomputable def spec_l12Votes (a0 : (List Int)) : Option (Bool) :=
  ((iter (fun s => spec_l12Votes_loop1 a0 s) (0 : Int)).bind (Sum.elim (fun r7 => (some false)) (fun r8 => (some (decide ((a0.length : Int) ≤ (50 : Int)))))))
def spec_l12Votes.res (_ : (List Int)) (y : Bool) : AV := (.bl y)
def spec_l12Votes.out (_ : (List Int)) (_ : Bool) : List (Option LB) := []
def spec_l12Votes.S (ar : List AV) (h : List (Option LB)) (r : AV) (h1 : List (Option LB)) : Prop := ∃ a0 y, spec_l12Votes a0 = some y ∧ leL ar [(.tree (.int .i64) a0)] ∧ leH h [] ∧ r = spec_l12Votes.res a0 y ∧ h1 = spec_l12Votes.out a0 y
theorem spec_l12Votes.call {ar : List AV} {h : List (Option LB)} {a0 : (List Int)} {y : Bool} (H : spec_l12Votes a0 = some y) (h1 : leL ar [(.tree (.int .i64) a0)]) (h2 : leH h []) : spec_l12Votes.S ar h (spec_l12Votes.res a0 y) (spec_l12Votes.out a0 y) := ⟨a0, y, H, h1, h2, rfl, rfl⟩
set_option maxHeartbeats 4000000 in
set_option maxRecDepth 100000 in
theorem spec_l12Votes.spec (a0 : (List Int)) (y : Bool) (H : spec_l12Votes a0 = some y) : Spec Try.prog 89 [(.tree (.int .i64) a0)] [] (spec_l12Votes.res a0 y) (spec_l12Votes.out a0 y) := by
  refine spec_intro G5_ok (ct := []) Try.func89 rfl (by kernel_rfl) (by kernel_rfl) rfl ?_
  repeat' first
    | ((with_reducible refine eqg ?_); exact rfl)
    | ((with_reducible refine KOb.mk ?_); kernel_rfl)
    | ((with_reducible intro h); (repeat (first | replace H := grd_k H | replace H := out_step H (by assumption))); first | replace H := cond_t h H | replace H := cond_f h H)
    | ((with_reducible refine Ob.mk ?_); first | rfl | (repeat (first | exact grd_p H | replace H := grd_k H | replace H := out_step H (by assumption))))
    | (with_reducible exact True.intro)
    | constructor
    | ((conv => whnf); first
        | ((with_reducible refine Ob.mk ?_); first | rfl | (repeat (first | exact grd_p H | replace H := grd_k H | replace H := out_step H (by assumption))))
        | ((with_reducible refine CallW.mk ?_); (repeat (first | replace H := grd_k H | replace H := out_step H (by assumption))); obtain ⟨y, hy, H⟩ := bind_some H; first | ((with_reducible have hz : spec_l12Vote _ = some y := hy); clear hz; refine Exists.intro _ (Exists.intro _ ⟨spec_l12Vote.call hy ?_ ?_, rfl, rfl, ?_⟩)))
        | ((repeat (first | replace H := grd_k H | replace H := out_step H (by assumption))); refine loop_iter G5_ok (ct := []) (F := (fun s1 : Int => ⟨sl [(0, (.tree (.int .i64) a0)), (3, (.v (.int .i64 s1)))], []⟩)) (step := (fun s : Int => spec_l12Votes_loop1 _ s)) _ H (by kernel_rfl) (sub_auto ?_) ?_; rotate_left; (intro s1 r v hr H); rotate_right)
        | ((repeat (first | replace H := grd_k H | replace H := out_step H (by assumption))); refine again_step H (by assumption) (sub_auto ?_))
        | ((with_reducible refine fin_mk ?_); (repeat (first | replace H := grd_k H | replace H := out_step H (by assumption))); have H := Option.some.inj H; subst H))
def G6 : Env := G5.add 89 [] spec_l12Votes.S
theorem G6_ok : EnvOk Try.prog G6 := G5_ok.add ent_89 fun ar h r h1 ⟨a0, y, hy, e1, e2, e3, e4⟩ => by
  subst e3 e4; exact (spec_l12Votes.spec a0 y hy).le e1 e2
attribute [local irreducible] spec_l12Votes

noncomputable def spec_l12Next (a0 : WindRule) (a1 : WindState) (a2 : Int) : Option (WindState) :=
  ((cond (decide (a1.1 = (2 : Int))) ((some a0.2.1)) ((some a0.1))).bind fun z1 => (cond (decide (a0.2.1 ≤ a2)) ((some ((2 : Int), (0 : Int), ()))) ((cond (decide (a1.1 = (0 : Int))) ((some (z1, (decide (a0.1 ≤ a2))))) ((some (z1, false)))).bind fun z2 => (cond z2.2 ((some ((1 : Int), (0 : Int), ()))) (cond (decide (a1.1 = (0 : Int))) ((some (a1.1, (0 : Int), ()))) (cond (decide ((w64 (z2.1 - a0.2.2.1)) ≤ a2)) ((some (a1.1, (0 : Int), ()))) (cond (decide ((w64 (a1.2.1 + (1 : Int))) = a0.2.2.2.1)) ((some ((w64 (a1.1 - (1 : Int))), (0 : Int), ()))) ((some (a1.1, (w64 (a1.2.1 + (1 : Int))), ()))))))))))
def spec_l12Next.res (_ : WindRule) (_ : WindState) (_ : Int) (y : WindState) : AV := (.agg [(.v (.int .i64 y.1)), (.v (.int .i64 y.2.1))])
def spec_l12Next.out (_ : WindRule) (_ : WindState) (_ : Int) (_ : WindState) : List (Option LB) := []
def spec_l12Next.S (ar : List AV) (h : List (Option LB)) (r : AV) (h1 : List (Option LB)) : Prop := ∃ a0 a1 a2 y, spec_l12Next a0 a1 a2 = some y ∧ leL ar [(.agg [(.v (.int .i64 a0.1)), (.v (.int .i64 a0.2.1)), (.v (.int .i64 a0.2.2.1)), (.v (.int .i64 a0.2.2.2.1))]), (.agg [(.v (.int .i64 a1.1)), (.v (.int .i64 a1.2.1))]), (.v (.int .i64 a2))] ∧ leH h [] ∧ r = spec_l12Next.res a0 a1 a2 y ∧ h1 = spec_l12Next.out a0 a1 a2 y
theorem spec_l12Next.call {ar : List AV} {h : List (Option LB)} {a0 : WindRule} {a1 : WindState} {a2 : Int} {y : WindState} (H : spec_l12Next a0 a1 a2 = some y) (h1 : leL ar [(.agg [(.v (.int .i64 a0.1)), (.v (.int .i64 a0.2.1)), (.v (.int .i64 a0.2.2.1)), (.v (.int .i64 a0.2.2.2.1))]), (.agg [(.v (.int .i64 a1.1)), (.v (.int .i64 a1.2.1))]), (.v (.int .i64 a2))]) (h2 : leH h []) : spec_l12Next.S ar h (spec_l12Next.res a0 a1 a2 y) (spec_l12Next.out a0 a1 a2 y) := ⟨a0, a1, a2, y, H, h1, h2, rfl, rfl⟩
set_option maxHeartbeats 4000000 in
set_option maxRecDepth 100000 in
theorem spec_l12Next.spec (a0 : WindRule) (a1 : WindState) (a2 : Int) (y : WindState) (H : spec_l12Next a0 a1 a2 = some y) : Spec Try.prog 112 [(.agg [(.v (.int .i64 a0.1)), (.v (.int .i64 a0.2.1)), (.v (.int .i64 a0.2.2.1)), (.v (.int .i64 a0.2.2.2.1))]), (.agg [(.v (.int .i64 a1.1)), (.v (.int .i64 a1.2.1))]), (.v (.int .i64 a2))] [] (spec_l12Next.res a0 a1 a2 y) (spec_l12Next.out a0 a1 a2 y) := by
  refine spec_intro G6_ok (ct := [4, 7]) Try.func112 rfl (by kernel_rfl) (by kernel_rfl) rfl ?_
  repeat' first
    | ((with_reducible refine eqg ?_); exact rfl)
    | ((with_reducible refine KOb.mk ?_); kernel_rfl)
    | ((with_reducible intro h); (repeat (first | replace H := grd_k H | replace H := out_step H (by assumption))); first | replace H := cond_t h H | replace H := cond_f h H)
    | ((with_reducible refine Ob.mk ?_); first | rfl | (repeat (first | exact grd_p H | replace H := grd_k H | replace H := out_step H (by assumption))))
    | (with_reducible exact True.intro)
    | constructor
    | ((conv => whnf); first
        | ((with_reducible refine Ob.mk ?_); first | rfl | (repeat (first | exact grd_p H | replace H := grd_k H | replace H := out_step H (by assumption))))
        | ((repeat (first | replace H := grd_k H | replace H := out_step H (by assumption))); obtain ⟨z, hz, H⟩ := bind_some H; with_reducible refine CutC.mk (id := 4) ⟨sl [(2, (.v (.int .i64 a2))), (3, (.loc 0 0 0)), (4, (.loc 1 0 0)), (6, (.loc 2 0 0)), (7, (.v (.int .i64 z)))], [some (.box 27 [(.v (.int .i64 a0.1)), (.v (.int .i64 a0.2.1)), (.v (.int .i64 a0.2.2.1)), (.v (.int .i64 a0.2.2.2.1))]), some (.box 36 [(.v (.int .i64 a1.1)), (.v (.int .i64 a1.2.1))]), some (.box 36 [(.v (.int .i64 (0 : Int))), (.v (.int .i64 (0 : Int)))])]⟩ ?_ ?_; (replace H := hz))
        | ((repeat (first | replace H := grd_k H | replace H := out_step H (by assumption))); obtain ⟨z, hz, H⟩ := bind_some H; with_reducible refine CutC.mk (id := 7) ⟨sl [(2, (.v (.int .i64 a2))), (3, (.loc 0 0 0)), (4, (.loc 1 0 0)), (6, (.loc 2 0 0)), (7, (.v (.int .i64 z.1))), (21, (.bl z.2))], [some (.box 27 [(.v (.int .i64 a0.1)), (.v (.int .i64 a0.2.1)), (.v (.int .i64 a0.2.2.1)), (.v (.int .i64 a0.2.2.2.1))]), some (.box 36 [(.v (.int .i64 a1.1)), (.v (.int .i64 a1.2.1))]), some (.box 36 [(.v (.int .i64 (0 : Int))), (.v (.int .i64 (0 : Int)))])]⟩ ?_ ?_; (replace H := hz))
        | ((repeat (first | replace H := grd_k H | replace H := out_step H (by assumption))); have H := Option.some.inj H; subst H; with_reducible refine sub_auto ?_)
        | ((with_reducible refine fin_mk ?_); (repeat (first | replace H := grd_k H | replace H := out_step H (by assumption))); have H := Option.some.inj H; subst H))
def G7 : Env := G6.add 112 [] spec_l12Next.S
theorem G7_ok : EnvOk Try.prog G7 := G6_ok.add ent_112 fun ar h r h1 ⟨a0, a1, a2, y, hy, e1, e2, e3, e4⟩ => by
  subst e3 e4; exact (spec_l12Next.spec a0 a1 a2 y hy).le e1 e2
attribute [local irreducible] spec_l12Next

noncomputable def spec_l12Run_loop1 (a0 : WindRule) (a2 : (List Int)) (v7 : Int) (v8 : Int) (v9 : Int) (v10 : (List Int)) : Option (Lp (Int × Int × Int × (List Int)) ((Int × Int × (List Int)))) :=
  (cond (decide (v7 < (a2.length : Int))) (grd (0 ≤ v7 ∧ v7 < (a2.length : Int)) ((spec_l12Next (a0.1, a0.2.1, a0.2.2.1, a0.2.2.2.1, ()) (v8, v9, ()) (a2.getD v7.toNat 0)).bind fun y11 => (grd ((v10.length + [y11.1].length) * 8 ≤ 140737488355328 ∧ v10.length + [y11.1].length ≤ 140737488355328) (some (.go ((w64 (v7 + (1 : Int))), y11.1, y11.2.1, (v10 ++ [y11.1]))))))) ((some (.out (v8, v9, v10)))))
noncomputable def spec_l12Run (a0 : WindRule) (a1 : WindState) (a2 : (List Int)) : Option ((List Int) × WindState) :=
  ((iter (fun s => spec_l12Run_loop1 a0 a2 s.1 s.2.1 s.2.2.1 s.2.2.2) ((0 : Int), a1.1, a1.2.1, ([] : List Int))).bind (fun r12 => (some (r12.2.2, (r12.1, r12.2.1, ())))))
def spec_l12Run.res (_ : WindRule) (_ : WindState) (_ : (List Int)) (y : (List Int) × WindState) : AV := (.tup [(.own 0), (.agg [(.v (.int .i64 y.2.1)), (.v (.int .i64 y.2.2.1))])])
def spec_l12Run.out (_ : WindRule) (_ : WindState) (_ : (List Int)) (y : (List Int) × WindState) : List (Option LB) := [some (.arr 3 (.int .i64) y.1)]
def spec_l12Run.S (ar : List AV) (h : List (Option LB)) (r : AV) (h1 : List (Option LB)) : Prop := ∃ a0 a1 a2 y, spec_l12Run a0 a1 a2 = some y ∧ leL ar [(.agg [(.v (.int .i64 a0.1)), (.v (.int .i64 a0.2.1)), (.v (.int .i64 a0.2.2.1)), (.v (.int .i64 a0.2.2.2.1))]), (.agg [(.v (.int .i64 a1.1)), (.v (.int .i64 a1.2.1))]), (.tree (.int .i64) a2)] ∧ leH h [] ∧ r = spec_l12Run.res a0 a1 a2 y ∧ h1 = spec_l12Run.out a0 a1 a2 y
theorem spec_l12Run.call {ar : List AV} {h : List (Option LB)} {a0 : WindRule} {a1 : WindState} {a2 : (List Int)} {y : (List Int) × WindState} (H : spec_l12Run a0 a1 a2 = some y) (h1 : leL ar [(.agg [(.v (.int .i64 a0.1)), (.v (.int .i64 a0.2.1)), (.v (.int .i64 a0.2.2.1)), (.v (.int .i64 a0.2.2.2.1))]), (.agg [(.v (.int .i64 a1.1)), (.v (.int .i64 a1.2.1))]), (.tree (.int .i64) a2)]) (h2 : leH h []) : spec_l12Run.S ar h (spec_l12Run.res a0 a1 a2 y) (spec_l12Run.out a0 a1 a2 y) := ⟨a0, a1, a2, y, H, h1, h2, rfl, rfl⟩
set_option maxHeartbeats 4000000 in
set_option maxRecDepth 100000 in
theorem spec_l12Run.spec (a0 : WindRule) (a1 : WindState) (a2 : (List Int)) (y : (List Int) × WindState) (H : spec_l12Run a0 a1 a2 = some y) : Spec Try.prog 90 [(.agg [(.v (.int .i64 a0.1)), (.v (.int .i64 a0.2.1)), (.v (.int .i64 a0.2.2.1)), (.v (.int .i64 a0.2.2.2.1))]), (.agg [(.v (.int .i64 a1.1)), (.v (.int .i64 a1.2.1))]), (.tree (.int .i64) a2)] [] (spec_l12Run.res a0 a1 a2 y) (spec_l12Run.out a0 a1 a2 y) := by
  refine spec_intro G7_ok (ct := []) Try.func90 rfl (by kernel_rfl) (by kernel_rfl) rfl ?_
  repeat' first
    | ((with_reducible refine eqg ?_); exact rfl)
    | ((with_reducible refine KOb.mk ?_); kernel_rfl)
    | ((with_reducible intro h); (repeat (first | replace H := grd_k H | replace H := out_step H (by assumption))); first | replace H := cond_t h H | replace H := cond_f h H)
    | ((with_reducible refine Ob.mk ?_); first | rfl | (repeat (first | exact grd_p H | replace H := grd_k H | replace H := out_step H (by assumption))))
    | (with_reducible exact True.intro)
    | constructor
    | ((conv => whnf); first
        | ((with_reducible refine Ob.mk ?_); first | rfl | (repeat (first | exact grd_p H | replace H := grd_k H | replace H := out_step H (by assumption))))
        | ((with_reducible refine CallW.mk ?_); (repeat (first | replace H := grd_k H | replace H := out_step H (by assumption))); obtain ⟨y, hy, H⟩ := bind_some H; first | ((with_reducible have hz : spec_l12Next _ _ _ = some y := hy); clear hz; refine Exists.intro _ (Exists.intro _ ⟨spec_l12Next.call hy ?_ ?_, rfl, rfl, ?_⟩)))
        | ((repeat (first | replace H := grd_k H | replace H := out_step H (by assumption))); refine loop_iter G7_ok (ct := []) (F := (fun s1 : Int × Int × Int × (List Int) => ⟨sl [(2, (.tree (.int .i64) a2)), (3, (.loc 0 0 0)), (4, (.loc 1 0 0)), (7, (.loc 2 0 0)), (8, (.own 3)), (9, (.v (.int .i64 s1.1)))], [some (.box 27 [(.v (.int .i64 a0.1)), (.v (.int .i64 a0.2.1)), (.v (.int .i64 a0.2.2.1)), (.v (.int .i64 a0.2.2.2.1))]), some (.box 36 [(.v (.int .i64 s1.2.1)), (.v (.int .i64 s1.2.2.1))]), some (.box 36 [(.v (.int .i64 (0 : Int))), (.v (.int .i64 (0 : Int)))]), some (.arr 3 (.int .i64) s1.2.2.2)]⟩)) (step := (fun s : Int × Int × Int × (List Int) => spec_l12Run_loop1 _ _ s.1 s.2.1 s.2.2.1 s.2.2.2)) _ H (by kernel_rfl) (sub_auto ?_) ?_; rotate_left; (intro s1 r v hr H); rotate_right)
        | ((repeat (first | replace H := grd_k H | replace H := out_step H (by assumption))); refine again_step H (by assumption) (sub_auto ?_))
        | ((with_reducible refine fin_mk ?_); (repeat (first | replace H := grd_k H | replace H := out_step H (by assumption))); have H := Option.some.inj H; subst H))
def G8 : Env := G7.add 90 [] spec_l12Run.S
theorem G8_ok : EnvOk Try.prog G8 := G7_ok.add ent_90 fun ar h r h1 ⟨a0, a1, a2, y, hy, e1, e2, e3, e4⟩ => by
  subst e3 e4; exact (spec_l12Run.spec a0 a1 a2 y hy).le e1 e2
attribute [local irreducible] spec_l12Run

noncomputable def spec_TimeStopped_loop1  (v8 : Int) (v9 : Int) (v10 : (List Int)) : Option (Lp (Int × Int × (List Int)) ((Int))) :=
  (cond (decide (v9 < (v10.length : Int))) (grd (0 ≤ v9 ∧ v9 < (v10.length : Int)) (cond (decide ((v10.getD v9.toNat 0) = (2 : Int))) (some (.go ((w64 (v8 + (1 : Int))), (w64 (v9 + (1 : Int))), v10))) (some (.go (v8, (w64 (v9 + (1 : Int))), v10))))) ((some (.out v8))))
noncomputable def spec_TimeStopped (a0 : WindRule) (a1 : (List Int)) : Option (Int × Bool) :=
  ((spec_l12Rule (a0.1, a0.2.1, a0.2.2.1, a0.2.2.2.1, ())).bind fun y1 => (cond (!y1) ((some ((0 : Int), false))) ((spec_l12Votes a1).bind fun y2 => (cond (!y2) ((some ((0 : Int), false))) ((spec_l12Run (a0.1, a0.2.1, a0.2.2.1, a0.2.2.2.1, ()) ((0 : Int), (0 : Int), ()) a1).bind fun y3 => ((iter (fun s => spec_TimeStopped_loop1 s.1 s.2.1 s.2.2) ((0 : Int), (0 : Int), y3.1)).bind (fun r11 => (some (r11, true)))))))))
def spec_TimeStopped.res (_ : WindRule) (_ : (List Int)) (y : Int × Bool) : AV := (.tup [(.v (.int .i64 y.1)), (.bl y.2)])
def spec_TimeStopped.out (_ : WindRule) (_ : (List Int)) (_ : Int × Bool) : List (Option LB) := []
def spec_TimeStopped.S (ar : List AV) (h : List (Option LB)) (r : AV) (h1 : List (Option LB)) : Prop := ∃ a0 a1 y, spec_TimeStopped a0 a1 = some y ∧ leL ar [(.agg [(.v (.int .i64 a0.1)), (.v (.int .i64 a0.2.1)), (.v (.int .i64 a0.2.2.1)), (.v (.int .i64 a0.2.2.2.1))]), (.tree (.int .i64) a1)] ∧ leH h [] ∧ r = spec_TimeStopped.res a0 a1 y ∧ h1 = spec_TimeStopped.out a0 a1 y
theorem spec_TimeStopped.call {ar : List AV} {h : List (Option LB)} {a0 : WindRule} {a1 : (List Int)} {y : Int × Bool} (H : spec_TimeStopped a0 a1 = some y) (h1 : leL ar [(.agg [(.v (.int .i64 a0.1)), (.v (.int .i64 a0.2.1)), (.v (.int .i64 a0.2.2.1)), (.v (.int .i64 a0.2.2.2.1))]), (.tree (.int .i64) a1)]) (h2 : leH h []) : spec_TimeStopped.S ar h (spec_TimeStopped.res a0 a1 y) (spec_TimeStopped.out a0 a1 y) := ⟨a0, a1, y, H, h1, h2, rfl, rfl⟩
set_option maxHeartbeats 4000000 in
set_option maxRecDepth 100000 in
theorem spec_TimeStopped.spec (a0 : WindRule) (a1 : (List Int)) (y : Int × Bool) (H : spec_TimeStopped a0 a1 = some y) : Spec Try.prog 15 [(.agg [(.v (.int .i64 a0.1)), (.v (.int .i64 a0.2.1)), (.v (.int .i64 a0.2.2.1)), (.v (.int .i64 a0.2.2.2.1))]), (.tree (.int .i64) a1)] [] (spec_TimeStopped.res a0 a1 y) (spec_TimeStopped.out a0 a1 y) := by
  refine spec_intro G8_ok (ct := []) Try.func15 rfl (by kernel_rfl) (by kernel_rfl) rfl ?_
  repeat' first
    | ((with_reducible refine eqg ?_); exact rfl)
    | ((with_reducible refine KOb.mk ?_); kernel_rfl)
    | ((with_reducible intro h); (repeat (first | replace H := grd_k H | replace H := out_step H (by assumption))); first | replace H := cond_t h H | replace H := cond_f h H)
    | ((with_reducible refine Ob.mk ?_); first | rfl | (repeat (first | exact grd_p H | replace H := grd_k H | replace H := out_step H (by assumption))))
    | (with_reducible exact True.intro)
    | constructor
    | ((conv => whnf); first
        | ((with_reducible refine Ob.mk ?_); first | rfl | (repeat (first | exact grd_p H | replace H := grd_k H | replace H := out_step H (by assumption))))
        | ((with_reducible refine CallW.mk ?_); (repeat (first | replace H := grd_k H | replace H := out_step H (by assumption))); obtain ⟨y, hy, H⟩ := bind_some H; first | ((with_reducible have hz : spec_l12Rule _ = some y := hy); clear hz; refine Exists.intro _ (Exists.intro _ ⟨spec_l12Rule.call hy ?_ ?_, rfl, rfl, ?_⟩)) | ((with_reducible have hz : spec_l12Votes _ = some y := hy); clear hz; refine Exists.intro _ (Exists.intro _ ⟨spec_l12Votes.call hy ?_ ?_, rfl, rfl, ?_⟩)) | ((with_reducible have hz : spec_l12Run _ _ _ = some y := hy); clear hz; refine Exists.intro _ (Exists.intro _ ⟨spec_l12Run.call hy ?_ ?_, rfl, rfl, ?_⟩)))
        | ((repeat (first | replace H := grd_k H | replace H := out_step H (by assumption))); refine loop_iter G8_ok (ct := []) (F := (fun s1 : Int × Int × (List Int) => ⟨sl [(6, (.own 0)), (8, (.v (.int .i64 s1.1))), (9, (.v (.int .i64 s1.2.1)))], [some (.arr 3 (.int .i64) s1.2.2)]⟩)) (step := (fun s : Int × Int × (List Int) => spec_TimeStopped_loop1 s.1 s.2.1 s.2.2)) _ H (by kernel_rfl) (sub_auto ?_) ?_; rotate_left; (intro s1 r v hr H); rotate_right)
        | ((repeat (first | replace H := grd_k H | replace H := out_step H (by assumption))); refine again_step H (by assumption) (sub_auto ?_))
        | ((with_reducible refine fin_mk ?_); (repeat (first | replace H := grd_k H | replace H := out_step H (by assumption))); have H := Option.some.inj H; subst H))
def G9 : Env := G8.add 15 [] spec_TimeStopped.S
theorem G9_ok : EnvOk Try.prog G9 := G8_ok.add ent_15 fun ar h r h1 ⟨a0, a1, y, hy, e1, e2, e3, e4⟩ => by
  subst e3 e4; exact (spec_TimeStopped.spec a0 a1 y hy).le e1 e2
attribute [local irreducible] spec_TimeStopped

noncomputable def impl_within (a0 : Int) (a1 : Int) (a2 : Int) : Option (Bool) :=
  (cond (decide (a1 ≤ a0)) ((some (decide (a0 ≤ a2)))) ((some false)))
def impl_within.res (_ : Int) (_ : Int) (_ : Int) (y : Bool) : AV := (.bl y)
def impl_within.out (_ : Int) (_ : Int) (_ : Int) (_ : Bool) : List (Option LB) := []
def impl_within.S (ar : List AV) (h : List (Option LB)) (r : AV) (h1 : List (Option LB)) : Prop := ∃ a0 a1 a2 y, impl_within a0 a1 a2 = some y ∧ leL ar [(.v (.int .i64 a0)), (.v (.int .i64 a1)), (.v (.int .i64 a2))] ∧ leH h [] ∧ r = impl_within.res a0 a1 a2 y ∧ h1 = impl_within.out a0 a1 a2 y
theorem impl_within.call {ar : List AV} {h : List (Option LB)} {a0 : Int} {a1 : Int} {a2 : Int} {y : Bool} (H : impl_within a0 a1 a2 = some y) (h1 : leL ar [(.v (.int .i64 a0)), (.v (.int .i64 a1)), (.v (.int .i64 a2))]) (h2 : leH h []) : impl_within.S ar h (impl_within.res a0 a1 a2 y) (impl_within.out a0 a1 a2 y) := ⟨a0, a1, a2, y, H, h1, h2, rfl, rfl⟩
set_option maxHeartbeats 4000000 in
set_option maxRecDepth 100000 in
theorem impl_within.spec (a0 : Int) (a1 : Int) (a2 : Int) (y : Bool) (H : impl_within a0 a1 a2 = some y) : Spec Try.prog 108 [(.v (.int .i64 a0)), (.v (.int .i64 a1)), (.v (.int .i64 a2))] [] (impl_within.res a0 a1 a2 y) (impl_within.out a0 a1 a2 y) := by
  refine spec_intro G9_ok (ct := []) Try.func108 rfl (by kernel_rfl) (by kernel_rfl) rfl ?_
  repeat' first
    | ((with_reducible refine eqg ?_); exact rfl)
    | ((with_reducible refine KOb.mk ?_); kernel_rfl)
    | ((with_reducible intro h); (repeat (first | replace H := grd_k H | replace H := out_step H (by assumption))); first | replace H := cond_t h H | replace H := cond_f h H)
    | ((with_reducible refine Ob.mk ?_); first | rfl | (repeat (first | exact grd_p H | replace H := grd_k H | replace H := out_step H (by assumption))))
    | (with_reducible exact True.intro)
    | constructor
    | ((conv => whnf); first
        | ((with_reducible refine Ob.mk ?_); first | rfl | (repeat (first | exact grd_p H | replace H := grd_k H | replace H := out_step H (by assumption))))
        | ((with_reducible refine fin_mk ?_); (repeat (first | replace H := grd_k H | replace H := out_step H (by assumption))); have H := Option.some.inj H; subst H))
def G10 : Env := G9.add 108 [] impl_within.S
theorem G10_ok : EnvOk Try.prog G10 := G9_ok.add ent_108 fun ar h r h1 ⟨a0, a1, a2, y, hy, e1, e2, e3, e4⟩ => by
  subst e3 e4; exact (impl_within.spec a0 a1 a2 y hy).le e1 e2
attribute [local irreducible] impl_within

noncomputable def impl_IsWindRule (a0 : WindRule) : Option (Bool) :=
  (cond (decide ((2 : Int) ≤ a0.1)) (cond (decide (a0.1 < a0.2.1)) (cond (decide (a0.2.1 ≤ (60 : Int))) ((impl_within a0.2.2.1 (1 : Int) (w64 (a0.1 - (1 : Int)))).bind fun y1 => (cond y1 ((impl_within a0.2.2.2.1 (1 : Int) (10 : Int)).bind fun y2 => (some y2)) ((some false)))) ((some false))) ((some false))) ((some false)))
def impl_IsWindRule.res (_ : WindRule) (y : Bool) : AV := (.bl y)
def impl_IsWindRule.out (_ : WindRule) (_ : Bool) : List (Option LB) := []
def impl_IsWindRule.S (ar : List AV) (h : List (Option LB)) (r : AV) (h1 : List (Option LB)) : Prop := ∃ a0 y, impl_IsWindRule a0 = some y ∧ leL ar [(.agg [(.v (.int .i64 a0.1)), (.v (.int .i64 a0.2.1)), (.v (.int .i64 a0.2.2.1)), (.v (.int .i64 a0.2.2.2.1))])] ∧ leH h [] ∧ r = impl_IsWindRule.res a0 y ∧ h1 = impl_IsWindRule.out a0 y
theorem impl_IsWindRule.call {ar : List AV} {h : List (Option LB)} {a0 : WindRule} {y : Bool} (H : impl_IsWindRule a0 = some y) (h1 : leL ar [(.agg [(.v (.int .i64 a0.1)), (.v (.int .i64 a0.2.1)), (.v (.int .i64 a0.2.2.1)), (.v (.int .i64 a0.2.2.2.1))])]) (h2 : leH h []) : impl_IsWindRule.S ar h (impl_IsWindRule.res a0 y) (impl_IsWindRule.out a0 y) := ⟨a0, y, H, h1, h2, rfl, rfl⟩
set_option maxHeartbeats 4000000 in
set_option maxRecDepth 100000 in
theorem impl_IsWindRule.spec (a0 : WindRule) (y : Bool) (H : impl_IsWindRule a0 = some y) : Spec Try.prog 47 [(.agg [(.v (.int .i64 a0.1)), (.v (.int .i64 a0.2.1)), (.v (.int .i64 a0.2.2.1)), (.v (.int .i64 a0.2.2.2.1))])] [] (impl_IsWindRule.res a0 y) (impl_IsWindRule.out a0 y) := by
  refine spec_intro G10_ok (ct := []) Try.func47 rfl (by kernel_rfl) (by kernel_rfl) rfl ?_
  repeat' first
    | ((with_reducible refine eqg ?_); exact rfl)
    | ((with_reducible refine KOb.mk ?_); kernel_rfl)
    | ((with_reducible intro h); (repeat (first | replace H := grd_k H | replace H := out_step H (by assumption))); first | replace H := cond_t h H | replace H := cond_f h H)
    | ((with_reducible refine Ob.mk ?_); first | rfl | (repeat (first | exact grd_p H | replace H := grd_k H | replace H := out_step H (by assumption))))
    | (with_reducible exact True.intro)
    | constructor
    | ((conv => whnf); first
        | ((with_reducible refine Ob.mk ?_); first | rfl | (repeat (first | exact grd_p H | replace H := grd_k H | replace H := out_step H (by assumption))))
        | ((with_reducible refine CallW.mk ?_); (repeat (first | replace H := grd_k H | replace H := out_step H (by assumption))); obtain ⟨y, hy, H⟩ := bind_some H; first | ((with_reducible have hz : impl_within _ _ _ = some y := hy); clear hz; refine Exists.intro _ (Exists.intro _ ⟨impl_within.call hy ?_ ?_, rfl, rfl, ?_⟩)))
        | ((with_reducible refine fin_mk ?_); (repeat (first | replace H := grd_k H | replace H := out_step H (by assumption))); have H := Option.some.inj H; subst H))
def G11 : Env := G10.add 47 [] impl_IsWindRule.S
theorem G11_ok : EnvOk Try.prog G11 := G10_ok.add ent_47 fun ar h r h1 ⟨a0, y, hy, e1, e2, e3, e4⟩ => by
  subst e3 e4; exact (impl_IsWindRule.spec a0 y hy).le e1 e2
attribute [local irreducible] impl_IsWindRule

noncomputable def impl_allIn_loop1 (a0 : (List Int)) (a1 : Int) (a2 : Int) (v4 : Int) : Option (Lp (Int) ((Unit) ⊕ (Unit))) :=
  (cond (decide (v4 < (a0.length : Int))) (grd (0 ≤ v4 ∧ v4 < (a0.length : Int)) ((impl_within (a0.getD v4.toNat 0) a1 a2).bind fun y5 => (cond (!y5) ((some (.out (Sum.inl ())))) (some (.go (w64 (v4 + (1 : Int)))))))) ((some (.out (Sum.inr ())))))
noncomputable def impl_allIn (a0 : (List Int)) (a1 : Int) (a2 : Int) : Option (Bool) :=
  ((iter (fun s => impl_allIn_loop1 a0 a1 a2 s) (0 : Int)).bind (Sum.elim (fun r7 => (some false)) (fun r8 => (some true))))
def impl_allIn.res (_ : (List Int)) (_ : Int) (_ : Int) (y : Bool) : AV := (.bl y)
def impl_allIn.out (_ : (List Int)) (_ : Int) (_ : Int) (_ : Bool) : List (Option LB) := []
def impl_allIn.S (ar : List AV) (h : List (Option LB)) (r : AV) (h1 : List (Option LB)) : Prop := ∃ a0 a1 a2 y, impl_allIn a0 a1 a2 = some y ∧ leL ar [(.tree (.int .i64) a0), (.v (.int .i64 a1)), (.v (.int .i64 a2))] ∧ leH h [] ∧ r = impl_allIn.res a0 a1 a2 y ∧ h1 = impl_allIn.out a0 a1 a2 y
theorem impl_allIn.call {ar : List AV} {h : List (Option LB)} {a0 : (List Int)} {a1 : Int} {a2 : Int} {y : Bool} (H : impl_allIn a0 a1 a2 = some y) (h1 : leL ar [(.tree (.int .i64) a0), (.v (.int .i64 a1)), (.v (.int .i64 a2))]) (h2 : leH h []) : impl_allIn.S ar h (impl_allIn.res a0 a1 a2 y) (impl_allIn.out a0 a1 a2 y) := ⟨a0, a1, a2, y, H, h1, h2, rfl, rfl⟩
set_option maxHeartbeats 4000000 in
set_option maxRecDepth 100000 in
theorem impl_allIn.spec (a0 : (List Int)) (a1 : Int) (a2 : Int) (y : Bool) (H : impl_allIn a0 a1 a2 = some y) : Spec Try.prog 133 [(.tree (.int .i64) a0), (.v (.int .i64 a1)), (.v (.int .i64 a2))] [] (impl_allIn.res a0 a1 a2 y) (impl_allIn.out a0 a1 a2 y) := by
  refine spec_intro G11_ok (ct := []) Try.func133 rfl (by kernel_rfl) (by kernel_rfl) rfl ?_
  repeat' first
    | ((with_reducible refine eqg ?_); exact rfl)
    | ((with_reducible refine KOb.mk ?_); kernel_rfl)
    | ((with_reducible intro h); (repeat (first | replace H := grd_k H | replace H := out_step H (by assumption))); first | replace H := cond_t h H | replace H := cond_f h H)
    | ((with_reducible refine Ob.mk ?_); first | rfl | (repeat (first | exact grd_p H | replace H := grd_k H | replace H := out_step H (by assumption))))
    | (with_reducible exact True.intro)
    | constructor
    | ((conv => whnf); first
        | ((with_reducible refine Ob.mk ?_); first | rfl | (repeat (first | exact grd_p H | replace H := grd_k H | replace H := out_step H (by assumption))))
        | ((with_reducible refine CallW.mk ?_); (repeat (first | replace H := grd_k H | replace H := out_step H (by assumption))); obtain ⟨y, hy, H⟩ := bind_some H; first | ((with_reducible have hz : impl_within _ _ _ = some y := hy); clear hz; refine Exists.intro _ (Exists.intro _ ⟨impl_within.call hy ?_ ?_, rfl, rfl, ?_⟩)))
        | ((repeat (first | replace H := grd_k H | replace H := out_step H (by assumption))); refine loop_iter G11_ok (ct := []) (F := (fun s1 : Int => ⟨sl [(1, (.v (.int .i64 a1))), (2, (.v (.int .i64 a2))), (9, (.tree (.int .i64) a0)), (10, (.v (.int .i64 (a0.length : Int)))), (11, (.v (.int .i64 s1)))], []⟩)) (step := (fun s : Int => impl_allIn_loop1 _ _ _ s)) _ H (by kernel_rfl) (sub_auto ?_) ?_; rotate_left; (intro s1 r v hr H); rotate_right)
        | ((repeat (first | replace H := grd_k H | replace H := out_step H (by assumption))); refine again_step H (by assumption) (sub_auto ?_))
        | ((with_reducible refine fin_mk ?_); (repeat (first | replace H := grd_k H | replace H := out_step H (by assumption))); have H := Option.some.inj H; subst H))
def G12 : Env := G11.add 133 [] impl_allIn.S
theorem G12_ok : EnvOk Try.prog G12 := G11_ok.add ent_133 fun ar h r h1 ⟨a0, a1, a2, y, hy, e1, e2, e3, e4⟩ => by
  subst e3 e4; exact (impl_allIn.spec a0 a1 a2 y hy).le e1 e2
attribute [local irreducible] impl_allIn

noncomputable def impl_areVotes (a0 : (List Int)) : Option (Bool) :=
  (cond (decide ((a0.length : Int) ≤ (50 : Int))) ((impl_allIn a0 (0 : Int) (60 : Int)).bind fun y1 => (some y1)) ((some false)))
def impl_areVotes.res (_ : (List Int)) (y : Bool) : AV := (.bl y)
def impl_areVotes.out (_ : (List Int)) (_ : Bool) : List (Option LB) := []
def impl_areVotes.S (ar : List AV) (h : List (Option LB)) (r : AV) (h1 : List (Option LB)) : Prop := ∃ a0 y, impl_areVotes a0 = some y ∧ leL ar [(.tree (.int .i64) a0)] ∧ leH h [] ∧ r = impl_areVotes.res a0 y ∧ h1 = impl_areVotes.out a0 y
theorem impl_areVotes.call {ar : List AV} {h : List (Option LB)} {a0 : (List Int)} {y : Bool} (H : impl_areVotes a0 = some y) (h1 : leL ar [(.tree (.int .i64) a0)]) (h2 : leH h []) : impl_areVotes.S ar h (impl_areVotes.res a0 y) (impl_areVotes.out a0 y) := ⟨a0, y, H, h1, h2, rfl, rfl⟩
set_option maxHeartbeats 4000000 in
set_option maxRecDepth 100000 in
theorem impl_areVotes.spec (a0 : (List Int)) (y : Bool) (H : impl_areVotes a0 = some y) : Spec Try.prog 91 [(.tree (.int .i64) a0)] [] (impl_areVotes.res a0 y) (impl_areVotes.out a0 y) := by
  refine spec_intro G12_ok (ct := []) Try.func91 rfl (by kernel_rfl) (by kernel_rfl) rfl ?_
  repeat' first
    | ((with_reducible refine eqg ?_); exact rfl)
    | ((with_reducible refine KOb.mk ?_); kernel_rfl)
    | ((with_reducible intro h); (repeat (first | replace H := grd_k H | replace H := out_step H (by assumption))); first | replace H := cond_t h H | replace H := cond_f h H)
    | ((with_reducible refine Ob.mk ?_); first | rfl | (repeat (first | exact grd_p H | replace H := grd_k H | replace H := out_step H (by assumption))))
    | (with_reducible exact True.intro)
    | constructor
    | ((conv => whnf); first
        | ((with_reducible refine Ob.mk ?_); first | rfl | (repeat (first | exact grd_p H | replace H := grd_k H | replace H := out_step H (by assumption))))
        | ((with_reducible refine CallW.mk ?_); (repeat (first | replace H := grd_k H | replace H := out_step H (by assumption))); obtain ⟨y, hy, H⟩ := bind_some H; first | ((with_reducible have hz : impl_allIn _ _ _ = some y := hy); clear hz; refine Exists.intro _ (Exists.intro _ ⟨impl_allIn.call hy ?_ ?_, rfl, rfl, ?_⟩)))
        | ((with_reducible refine fin_mk ?_); (repeat (first | replace H := grd_k H | replace H := out_step H (by assumption))); have H := Option.some.inj H; subst H))
def G13 : Env := G12.add 91 [] impl_areVotes.S
theorem G13_ok : EnvOk Try.prog G13 := G12_ok.add ent_91 fun ar h r h1 ⟨a0, y, hy, e1, e2, e3, e4⟩ => by
  subst e3 e4; exact (impl_areVotes.spec a0 y hy).le e1 e2
attribute [local irreducible] impl_areVotes

noncomputable def impl_WindRule_next (a0 : WindRule) (a1 : WindState) (a2 : Int) : Option (WindState) :=
  (cond (decide (a0.2.1 ≤ a2)) ((some ((2 : Int), (0 : Int), ()))) (cond (decide (a1.1 = (0 : Int))) (cond (decide (a0.1 ≤ a2)) ((some ((1 : Int), (0 : Int), ()))) (cond (decide (a1.1 = (0 : Int))) ((some (a1.1, a1.2.1, ()))) ((cond (decide (a1.1 = (2 : Int))) ((some a0.2.1)) ((some a0.1))).bind fun z1 => (cond (decide ((w64 (z1 - a0.2.2.1)) ≤ a2)) ((some (a1.1, (0 : Int), ()))) (cond (decide ((w64 (a1.2.1 + (1 : Int))) = a0.2.2.2.1)) ((some ((w64 (a1.1 - (1 : Int))), (0 : Int), ()))) ((some (a1.1, (w64 (a1.2.1 + (1 : Int))), ())))))))) (cond (decide (a1.1 = (0 : Int))) ((some (a1.1, a1.2.1, ()))) ((cond (decide (a1.1 = (2 : Int))) ((some a0.2.1)) ((some a0.1))).bind fun z2 => (cond (decide ((w64 (z2 - a0.2.2.1)) ≤ a2)) ((some (a1.1, (0 : Int), ()))) (cond (decide ((w64 (a1.2.1 + (1 : Int))) = a0.2.2.2.1)) ((some ((w64 (a1.1 - (1 : Int))), (0 : Int), ()))) ((some (a1.1, (w64 (a1.2.1 + (1 : Int))), ())))))))))
def impl_WindRule_next.res (_ : WindRule) (_ : WindState) (_ : Int) (y : WindState) : AV := (.agg [(.v (.int .i64 y.1)), (.v (.int .i64 y.2.1))])
def impl_WindRule_next.out (_ : WindRule) (_ : WindState) (_ : Int) (_ : WindState) : List (Option LB) := []
def impl_WindRule_next.S (ar : List AV) (h : List (Option LB)) (r : AV) (h1 : List (Option LB)) : Prop := ∃ a0 a1 a2 y, impl_WindRule_next a0 a1 a2 = some y ∧ leL ar [(.agg [(.v (.int .i64 a0.1)), (.v (.int .i64 a0.2.1)), (.v (.int .i64 a0.2.2.1)), (.v (.int .i64 a0.2.2.2.1))]), (.agg [(.v (.int .i64 a1.1)), (.v (.int .i64 a1.2.1))]), (.v (.int .i64 a2))] ∧ leH h [] ∧ r = impl_WindRule_next.res a0 a1 a2 y ∧ h1 = impl_WindRule_next.out a0 a1 a2 y
theorem impl_WindRule_next.call {ar : List AV} {h : List (Option LB)} {a0 : WindRule} {a1 : WindState} {a2 : Int} {y : WindState} (H : impl_WindRule_next a0 a1 a2 = some y) (h1 : leL ar [(.agg [(.v (.int .i64 a0.1)), (.v (.int .i64 a0.2.1)), (.v (.int .i64 a0.2.2.1)), (.v (.int .i64 a0.2.2.2.1))]), (.agg [(.v (.int .i64 a1.1)), (.v (.int .i64 a1.2.1))]), (.v (.int .i64 a2))]) (h2 : leH h []) : impl_WindRule_next.S ar h (impl_WindRule_next.res a0 a1 a2 y) (impl_WindRule_next.out a0 a1 a2 y) := ⟨a0, a1, a2, y, H, h1, h2, rfl, rfl⟩
set_option maxHeartbeats 4000000 in
set_option maxRecDepth 100000 in
theorem impl_WindRule_next.spec (a0 : WindRule) (a1 : WindState) (a2 : Int) (y : WindState) (H : impl_WindRule_next a0 a1 a2 = some y) : Spec Try.prog 109 [(.agg [(.v (.int .i64 a0.1)), (.v (.int .i64 a0.2.1)), (.v (.int .i64 a0.2.2.1)), (.v (.int .i64 a0.2.2.2.1))]), (.agg [(.v (.int .i64 a1.1)), (.v (.int .i64 a1.2.1))]), (.v (.int .i64 a2))] [] (impl_WindRule_next.res a0 a1 a2 y) (impl_WindRule_next.out a0 a1 a2 y) := by
  refine spec_intro G13_ok (ct := [10]) Try.func109 rfl (by kernel_rfl) (by kernel_rfl) rfl ?_
  repeat' first
    | ((with_reducible refine eqg ?_); exact rfl)
    | ((with_reducible refine KOb.mk ?_); kernel_rfl)
    | ((with_reducible intro h); (repeat (first | replace H := grd_k H | replace H := out_step H (by assumption))); first | replace H := cond_t h H | replace H := cond_f h H)
    | ((with_reducible refine Ob.mk ?_); first | rfl | (repeat (first | exact grd_p H | replace H := grd_k H | replace H := out_step H (by assumption))))
    | (with_reducible exact True.intro)
    | constructor
    | ((conv => whnf); first
        | ((with_reducible refine Ob.mk ?_); first | rfl | (repeat (first | exact grd_p H | replace H := grd_k H | replace H := out_step H (by assumption))))
        | ((repeat (first | replace H := grd_k H | replace H := out_step H (by assumption))); obtain ⟨z, hz, H⟩ := bind_some H; with_reducible refine CutC.mk (id := 10) ⟨sl [(2, (.v (.int .i64 a2))), (3, (.loc 0 0 0)), (4, (.loc 1 0 0)), (6, (.loc 2 0 0)), (7, (.v (.int .i64 z)))], [some (.box 27 [(.v (.int .i64 a0.1)), (.v (.int .i64 a0.2.1)), (.v (.int .i64 a0.2.2.1)), (.v (.int .i64 a0.2.2.2.1))]), some (.box 36 [(.v (.int .i64 a1.1)), (.v (.int .i64 a1.2.1))]), some (.box 36 [(.v (.int .i64 (0 : Int))), (.v (.int .i64 (0 : Int)))])]⟩ ?_ ?_; (replace H := hz))
        | ((repeat (first | replace H := grd_k H | replace H := out_step H (by assumption))); have H := Option.some.inj H; subst H; with_reducible refine sub_auto ?_)
        | ((with_reducible refine fin_mk ?_); (repeat (first | replace H := grd_k H | replace H := out_step H (by assumption))); have H := Option.some.inj H; subst H))
def G14 : Env := G13.add 109 [] impl_WindRule_next.S
theorem G14_ok : EnvOk Try.prog G14 := G13_ok.add ent_109 fun ar h r h1 ⟨a0, a1, a2, y, hy, e1, e2, e3, e4⟩ => by
  subst e3 e4; exact (impl_WindRule_next.spec a0 a1 a2 y hy).le e1 e2
attribute [local irreducible] impl_WindRule_next

noncomputable def impl_WindRule_run_loop1 (a0 : WindRule) (a2 : (List Int)) (v7 : Int) (v8 : Int) (v9 : Int) (v10 : (List Int)) : Option (Lp (Int × Int × Int × (List Int)) ((Int × Int × (List Int)))) :=
  (cond (decide (v7 < (a2.length : Int))) (grd (0 ≤ v7 ∧ v7 < (a2.length : Int)) ((impl_WindRule_next (a0.1, a0.2.1, a0.2.2.1, a0.2.2.2.1, ()) (v8, v9, ()) (a2.getD v7.toNat 0)).bind fun y11 => (grd ((v10.length + [y11.1].length) * 8 ≤ 140737488355328 ∧ v10.length + [y11.1].length ≤ 140737488355328) (some (.go ((w64 (v7 + (1 : Int))), y11.1, y11.2.1, (v10 ++ [y11.1]))))))) ((some (.out (v8, v9, v10)))))
noncomputable def impl_WindRule_run (a0 : WindRule) (a1 : WindState) (a2 : (List Int)) : Option ((List Int) × WindState) :=
  ((iter (fun s => impl_WindRule_run_loop1 a0 a2 s.1 s.2.1 s.2.2.1 s.2.2.2) ((0 : Int), a1.1, a1.2.1, ([] : List Int))).bind (fun r12 => (some (r12.2.2, (r12.1, r12.2.1, ())))))
def impl_WindRule_run.res (_ : WindRule) (_ : WindState) (_ : (List Int)) (y : (List Int) × WindState) : AV := (.tup [(.own 0), (.agg [(.v (.int .i64 y.2.1)), (.v (.int .i64 y.2.2.1))])])
def impl_WindRule_run.out (_ : WindRule) (_ : WindState) (_ : (List Int)) (y : (List Int) × WindState) : List (Option LB) := [some (.arr 3 (.int .i64) y.1)]
def impl_WindRule_run.S (ar : List AV) (h : List (Option LB)) (r : AV) (h1 : List (Option LB)) : Prop := ∃ a0 a1 a2 y, impl_WindRule_run a0 a1 a2 = some y ∧ leL ar [(.agg [(.v (.int .i64 a0.1)), (.v (.int .i64 a0.2.1)), (.v (.int .i64 a0.2.2.1)), (.v (.int .i64 a0.2.2.2.1))]), (.agg [(.v (.int .i64 a1.1)), (.v (.int .i64 a1.2.1))]), (.tree (.int .i64) a2)] ∧ leH h [] ∧ r = impl_WindRule_run.res a0 a1 a2 y ∧ h1 = impl_WindRule_run.out a0 a1 a2 y
theorem impl_WindRule_run.call {ar : List AV} {h : List (Option LB)} {a0 : WindRule} {a1 : WindState} {a2 : (List Int)} {y : (List Int) × WindState} (H : impl_WindRule_run a0 a1 a2 = some y) (h1 : leL ar [(.agg [(.v (.int .i64 a0.1)), (.v (.int .i64 a0.2.1)), (.v (.int .i64 a0.2.2.1)), (.v (.int .i64 a0.2.2.2.1))]), (.agg [(.v (.int .i64 a1.1)), (.v (.int .i64 a1.2.1))]), (.tree (.int .i64) a2)]) (h2 : leH h []) : impl_WindRule_run.S ar h (impl_WindRule_run.res a0 a1 a2 y) (impl_WindRule_run.out a0 a1 a2 y) := ⟨a0, a1, a2, y, H, h1, h2, rfl, rfl⟩
set_option maxHeartbeats 4000000 in
set_option maxRecDepth 100000 in
theorem impl_WindRule_run.spec (a0 : WindRule) (a1 : WindState) (a2 : (List Int)) (y : (List Int) × WindState) (H : impl_WindRule_run a0 a1 a2 = some y) : Spec Try.prog 92 [(.agg [(.v (.int .i64 a0.1)), (.v (.int .i64 a0.2.1)), (.v (.int .i64 a0.2.2.1)), (.v (.int .i64 a0.2.2.2.1))]), (.agg [(.v (.int .i64 a1.1)), (.v (.int .i64 a1.2.1))]), (.tree (.int .i64) a2)] [] (impl_WindRule_run.res a0 a1 a2 y) (impl_WindRule_run.out a0 a1 a2 y) := by
  refine spec_intro G14_ok (ct := []) Try.func92 rfl (by kernel_rfl) (by kernel_rfl) rfl ?_
  repeat' first
    | ((with_reducible refine eqg ?_); exact rfl)
    | ((with_reducible refine KOb.mk ?_); kernel_rfl)
    | ((with_reducible intro h); (repeat (first | replace H := grd_k H | replace H := out_step H (by assumption))); first | replace H := cond_t h H | replace H := cond_f h H)
    | ((with_reducible refine Ob.mk ?_); first | rfl | (repeat (first | exact grd_p H | replace H := grd_k H | replace H := out_step H (by assumption))))
    | (with_reducible exact True.intro)
    | constructor
    | ((conv => whnf); first
        | ((with_reducible refine Ob.mk ?_); first | rfl | (repeat (first | exact grd_p H | replace H := grd_k H | replace H := out_step H (by assumption))))
        | ((with_reducible refine CallW.mk ?_); (repeat (first | replace H := grd_k H | replace H := out_step H (by assumption))); obtain ⟨y, hy, H⟩ := bind_some H; first | ((with_reducible have hz : impl_WindRule_next _ _ _ = some y := hy); clear hz; refine Exists.intro _ (Exists.intro _ ⟨impl_WindRule_next.call hy ?_ ?_, rfl, rfl, ?_⟩)))
        | ((repeat (first | replace H := grd_k H | replace H := out_step H (by assumption))); refine loop_iter G14_ok (ct := []) (F := (fun s1 : Int × Int × Int × (List Int) => ⟨sl [(3, (.loc 0 0 0)), (4, (.loc 1 0 0)), (7, (.loc 2 0 0)), (8, (.own 3)), (12, (.tree (.int .i64) a2)), (13, (.v (.int .i64 (a2.length : Int)))), (14, (.v (.int .i64 s1.1)))], [some (.box 27 [(.v (.int .i64 a0.1)), (.v (.int .i64 a0.2.1)), (.v (.int .i64 a0.2.2.1)), (.v (.int .i64 a0.2.2.2.1))]), some (.box 36 [(.v (.int .i64 s1.2.1)), (.v (.int .i64 s1.2.2.1))]), some (.box 36 [(.v (.int .i64 (0 : Int))), (.v (.int .i64 (0 : Int)))]), some (.arr 3 (.int .i64) s1.2.2.2)]⟩)) (step := (fun s : Int × Int × Int × (List Int) => impl_WindRule_run_loop1 _ _ s.1 s.2.1 s.2.2.1 s.2.2.2)) _ H (by kernel_rfl) (sub_auto ?_) ?_; rotate_left; (intro s1 r v hr H); rotate_right)
        | ((repeat (first | replace H := grd_k H | replace H := out_step H (by assumption))); refine again_step H (by assumption) (sub_auto ?_))
        | ((with_reducible refine fin_mk ?_); (repeat (first | replace H := grd_k H | replace H := out_step H (by assumption))); have H := Option.some.inj H; subst H))
def G15 : Env := G14.add 92 [] impl_WindRule_run.S
theorem G15_ok : EnvOk Try.prog G15 := G14_ok.add ent_92 fun ar h r h1 ⟨a0, a1, a2, y, hy, e1, e2, e3, e4⟩ => by
  subst e3 e4; exact (impl_WindRule_run.spec a0 a1 a2 y hy).le e1 e2
attribute [local irreducible] impl_WindRule_run

noncomputable def impl_TimeStopped_loop1  (v10 : Int) (v11 : Int) (v12 : Int) (v13 : (List Int)) : Option (Lp (Int × Int × Int × (List Int)) ((Int))) :=
  (cond (decide (v12 < v11)) (grd (0 ≤ v12 ∧ v12 < (v13.length : Int)) (cond (decide ((v13.getD v12.toNat 0) = (2 : Int))) (some (.go ((w64 (v10 + (1 : Int))), v11, (w64 (v12 + (1 : Int))), v13))) (some (.go (v10, v11, (w64 (v12 + (1 : Int))), v13))))) ((some (.out v10))))
noncomputable def impl_TimeStopped (a0 : WindRule) (a1 : (List Int)) : Option (Int × Bool) :=
  ((impl_IsWindRule (a0.1, a0.2.1, a0.2.2.1, a0.2.2.2.1, ())).bind fun y1 => (cond (!y1) ((some ((0 : Int), false))) ((impl_areVotes a1).bind fun y2 => (cond (!y2) ((some ((0 : Int), false))) ((impl_WindRule_run (a0.1, a0.2.1, a0.2.2.1, a0.2.2.2.1, ()) ((0 : Int), (0 : Int), ()) a1).bind fun y3 => ((iter (fun s => impl_TimeStopped_loop1 s.1 s.2.1 s.2.2.1 s.2.2.2) ((0 : Int), (y3.1.length : Int), (0 : Int), y3.1)).bind (fun r14 => (some (r14, true)))))))))
def impl_TimeStopped.res (_ : WindRule) (_ : (List Int)) (y : Int × Bool) : AV := (.tup [(.v (.int .i64 y.1)), (.bl y.2)])
def impl_TimeStopped.out (_ : WindRule) (_ : (List Int)) (_ : Int × Bool) : List (Option LB) := []
def impl_TimeStopped.S (ar : List AV) (h : List (Option LB)) (r : AV) (h1 : List (Option LB)) : Prop := ∃ a0 a1 y, impl_TimeStopped a0 a1 = some y ∧ leL ar [(.agg [(.v (.int .i64 a0.1)), (.v (.int .i64 a0.2.1)), (.v (.int .i64 a0.2.2.1)), (.v (.int .i64 a0.2.2.2.1))]), (.tree (.int .i64) a1)] ∧ leH h [] ∧ r = impl_TimeStopped.res a0 a1 y ∧ h1 = impl_TimeStopped.out a0 a1 y
theorem impl_TimeStopped.call {ar : List AV} {h : List (Option LB)} {a0 : WindRule} {a1 : (List Int)} {y : Int × Bool} (H : impl_TimeStopped a0 a1 = some y) (h1 : leL ar [(.agg [(.v (.int .i64 a0.1)), (.v (.int .i64 a0.2.1)), (.v (.int .i64 a0.2.2.1)), (.v (.int .i64 a0.2.2.2.1))]), (.tree (.int .i64) a1)]) (h2 : leH h []) : impl_TimeStopped.S ar h (impl_TimeStopped.res a0 a1 y) (impl_TimeStopped.out a0 a1 y) := ⟨a0, a1, y, H, h1, h2, rfl, rfl⟩
set_option maxHeartbeats 4000000 in
set_option maxRecDepth 100000 in
theorem impl_TimeStopped.spec (a0 : WindRule) (a1 : (List Int)) (y : Int × Bool) (H : impl_TimeStopped a0 a1 = some y) : Spec Try.prog 18 [(.agg [(.v (.int .i64 a0.1)), (.v (.int .i64 a0.2.1)), (.v (.int .i64 a0.2.2.1)), (.v (.int .i64 a0.2.2.2.1))]), (.tree (.int .i64) a1)] [] (impl_TimeStopped.res a0 a1 y) (impl_TimeStopped.out a0 a1 y) := by
  refine spec_intro G15_ok (ct := []) Try.func18 rfl (by kernel_rfl) (by kernel_rfl) rfl ?_
  repeat' first
    | ((with_reducible refine eqg ?_); exact rfl)
    | ((with_reducible refine KOb.mk ?_); kernel_rfl)
    | ((with_reducible intro h); (repeat (first | replace H := grd_k H | replace H := out_step H (by assumption))); first | replace H := cond_t h H | replace H := cond_f h H)
    | ((with_reducible refine Ob.mk ?_); first | rfl | (repeat (first | exact grd_p H | replace H := grd_k H | replace H := out_step H (by assumption))))
    | (with_reducible exact True.intro)
    | constructor
    | ((conv => whnf); first
        | ((with_reducible refine Ob.mk ?_); first | rfl | (repeat (first | exact grd_p H | replace H := grd_k H | replace H := out_step H (by assumption))))
        | ((with_reducible refine CallW.mk ?_); (repeat (first | replace H := grd_k H | replace H := out_step H (by assumption))); obtain ⟨y, hy, H⟩ := bind_some H; first | ((with_reducible have hz : impl_IsWindRule _ = some y := hy); clear hz; refine Exists.intro _ (Exists.intro _ ⟨impl_IsWindRule.call hy ?_ ?_, rfl, rfl, ?_⟩)) | ((with_reducible have hz : impl_areVotes _ = some y := hy); clear hz; refine Exists.intro _ (Exists.intro _ ⟨impl_areVotes.call hy ?_ ?_, rfl, rfl, ?_⟩)) | ((with_reducible have hz : impl_WindRule_run _ _ _ = some y := hy); clear hz; refine Exists.intro _ (Exists.intro _ ⟨impl_WindRule_run.call hy ?_ ?_, rfl, rfl, ?_⟩)))
        | ((repeat (first | replace H := grd_k H | replace H := out_step H (by assumption))); refine loop_iter G15_ok (ct := []) (F := (fun s1 : Int × Int × Int × (List Int) => ⟨sl [(8, (.v (.int .i64 s1.1))), (26, (.own 0)), (27, (.v (.int .i64 s1.2.1))), (28, (.v (.int .i64 s1.2.2.1)))], [some (.arr 3 (.int .i64) s1.2.2.2)]⟩)) (step := (fun s : Int × Int × Int × (List Int) => impl_TimeStopped_loop1 s.1 s.2.1 s.2.2.1 s.2.2.2)) _ H (by kernel_rfl) (sub_auto ?_) ?_; rotate_left; (intro s1 r v hr H); rotate_right)
        | ((repeat (first | replace H := grd_k H | replace H := out_step H (by assumption))); refine again_step H (by assumption) (sub_auto ?_))
        | ((with_reducible refine fin_mk ?_); (repeat (first | replace H := grd_k H | replace H := out_step H (by assumption))); have H := Option.some.inj H; subst H))
def G16 : Env := G15.add 18 [] impl_TimeStopped.S
theorem G16_ok : EnvOk Try.prog G16 := G15_ok.add ent_18 fun ar h r h1 ⟨a0, a1, y, hy, e1, e2, e3, e4⟩ => by
  subst e3 e4; exact (impl_TimeStopped.spec a0 a1 y hy).le e1 e2
attribute [local irreducible] impl_TimeStopped

noncomputable def laws_eqIntS_loop1 (a0 : (List Int)) (a1 : (List Int)) (v2 : Int) : Option (Lp (Int) ((Unit) ⊕ (Unit))) :=
  (cond (decide (v2 < (a0.length : Int))) (grd (0 ≤ v2 ∧ v2 < (a0.length : Int)) (grd (0 ≤ v2 ∧ v2 < (a1.length : Int)) (cond (!decide ((a0.getD v2.toNat 0) = (a1.getD v2.toNat 0))) ((some (.out (Sum.inl ())))) (some (.go (w64 (v2 + (1 : Int)))))))) ((some (.out (Sum.inr ())))))
noncomputable def laws_eqIntS (a0 : (List Int)) (a1 : (List Int)) : Option (Bool) :=
  (cond (!decide ((a0.length : Int) = (a1.length : Int))) ((some false)) ((iter (fun s => laws_eqIntS_loop1 a0 a1 s) (0 : Int)).bind (Sum.elim (fun r4 => (some false)) (fun r5 => (some true)))))
def laws_eqIntS.res (_ : (List Int)) (_ : (List Int)) (y : Bool) : AV := (.bl y)
def laws_eqIntS.out (_ : (List Int)) (_ : (List Int)) (_ : Bool) : List (Option LB) := []
def laws_eqIntS.S (ar : List AV) (h : List (Option LB)) (r : AV) (h1 : List (Option LB)) : Prop := ∃ a0 a1 y, laws_eqIntS a0 a1 = some y ∧ leL ar [(.tree (.int .i64) a0), (.tree (.int .i64) a1)] ∧ leH h [] ∧ r = laws_eqIntS.res a0 a1 y ∧ h1 = laws_eqIntS.out a0 a1 y
theorem laws_eqIntS.call {ar : List AV} {h : List (Option LB)} {a0 : (List Int)} {a1 : (List Int)} {y : Bool} (H : laws_eqIntS a0 a1 = some y) (h1 : leL ar [(.tree (.int .i64) a0), (.tree (.int .i64) a1)]) (h2 : leH h []) : laws_eqIntS.S ar h (laws_eqIntS.res a0 a1 y) (laws_eqIntS.out a0 a1 y) := ⟨a0, a1, y, H, h1, h2, rfl, rfl⟩
set_option maxHeartbeats 4000000 in
set_option maxRecDepth 100000 in
theorem laws_eqIntS.spec (a0 : (List Int)) (a1 : (List Int)) (y : Bool) (H : laws_eqIntS a0 a1 = some y) : Spec Try.prog 19 [(.tree (.int .i64) a0), (.tree (.int .i64) a1)] [] (laws_eqIntS.res a0 a1 y) (laws_eqIntS.out a0 a1 y) := by
  refine spec_intro G16_ok (ct := []) Try.func19 rfl (by kernel_rfl) (by kernel_rfl) rfl ?_
  repeat' first
    | ((with_reducible refine eqg ?_); exact rfl)
    | ((with_reducible refine KOb.mk ?_); kernel_rfl)
    | ((with_reducible intro h); (repeat (first | replace H := grd_k H | replace H := out_step H (by assumption))); first | replace H := cond_t h H | replace H := cond_f h H)
    | ((with_reducible refine Ob.mk ?_); first | rfl | (repeat (first | exact grd_p H | replace H := grd_k H | replace H := out_step H (by assumption))))
    | (with_reducible exact True.intro)
    | constructor
    | ((conv => whnf); first
        | ((with_reducible refine Ob.mk ?_); first | rfl | (repeat (first | exact grd_p H | replace H := grd_k H | replace H := out_step H (by assumption))))
        | ((repeat (first | replace H := grd_k H | replace H := out_step H (by assumption))); refine loop_iter G16_ok (ct := []) (F := (fun s1 : Int => ⟨sl [(0, (.tree (.int .i64) a0)), (1, (.tree (.int .i64) a1)), (5, (.v (.int .i64 s1)))], []⟩)) (step := (fun s : Int => laws_eqIntS_loop1 _ _ s)) _ H (by kernel_rfl) (sub_auto ?_) ?_; rotate_left; (intro s1 r v hr H); rotate_right)
        | ((repeat (first | replace H := grd_k H | replace H := out_step H (by assumption))); refine again_step H (by assumption) (sub_auto ?_))
        | ((with_reducible refine fin_mk ?_); (repeat (first | replace H := grd_k H | replace H := out_step H (by assumption))); have H := Option.some.inj H; subst H))
def G17 : Env := G16.add 19 [] laws_eqIntS.S
theorem G17_ok : EnvOk Try.prog G17 := G16_ok.add ent_19 fun ar h r h1 ⟨a0, a1, y, hy, e1, e2, e3, e4⟩ => by
  subst e3 e4; exact (laws_eqIntS.spec a0 a1 y hy).le e1 e2
attribute [local irreducible] laws_eqIntS

noncomputable def laws_FnExactTimeStopped (a0 : WindRule) (a1 : (List Int)) : Option (Bool) :=
  (cond (decide ((1048576 : Int) < (a1.length : Int))) ((some true)) ((laws_toWindRule (a0.1, a0.2.1, a0.2.2.1, a0.2.2.2.1, ())).bind fun y1 => ((laws_toIntS a1).bind fun y2 => ((spec_TimeStopped (y1.1, y1.2.1, y1.2.2.1, y1.2.2.2.1, ()) y2).bind fun y3 => ((laws_toIntS a1).bind fun y4 => ((laws_toWindRule (a0.1, a0.2.1, a0.2.2.1, a0.2.2.2.1, ())).bind fun y5 => ((impl_TimeStopped (y5.1, y5.2.1, y5.2.2.1, y5.2.2.2.1, ()) y4).bind fun y6 => (cond (!decide (y6.1 = y3.1)) ((some false)) (cond (!(y6.2 == y3.2)) ((some false)) ((laws_toIntS a1).bind fun y7 => ((laws_eqIntS y4 y7).bind fun y8 => (cond (!y8) ((some false)) ((some true))))))))))))))
def laws_FnExactTimeStopped.res (_ : WindRule) (_ : (List Int)) (y : Bool) : AV := (.bl y)
def laws_FnExactTimeStopped.out (_ : WindRule) (_ : (List Int)) (_ : Bool) : List (Option LB) := []
def laws_FnExactTimeStopped.S (ar : List AV) (h : List (Option LB)) (r : AV) (h1 : List (Option LB)) : Prop := ∃ a0 a1 y, laws_FnExactTimeStopped a0 a1 = some y ∧ leL ar [(.agg [(.v (.int .i64 a0.1)), (.v (.int .i64 a0.2.1)), (.v (.int .i64 a0.2.2.1)), (.v (.int .i64 a0.2.2.2.1))]), (.tree (.int .i64) a1)] ∧ leH h [] ∧ r = laws_FnExactTimeStopped.res a0 a1 y ∧ h1 = laws_FnExactTimeStopped.out a0 a1 y
theorem laws_FnExactTimeStopped.call {ar : List AV} {h : List (Option LB)} {a0 : WindRule} {a1 : (List Int)} {y : Bool} (H : laws_FnExactTimeStopped a0 a1 = some y) (h1 : leL ar [(.agg [(.v (.int .i64 a0.1)), (.v (.int .i64 a0.2.1)), (.v (.int .i64 a0.2.2.1)), (.v (.int .i64 a0.2.2.2.1))]), (.tree (.int .i64) a1)]) (h2 : leH h []) : laws_FnExactTimeStopped.S ar h (laws_FnExactTimeStopped.res a0 a1 y) (laws_FnExactTimeStopped.out a0 a1 y) := ⟨a0, a1, y, H, h1, h2, rfl, rfl⟩
set_option maxHeartbeats 4000000 in
set_option maxRecDepth 100000 in
theorem laws_FnExactTimeStopped.spec (a0 : WindRule) (a1 : (List Int)) (y : Bool) (H : laws_FnExactTimeStopped a0 a1 = some y) : Spec Try.prog 3 [(.agg [(.v (.int .i64 a0.1)), (.v (.int .i64 a0.2.1)), (.v (.int .i64 a0.2.2.1)), (.v (.int .i64 a0.2.2.2.1))]), (.tree (.int .i64) a1)] [] (laws_FnExactTimeStopped.res a0 a1 y) (laws_FnExactTimeStopped.out a0 a1 y) := by
  refine spec_intro G17_ok (ct := []) Try.func3 rfl (by kernel_rfl) (by kernel_rfl) rfl ?_
  repeat' first
    | ((with_reducible refine eqg ?_); exact rfl)
    | ((with_reducible refine KOb.mk ?_); kernel_rfl)
    | ((with_reducible intro h); (repeat (first | replace H := grd_k H | replace H := out_step H (by assumption))); first | replace H := cond_t h H | replace H := cond_f h H)
    | ((with_reducible refine Ob.mk ?_); first | rfl | (repeat (first | exact grd_p H | replace H := grd_k H | replace H := out_step H (by assumption))))
    | (with_reducible exact True.intro)
    | constructor
    | ((conv => whnf); first
        | ((with_reducible refine Ob.mk ?_); first | rfl | (repeat (first | exact grd_p H | replace H := grd_k H | replace H := out_step H (by assumption))))
        | ((with_reducible refine CallW.mk ?_); (repeat (first | replace H := grd_k H | replace H := out_step H (by assumption))); obtain ⟨y, hy, H⟩ := bind_some H; first | ((with_reducible have hz : laws_toWindRule _ = some y := hy); clear hz; refine Exists.intro _ (Exists.intro _ ⟨laws_toWindRule.call hy ?_ ?_, rfl, rfl, ?_⟩)) | ((with_reducible have hz : laws_toIntS _ = some y := hy); clear hz; refine Exists.intro _ (Exists.intro _ ⟨laws_toIntS.call hy ?_ ?_, rfl, rfl, ?_⟩)) | ((with_reducible have hz : spec_TimeStopped _ _ = some y := hy); clear hz; refine Exists.intro _ (Exists.intro _ ⟨spec_TimeStopped.call hy ?_ ?_, rfl, rfl, ?_⟩)) | ((with_reducible have hz : impl_TimeStopped _ _ = some y := hy); clear hz; refine Exists.intro _ (Exists.intro _ ⟨impl_TimeStopped.call hy ?_ ?_, rfl, rfl, ?_⟩)) | ((with_reducible have hz : laws_eqIntS _ _ = some y := hy); clear hz; refine Exists.intro _ (Exists.intro _ ⟨laws_eqIntS.call hy ?_ ?_, rfl, rfl, ?_⟩)))
        | ((with_reducible refine fin_mk ?_); (repeat (first | replace H := grd_k H | replace H := out_step H (by assumption))); have H := Option.some.inj H; subst H))
def G18 : Env := G17.add 3 [] laws_FnExactTimeStopped.S
theorem G18_ok : EnvOk Try.prog G18 := G17_ok.add ent_3 fun ar h r h1 ⟨a0, a1, y, hy, e1, e2, e3, e4⟩ => by
  subst e3 e4; exact (laws_FnExactTimeStopped.spec a0 a1 y hy).le e1 e2
attribute [local irreducible] laws_FnExactTimeStopped

noncomputable def spec_CompareRules_loop1  (v12 : Int) (v13 : Int) (v14 : (List Int)) (v15 : (List Int)) : Option (Lp (Int × Int × (List Int) × (List Int)) ((Int))) :=
  (cond (decide (v13 < (v14.length : Int))) (grd (0 ≤ v13 ∧ v13 < (v14.length : Int)) (grd (0 ≤ v13 ∧ v13 < (v15.length : Int)) (cond (decide ((v15.getD v13.toNat 0) < (v14.getD v13.toNat 0))) (some (.go ((w64 (v12 + (1 : Int))), (w64 (v13 + (1 : Int))), v14, v15))) (some (.go (v12, (w64 (v13 + (1 : Int))), v14, v15)))))) ((some (.out v12))))
noncomputable def spec_CompareRules (a0 : WindRule) (a1 : WindRule) (a2 : (List Int)) : Option (Int × Bool) :=
  ((spec_l12Rule (a0.1, a0.2.1, a0.2.2.1, a0.2.2.2.1, ())).bind fun y1 => (cond (!y1) ((some ((0 : Int), false))) ((spec_l12Rule (a1.1, a1.2.1, a1.2.2.1, a1.2.2.2.1, ())).bind fun y2 => (cond (!y2) ((some ((0 : Int), false))) ((spec_l12Votes a2).bind fun y3 => (cond (!y3) ((some ((0 : Int), false))) ((spec_l12Run (a0.1, a0.2.1, a0.2.2.1, a0.2.2.2.1, ()) ((0 : Int), (0 : Int), ()) a2).bind fun y4 => ((spec_l12Run (a1.1, a1.2.1, a1.2.2.1, a1.2.2.2.1, ()) ((0 : Int), (0 : Int), ()) a2).bind fun y5 => ((iter (fun s => spec_CompareRules_loop1 s.1 s.2.1 s.2.2.1 s.2.2.2) ((0 : Int), (0 : Int), y4.1, y5.1)).bind (fun r16 => (some (r16, true))))))))))))
def spec_CompareRules.res (_ : WindRule) (_ : WindRule) (_ : (List Int)) (y : Int × Bool) : AV := (.tup [(.v (.int .i64 y.1)), (.bl y.2)])
def spec_CompareRules.out (_ : WindRule) (_ : WindRule) (_ : (List Int)) (_ : Int × Bool) : List (Option LB) := []
def spec_CompareRules.S (ar : List AV) (h : List (Option LB)) (r : AV) (h1 : List (Option LB)) : Prop := ∃ a0 a1 a2 y, spec_CompareRules a0 a1 a2 = some y ∧ leL ar [(.agg [(.v (.int .i64 a0.1)), (.v (.int .i64 a0.2.1)), (.v (.int .i64 a0.2.2.1)), (.v (.int .i64 a0.2.2.2.1))]), (.agg [(.v (.int .i64 a1.1)), (.v (.int .i64 a1.2.1)), (.v (.int .i64 a1.2.2.1)), (.v (.int .i64 a1.2.2.2.1))]), (.tree (.int .i64) a2)] ∧ leH h [] ∧ r = spec_CompareRules.res a0 a1 a2 y ∧ h1 = spec_CompareRules.out a0 a1 a2 y
theorem spec_CompareRules.call {ar : List AV} {h : List (Option LB)} {a0 : WindRule} {a1 : WindRule} {a2 : (List Int)} {y : Int × Bool} (H : spec_CompareRules a0 a1 a2 = some y) (h1 : leL ar [(.agg [(.v (.int .i64 a0.1)), (.v (.int .i64 a0.2.1)), (.v (.int .i64 a0.2.2.1)), (.v (.int .i64 a0.2.2.2.1))]), (.agg [(.v (.int .i64 a1.1)), (.v (.int .i64 a1.2.1)), (.v (.int .i64 a1.2.2.1)), (.v (.int .i64 a1.2.2.2.1))]), (.tree (.int .i64) a2)]) (h2 : leH h []) : spec_CompareRules.S ar h (spec_CompareRules.res a0 a1 a2 y) (spec_CompareRules.out a0 a1 a2 y) := ⟨a0, a1, a2, y, H, h1, h2, rfl, rfl⟩
set_option maxHeartbeats 4000000 in
set_option maxRecDepth 100000 in
theorem spec_CompareRules.spec (a0 : WindRule) (a1 : WindRule) (a2 : (List Int)) (y : Int × Bool) (H : spec_CompareRules a0 a1 a2 = some y) : Spec Try.prog 20 [(.agg [(.v (.int .i64 a0.1)), (.v (.int .i64 a0.2.1)), (.v (.int .i64 a0.2.2.1)), (.v (.int .i64 a0.2.2.2.1))]), (.agg [(.v (.int .i64 a1.1)), (.v (.int .i64 a1.2.1)), (.v (.int .i64 a1.2.2.1)), (.v (.int .i64 a1.2.2.2.1))]), (.tree (.int .i64) a2)] [] (spec_CompareRules.res a0 a1 a2 y) (spec_CompareRules.out a0 a1 a2 y) := by
  refine spec_intro G18_ok (ct := []) Try.func20 rfl (by kernel_rfl) (by kernel_rfl) rfl ?_
  repeat' first
    | ((with_reducible refine eqg ?_); exact rfl)
    | ((with_reducible refine KOb.mk ?_); kernel_rfl)
    | ((with_reducible intro h); (repeat (first | replace H := grd_k H | replace H := out_step H (by assumption))); first | replace H := cond_t h H | replace H := cond_f h H)
    | ((with_reducible refine Ob.mk ?_); first | rfl | (repeat (first | exact grd_p H | replace H := grd_k H | replace H := out_step H (by assumption))))
    | (with_reducible exact True.intro)
    | constructor
    | ((conv => whnf); first
        | ((with_reducible refine Ob.mk ?_); first | rfl | (repeat (first | exact grd_p H | replace H := grd_k H | replace H := out_step H (by assumption))))
        | ((with_reducible refine CallW.mk ?_); (repeat (first | replace H := grd_k H | replace H := out_step H (by assumption))); obtain ⟨y, hy, H⟩ := bind_some H; first | ((with_reducible have hz : spec_l12Rule _ = some y := hy); clear hz; refine Exists.intro _ (Exists.intro _ ⟨spec_l12Rule.call hy ?_ ?_, rfl, rfl, ?_⟩)) | ((with_reducible have hz : spec_l12Votes _ = some y := hy); clear hz; refine Exists.intro _ (Exists.intro _ ⟨spec_l12Votes.call hy ?_ ?_, rfl, rfl, ?_⟩)) | ((with_reducible have hz : spec_l12Run _ _ _ = some y := hy); clear hz; refine Exists.intro _ (Exists.intro _ ⟨spec_l12Run.call hy ?_ ?_, rfl, rfl, ?_⟩)))
        | ((repeat (first | replace H := grd_k H | replace H := out_step H (by assumption))); refine loop_iter G18_ok (ct := []) (F := (fun s1 : Int × Int × (List Int) × (List Int) => ⟨sl [(8, (.own 0)), (10, (.own 1)), (12, (.v (.int .i64 s1.1))), (13, (.v (.int .i64 s1.2.1)))], [some (.arr 3 (.int .i64) s1.2.2.1), some (.arr 3 (.int .i64) s1.2.2.2)]⟩)) (step := (fun s : Int × Int × (List Int) × (List Int) => spec_CompareRules_loop1 s.1 s.2.1 s.2.2.1 s.2.2.2)) _ H (by kernel_rfl) (sub_auto ?_) ?_; rotate_left; (intro s1 r v hr H); rotate_right)
        | ((repeat (first | replace H := grd_k H | replace H := out_step H (by assumption))); refine again_step H (by assumption) (sub_auto ?_))
        | ((with_reducible refine fin_mk ?_); (repeat (first | replace H := grd_k H | replace H := out_step H (by assumption))); have H := Option.some.inj H; subst H))
def G19 : Env := G18.add 20 [] spec_CompareRules.S
theorem G19_ok : EnvOk Try.prog G19 := G18_ok.add ent_20 fun ar h r h1 ⟨a0, a1, a2, y, hy, e1, e2, e3, e4⟩ => by
  subst e3 e4; exact (spec_CompareRules.spec a0 a1 a2 y hy).le e1 e2
attribute [local irreducible] spec_CompareRules

noncomputable def impl_CompareRules_loop1  (v14 : Int) (v15 : Int) (v16 : Int) (v17 : (List Int)) (v18 : (List Int)) : Option (Lp (Int × Int × Int × (List Int) × (List Int)) ((Int))) :=
  (cond (decide (v16 < v15)) (grd (0 ≤ v16 ∧ v16 < (v17.length : Int)) (grd (0 ≤ v16 ∧ v16 < (v18.length : Int)) (cond (decide ((v18.getD v16.toNat 0) < (v17.getD v16.toNat 0))) (some (.go ((w64 (v14 + (1 : Int))), v15, (w64 (v16 + (1 : Int))), v17, v18))) (some (.go (v14, v15, (w64 (v16 + (1 : Int))), v17, v18)))))) ((some (.out v14))))
noncomputable def impl_CompareRules (a0 : WindRule) (a1 : WindRule) (a2 : (List Int)) : Option (Int × Bool) :=
  ((impl_IsWindRule (a0.1, a0.2.1, a0.2.2.1, a0.2.2.2.1, ())).bind fun y1 => (cond (!y1) ((some ((0 : Int), false))) ((impl_IsWindRule (a1.1, a1.2.1, a1.2.2.1, a1.2.2.2.1, ())).bind fun y2 => (cond (!y2) ((some ((0 : Int), false))) ((impl_areVotes a2).bind fun y3 => (cond (!y3) ((some ((0 : Int), false))) ((impl_WindRule_run (a0.1, a0.2.1, a0.2.2.1, a0.2.2.2.1, ()) ((0 : Int), (0 : Int), ()) a2).bind fun y4 => ((impl_WindRule_run (a1.1, a1.2.1, a1.2.2.1, a1.2.2.2.1, ()) ((0 : Int), (0 : Int), ()) a2).bind fun y5 => ((iter (fun s => impl_CompareRules_loop1 s.1 s.2.1 s.2.2.1 s.2.2.2.1 s.2.2.2.2) ((0 : Int), (y4.1.length : Int), (0 : Int), y4.1, y5.1)).bind (fun r19 => (some (r19, true))))))))))))
def impl_CompareRules.res (_ : WindRule) (_ : WindRule) (_ : (List Int)) (y : Int × Bool) : AV := (.tup [(.v (.int .i64 y.1)), (.bl y.2)])
def impl_CompareRules.out (_ : WindRule) (_ : WindRule) (_ : (List Int)) (_ : Int × Bool) : List (Option LB) := []
def impl_CompareRules.S (ar : List AV) (h : List (Option LB)) (r : AV) (h1 : List (Option LB)) : Prop := ∃ a0 a1 a2 y, impl_CompareRules a0 a1 a2 = some y ∧ leL ar [(.agg [(.v (.int .i64 a0.1)), (.v (.int .i64 a0.2.1)), (.v (.int .i64 a0.2.2.1)), (.v (.int .i64 a0.2.2.2.1))]), (.agg [(.v (.int .i64 a1.1)), (.v (.int .i64 a1.2.1)), (.v (.int .i64 a1.2.2.1)), (.v (.int .i64 a1.2.2.2.1))]), (.tree (.int .i64) a2)] ∧ leH h [] ∧ r = impl_CompareRules.res a0 a1 a2 y ∧ h1 = impl_CompareRules.out a0 a1 a2 y
theorem impl_CompareRules.call {ar : List AV} {h : List (Option LB)} {a0 : WindRule} {a1 : WindRule} {a2 : (List Int)} {y : Int × Bool} (H : impl_CompareRules a0 a1 a2 = some y) (h1 : leL ar [(.agg [(.v (.int .i64 a0.1)), (.v (.int .i64 a0.2.1)), (.v (.int .i64 a0.2.2.1)), (.v (.int .i64 a0.2.2.2.1))]), (.agg [(.v (.int .i64 a1.1)), (.v (.int .i64 a1.2.1)), (.v (.int .i64 a1.2.2.1)), (.v (.int .i64 a1.2.2.2.1))]), (.tree (.int .i64) a2)]) (h2 : leH h []) : impl_CompareRules.S ar h (impl_CompareRules.res a0 a1 a2 y) (impl_CompareRules.out a0 a1 a2 y) := ⟨a0, a1, a2, y, H, h1, h2, rfl, rfl⟩
set_option maxHeartbeats 4000000 in
set_option maxRecDepth 100000 in
theorem impl_CompareRules.spec (a0 : WindRule) (a1 : WindRule) (a2 : (List Int)) (y : Int × Bool) (H : impl_CompareRules a0 a1 a2 = some y) : Spec Try.prog 21 [(.agg [(.v (.int .i64 a0.1)), (.v (.int .i64 a0.2.1)), (.v (.int .i64 a0.2.2.1)), (.v (.int .i64 a0.2.2.2.1))]), (.agg [(.v (.int .i64 a1.1)), (.v (.int .i64 a1.2.1)), (.v (.int .i64 a1.2.2.1)), (.v (.int .i64 a1.2.2.2.1))]), (.tree (.int .i64) a2)] [] (impl_CompareRules.res a0 a1 a2 y) (impl_CompareRules.out a0 a1 a2 y) := by
  refine spec_intro G19_ok (ct := []) Try.func21 rfl (by kernel_rfl) (by kernel_rfl) rfl ?_
  repeat' first
    | ((with_reducible refine eqg ?_); exact rfl)
    | ((with_reducible refine KOb.mk ?_); kernel_rfl)
    | ((with_reducible intro h); (repeat (first | replace H := grd_k H | replace H := out_step H (by assumption))); first | replace H := cond_t h H | replace H := cond_f h H)
    | ((with_reducible refine Ob.mk ?_); first | rfl | (repeat (first | exact grd_p H | replace H := grd_k H | replace H := out_step H (by assumption))))
    | (with_reducible exact True.intro)
    | constructor
    | ((conv => whnf); first
        | ((with_reducible refine Ob.mk ?_); first | rfl | (repeat (first | exact grd_p H | replace H := grd_k H | replace H := out_step H (by assumption))))
        | ((with_reducible refine CallW.mk ?_); (repeat (first | replace H := grd_k H | replace H := out_step H (by assumption))); obtain ⟨y, hy, H⟩ := bind_some H; first | ((with_reducible have hz : impl_IsWindRule _ = some y := hy); clear hz; refine Exists.intro _ (Exists.intro _ ⟨impl_IsWindRule.call hy ?_ ?_, rfl, rfl, ?_⟩)) | ((with_reducible have hz : impl_areVotes _ = some y := hy); clear hz; refine Exists.intro _ (Exists.intro _ ⟨impl_areVotes.call hy ?_ ?_, rfl, rfl, ?_⟩)) | ((with_reducible have hz : impl_WindRule_run _ _ _ = some y := hy); clear hz; refine Exists.intro _ (Exists.intro _ ⟨impl_WindRule_run.call hy ?_ ?_, rfl, rfl, ?_⟩)))
        | ((repeat (first | replace H := grd_k H | replace H := out_step H (by assumption))); refine loop_iter G19_ok (ct := []) (F := (fun s1 : Int × Int × Int × (List Int) × (List Int) => ⟨sl [(8, (.own 0)), (10, (.own 1)), (12, (.v (.int .i64 s1.1))), (42, (.v (.int .i64 s1.2.1))), (43, (.v (.int .i64 s1.2.2.1)))], [some (.arr 3 (.int .i64) s1.2.2.2.1), some (.arr 3 (.int .i64) s1.2.2.2.2)]⟩)) (step := (fun s : Int × Int × Int × (List Int) × (List Int) => impl_CompareRules_loop1 s.1 s.2.1 s.2.2.1 s.2.2.2.1 s.2.2.2.2)) _ H (by kernel_rfl) (sub_auto ?_) ?_; rotate_left; (intro s1 r v hr H); rotate_right)
        | ((repeat (first | replace H := grd_k H | replace H := out_step H (by assumption))); refine again_step H (by assumption) (sub_auto ?_))
        | ((with_reducible refine fin_mk ?_); (repeat (first | replace H := grd_k H | replace H := out_step H (by assumption))); have H := Option.some.inj H; subst H))
def G20 : Env := G19.add 21 [] impl_CompareRules.S
theorem G20_ok : EnvOk Try.prog G20 := G19_ok.add ent_21 fun ar h r h1 ⟨a0, a1, a2, y, hy, e1, e2, e3, e4⟩ => by
  subst e3 e4; exact (impl_CompareRules.spec a0 a1 a2 y hy).le e1 e2
attribute [local irreducible] impl_CompareRules

noncomputable def laws_FnExactCompareRules (a0 : WindRule) (a1 : WindRule) (a2 : (List Int)) : Option (Bool) :=
  (cond (decide ((1048576 : Int) < (a2.length : Int))) ((some true)) ((laws_toWindRule (a0.1, a0.2.1, a0.2.2.1, a0.2.2.2.1, ())).bind fun y1 => ((laws_toWindRule (a1.1, a1.2.1, a1.2.2.1, a1.2.2.2.1, ())).bind fun y2 => ((laws_toIntS a2).bind fun y3 => ((spec_CompareRules (y1.1, y1.2.1, y1.2.2.1, y1.2.2.2.1, ()) (y2.1, y2.2.1, y2.2.2.1, y2.2.2.2.1, ()) y3).bind fun y4 => ((laws_toIntS a2).bind fun y5 => ((laws_toWindRule (a0.1, a0.2.1, a0.2.2.1, a0.2.2.2.1, ())).bind fun y6 => ((laws_toWindRule (a1.1, a1.2.1, a1.2.2.1, a1.2.2.2.1, ())).bind fun y7 => ((impl_CompareRules (y6.1, y6.2.1, y6.2.2.1, y6.2.2.2.1, ()) (y7.1, y7.2.1, y7.2.2.1, y7.2.2.2.1, ()) y5).bind fun y8 => (cond (!decide (y8.1 = y4.1)) ((some false)) (cond (!(y8.2 == y4.2)) ((some false)) ((laws_toIntS a2).bind fun y9 => ((laws_eqIntS y5 y9).bind fun y10 => (cond (!y10) ((some false)) ((some true))))))))))))))))
def laws_FnExactCompareRules.res (_ : WindRule) (_ : WindRule) (_ : (List Int)) (y : Bool) : AV := (.bl y)
def laws_FnExactCompareRules.out (_ : WindRule) (_ : WindRule) (_ : (List Int)) (_ : Bool) : List (Option LB) := []
def laws_FnExactCompareRules.S (ar : List AV) (h : List (Option LB)) (r : AV) (h1 : List (Option LB)) : Prop := ∃ a0 a1 a2 y, laws_FnExactCompareRules a0 a1 a2 = some y ∧ leL ar [(.agg [(.v (.int .i64 a0.1)), (.v (.int .i64 a0.2.1)), (.v (.int .i64 a0.2.2.1)), (.v (.int .i64 a0.2.2.2.1))]), (.agg [(.v (.int .i64 a1.1)), (.v (.int .i64 a1.2.1)), (.v (.int .i64 a1.2.2.1)), (.v (.int .i64 a1.2.2.2.1))]), (.tree (.int .i64) a2)] ∧ leH h [] ∧ r = laws_FnExactCompareRules.res a0 a1 a2 y ∧ h1 = laws_FnExactCompareRules.out a0 a1 a2 y
theorem laws_FnExactCompareRules.call {ar : List AV} {h : List (Option LB)} {a0 : WindRule} {a1 : WindRule} {a2 : (List Int)} {y : Bool} (H : laws_FnExactCompareRules a0 a1 a2 = some y) (h1 : leL ar [(.agg [(.v (.int .i64 a0.1)), (.v (.int .i64 a0.2.1)), (.v (.int .i64 a0.2.2.1)), (.v (.int .i64 a0.2.2.2.1))]), (.agg [(.v (.int .i64 a1.1)), (.v (.int .i64 a1.2.1)), (.v (.int .i64 a1.2.2.1)), (.v (.int .i64 a1.2.2.2.1))]), (.tree (.int .i64) a2)]) (h2 : leH h []) : laws_FnExactCompareRules.S ar h (laws_FnExactCompareRules.res a0 a1 a2 y) (laws_FnExactCompareRules.out a0 a1 a2 y) := ⟨a0, a1, a2, y, H, h1, h2, rfl, rfl⟩
set_option maxHeartbeats 4000000 in
set_option maxRecDepth 100000 in
theorem laws_FnExactCompareRules.spec (a0 : WindRule) (a1 : WindRule) (a2 : (List Int)) (y : Bool) (H : laws_FnExactCompareRules a0 a1 a2 = some y) : Spec Try.prog 4 [(.agg [(.v (.int .i64 a0.1)), (.v (.int .i64 a0.2.1)), (.v (.int .i64 a0.2.2.1)), (.v (.int .i64 a0.2.2.2.1))]), (.agg [(.v (.int .i64 a1.1)), (.v (.int .i64 a1.2.1)), (.v (.int .i64 a1.2.2.1)), (.v (.int .i64 a1.2.2.2.1))]), (.tree (.int .i64) a2)] [] (laws_FnExactCompareRules.res a0 a1 a2 y) (laws_FnExactCompareRules.out a0 a1 a2 y) := by
  refine spec_intro G20_ok (ct := []) Try.func4 rfl (by kernel_rfl) (by kernel_rfl) rfl ?_
  repeat' first
    | ((with_reducible refine eqg ?_); exact rfl)
    | ((with_reducible refine KOb.mk ?_); kernel_rfl)
    | ((with_reducible intro h); (repeat (first | replace H := grd_k H | replace H := out_step H (by assumption))); first | replace H := cond_t h H | replace H := cond_f h H)
    | ((with_reducible refine Ob.mk ?_); first | rfl | (repeat (first | exact grd_p H | replace H := grd_k H | replace H := out_step H (by assumption))))
    | (with_reducible exact True.intro)
    | constructor
    | ((conv => whnf); first
        | ((with_reducible refine Ob.mk ?_); first | rfl | (repeat (first | exact grd_p H | replace H := grd_k H | replace H := out_step H (by assumption))))
        | ((with_reducible refine CallW.mk ?_); (repeat (first | replace H := grd_k H | replace H := out_step H (by assumption))); obtain ⟨y, hy, H⟩ := bind_some H; first | ((with_reducible have hz : laws_toWindRule _ = some y := hy); clear hz; refine Exists.intro _ (Exists.intro _ ⟨laws_toWindRule.call hy ?_ ?_, rfl, rfl, ?_⟩)) | ((with_reducible have hz : laws_toIntS _ = some y := hy); clear hz; refine Exists.intro _ (Exists.intro _ ⟨laws_toIntS.call hy ?_ ?_, rfl, rfl, ?_⟩)) | ((with_reducible have hz : spec_CompareRules _ _ _ = some y := hy); clear hz; refine Exists.intro _ (Exists.intro _ ⟨spec_CompareRules.call hy ?_ ?_, rfl, rfl, ?_⟩)) | ((with_reducible have hz : impl_CompareRules _ _ _ = some y := hy); clear hz; refine Exists.intro _ (Exists.intro _ ⟨impl_CompareRules.call hy ?_ ?_, rfl, rfl, ?_⟩)) | ((with_reducible have hz : laws_eqIntS _ _ = some y := hy); clear hz; refine Exists.intro _ (Exists.intro _ ⟨laws_eqIntS.call hy ?_ ?_, rfl, rfl, ?_⟩)))
        | ((with_reducible refine fin_mk ?_); (repeat (first | replace H := grd_k H | replace H := out_step H (by assumption))); have H := Option.some.inj H; subst H))
def G21 : Env := G20.add 4 [] laws_FnExactCompareRules.S
theorem G21_ok : EnvOk Try.prog G21 := G20_ok.add ent_4 fun ar h r h1 ⟨a0, a1, a2, y, hy, e1, e2, e3, e4⟩ => by
  subst e3 e4; exact (laws_FnExactCompareRules.spec a0 a1 a2 y hy).le e1 e2
attribute [local irreducible] laws_FnExactCompareRules

end Go.Proofs.Ytplknllbpdookaa
