/-
  Contracts, printed by a program.
-/
import Derived.Test.YtplknllbpdookaaC10t2
namespace Go.Proofs.Ytplknllbpdookaa
open Go.RowKit
attribute [local irreducible] Ob loopwp Sub Spec Fin Again CallW CutC KOb iter joinx outm

attribute [local irreducible] laws_vBig spec_l1Cur_next spec_l1Cur_pick spec_l1Cur_among spec_l1Cur_windRule spec_l1Most spec_l1Cur_one spec_l1Cur_windState spec_l1Cur_votes spec_DrawRunWind impl_within impl_IsWindRule impl_windOk impl_allIn impl_areVotes impl_WindRule_next impl_WindRule_run impl_RunWind spec_l1In spec_l12Rule spec_l12State spec_l12Vote spec_l12Votes spec_l12Next spec_l12Run spec_RunWind

noncomputable def laws_vInts_loop1 (a0 : (List Int)) (a1 : (List Int)) (v2 : Int) : Option (Lp (Int) ((Unit) ⊕ (Unit))) :=
  (cond (decide (v2 < (a0.length : Int))) (grd (0 ≤ v2 ∧ v2 < (a0.length : Int)) (grd (0 ≤ v2 ∧ v2 < (a1.length : Int)) (cond (!decide ((a0.getD v2.toNat 0) = (a1.getD v2.toNat 0))) ((some (.out (Sum.inl ())))) (some (.go (w64 (v2 + (1 : Int)))))))) ((some (.out (Sum.inr ())))))
noncomputable def laws_vInts (a0 : (List Int)) (a1 : (List Int)) : Option (Bool) :=
  (cond (!decide ((a0.length : Int) = (a1.length : Int))) ((some false)) ((iter (fun s => laws_vInts_loop1 a0 a1 s) (0 : Int)).bind (Sum.elim (fun r4 => (some false)) (fun r5 => (some true)))))
def laws_vInts.res (_ : (List Int)) (_ : (List Int)) (y : Bool) : AV := (.bl y)
def laws_vInts.out (_ : (List Int)) (_ : (List Int)) (_ : Bool) : List (Option LB) := []
def laws_vInts.S (ar : List AV) (h : List (Option LB)) (r : AV) (h1 : List (Option LB)) : Prop := ∃ a0 a1 y, laws_vInts a0 a1 = some y ∧ leL ar [(.tree (.int .i64) a0), (.tree (.int .i64) a1)] ∧ leH h [] ∧ r = laws_vInts.res a0 a1 y ∧ h1 = laws_vInts.out a0 a1 y
theorem laws_vInts.call {ar : List AV} {h : List (Option LB)} {a0 : (List Int)} {a1 : (List Int)} {y : Bool} (H : laws_vInts a0 a1 = some y) (h0 : leLk ar [(.tree (.int .i64) a0), (.tree (.int .i64) a1)] (leHk h [])) : laws_vInts.S ar h (laws_vInts.res a0 a1 y) (laws_vInts.out a0 a1 y) := ⟨a0, a1, y, H, (args_ok h0).1, (args_ok h0).2, rfl, rfl⟩
set_option maxHeartbeats 100000000 in
set_option maxRecDepth 100000 in
theorem laws_vInts.spec (a0 : (List Int)) (a1 : (List Int)) (y : Bool) (H : laws_vInts a0 a1 = some y) : Spec Try.prog 46 [(.tree (.int .i64) a0), (.tree (.int .i64) a1)] [] (laws_vInts.res a0 a1 y) (laws_vInts.out a0 a1 y) := by
  refine spec_intro (G26_ok.at tok []) (ct := [(5, some [0, 1, 5])]) Try.func46 rfl (by kernel_rfl) (by kernel_rfl) rfl ?_
  repeat' first
    | ((with_reducible refine eqg ?_); exact rfl)
    | ((with_reducible refine KOb.mk ?_); kernel_rfl)
    | ((with_reducible intro h); (repeat (first | replace H := grd_k H | replace H := out_step H (by assumption))); first | replace H := cond_t h H | replace H := cond_f h H | exact absurd h (by decide) | skip)
    | ((with_reducible refine Ob.mk ?_); first | rfl | (repeat (first | exact grd_p H | replace H := grd_k H | replace H := out_step H (by assumption))))
    | (with_reducible exact True.intro)
    | constructor
    | ((conv => whnf); first
        | ((with_reducible refine Ob.mk ?_); first | rfl | (repeat (first | exact grd_p H | replace H := grd_k H | replace H := out_step H (by assumption))))
        | ((repeat (first | replace H := grd_k H | replace H := out_step H (by assumption))); refine loop_iter (G26_ok.at tok []) (ct := [(5, some [0, 1, 5])]) (F := (fun s1 : Int => ⟨sl [(0, (.tree (.int .i64) a0)), (1, (.tree (.int .i64) a1)), (5, (.v (.int .i64 s1)))], []⟩)) (step := (fun s : Int => laws_vInts_loop1 _ _ s)) _ H (by kernel_rfl) (sub_auto ?_) ?_; rotate_left; (intro s1 r v hr H); rotate_right)
        | ((repeat (first | replace H := grd_k H | replace H := out_step H (by assumption))); refine again_step H (by assumption) (sub_auto ?_))
        | ((with_reducible refine fin_mk ?_); (repeat (first | replace H := grd_k H | replace H := out_step H (by assumption))); have H := Option.some.inj H; subst H))
def G27 : Env := G26.add 46 [] laws_vInts.S
theorem G27_ok : EnvOk Try.prog G27 := G26_ok.add ent_46 fun ar h r h1 ⟨a0, a1, y, hy, e1, e2, e3, e4⟩ => by
  subst e3 e4; exact (laws_vInts.spec a0 a1 y hy).le e1 e2
attribute [local irreducible] laws_vInts

end Go.Proofs.Ytplknllbpdookaa
