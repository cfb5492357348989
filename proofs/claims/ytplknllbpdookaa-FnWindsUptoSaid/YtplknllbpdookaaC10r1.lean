/-
  Contracts, printed by a program.
-/
import Derived.Test.YtplknllbpdookaaTy
namespace Go.Proofs.Ytplknllbpdookaa
open Go.RowKit
attribute [local irreducible] Ob loopwp Sub Spec Fin Again CallW CutC KOb iter joinx outm

noncomputable def laws_vBig (a0 : (List Int)) : Option (Bool) :=
  (some (decide ((65536 : Int) < (a0.length : Int))))
def laws_vBig.res (_ : (List Int)) (y : Bool) : AV := (.bl y)
def laws_vBig.out (_ : (List Int)) (_ : Bool) : List (Option LB) := []
def laws_vBig.S (ar : List AV) (h : List (Option LB)) (r : AV) (h1 : List (Option LB)) : Prop := ∃ a0 y, laws_vBig a0 = some y ∧ leL ar [(.tree (.int .u8) a0)] ∧ leH h [] ∧ r = laws_vBig.res a0 y ∧ h1 = laws_vBig.out a0 y
theorem laws_vBig.call {ar : List AV} {h : List (Option LB)} {a0 : (List Int)} {y : Bool} (H : laws_vBig a0 = some y) (h0 : leLk ar [(.tree (.int .u8) a0)] (leHk h [])) : laws_vBig.S ar h (laws_vBig.res a0 y) (laws_vBig.out a0 y) := ⟨a0, y, H, (args_ok h0).1, (args_ok h0).2, rfl, rfl⟩
set_option maxHeartbeats 100000000 in
set_option maxRecDepth 100000 in
theorem laws_vBig.spec (a0 : (List Int)) (y : Bool) (H : laws_vBig a0 = some y) : Spec Try.prog 44 [(.tree (.int .u8) a0)] [] (laws_vBig.res a0 y) (laws_vBig.out a0 y) := by
  refine spec_intro (G0_ok.at tok []) (ct := []) Try.func44 rfl (by kernel_rfl) (by kernel_rfl) rfl ?_
  repeat' first
    | ((with_reducible refine eqg ?_); exact rfl)
    | ((with_reducible refine KOb.mk ?_); kernel_rfl)
    | ((with_reducible intro h); (repeat (first | replace H := grd_k H | replace H := out_step H (by assumption))); first | replace H := cond_t h H | replace H := cond_f h H | exact absurd h (by decide) | skip)
    | ((with_reducible refine Ob.mk ?_); first | rfl | (repeat (first | exact grd_p H | replace H := grd_k H | replace H := out_step H (by assumption))))
    | (with_reducible exact True.intro)
    | constructor
    | ((conv => whnf); first
        | ((with_reducible refine Ob.mk ?_); first | rfl | (repeat (first | exact grd_p H | replace H := grd_k H | replace H := out_step H (by assumption))))
        | ((with_reducible refine fin_mk ?_); (repeat (first | replace H := grd_k H | replace H := out_step H (by assumption))); have H := Option.some.inj H; subst H))
def G1 : Env := G0.add 44 [] laws_vBig.S
theorem G1_ok : EnvOk Try.prog G1 := G0_ok.add ent_44 fun ar h r h1 ⟨a0, y, hy, e1, e2, e3, e4⟩ => by
  subst e3 e4; exact (laws_vBig.spec a0 y hy).le e1 e2
attribute [local irreducible] laws_vBig

noncomputable def spec_l1Cur_next (a0 : l1Cur) : Option (Int × l1Cur) :=
  ((cond (decide (a0.2.1 < (a0.1.length : Int))) (grd (0 ≤ a0.2.1 ∧ a0.2.1 < (a0.1.length : Int)) ((some (w64 (a0.1.getD a0.2.1.toNat 0))))) ((some (0 : Int)))).bind fun z1 => (cond (decide ((w64 (a0.2.1 + (1 : Int))) ≤ (a0.1.length : Int))) ((some (z1, (a0.1, (w64 (a0.2.1 + (1 : Int))), (wu64 ((wu64 ((wu64 (a0.2.2.1 * (6364136223846793005 : Int))) + (wu64 z1))) + (935935 : Int))), ())))) (grd (0 ≤ (40 : Int)) ((some ((w64 (wu64 ((BitVec.ofInt (IntKind.u64).bits (Int.fdiv (wu64 ((wu64 ((wu64 (a0.2.2.1 * (6364136223846793005 : Int))) + (wu64 z1))) + (935935 : Int))) (2 ^ min (40 : Int).toNat (IntKind.u64).bits)) &&& BitVec.ofInt (IntKind.u64).bits (255 : Int)).toNat))), (a0.1, (w64 (a0.2.1 + (1 : Int))), (wu64 ((wu64 ((wu64 (a0.2.2.1 * (6364136223846793005 : Int))) + (wu64 z1))) + (935935 : Int))), ())))))))
def spec_l1Cur_next.res (_ : l1Cur) (y : Int × l1Cur) : AV := (.v (.int .i64 y.1))
def spec_l1Cur_next.out (_ : l1Cur) (y : Int × l1Cur) : List (Option LB) := [some (.box 130 [(.tree (.int .u8) y.2.1), (.v (.int .i64 y.2.2.1)), (.v (.int .u64 y.2.2.2.1))])]
def spec_l1Cur_next.S (ar : List AV) (h : List (Option LB)) (r : AV) (h1 : List (Option LB)) : Prop := ∃ a0 y, spec_l1Cur_next a0 = some y ∧ leL ar [(.loc 0 0 0)] ∧ leH h [some (.box 130 [(.tree (.int .u8) a0.1), (.v (.int .i64 a0.2.1)), (.v (.int .u64 a0.2.2.1))])] ∧ r = spec_l1Cur_next.res a0 y ∧ h1 = spec_l1Cur_next.out a0 y
theorem spec_l1Cur_next.call {ar : List AV} {h : List (Option LB)} {a0 : l1Cur} {y : Int × l1Cur} (H : spec_l1Cur_next a0 = some y) (h0 : leLk ar [(.loc 0 0 0)] (leHk h [some (.box 130 [(.tree (.int .u8) a0.1), (.v (.int .i64 a0.2.1)), (.v (.int .u64 a0.2.2.1))])])) : spec_l1Cur_next.S ar h (spec_l1Cur_next.res a0 y) (spec_l1Cur_next.out a0 y) := ⟨a0, y, H, (args_ok h0).1, (args_ok h0).2, rfl, rfl⟩
set_option maxHeartbeats 100000000 in
set_option maxRecDepth 100000 in
theorem spec_l1Cur_next.spec (a0 : l1Cur) (y : Int × l1Cur) (H : spec_l1Cur_next a0 = some y) : Spec Try.prog 138 [(.loc 0 0 0)] [some (.box 130 [(.tree (.int .u8) a0.1), (.v (.int .i64 a0.2.1)), (.v (.int .u64 a0.2.2.1))])] (spec_l1Cur_next.res a0 y) (spec_l1Cur_next.out a0 y) := by
  refine spec_intro (G1_ok.at tok []) (ct := [(4, none), (6, some [0, 3])]) Try.func138 rfl (by kernel_rfl) (by kernel_rfl) rfl ?_
  repeat' first
    | ((with_reducible refine eqg ?_); exact rfl)
    | ((with_reducible refine KOb.mk ?_); kernel_rfl)
    | ((with_reducible intro h); (repeat (first | replace H := grd_k H | replace H := out_step H (by assumption))); first | replace H := cond_t h H | replace H := cond_f h H | exact absurd h (by decide) | skip)
    | ((with_reducible refine Ob.mk ?_); first | rfl | (repeat (first | exact grd_p H | replace H := grd_k H | replace H := out_step H (by assumption))))
    | (with_reducible exact True.intro)
    | constructor
    | ((conv => whnf); first
        | ((with_reducible refine Ob.mk ?_); first | rfl | (repeat (first | exact grd_p H | replace H := grd_k H | replace H := out_step H (by assumption))))
        | ((with_reducible refine cutAt (id := 4) ?_); (repeat (first | replace H := grd_k H | replace H := out_step H (by assumption))); first | (replace H := bind_some H; obtain ⟨z, hz, H⟩ := H; refine CutC.mk (id := 4) ⟨sl [(0, (.loc 0 0 0)), (3, (.v (.int .i64 z)))], [some (.box 130 [(.tree (.int .u8) a0.1), (.v (.int .i64 a0.2.1)), (.v (.int .u64 a0.2.2.1))])]⟩ ?_ ?_; (replace H := hz)))
        | ((repeat (first | replace H := grd_k H | replace H := out_step H (by assumption))); have H := Option.some.inj H; subst H; with_reducible refine sub_auto ?_)
        | ((with_reducible refine fin_mk ?_); (repeat (first | replace H := grd_k H | replace H := out_step H (by assumption))); have H := Option.some.inj H; subst H))
def G2 : Env := G1.add 138 [true] spec_l1Cur_next.S
theorem G2_ok : EnvOk Try.prog G2 := G1_ok.add ent_138 fun ar h r h1 ⟨a0, y, hy, e1, e2, e3, e4⟩ => by
  subst e3 e4; exact (spec_l1Cur_next.spec a0 y hy).le e1 e2
attribute [local irreducible] spec_l1Cur_next

noncomputable def spec_l1Cur_pick (a0 : l1Cur) (a1 : Int) : Option (Int × l1Cur) :=
  (cond (decide (a1 ≤ (1 : Int))) ((some ((0 : Int), (a0.1, a0.2.1, a0.2.2.1, ())))) ((spec_l1Cur_next (a0.1, a0.2.1, a0.2.2.1, ())).bind fun y1 => (cond (decide ((200 : Int) < a1)) ((spec_l1Cur_next (y1.2.1, y1.2.2.1, y1.2.2.2.1, ())).bind fun y2 => (grd (a1 ≠ 0) ((some ((Int.tmod (w64 ((w64 (y1.1 * (256 : Int))) + y2.1)) a1), (y2.2.1, y2.2.2.1, y2.2.2.2.1, ())))))) (grd (a1 ≠ 0) ((some ((Int.tmod y1.1 a1), (y1.2.1, y1.2.2.1, y1.2.2.2.1, ()))))))))
def spec_l1Cur_pick.res (_ : l1Cur) (_ : Int) (y : Int × l1Cur) : AV := (.v (.int .i64 y.1))
def spec_l1Cur_pick.out (_ : l1Cur) (_ : Int) (y : Int × l1Cur) : List (Option LB) := [some (.box 130 [(.tree (.int .u8) y.2.1), (.v (.int .i64 y.2.2.1)), (.v (.int .u64 y.2.2.2.1))])]
def spec_l1Cur_pick.S (ar : List AV) (h : List (Option LB)) (r : AV) (h1 : List (Option LB)) : Prop := ∃ a0 a1 y, spec_l1Cur_pick a0 a1 = some y ∧ leL ar [(.loc 0 0 0), (.v (.int .i64 a1))] ∧ leH h [some (.box 130 [(.tree (.int .u8) a0.1), (.v (.int .i64 a0.2.1)), (.v (.int .u64 a0.2.2.1))])] ∧ r = spec_l1Cur_pick.res a0 a1 y ∧ h1 = spec_l1Cur_pick.out a0 a1 y
theorem spec_l1Cur_pick.call {ar : List AV} {h : List (Option LB)} {a0 : l1Cur} {a1 : Int} {y : Int × l1Cur} (H : spec_l1Cur_pick a0 a1 = some y) (h0 : leLk ar [(.loc 0 0 0), (.v (.int .i64 a1))] (leHk h [some (.box 130 [(.tree (.int .u8) a0.1), (.v (.int .i64 a0.2.1)), (.v (.int .u64 a0.2.2.1))])])) : spec_l1Cur_pick.S ar h (spec_l1Cur_pick.res a0 a1 y) (spec_l1Cur_pick.out a0 a1 y) := ⟨a0, a1, y, H, (args_ok h0).1, (args_ok h0).2, rfl, rfl⟩
set_option maxHeartbeats 100000000 in
set_option maxRecDepth 100000 in
theorem spec_l1Cur_pick.spec (a0 : l1Cur) (a1 : Int) (y : Int × l1Cur) (H : spec_l1Cur_pick a0 a1 = some y) : Spec Try.prog 114 [(.loc 0 0 0), (.v (.int .i64 a1))] [some (.box 130 [(.tree (.int .u8) a0.1), (.v (.int .i64 a0.2.1)), (.v (.int .u64 a0.2.2.1))])] (spec_l1Cur_pick.res a0 a1 y) (spec_l1Cur_pick.out a0 a1 y) := by
  refine spec_intro (G2_ok.at tok []) (ct := [(6, some [1, 5])]) Try.func114 rfl (by kernel_rfl) (by kernel_rfl) rfl ?_
  repeat' first
    | ((with_reducible refine eqg ?_); exact rfl)
    | ((with_reducible refine KOb.mk ?_); kernel_rfl)
    | ((with_reducible intro h); (repeat (first | replace H := grd_k H | replace H := out_step H (by assumption))); first | replace H := cond_t h H | replace H := cond_f h H | exact absurd h (by decide) | skip)
    | ((with_reducible refine Ob.mk ?_); first | rfl | (repeat (first | exact grd_p H | replace H := grd_k H | replace H := out_step H (by assumption))))
    | (with_reducible exact True.intro)
    | constructor
    | ((conv => whnf); first
        | ((with_reducible refine Ob.mk ?_); first | rfl | (repeat (first | exact grd_p H | replace H := grd_k H | replace H := out_step H (by assumption))))
        | ((with_reducible refine CallW.mk ?_); (repeat (first | replace H := grd_k H | replace H := out_step H (by assumption))); replace H := bind_some H; obtain ⟨y, hy, H⟩ := H; first | ((with_reducible have hz : spec_l1Cur_next _ = some y := hy); clear hz; refine Exists.intro _ (Exists.intro _ ⟨spec_l1Cur_next.call hy ?_, rfl, rfl, ?_⟩)))
        | ((with_reducible refine fin_mk ?_); (repeat (first | replace H := grd_k H | replace H := out_step H (by assumption))); have H := Option.some.inj H; subst H))
def G3 : Env := G2.add 114 [true] spec_l1Cur_pick.S
theorem G3_ok : EnvOk Try.prog G3 := G2_ok.add ent_114 fun ar h r h1 ⟨a0, a1, y, hy, e1, e2, e3, e4⟩ => by
  subst e3 e4; exact (spec_l1Cur_pick.spec a0 a1 y hy).le e1 e2
attribute [local irreducible] spec_l1Cur_pick

noncomputable def spec_l1Cur_among (a0 : l1Cur) (a1 : (List Int)) : Option (Int × l1Cur) :=
  ((spec_l1Cur_pick (a0.1, a0.2.1, a0.2.2.1, ()) (a1.length : Int)).bind fun y1 => (grd (0 ≤ y1.1 ∧ y1.1 < (a1.length : Int)) ((some ((a1.getD y1.1.toNat 0), (y1.2.1, y1.2.2.1, y1.2.2.2.1, ()))))))
def spec_l1Cur_among.res (_ : l1Cur) (_ : (List Int)) (y : Int × l1Cur) : AV := (.v (.int .i64 y.1))
def spec_l1Cur_among.out (_ : l1Cur) (_ : (List Int)) (y : Int × l1Cur) : List (Option LB) := [some (.box 130 [(.tree (.int .u8) y.2.1), (.v (.int .i64 y.2.2.1)), (.v (.int .u64 y.2.2.2.1))])]
def spec_l1Cur_among.S (ar : List AV) (h : List (Option LB)) (r : AV) (h1 : List (Option LB)) : Prop := ∃ a0 a1 y, spec_l1Cur_among a0 a1 = some y ∧ leL ar [(.loc 0 0 0), (.tree (.int .i64) a1)] ∧ leH h [some (.box 130 [(.tree (.int .u8) a0.1), (.v (.int .i64 a0.2.1)), (.v (.int .u64 a0.2.2.1))])] ∧ r = spec_l1Cur_among.res a0 a1 y ∧ h1 = spec_l1Cur_among.out a0 a1 y
theorem spec_l1Cur_among.call {ar : List AV} {h : List (Option LB)} {a0 : l1Cur} {a1 : (List Int)} {y : Int × l1Cur} (H : spec_l1Cur_among a0 a1 = some y) (h0 : leLk ar [(.loc 0 0 0), (.tree (.int .i64) a1)] (leHk h [some (.box 130 [(.tree (.int .u8) a0.1), (.v (.int .i64 a0.2.1)), (.v (.int .u64 a0.2.2.1))])])) : spec_l1Cur_among.S ar h (spec_l1Cur_among.res a0 a1 y) (spec_l1Cur_among.out a0 a1 y) := ⟨a0, a1, y, H, (args_ok h0).1, (args_ok h0).2, rfl, rfl⟩
set_option maxHeartbeats 100000000 in
set_option maxRecDepth 100000 in
theorem spec_l1Cur_among.spec (a0 : l1Cur) (a1 : (List Int)) (y : Int × l1Cur) (H : spec_l1Cur_among a0 a1 = some y) : Spec Try.prog 110 [(.loc 0 0 0), (.tree (.int .i64) a1)] [some (.box 130 [(.tree (.int .u8) a0.1), (.v (.int .i64 a0.2.1)), (.v (.int .u64 a0.2.2.1))])] (spec_l1Cur_among.res a0 a1 y) (spec_l1Cur_among.out a0 a1 y) := by
  refine spec_intro (G3_ok.at tok []) (ct := []) Try.func110 rfl (by kernel_rfl) (by kernel_rfl) rfl ?_
  repeat' first
    | ((with_reducible refine eqg ?_); exact rfl)
    | ((with_reducible refine KOb.mk ?_); kernel_rfl)
    | ((with_reducible intro h); (repeat (first | replace H := grd_k H | replace H := out_step H (by assumption))); first | replace H := cond_t h H | replace H := cond_f h H | exact absurd h (by decide) | skip)
    | ((with_reducible refine Ob.mk ?_); first | rfl | (repeat (first | exact grd_p H | replace H := grd_k H | replace H := out_step H (by assumption))))
    | (with_reducible exact True.intro)
    | constructor
    | ((conv => whnf); first
        | ((with_reducible refine Ob.mk ?_); first | rfl | (repeat (first | exact grd_p H | replace H := grd_k H | replace H := out_step H (by assumption))))
        | ((with_reducible refine CallW.mk ?_); (repeat (first | replace H := grd_k H | replace H := out_step H (by assumption))); replace H := bind_some H; obtain ⟨y, hy, H⟩ := H; first | ((with_reducible have hz : spec_l1Cur_pick _ _ = some y := hy); clear hz; refine Exists.intro _ (Exists.intro _ ⟨spec_l1Cur_pick.call hy ?_, rfl, rfl, ?_⟩)))
        | ((with_reducible refine fin_mk ?_); (repeat (first | replace H := grd_k H | replace H := out_step H (by assumption))); have H := Option.some.inj H; subst H))
def G4 : Env := G3.add 110 [true] spec_l1Cur_among.S
theorem G4_ok : EnvOk Try.prog G4 := G3_ok.add ent_110 fun ar h r h1 ⟨a0, a1, y, hy, e1, e2, e3, e4⟩ => by
  subst e3 e4; exact (spec_l1Cur_among.spec a0 a1 y hy).le e1 e2
attribute [local irreducible] spec_l1Cur_among

noncomputable def spec_l1Cur_windRule (a0 : l1Cur) : Option (WindRule × l1Cur) :=
  ((spec_l1Cur_among (a0.1, a0.2.1, a0.2.2.1, ()) [(5 : Int), (10 : Int), (12 : Int), (15 : Int)]).bind fun y1 => ((spec_l1Cur_among (y1.2.1, y1.2.2.1, y1.2.2.2.1, ()) [(16 : Int), (18 : Int), (20 : Int), (25 : Int)]).bind fun y2 => ((spec_l1Cur_among (y2.2.1, y2.2.2.1, y2.2.2.2.1, ()) [(1 : Int), (2 : Int), (3 : Int), (5 : Int)]).bind fun y3 => ((spec_l1Cur_among (y3.2.1, y3.2.2.1, y3.2.2.2.1, ()) [(1 : Int), (2 : Int), (3 : Int), (5 : Int), (10 : Int)]).bind fun y4 => ((spec_l1Cur_pick (y4.2.1, y4.2.2.1, y4.2.2.2.1, ()) (24 : Int)).bind fun y5 => (cond (decide (y5.1 = (0 : Int))) ((spec_l1Cur_among (y5.2.1, y5.2.2.1, y5.2.2.2.1, ()) [(0 : Int), (1 : Int), (2 : Int), (60 : Int), (59 : Int)]).bind fun y6 => (some ((y6.1, y2.1, y3.1, y4.1, ()), (y6.2.1, y6.2.2.1, y6.2.2.2.1, ())))) (cond (decide (y5.1 = (1 : Int))) ((spec_l1Cur_among (y5.2.1, y5.2.2.1, y5.2.2.2.1, ()) [(5 : Int), (60 : Int), (61 : Int)]).bind fun y7 => (some ((y1.1, y7.1, y3.1, y4.1, ()), (y7.2.1, y7.2.2.1, y7.2.2.2.1, ())))) (cond (decide (y5.1 = (2 : Int))) ((spec_l1Cur_among (y5.2.1, y5.2.2.1, y5.2.2.2.1, ()) [(0 : Int), (6 : Int), (16 : Int)]).bind fun y8 => (some ((y1.1, y2.1, y8.1, y4.1, ()), (y8.2.1, y8.2.2.1, y8.2.2.2.1, ())))) (cond (decide (y5.1 = (3 : Int))) ((spec_l1Cur_among (y5.2.1, y5.2.2.1, y5.2.2.2.1, ()) [(0 : Int), (11 : Int)]).bind fun y9 => (some ((y1.1, y2.1, y3.1, y9.1, ()), (y9.2.1, y9.2.2.1, y9.2.2.2.1, ())))) ((some ((y1.1, y2.1, y3.1, y4.1, ()), (y5.2.1, y5.2.2.1, y5.2.2.2.1, ())))))))))))))
def spec_l1Cur_windRule.res (_ : l1Cur) (y : WindRule × l1Cur) : AV := (.agg [(.v (.int .i64 y.1.1)), (.v (.int .i64 y.1.2.1)), (.v (.int .i64 y.1.2.2.1)), (.v (.int .i64 y.1.2.2.2.1))])
def spec_l1Cur_windRule.out (_ : l1Cur) (y : WindRule × l1Cur) : List (Option LB) := [some (.box 130 [(.tree (.int .u8) y.2.1), (.v (.int .i64 y.2.2.1)), (.v (.int .u64 y.2.2.2.1))])]
def spec_l1Cur_windRule.S (ar : List AV) (h : List (Option LB)) (r : AV) (h1 : List (Option LB)) : Prop := ∃ a0 y, spec_l1Cur_windRule a0 = some y ∧ leL ar [(.loc 0 0 0)] ∧ leH h [some (.box 130 [(.tree (.int .u8) a0.1), (.v (.int .i64 a0.2.1)), (.v (.int .u64 a0.2.2.1))])] ∧ r = spec_l1Cur_windRule.res a0 y ∧ h1 = spec_l1Cur_windRule.out a0 y
theorem spec_l1Cur_windRule.call {ar : List AV} {h : List (Option LB)} {a0 : l1Cur} {y : WindRule × l1Cur} (H : spec_l1Cur_windRule a0 = some y) (h0 : leLk ar [(.loc 0 0 0)] (leHk h [some (.box 130 [(.tree (.int .u8) a0.1), (.v (.int .i64 a0.2.1)), (.v (.int .u64 a0.2.2.1))])])) : spec_l1Cur_windRule.S ar h (spec_l1Cur_windRule.res a0 y) (spec_l1Cur_windRule.out a0 y) := ⟨a0, y, H, (args_ok h0).1, (args_ok h0).2, rfl, rfl⟩
set_option maxHeartbeats 100000000 in
set_option maxRecDepth 100000 in
theorem spec_l1Cur_windRule.spec (a0 : l1Cur) (y : WindRule × l1Cur) (H : spec_l1Cur_windRule a0 = some y) : Spec Try.prog 105 [(.loc 0 0 0)] [some (.box 130 [(.tree (.int .u8) a0.1), (.v (.int .i64 a0.2.1)), (.v (.int .u64 a0.2.2.1))])] (spec_l1Cur_windRule.res a0 y) (spec_l1Cur_windRule.out a0 y) := by
  refine spec_intro (G4_ok.at tok []) (ct := [(2, some [0, 2, 3]), (11, some [2, 3])]) Try.func105 rfl (by kernel_rfl) (by kernel_rfl) rfl ?_
  repeat' first
    | ((with_reducible refine eqg ?_); exact rfl)
    | ((with_reducible refine KOb.mk ?_); kernel_rfl)
    | ((with_reducible intro h); (repeat (first | replace H := grd_k H | replace H := out_step H (by assumption))); first | replace H := cond_t h H | replace H := cond_f h H | exact absurd h (by decide) | skip)
    | ((with_reducible refine Ob.mk ?_); first | rfl | (repeat (first | exact grd_p H | replace H := grd_k H | replace H := out_step H (by assumption))))
    | (with_reducible exact True.intro)
    | constructor
    | ((conv => whnf); first
        | ((with_reducible refine Ob.mk ?_); first | rfl | (repeat (first | exact grd_p H | replace H := grd_k H | replace H := out_step H (by assumption))))
        | ((with_reducible refine CallW.mk ?_); (repeat (first | replace H := grd_k H | replace H := out_step H (by assumption))); replace H := bind_some H; obtain ⟨y, hy, H⟩ := H; first | ((with_reducible have hz : spec_l1Cur_among _ _ = some y := hy); clear hz; refine Exists.intro _ (Exists.intro _ ⟨spec_l1Cur_among.call hy ?_, rfl, rfl, ?_⟩)) | ((with_reducible have hz : spec_l1Cur_pick _ _ = some y := hy); clear hz; refine Exists.intro _ (Exists.intro _ ⟨spec_l1Cur_pick.call hy ?_, rfl, rfl, ?_⟩)))
        | ((with_reducible refine fin_mk ?_); (repeat (first | replace H := grd_k H | replace H := out_step H (by assumption))); have H := Option.some.inj H; subst H))
def G5 : Env := G4.add 105 [true] spec_l1Cur_windRule.S
theorem G5_ok : EnvOk Try.prog G5 := G4_ok.add ent_105 fun ar h r h1 ⟨a0, y, hy, e1, e2, e3, e4⟩ => by
  subst e3 e4; exact (spec_l1Cur_windRule.spec a0 y hy).le e1 e2
attribute [local irreducible] spec_l1Cur_windRule

noncomputable def spec_l1Most (a0 : Int) (a1 : Int) : Option (Int) :=
  (cond (decide (a1 < a0)) ((some a0)) ((some a1)))
def spec_l1Most.res (_ : Int) (_ : Int) (y : Int) : AV := (.v (.int .i64 y))
def spec_l1Most.out (_ : Int) (_ : Int) (_ : Int) : List (Option LB) := []
def spec_l1Most.S (ar : List AV) (h : List (Option LB)) (r : AV) (h1 : List (Option LB)) : Prop := ∃ a0 a1 y, spec_l1Most a0 a1 = some y ∧ leL ar [(.v (.int .i64 a0)), (.v (.int .i64 a1))] ∧ leH h [] ∧ r = spec_l1Most.res a0 a1 y ∧ h1 = spec_l1Most.out a0 a1 y
theorem spec_l1Most.call {ar : List AV} {h : List (Option LB)} {a0 : Int} {a1 : Int} {y : Int} (H : spec_l1Most a0 a1 = some y) (h0 : leLk ar [(.v (.int .i64 a0)), (.v (.int .i64 a1))] (leHk h [])) : spec_l1Most.S ar h (spec_l1Most.res a0 a1 y) (spec_l1Most.out a0 a1 y) := ⟨a0, a1, y, H, (args_ok h0).1, (args_ok h0).2, rfl, rfl⟩
set_option maxHeartbeats 100000000 in
set_option maxRecDepth 100000 in
theorem spec_l1Most.spec (a0 : Int) (a1 : Int) (y : Int) (H : spec_l1Most a0 a1 = some y) : Spec Try.prog 131 [(.v (.int .i64 a0)), (.v (.int .i64 a1))] [] (spec_l1Most.res a0 a1 y) (spec_l1Most.out a0 a1 y) := by
  refine spec_intro (G5_ok.at tok []) (ct := []) Try.func131 rfl (by kernel_rfl) (by kernel_rfl) rfl ?_
  repeat' first
    | ((with_reducible refine eqg ?_); exact rfl)
    | ((with_reducible refine KOb.mk ?_); kernel_rfl)
    | ((with_reducible intro h); (repeat (first | replace H := grd_k H | replace H := out_step H (by assumption))); first | replace H := cond_t h H | replace H := cond_f h H | exact absurd h (by decide) | skip)
    | ((with_reducible refine Ob.mk ?_); first | rfl | (repeat (first | exact grd_p H | replace H := grd_k H | replace H := out_step H (by assumption))))
    | (with_reducible exact True.intro)
    | constructor
    | ((conv => whnf); first
        | ((with_reducible refine Ob.mk ?_); first | rfl | (repeat (first | exact grd_p H | replace H := grd_k H | replace H := out_step H (by assumption))))
        | ((with_reducible refine fin_mk ?_); (repeat (first | replace H := grd_k H | replace H := out_step H (by assumption))); have H := Option.some.inj H; subst H))
def G6 : Env := G5.add 131 [] spec_l1Most.S
theorem G6_ok : EnvOk Try.prog G6 := G5_ok.add ent_131 fun ar h r h1 ⟨a0, a1, y, hy, e1, e2, e3, e4⟩ => by
  subst e3 e4; exact (spec_l1Most.spec a0 a1 y hy).le e1 e2
attribute [local irreducible] spec_l1Most

noncomputable def spec_l1Cur_one (a0 : l1Cur) (a1 : Int) : Option (Bool × l1Cur) :=
  ((spec_l1Cur_pick (a0.1, a0.2.1, a0.2.2.1, ()) a1).bind fun y1 => (some ((decide (y1.1 = (0 : Int))), (y1.2.1, y1.2.2.1, y1.2.2.2.1, ()))))
def spec_l1Cur_one.res (_ : l1Cur) (_ : Int) (y : Bool × l1Cur) : AV := (.bl y.1)
def spec_l1Cur_one.out (_ : l1Cur) (_ : Int) (y : Bool × l1Cur) : List (Option LB) := [some (.box 130 [(.tree (.int .u8) y.2.1), (.v (.int .i64 y.2.2.1)), (.v (.int .u64 y.2.2.2.1))])]
def spec_l1Cur_one.S (ar : List AV) (h : List (Option LB)) (r : AV) (h1 : List (Option LB)) : Prop := ∃ a0 a1 y, spec_l1Cur_one a0 a1 = some y ∧ leL ar [(.loc 0 0 0), (.v (.int .i64 a1))] ∧ leH h [some (.box 130 [(.tree (.int .u8) a0.1), (.v (.int .i64 a0.2.1)), (.v (.int .u64 a0.2.2.1))])] ∧ r = spec_l1Cur_one.res a0 a1 y ∧ h1 = spec_l1Cur_one.out a0 a1 y
theorem spec_l1Cur_one.call {ar : List AV} {h : List (Option LB)} {a0 : l1Cur} {a1 : Int} {y : Bool × l1Cur} (H : spec_l1Cur_one a0 a1 = some y) (h0 : leLk ar [(.loc 0 0 0), (.v (.int .i64 a1))] (leHk h [some (.box 130 [(.tree (.int .u8) a0.1), (.v (.int .i64 a0.2.1)), (.v (.int .u64 a0.2.2.1))])])) : spec_l1Cur_one.S ar h (spec_l1Cur_one.res a0 a1 y) (spec_l1Cur_one.out a0 a1 y) := ⟨a0, a1, y, H, (args_ok h0).1, (args_ok h0).2, rfl, rfl⟩
set_option maxHeartbeats 100000000 in
set_option maxRecDepth 100000 in
theorem spec_l1Cur_one.spec (a0 : l1Cur) (a1 : Int) (y : Bool × l1Cur) (H : spec_l1Cur_one a0 a1 = some y) : Spec Try.prog 124 [(.loc 0 0 0), (.v (.int .i64 a1))] [some (.box 130 [(.tree (.int .u8) a0.1), (.v (.int .i64 a0.2.1)), (.v (.int .u64 a0.2.2.1))])] (spec_l1Cur_one.res a0 a1 y) (spec_l1Cur_one.out a0 a1 y) := by
  refine spec_intro (G6_ok.at tok []) (ct := []) Try.func124 rfl (by kernel_rfl) (by kernel_rfl) rfl ?_
  repeat' first
    | ((with_reducible refine eqg ?_); exact rfl)
    | ((with_reducible refine KOb.mk ?_); kernel_rfl)
    | ((with_reducible intro h); (repeat (first | replace H := grd_k H | replace H := out_step H (by assumption))); first | replace H := cond_t h H | replace H := cond_f h H | exact absurd h (by decide) | skip)
    | ((with_reducible refine Ob.mk ?_); first | rfl | (repeat (first | exact grd_p H | replace H := grd_k H | replace H := out_step H (by assumption))))
    | (with_reducible exact True.intro)
    | constructor
    | ((conv => whnf); first
        | ((with_reducible refine Ob.mk ?_); first | rfl | (repeat (first | exact grd_p H | replace H := grd_k H | replace H := out_step H (by assumption))))
        | ((with_reducible refine CallW.mk ?_); (repeat (first | replace H := grd_k H | replace H := out_step H (by assumption))); replace H := bind_some H; obtain ⟨y, hy, H⟩ := H; first | ((with_reducible have hz : spec_l1Cur_pick _ _ = some y := hy); clear hz; refine Exists.intro _ (Exists.intro _ ⟨spec_l1Cur_pick.call hy ?_, rfl, rfl, ?_⟩)))
        | ((with_reducible refine fin_mk ?_); (repeat (first | replace H := grd_k H | replace H := out_step H (by assumption))); have H := Option.some.inj H; subst H))
def G7 : Env := G6.add 124 [true] spec_l1Cur_one.S
theorem G7_ok : EnvOk Try.prog G7 := G6_ok.add ent_124 fun ar h r h1 ⟨a0, a1, y, hy, e1, e2, e3, e4⟩ => by
  subst e3 e4; exact (spec_l1Cur_one.spec a0 a1 y hy).le e1 e2
attribute [local irreducible] spec_l1Cur_one

noncomputable def spec_l1Cur_windState (a0 : l1Cur) (a1 : WindRule) : Option (WindState × l1Cur) :=
  ((spec_l1Cur_pick (a0.1, a0.2.1, a0.2.2.1, ()) (3 : Int)).bind fun y1 => ((cond (decide ((0 : Int) < y1.1)) ((spec_l1Most (1 : Int) a1.2.2.2.1).bind fun y2 => ((spec_l1Cur_pick (y1.2.1, y1.2.2.1, y1.2.2.2.1, ()) y2).bind fun y3 => (some (y3.2.1, y3.2.2.1, y3.2.2.2.1, y1.1, y3.1)))) ((some (y1.2.1, y1.2.2.1, y1.2.2.2.1, y1.1, (0 : Int))))).bind fun z4 => ((spec_l1Cur_one (z4.1, z4.2.1, z4.2.2.1, ()) (24 : Int)).bind fun y5 => (cond y5.1 ((spec_l1Cur_among (y5.2.1, y5.2.2.1, y5.2.2.2.1, ()) [((-1) : Int), (0 : Int), (3 : Int)]).bind fun y6 => ((spec_l1Cur_among (y6.2.1, y6.2.2.1, y6.2.2.2.1, ()) [((-1) : Int), (1 : Int), (10 : Int)]).bind fun y7 => (some ((y6.1, y7.1, ()), (y7.2.1, y7.2.2.1, y7.2.2.2.1, ()))))) ((some ((z4.2.2.2.1, z4.2.2.2.2, ()), (y5.2.1, y5.2.2.1, y5.2.2.2.1, ()))))))))
def spec_l1Cur_windState.res (_ : l1Cur) (_ : WindRule) (y : WindState × l1Cur) : AV := (.agg [(.v (.int .i64 y.1.1)), (.v (.int .i64 y.1.2.1))])
def spec_l1Cur_windState.out (_ : l1Cur) (_ : WindRule) (y : WindState × l1Cur) : List (Option LB) := [some (.box 130 [(.tree (.int .u8) y.2.1), (.v (.int .i64 y.2.2.1)), (.v (.int .u64 y.2.2.2.1))])]
def spec_l1Cur_windState.S (ar : List AV) (h : List (Option LB)) (r : AV) (h1 : List (Option LB)) : Prop := ∃ a0 a1 y, spec_l1Cur_windState a0 a1 = some y ∧ leL ar [(.loc 0 0 0), (.agg [(.v (.int .i64 a1.1)), (.v (.int .i64 a1.2.1)), (.v (.int .i64 a1.2.2.1)), (.v (.int .i64 a1.2.2.2.1))])] ∧ leH h [some (.box 130 [(.tree (.int .u8) a0.1), (.v (.int .i64 a0.2.1)), (.v (.int .u64 a0.2.2.1))])] ∧ r = spec_l1Cur_windState.res a0 a1 y ∧ h1 = spec_l1Cur_windState.out a0 a1 y
theorem spec_l1Cur_windState.call {ar : List AV} {h : List (Option LB)} {a0 : l1Cur} {a1 : WindRule} {y : WindState × l1Cur} (H : spec_l1Cur_windState a0 a1 = some y) (h0 : leLk ar [(.loc 0 0 0), (.agg [(.v (.int .i64 a1.1)), (.v (.int .i64 a1.2.1)), (.v (.int .i64 a1.2.2.1)), (.v (.int .i64 a1.2.2.2.1))])] (leHk h [some (.box 130 [(.tree (.int .u8) a0.1), (.v (.int .i64 a0.2.1)), (.v (.int .u64 a0.2.2.1))])])) : spec_l1Cur_windState.S ar h (spec_l1Cur_windState.res a0 a1 y) (spec_l1Cur_windState.out a0 a1 y) := ⟨a0, a1, y, H, (args_ok h0).1, (args_ok h0).2, rfl, rfl⟩
set_option maxHeartbeats 100000000 in
set_option maxRecDepth 100000 in
theorem spec_l1Cur_windState.spec (a0 : l1Cur) (a1 : WindRule) (y : WindState × l1Cur) (H : spec_l1Cur_windState a0 a1 = some y) : Spec Try.prog 106 [(.loc 0 0 0), (.agg [(.v (.int .i64 a1.1)), (.v (.int .i64 a1.2.1)), (.v (.int .i64 a1.2.2.1)), (.v (.int .i64 a1.2.2.2.1))])] [some (.box 130 [(.tree (.int .u8) a0.1), (.v (.int .i64 a0.2.1)), (.v (.int .u64 a0.2.2.1))])] (spec_l1Cur_windState.res a0 a1 y) (spec_l1Cur_windState.out a0 a1 y) := by
  refine spec_intro (G7_ok.at tok []) (ct := [(4, none)]) Try.func106 rfl (by kernel_rfl) (by kernel_rfl) rfl ?_
  repeat' first
    | ((with_reducible refine eqg ?_); exact rfl)
    | ((with_reducible refine KOb.mk ?_); kernel_rfl)
    | ((with_reducible intro h); (repeat (first | replace H := grd_k H | replace H := out_step H (by assumption))); first | replace H := cond_t h H | replace H := cond_f h H | exact absurd h (by decide) | skip)
    | ((with_reducible refine Ob.mk ?_); first | rfl | (repeat (first | exact grd_p H | replace H := grd_k H | replace H := out_step H (by assumption))))
    | (with_reducible exact True.intro)
    | constructor
    | ((conv => whnf); first
        | ((with_reducible refine Ob.mk ?_); first | rfl | (repeat (first | exact grd_p H | replace H := grd_k H | replace H := out_step H (by assumption))))
        | ((with_reducible refine CallW.mk ?_); (repeat (first | replace H := grd_k H | replace H := out_step H (by assumption))); replace H := bind_some H; obtain ⟨y, hy, H⟩ := H; first | ((with_reducible have hz : spec_l1Cur_pick _ _ = some y := hy); clear hz; refine Exists.intro _ (Exists.intro _ ⟨spec_l1Cur_pick.call hy ?_, rfl, rfl, ?_⟩)) | ((with_reducible have hz : spec_l1Most _ _ = some y := hy); clear hz; refine Exists.intro _ (Exists.intro _ ⟨spec_l1Most.call hy ?_, rfl, rfl, ?_⟩)) | ((with_reducible have hz : spec_l1Cur_one _ _ = some y := hy); clear hz; refine Exists.intro _ (Exists.intro _ ⟨spec_l1Cur_one.call hy ?_, rfl, rfl, ?_⟩)) | ((with_reducible have hz : spec_l1Cur_among _ _ = some y := hy); clear hz; refine Exists.intro _ (Exists.intro _ ⟨spec_l1Cur_among.call hy ?_, rfl, rfl, ?_⟩)))
        | ((with_reducible refine cutAt (id := 4) ?_); (repeat (first | replace H := grd_k H | replace H := out_step H (by assumption))); first | (replace H := bind_some H; obtain ⟨z, hz, H⟩ := H; refine CutC.mk (id := 4) ⟨sl [(0, (.loc 0 0 0)), (4, (.loc 1 0 0)), (5, (.loc 2 0 0))], [some (.box 130 [(.tree (.int .u8) z.1), (.v (.int .i64 z.2.1)), (.v (.int .u64 z.2.2.1))]), some (.box 36 [(.v (.int .i64 (0 : Int))), (.v (.int .i64 (0 : Int)))]), some (.box 36 [(.v (.int .i64 z.2.2.2.1)), (.v (.int .i64 z.2.2.2.2))])]⟩ ?_ ?_; (replace H := hz)))
        | ((repeat (first | replace H := grd_k H | replace H := out_step H (by assumption))); have H := Option.some.inj H; subst H; with_reducible refine sub_auto ?_)
        | ((with_reducible refine fin_mk ?_); (repeat (first | replace H := grd_k H | replace H := out_step H (by assumption))); have H := Option.some.inj H; subst H))
def G8 : Env := G7.add 106 [true] spec_l1Cur_windState.S
theorem G8_ok : EnvOk Try.prog G8 := G7_ok.add ent_106 fun ar h r h1 ⟨a0, a1, y, hy, e1, e2, e3, e4⟩ => by
  subst e3 e4; exact (spec_l1Cur_windState.spec a0 a1 y hy).le e1 e2
attribute [local irreducible] spec_l1Cur_windState

noncomputable def spec_l1Cur_votes_loop1  (v13 : Int) (v14 : (List Int)) (v15 : Int) (v16 : Int) (v17 : (List Int)) : Option (Lp (Int × (List Int) × Int × Int × (List Int)) (((List Int) × Int × Int × (List Int)))) :=
  (cond (decide ((0 : Int) < v13)) ((spec_l1Cur_among (v14, v15, v16, ()) [(0 : Int), (3 : Int), (5 : Int), (8 : Int), (9 : Int), (10 : Int), (11 : Int), (12 : Int), (14 : Int), (15 : Int), (17 : Int), (18 : Int), (20 : Int), (30 : Int)]).bind fun y18 => (grd ((v17.length + [y18.1].length) * 8 ≤ 140737488355328 ∧ v17.length + [y18.1].length ≤ 140737488355328) (some (.go ((w64 (v13 - (1 : Int))), y18.2.1, y18.2.2.1, y18.2.2.2.1, (v17 ++ [y18.1])))))) ((some (.out (v14, v15, v16, v17)))))
noncomputable def spec_l1Cur_votes_loop2  (v27 : (List Int)) (v28 : Int) (v29 : Int) (v30 : (List Int)) : Option (Lp ((List Int) × Int × Int × (List Int)) (((List Int) × Int × Int × (List Int)))) :=
  ((spec_l1Cur_pick (v27, v28, v29, ()) (2 : Int)).bind fun y31 => (cond (decide ((v30.length : Int) < (w64 ((50 : Int) + y31.1)))) (grd ((v30.length + [(7 : Int)].length) * 8 ≤ 140737488355328 ∧ v30.length + [(7 : Int)].length ≤ 140737488355328) (some (.go (y31.2.1, y31.2.2.1, y31.2.2.2.1, (v30 ++ [(7 : Int)]))))) ((some (.out (y31.2.1, y31.2.2.1, y31.2.2.2.1, v30))))))
noncomputable def spec_l1Cur_votes (a0 : l1Cur) : Option ((List Int) × l1Cur) :=
  ((spec_l1Cur_pick (a0.1, a0.2.1, a0.2.2.1, ()) (14 : Int)).bind fun y1 => ((iter (fun s => spec_l1Cur_votes_loop1 s.1 s.2.1 s.2.2.1 s.2.2.2.1 s.2.2.2.2) (y1.1, y1.2.1, y1.2.2.1, y1.2.2.2.1, ([] : List Int))).bind (fun r19 => ((spec_l1Cur_pick (r19.1, r19.2.1, r19.2.2.1, ()) (32 : Int)).bind fun y20 => (cond (decide (y20.1 = (0 : Int))) ((spec_l1Cur_among (y20.2.1, y20.2.2.1, y20.2.2.2.1, ()) [((-1) : Int), (61 : Int)]).bind fun y21 => (grd ((r19.2.2.2.length + [y21.1].length) * 8 ≤ 140737488355328 ∧ r19.2.2.2.length + [y21.1].length ≤ 140737488355328) ((some ((r19.2.2.2 ++ [y21.1]), (y21.2.1, y21.2.2.1, y21.2.2.2.1, ())))))) (cond (decide (y20.1 = (1 : Int))) ((iter (fun s => spec_l1Cur_votes_loop2 s.1 s.2.1 s.2.2.1 s.2.2.2) (y20.2.1, y20.2.2.1, y20.2.2.2.1, r19.2.2.2)).bind (fun r32 => (some (r32.2.2.2, (r32.1, r32.2.1, r32.2.2.1, ()))))) ((some (r19.2.2.2, (y20.2.1, y20.2.2.1, y20.2.2.2.1, ()))))))))))
def spec_l1Cur_votes.res (_ : l1Cur) (_ : (List Int) × l1Cur) : AV := (.own 1)
def spec_l1Cur_votes.out (_ : l1Cur) (y : (List Int) × l1Cur) : List (Option LB) := [some (.box 130 [(.tree (.int .u8) y.2.1), (.v (.int .i64 y.2.2.1)), (.v (.int .u64 y.2.2.2.1))]), some (.arr 3 (.int .i64) y.1)]
def spec_l1Cur_votes.S (ar : List AV) (h : List (Option LB)) (r : AV) (h1 : List (Option LB)) : Prop := ∃ a0 y, spec_l1Cur_votes a0 = some y ∧ leL ar [(.loc 0 0 0)] ∧ leH h [some (.box 130 [(.tree (.int .u8) a0.1), (.v (.int .i64 a0.2.1)), (.v (.int .u64 a0.2.2.1))])] ∧ r = spec_l1Cur_votes.res a0 y ∧ h1 = spec_l1Cur_votes.out a0 y
theorem spec_l1Cur_votes.call {ar : List AV} {h : List (Option LB)} {a0 : l1Cur} {y : (List Int) × l1Cur} (H : spec_l1Cur_votes a0 = some y) (h0 : leLk ar [(.loc 0 0 0)] (leHk h [some (.box 130 [(.tree (.int .u8) a0.1), (.v (.int .i64 a0.2.1)), (.v (.int .u64 a0.2.2.1))])])) : spec_l1Cur_votes.S ar h (spec_l1Cur_votes.res a0 y) (spec_l1Cur_votes.out a0 y) := ⟨a0, y, H, (args_ok h0).1, (args_ok h0).2, rfl, rfl⟩
set_option maxHeartbeats 100000000 in
set_option maxRecDepth 100000 in
theorem spec_l1Cur_votes.spec (a0 : l1Cur) (y : (List Int) × l1Cur) (H : spec_l1Cur_votes a0 = some y) : Spec Try.prog 107 [(.loc 0 0 0)] [some (.box 130 [(.tree (.int .u8) a0.1), (.v (.int .i64 a0.2.1)), (.v (.int .u64 a0.2.2.1))])] (spec_l1Cur_votes.res a0 y) (spec_l1Cur_votes.out a0 y) := by
  refine spec_intro (G8_ok.at tok []) (ct := [(10, some [0, 3, 28]), (12, some [3])]) Try.func107 rfl (by kernel_rfl) (by kernel_rfl) rfl ?_
  repeat' first
    | ((with_reducible refine eqg ?_); exact rfl)
    | ((with_reducible refine KOb.mk ?_); kernel_rfl)
    | ((with_reducible intro h); (repeat (first | replace H := grd_k H | replace H := out_step H (by assumption))); first | replace H := cond_t h H | replace H := cond_f h H | exact absurd h (by decide) | skip)
    | ((with_reducible refine Ob.mk ?_); first | rfl | (repeat (first | exact grd_p H | replace H := grd_k H | replace H := out_step H (by assumption))))
    | (with_reducible exact True.intro)
    | constructor
    | ((conv => whnf); first
        | ((with_reducible refine Ob.mk ?_); first | rfl | (repeat (first | exact grd_p H | replace H := grd_k H | replace H := out_step H (by assumption))))
        | ((with_reducible refine CallW.mk ?_); (repeat (first | replace H := grd_k H | replace H := out_step H (by assumption))); replace H := bind_some H; obtain ⟨y, hy, H⟩ := H; first | ((with_reducible have hz : spec_l1Cur_pick _ _ = some y := hy); clear hz; refine Exists.intro _ (Exists.intro _ ⟨spec_l1Cur_pick.call hy ?_, rfl, rfl, ?_⟩)) | ((with_reducible have hz : spec_l1Cur_among _ _ = some y := hy); clear hz; refine Exists.intro _ (Exists.intro _ ⟨spec_l1Cur_among.call hy ?_, rfl, rfl, ?_⟩)))
        | ((repeat (first | replace H := grd_k H | replace H := out_step H (by assumption))); refine loop_iter (G8_ok.at tok []) (ct := [(10, some [0, 3, 28]), (12, some [3])]) (F := (fun s1 : Int × (List Int) × Int × Int × (List Int) => ⟨sl [(0, (.loc 0 0 0)), (3, (.own 1)), (4, (.v (.int .i64 s1.1)))], [some (.box 130 [(.tree (.int .u8) s1.2.1), (.v (.int .i64 s1.2.2.1)), (.v (.int .u64 s1.2.2.2.1))]), some (.arr 3 (.int .i64) s1.2.2.2.2)]⟩)) (step := (fun s : Int × (List Int) × Int × Int × (List Int) => spec_l1Cur_votes_loop1 s.1 s.2.1 s.2.2.1 s.2.2.2.1 s.2.2.2.2)) _ H (by kernel_rfl) (sub_auto ?_) ?_; rotate_left; (intro s1 r v hr H); rotate_right)
        | ((repeat (first | replace H := grd_k H | replace H := out_step H (by assumption))); refine loop_iter (G8_ok.at tok []) (ct := [(10, some [0, 3, 28]), (12, some [3])]) (F := (fun s2 : (List Int) × Int × Int × (List Int) => ⟨sl [(0, (.loc 0 0 0)), (3, (.own 1))], [some (.box 130 [(.tree (.int .u8) s2.1), (.v (.int .i64 s2.2.1)), (.v (.int .u64 s2.2.2.1))]), some (.arr 3 (.int .i64) s2.2.2.2)]⟩)) (step := (fun s : (List Int) × Int × Int × (List Int) => spec_l1Cur_votes_loop2 s.1 s.2.1 s.2.2.1 s.2.2.2)) _ H (by kernel_rfl) (sub_auto ?_) ?_; rotate_left; (intro s2 r v hr H); rotate_right)
        | ((repeat (first | replace H := grd_k H | replace H := out_step H (by assumption))); refine again_step H (by assumption) (sub_auto ?_))
        | ((with_reducible refine fin_mk ?_); (repeat (first | replace H := grd_k H | replace H := out_step H (by assumption))); have H := Option.some.inj H; subst H))
def G9 : Env := G8.add 107 [true] spec_l1Cur_votes.S
theorem G9_ok : EnvOk Try.prog G9 := G8_ok.add ent_107 fun ar h r h1 ⟨a0, y, hy, e1, e2, e3, e4⟩ => by
  subst e3 e4; exact (spec_l1Cur_votes.spec a0 y hy).le e1 e2
attribute [local irreducible] spec_l1Cur_votes

noncomputable def spec_DrawRunWind (a0 : (List Int)) : Option (WindRule × WindState × (List Int)) :=
  ((spec_l1Cur_windRule (a0, (0 : Int), (0 : Int), ())).bind fun y1 => ((spec_l1Cur_windState (y1.2.1, y1.2.2.1, y1.2.2.2.1, ()) (y1.1.1, y1.1.2.1, y1.1.2.2.1, y1.1.2.2.2.1, ())).bind fun y2 => ((spec_l1Cur_votes (y2.2.1, y2.2.2.1, y2.2.2.2.1, ())).bind fun y3 => (some ((y1.1.1, y1.1.2.1, y1.1.2.2.1, y1.1.2.2.2.1, ()), (y2.1.1, y2.1.2.1, ()), y3.1)))))
def spec_DrawRunWind.res (_ : (List Int)) (y : WindRule × WindState × (List Int)) : AV := (.tup [(.agg [(.v (.int .i64 y.1.1)), (.v (.int .i64 y.1.2.1)), (.v (.int .i64 y.1.2.2.1)), (.v (.int .i64 y.1.2.2.2.1))]), (.agg [(.v (.int .i64 y.2.1.1)), (.v (.int .i64 y.2.1.2.1))]), (.own 0)])
def spec_DrawRunWind.out (_ : (List Int)) (y : WindRule × WindState × (List Int)) : List (Option LB) := [some (.arr 3 (.int .i64) y.2.2)]
def spec_DrawRunWind.S (ar : List AV) (h : List (Option LB)) (r : AV) (h1 : List (Option LB)) : Prop := ∃ a0 y, spec_DrawRunWind a0 = some y ∧ leL ar [(.tree (.int .u8) a0)] ∧ leH h [] ∧ r = spec_DrawRunWind.res a0 y ∧ h1 = spec_DrawRunWind.out a0 y
theorem spec_DrawRunWind.call {ar : List AV} {h : List (Option LB)} {a0 : (List Int)} {y : WindRule × WindState × (List Int)} (H : spec_DrawRunWind a0 = some y) (h0 : leLk ar [(.tree (.int .u8) a0)] (leHk h [])) : spec_DrawRunWind.S ar h (spec_DrawRunWind.res a0 y) (spec_DrawRunWind.out a0 y) := ⟨a0, y, H, (args_ok h0).1, (args_ok h0).2, rfl, rfl⟩
set_option maxHeartbeats 100000000 in
set_option maxRecDepth 100000 in
theorem spec_DrawRunWind.spec (a0 : (List Int)) (y : WindRule × WindState × (List Int)) (H : spec_DrawRunWind a0 = some y) : Spec Try.prog 45 [(.tree (.int .u8) a0)] [] (spec_DrawRunWind.res a0 y) (spec_DrawRunWind.out a0 y) := by
  refine spec_intro (G9_ok.at tok []) (ct := []) Try.func45 rfl (by kernel_rfl) (by kernel_rfl) rfl ?_
  repeat' first
    | ((with_reducible refine eqg ?_); exact rfl)
    | ((with_reducible refine KOb.mk ?_); kernel_rfl)
    | ((with_reducible intro h); (repeat (first | replace H := grd_k H | replace H := out_step H (by assumption))); first | replace H := cond_t h H | replace H := cond_f h H | exact absurd h (by decide) | skip)
    | ((with_reducible refine Ob.mk ?_); first | rfl | (repeat (first | exact grd_p H | replace H := grd_k H | replace H := out_step H (by assumption))))
    | (with_reducible exact True.intro)
    | constructor
    | ((conv => whnf); first
        | ((with_reducible refine Ob.mk ?_); first | rfl | (repeat (first | exact grd_p H | replace H := grd_k H | replace H := out_step H (by assumption))))
        | ((with_reducible refine CallW.mk ?_); (repeat (first | replace H := grd_k H | replace H := out_step H (by assumption))); replace H := bind_some H; obtain ⟨y, hy, H⟩ := H; first | ((with_reducible have hz : spec_l1Cur_windRule _ = some y := hy); clear hz; refine Exists.intro _ (Exists.intro _ ⟨spec_l1Cur_windRule.call hy ?_, rfl, rfl, ?_⟩)) | ((with_reducible have hz : spec_l1Cur_windState _ _ = some y := hy); clear hz; refine Exists.intro _ (Exists.intro _ ⟨spec_l1Cur_windState.call hy ?_, rfl, rfl, ?_⟩)) | ((with_reducible have hz : spec_l1Cur_votes _ = some y := hy); clear hz; refine Exists.intro _ (Exists.intro _ ⟨spec_l1Cur_votes.call hy ?_, rfl, rfl, ?_⟩)))
        | ((with_reducible refine fin_mk ?_); (repeat (first | replace H := grd_k H | replace H := out_step H (by assumption))); have H := Option.some.inj H; subst H))
def G10 : Env := G9.add 45 [] spec_DrawRunWind.S
theorem G10_ok : EnvOk Try.prog G10 := G9_ok.add ent_45 fun ar h r h1 ⟨a0, y, hy, e1, e2, e3, e4⟩ => by
  subst e3 e4; exact (spec_DrawRunWind.spec a0 y hy).le e1 e2
attribute [local irreducible] spec_DrawRunWind

noncomputable def impl_within (a0 : Int) (a1 : Int) (a2 : Int) : Option (Bool) :=
  (cond (decide (a1 ≤ a0)) ((some (decide (a0 ≤ a2)))) ((some false)))
def impl_within.res (_ : Int) (_ : Int) (_ : Int) (y : Bool) : AV := (.bl y)
def impl_within.out (_ : Int) (_ : Int) (_ : Int) (_ : Bool) : List (Option LB) := []
def impl_within.S (ar : List AV) (h : List (Option LB)) (r : AV) (h1 : List (Option LB)) : Prop := ∃ a0 a1 a2 y, impl_within a0 a1 a2 = some y ∧ leL ar [(.v (.int .i64 a0)), (.v (.int .i64 a1)), (.v (.int .i64 a2))] ∧ leH h [] ∧ r = impl_within.res a0 a1 a2 y ∧ h1 = impl_within.out a0 a1 a2 y
theorem impl_within.call {ar : List AV} {h : List (Option LB)} {a0 : Int} {a1 : Int} {a2 : Int} {y : Bool} (H : impl_within a0 a1 a2 = some y) (h0 : leLk ar [(.v (.int .i64 a0)), (.v (.int .i64 a1)), (.v (.int .i64 a2))] (leHk h [])) : impl_within.S ar h (impl_within.res a0 a1 a2 y) (impl_within.out a0 a1 a2 y) := ⟨a0, a1, a2, y, H, (args_ok h0).1, (args_ok h0).2, rfl, rfl⟩
set_option maxHeartbeats 100000000 in
set_option maxRecDepth 100000 in
theorem impl_within.spec (a0 : Int) (a1 : Int) (a2 : Int) (y : Bool) (H : impl_within a0 a1 a2 = some y) : Spec Try.prog 108 [(.v (.int .i64 a0)), (.v (.int .i64 a1)), (.v (.int .i64 a2))] [] (impl_within.res a0 a1 a2 y) (impl_within.out a0 a1 a2 y) := by
  refine spec_intro (G10_ok.at tok []) (ct := []) Try.func108 rfl (by kernel_rfl) (by kernel_rfl) rfl ?_
  repeat' first
    | ((with_reducible refine eqg ?_); exact rfl)
    | ((with_reducible refine KOb.mk ?_); kernel_rfl)
    | ((with_reducible intro h); (repeat (first | replace H := grd_k H | replace H := out_step H (by assumption))); first | replace H := cond_t h H | replace H := cond_f h H | exact absurd h (by decide) | skip)
    | ((with_reducible refine Ob.mk ?_); first | rfl | (repeat (first | exact grd_p H | replace H := grd_k H | replace H := out_step H (by assumption))))
    | (with_reducible exact True.intro)
    | constructor
    | ((conv => whnf); first
        | ((with_reducible refine Ob.mk ?_); first | rfl | (repeat (first | exact grd_p H | replace H := grd_k H | replace H := out_step H (by assumption))))
        | ((with_reducible refine fin_mk ?_); (repeat (first | replace H := grd_k H | replace H := out_step H (by assumption))); have H := Option.some.inj H; subst H))
def G11 : Env := G10.add 108 [] impl_within.S
theorem G11_ok : EnvOk Try.prog G11 := G10_ok.add ent_108 fun ar h r h1 ⟨a0, a1, a2, y, hy, e1, e2, e3, e4⟩ => by
  subst e3 e4; exact (impl_within.spec a0 a1 a2 y hy).le e1 e2
attribute [local irreducible] impl_within

noncomputable def impl_IsWindRule (a0 : WindRule) : Option (Bool) :=
  (cond (decide ((2 : Int) ≤ a0.1)) (cond (decide (a0.1 < a0.2.1)) (cond (decide (a0.2.1 ≤ (60 : Int))) ((impl_within a0.2.2.1 (1 : Int) (w64 (a0.1 - (1 : Int)))).bind fun y1 => (cond y1 ((impl_within a0.2.2.2.1 (1 : Int) (10 : Int)).bind fun y2 => (some y2)) ((some false)))) ((some false))) ((some false))) ((some false)))
def impl_IsWindRule.res (_ : WindRule) (y : Bool) : AV := (.bl y)
def impl_IsWindRule.out (_ : WindRule) (_ : Bool) : List (Option LB) := []
def impl_IsWindRule.S (ar : List AV) (h : List (Option LB)) (r : AV) (h1 : List (Option LB)) : Prop := ∃ a0 y, impl_IsWindRule a0 = some y ∧ leL ar [(.agg [(.v (.int .i64 a0.1)), (.v (.int .i64 a0.2.1)), (.v (.int .i64 a0.2.2.1)), (.v (.int .i64 a0.2.2.2.1))])] ∧ leH h [] ∧ r = impl_IsWindRule.res a0 y ∧ h1 = impl_IsWindRule.out a0 y
theorem impl_IsWindRule.call {ar : List AV} {h : List (Option LB)} {a0 : WindRule} {y : Bool} (H : impl_IsWindRule a0 = some y) (h0 : leLk ar [(.agg [(.v (.int .i64 a0.1)), (.v (.int .i64 a0.2.1)), (.v (.int .i64 a0.2.2.1)), (.v (.int .i64 a0.2.2.2.1))])] (leHk h [])) : impl_IsWindRule.S ar h (impl_IsWindRule.res a0 y) (impl_IsWindRule.out a0 y) := ⟨a0, y, H, (args_ok h0).1, (args_ok h0).2, rfl, rfl⟩
set_option maxHeartbeats 100000000 in
set_option maxRecDepth 100000 in
theorem impl_IsWindRule.spec (a0 : WindRule) (y : Bool) (H : impl_IsWindRule a0 = some y) : Spec Try.prog 47 [(.agg [(.v (.int .i64 a0.1)), (.v (.int .i64 a0.2.1)), (.v (.int .i64 a0.2.2.1)), (.v (.int .i64 a0.2.2.2.1))])] [] (impl_IsWindRule.res a0 y) (impl_IsWindRule.out a0 y) := by
  refine spec_intro (G11_ok.at tok []) (ct := []) Try.func47 rfl (by kernel_rfl) (by kernel_rfl) rfl ?_
  repeat' first
    | ((with_reducible refine eqg ?_); exact rfl)
    | ((with_reducible refine KOb.mk ?_); kernel_rfl)
    | ((with_reducible intro h); (repeat (first | replace H := grd_k H | replace H := out_step H (by assumption))); first | replace H := cond_t h H | replace H := cond_f h H | exact absurd h (by decide) | skip)
    | ((with_reducible refine Ob.mk ?_); first | rfl | (repeat (first | exact grd_p H | replace H := grd_k H | replace H := out_step H (by assumption))))
    | (with_reducible exact True.intro)
    | constructor
    | ((conv => whnf); first
        | ((with_reducible refine Ob.mk ?_); first | rfl | (repeat (first | exact grd_p H | replace H := grd_k H | replace H := out_step H (by assumption))))
        | ((with_reducible refine CallW.mk ?_); (repeat (first | replace H := grd_k H | replace H := out_step H (by assumption))); replace H := bind_some H; obtain ⟨y, hy, H⟩ := H; first | ((with_reducible have hz : impl_within _ _ _ = some y := hy); clear hz; refine Exists.intro _ (Exists.intro _ ⟨impl_within.call hy ?_, rfl, rfl, ?_⟩)))
        | ((with_reducible refine fin_mk ?_); (repeat (first | replace H := grd_k H | replace H := out_step H (by assumption))); have H := Option.some.inj H; subst H))
def G12 : Env := G11.add 47 [] impl_IsWindRule.S
theorem G12_ok : EnvOk Try.prog G12 := G11_ok.add ent_47 fun ar h r h1 ⟨a0, y, hy, e1, e2, e3, e4⟩ => by
  subst e3 e4; exact (impl_IsWindRule.spec a0 y hy).le e1 e2
attribute [local irreducible] impl_IsWindRule

end Go.Proofs.Ytplknllbpdookaa
