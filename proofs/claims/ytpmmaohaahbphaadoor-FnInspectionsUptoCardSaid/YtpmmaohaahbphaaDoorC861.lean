/-
  Contracts, printed by a program.
-/
import Derived.Test.YtpmmaohaahbphaaDoorXI
namespace Go.Proofs.YtpmmaohaahbphaaDoor
open Go.RowKit
attribute [local irreducible] Ob loopwp Sub Spec Fin Again CallW CutC KOb iter joinx outm

noncomputable def laws_rBig (a0 : (List Int)) : Option (Bool) :=
  (some (decide ((65536 : Int) < (a0.length : Int))))
def laws_rBig.res (_ : (List Int)) (y : Bool) : AV := (.bl y)
def laws_rBig.out (_ : (List Int)) (_ : Bool) : List (Option LB) := []
def laws_rBig.S (ar : List AV) (h : List (Option LB)) (r : AV) (h1 : List (Option LB)) : Prop := ∃ a0 y, laws_rBig a0 = some y ∧ leL ar [(.tree (.int .u8) a0)] ∧ leH h [] ∧ r = laws_rBig.res a0 y ∧ h1 = laws_rBig.out a0 y
theorem laws_rBig.call {ar : List AV} {h : List (Option LB)} {a0 : (List Int)} {y : Bool} (H : laws_rBig a0 = some y) (h0 : leLk ar [(.tree (.int .u8) a0)] (leHk h [])) : laws_rBig.S ar h (laws_rBig.res a0 y) (laws_rBig.out a0 y) := ⟨a0, y, H, (args_ok h0).1, (args_ok h0).2, rfl, rfl⟩
set_option maxHeartbeats 100000000 in
set_option maxRecDepth 100000 in
theorem laws_rBig.spec (a0 : (List Int)) (y : Bool) (H : laws_rBig a0 = some y) : Spec Tryd.prog 4 [(.tree (.int .u8) a0)] [] (laws_rBig.res a0 y) (laws_rBig.out a0 y) := by
  refine spec_intro (G0_ok.at tok []) (ct := []) Tryd.func4 rfl (by kernel_rfl) (by kernel_rfl) rfl ?_
  repeat' first
    | ((with_reducible refine eqg ?_); exact rfl)
    | ((with_reducible refine KOb.mk ?_); kernel_rfl)
    | ((with_reducible intro h); (repeat (first | replace H := grd_k H | replace H := out_step H (by assumption))); first | replace H := cond_t h H | replace H := cond_f h H | exact absurd h (by decide) | skip)
    | ((with_reducible refine Ob.mk ?_); first | (with_reducible rfl) | (first | ((repeat (first | (with_reducible exact grd_p H) | (replace H := grd_k H) | (replace H := out_step H (by assumption)))); done) | rfl | ((repeat (first | exact grd_p H | replace H := grd_k H | replace H := out_step H (by assumption))); done) | ((repeat (first | exact grd_p H | (have hp := grd_p H; exact hp) | replace H := grd_k H | replace H := out_step H (by assumption) | (replace H := bind_some H; obtain ⟨_, _, H⟩ := H))); done) | (repeat (first | exact grd_p H | replace H := grd_k H | replace H := out_step H (by assumption)))))
    | (with_reducible exact True.intro)
    | ((conv => whnf); first
        | (with_reducible refine And.intro ?_ ?_)
        | (with_reducible exact True.intro)
        | ((with_reducible refine Ob.mk ?_); first | (with_reducible rfl) | (first | ((repeat (first | (with_reducible exact grd_p H) | (replace H := grd_k H) | (replace H := out_step H (by assumption)))); done) | rfl | ((repeat (first | exact grd_p H | replace H := grd_k H | replace H := out_step H (by assumption))); done) | ((repeat (first | exact grd_p H | (have hp := grd_p H; exact hp) | replace H := grd_k H | replace H := out_step H (by assumption) | (replace H := bind_some H; obtain ⟨_, _, H⟩ := H))); done) | (repeat (first | exact grd_p H | replace H := grd_k H | replace H := out_step H (by assumption)))))
        | ((with_reducible refine fin_mk ?_); (repeat (first | replace H := grd_k H | replace H := out_step H (by assumption))); have H := Option.some.inj H; subst H))
    | constructor
def G1 : Env := G0.add 4 [] laws_rBig.S
theorem G1_ok : EnvOk Tryd.prog G1 := G0_ok.add ent_4 fun ar h r h1 ⟨a0, y, hy, e1, e2, e3, e4⟩ => by
  subst e3 e4; exact (laws_rBig.spec a0 y hy).le e1 e2
attribute [local irreducible] laws_rBig

noncomputable def spec_l1Cur_next (a0 : l1Cur) : Option (Int × l1Cur) :=
  ((cond (decide (a0.2.1 < (a0.1.length : Int))) (grd (0 ≤ a0.2.1 ∧ a0.2.1 < (a0.1.length : Int)) ((some (w64 (a0.1.getD a0.2.1.toNat 0))))) ((some (0 : Int)))).bind fun z1 => (cond (decide ((w64 (a0.2.1 + (1 : Int))) ≤ (a0.1.length : Int))) ((some (z1, (a0.1, (w64 (a0.2.1 + (1 : Int))), (wu64 ((wu64 ((wu64 (a0.2.2.1 * (6364136223846793005 : Int))) + (wu64 z1))) + (935935 : Int))), ())))) (grd (0 ≤ (40 : Int)) ((some ((w64 (wu64 ((BitVec.ofInt (IntKind.u64).bits (Int.fdiv (wu64 ((wu64 ((wu64 (a0.2.2.1 * (6364136223846793005 : Int))) + (wu64 z1))) + (935935 : Int))) (2 ^ min (40 : Int).toNat (IntKind.u64).bits)) &&& BitVec.ofInt (IntKind.u64).bits (255 : Int)).toNat))), (a0.1, (w64 (a0.2.1 + (1 : Int))), (wu64 ((wu64 ((wu64 (a0.2.2.1 * (6364136223846793005 : Int))) + (wu64 z1))) + (935935 : Int))), ())))))))
def spec_l1Cur_next.res (_ : l1Cur) (y : Int × l1Cur) : AV := (.v (.int .i64 y.1))
def spec_l1Cur_next.out (_ : l1Cur) (y : Int × l1Cur) : List (Option LB) := [some (.box 49 [(.tree (.int .u8) y.2.1), (.v (.int .i64 y.2.2.1)), (.v (.int .u64 y.2.2.2.1))])]
def spec_l1Cur_next.S (ar : List AV) (h : List (Option LB)) (r : AV) (h1 : List (Option LB)) : Prop := ∃ a0 y, spec_l1Cur_next a0 = some y ∧ leL ar [(.loc 0 0 0)] ∧ leH h [some (.box 49 [(.tree (.int .u8) a0.1), (.v (.int .i64 a0.2.1)), (.v (.int .u64 a0.2.2.1))])] ∧ r = spec_l1Cur_next.res a0 y ∧ h1 = spec_l1Cur_next.out a0 y
theorem spec_l1Cur_next.call {ar : List AV} {h : List (Option LB)} {a0 : l1Cur} {y : Int × l1Cur} (H : spec_l1Cur_next a0 = some y) (h0 : leLk ar [(.loc 0 0 0)] (leHk h [some (.box 49 [(.tree (.int .u8) a0.1), (.v (.int .i64 a0.2.1)), (.v (.int .u64 a0.2.2.1))])])) : spec_l1Cur_next.S ar h (spec_l1Cur_next.res a0 y) (spec_l1Cur_next.out a0 y) := ⟨a0, y, H, (args_ok h0).1, (args_ok h0).2, rfl, rfl⟩
set_option maxHeartbeats 100000000 in
set_option maxRecDepth 100000 in
theorem spec_l1Cur_next.spec (a0 : l1Cur) (y : Int × l1Cur) (H : spec_l1Cur_next a0 = some y) : Spec Tryd.prog 46 [(.loc 0 0 0)] [some (.box 49 [(.tree (.int .u8) a0.1), (.v (.int .i64 a0.2.1)), (.v (.int .u64 a0.2.2.1))])] (spec_l1Cur_next.res a0 y) (spec_l1Cur_next.out a0 y) := by
  refine spec_intro (G1_ok.at tok []) (ct := [(4, none), (6, some [0, 3])]) Tryd.func46 rfl (by kernel_rfl) (by kernel_rfl) rfl ?_
  repeat' first
    | ((with_reducible refine eqg ?_); exact rfl)
    | ((with_reducible refine KOb.mk ?_); kernel_rfl)
    | ((with_reducible intro h); (repeat (first | replace H := grd_k H | replace H := out_step H (by assumption))); first | replace H := cond_t h H | replace H := cond_f h H | exact absurd h (by decide) | skip)
    | ((with_reducible refine Ob.mk ?_); first | (with_reducible rfl) | (first | ((repeat (first | (with_reducible exact grd_p H) | (replace H := grd_k H) | (replace H := out_step H (by assumption)))); done) | rfl | ((repeat (first | exact grd_p H | replace H := grd_k H | replace H := out_step H (by assumption))); done) | ((repeat (first | exact grd_p H | (have hp := grd_p H; exact hp) | replace H := grd_k H | replace H := out_step H (by assumption) | (replace H := bind_some H; obtain ⟨_, _, H⟩ := H))); done) | (repeat (first | exact grd_p H | replace H := grd_k H | replace H := out_step H (by assumption)))))
    | (with_reducible exact True.intro)
    | ((conv => whnf); first
        | (with_reducible refine And.intro ?_ ?_)
        | (with_reducible exact True.intro)
        | ((with_reducible refine Ob.mk ?_); first | (with_reducible rfl) | (first | ((repeat (first | (with_reducible exact grd_p H) | (replace H := grd_k H) | (replace H := out_step H (by assumption)))); done) | rfl | ((repeat (first | exact grd_p H | replace H := grd_k H | replace H := out_step H (by assumption))); done) | ((repeat (first | exact grd_p H | (have hp := grd_p H; exact hp) | replace H := grd_k H | replace H := out_step H (by assumption) | (replace H := bind_some H; obtain ⟨_, _, H⟩ := H))); done) | (repeat (first | exact grd_p H | replace H := grd_k H | replace H := out_step H (by assumption)))))
        | ((with_reducible refine cutAt (id := 4) ?_); (repeat (first | replace H := grd_k H | replace H := out_step H (by assumption))); first | (replace H := bind_some H; obtain ⟨z, hz, H⟩ := H; refine CutC.mk (id := 4) ⟨sl [(0, (.loc 0 0 0)), (3, (.v (.int .i64 z)))], [some (.box 49 [(.tree (.int .u8) a0.1), (.v (.int .i64 a0.2.1)), (.v (.int .u64 a0.2.2.1))])]⟩ ?_ ?_; (replace H := hz)))
        | ((repeat (first | replace H := grd_k H | replace H := out_step H (by assumption))); have H := Option.some.inj H; subst H; with_reducible refine sub_auto ?_)
        | ((with_reducible refine fin_mk ?_); (repeat (first | replace H := grd_k H | replace H := out_step H (by assumption))); have H := Option.some.inj H; subst H))
    | constructor
def G2 : Env := G1.add 46 [true] spec_l1Cur_next.S
theorem G2_ok : EnvOk Tryd.prog G2 := G1_ok.add ent_46 fun ar h r h1 ⟨a0, y, hy, e1, e2, e3, e4⟩ => by
  subst e3 e4; exact (spec_l1Cur_next.spec a0 y hy).le e1 e2
attribute [local irreducible] spec_l1Cur_next

noncomputable def spec_l1Cur_pick (a0 : l1Cur) (a1 : Int) : Option (Int × l1Cur) :=
  (cond (decide (a1 ≤ (1 : Int))) ((some ((0 : Int), (a0.1, a0.2.1, a0.2.2.1, ())))) ((spec_l1Cur_next (a0.1, a0.2.1, a0.2.2.1, ())).bind fun y1 => (cond (decide ((200 : Int) < a1)) ((spec_l1Cur_next (y1.2.1, y1.2.2.1, y1.2.2.2.1, ())).bind fun y2 => (grd (a1 ≠ 0) ((some ((Int.tmod (w64 ((w64 (y1.1 * (256 : Int))) + y2.1)) a1), (y2.2.1, y2.2.2.1, y2.2.2.2.1, ())))))) (grd (a1 ≠ 0) ((some ((Int.tmod y1.1 a1), (y1.2.1, y1.2.2.1, y1.2.2.2.1, ()))))))))
def spec_l1Cur_pick.res (_ : l1Cur) (_ : Int) (y : Int × l1Cur) : AV := (.v (.int .i64 y.1))
def spec_l1Cur_pick.out (_ : l1Cur) (_ : Int) (y : Int × l1Cur) : List (Option LB) := [some (.box 49 [(.tree (.int .u8) y.2.1), (.v (.int .i64 y.2.2.1)), (.v (.int .u64 y.2.2.2.1))])]
def spec_l1Cur_pick.S (ar : List AV) (h : List (Option LB)) (r : AV) (h1 : List (Option LB)) : Prop := ∃ a0 a1 y, spec_l1Cur_pick a0 a1 = some y ∧ leL ar [(.loc 0 0 0), (.v (.int .i64 a1))] ∧ leH h [some (.box 49 [(.tree (.int .u8) a0.1), (.v (.int .i64 a0.2.1)), (.v (.int .u64 a0.2.2.1))])] ∧ r = spec_l1Cur_pick.res a0 a1 y ∧ h1 = spec_l1Cur_pick.out a0 a1 y
theorem spec_l1Cur_pick.call {ar : List AV} {h : List (Option LB)} {a0 : l1Cur} {a1 : Int} {y : Int × l1Cur} (H : spec_l1Cur_pick a0 a1 = some y) (h0 : leLk ar [(.loc 0 0 0), (.v (.int .i64 a1))] (leHk h [some (.box 49 [(.tree (.int .u8) a0.1), (.v (.int .i64 a0.2.1)), (.v (.int .u64 a0.2.2.1))])])) : spec_l1Cur_pick.S ar h (spec_l1Cur_pick.res a0 a1 y) (spec_l1Cur_pick.out a0 a1 y) := ⟨a0, a1, y, H, (args_ok h0).1, (args_ok h0).2, rfl, rfl⟩
set_option maxHeartbeats 100000000 in
set_option maxRecDepth 100000 in
theorem spec_l1Cur_pick.spec (a0 : l1Cur) (a1 : Int) (y : Int × l1Cur) (H : spec_l1Cur_pick a0 a1 = some y) : Spec Tryd.prog 22 [(.loc 0 0 0), (.v (.int .i64 a1))] [some (.box 49 [(.tree (.int .u8) a0.1), (.v (.int .i64 a0.2.1)), (.v (.int .u64 a0.2.2.1))])] (spec_l1Cur_pick.res a0 a1 y) (spec_l1Cur_pick.out a0 a1 y) := by
  refine spec_intro (G2_ok.at tok []) (ct := [(6, some [1, 5])]) Tryd.func22 rfl (by kernel_rfl) (by kernel_rfl) rfl ?_
  repeat' first
    | ((with_reducible refine eqg ?_); exact rfl)
    | ((with_reducible refine KOb.mk ?_); kernel_rfl)
    | ((with_reducible intro h); (repeat (first | replace H := grd_k H | replace H := out_step H (by assumption))); first | replace H := cond_t h H | replace H := cond_f h H | exact absurd h (by decide) | skip)
    | ((with_reducible refine Ob.mk ?_); first | (with_reducible rfl) | (first | ((repeat (first | (with_reducible exact grd_p H) | (replace H := grd_k H) | (replace H := out_step H (by assumption)))); done) | rfl | ((repeat (first | exact grd_p H | replace H := grd_k H | replace H := out_step H (by assumption))); done) | ((repeat (first | exact grd_p H | (have hp := grd_p H; exact hp) | replace H := grd_k H | replace H := out_step H (by assumption) | (replace H := bind_some H; obtain ⟨_, _, H⟩ := H))); done) | (repeat (first | exact grd_p H | replace H := grd_k H | replace H := out_step H (by assumption)))))
    | (with_reducible exact True.intro)
    | ((conv => whnf); first
        | (with_reducible refine And.intro ?_ ?_)
        | (with_reducible exact True.intro)
        | ((with_reducible refine Ob.mk ?_); first | (with_reducible rfl) | (first | ((repeat (first | (with_reducible exact grd_p H) | (replace H := grd_k H) | (replace H := out_step H (by assumption)))); done) | rfl | ((repeat (first | exact grd_p H | replace H := grd_k H | replace H := out_step H (by assumption))); done) | ((repeat (first | exact grd_p H | (have hp := grd_p H; exact hp) | replace H := grd_k H | replace H := out_step H (by assumption) | (replace H := bind_some H; obtain ⟨_, _, H⟩ := H))); done) | (repeat (first | exact grd_p H | replace H := grd_k H | replace H := out_step H (by assumption)))))
        | ((with_reducible refine CallW.mk ?_); (repeat (first | replace H := grd_k H | replace H := out_step H (by assumption))); replace H := bind_some H; obtain ⟨y, hy, H⟩ := H; first | ((with_reducible have hz : spec_l1Cur_next _ = some y := hy); clear hz; refine Exists.intro _ (Exists.intro _ ⟨spec_l1Cur_next.call hy ?_, rfl, rfl, ?_⟩)))
        | ((with_reducible refine fin_mk ?_); (repeat (first | replace H := grd_k H | replace H := out_step H (by assumption))); have H := Option.some.inj H; subst H))
    | constructor
def G3 : Env := G2.add 22 [true] spec_l1Cur_pick.S
theorem G3_ok : EnvOk Tryd.prog G3 := G2_ok.add ent_22 fun ar h r h1 ⟨a0, a1, y, hy, e1, e2, e3, e4⟩ => by
  subst e3 e4; exact (spec_l1Cur_pick.spec a0 a1 y hy).le e1 e2
attribute [local irreducible] spec_l1Cur_pick

noncomputable def spec_l1Cur_of (a0 : l1Cur) (a1 : (List ByteArray)) : Option (ByteArray × l1Cur) :=
  ((spec_l1Cur_pick (a0.1, a0.2.1, a0.2.2.1, ()) (a1.length : Int)).bind fun y1 => (grd (0 ≤ y1.1 ∧ y1.1 < (a1.length : Int)) ((some ((a1.getD y1.1.toNat (ByteArray.mk #[])), (y1.2.1, y1.2.2.1, y1.2.2.2.1, ()))))))
def spec_l1Cur_of.res (_ : l1Cur) (_ : (List ByteArray)) (y : ByteArray × l1Cur) : AV := (.v (.string y.1))
def spec_l1Cur_of.out (_ : l1Cur) (_ : (List ByteArray)) (y : ByteArray × l1Cur) : List (Option LB) := [some (.box 49 [(.tree (.int .u8) y.2.1), (.v (.int .i64 y.2.2.1)), (.v (.int .u64 y.2.2.2.1))])]
def spec_l1Cur_of.S (ar : List AV) (h : List (Option LB)) (r : AV) (h1 : List (Option LB)) : Prop := ∃ a0 a1 y, spec_l1Cur_of a0 a1 = some y ∧ leL ar [(.loc 0 0 0), (.tree .str a1)] ∧ leH h [some (.box 49 [(.tree (.int .u8) a0.1), (.v (.int .i64 a0.2.1)), (.v (.int .u64 a0.2.2.1))])] ∧ r = spec_l1Cur_of.res a0 a1 y ∧ h1 = spec_l1Cur_of.out a0 a1 y
theorem spec_l1Cur_of.call {ar : List AV} {h : List (Option LB)} {a0 : l1Cur} {a1 : (List ByteArray)} {y : ByteArray × l1Cur} (H : spec_l1Cur_of a0 a1 = some y) (h0 : leLk ar [(.loc 0 0 0), (.tree .str a1)] (leHk h [some (.box 49 [(.tree (.int .u8) a0.1), (.v (.int .i64 a0.2.1)), (.v (.int .u64 a0.2.2.1))])])) : spec_l1Cur_of.S ar h (spec_l1Cur_of.res a0 a1 y) (spec_l1Cur_of.out a0 a1 y) := ⟨a0, a1, y, H, (args_ok h0).1, (args_ok h0).2, rfl, rfl⟩
set_option maxHeartbeats 100000000 in
set_option maxRecDepth 100000 in
theorem spec_l1Cur_of.spec (a0 : l1Cur) (a1 : (List ByteArray)) (y : ByteArray × l1Cur) (H : spec_l1Cur_of a0 a1 = some y) : Spec Tryd.prog 51 [(.loc 0 0 0), (.tree .str a1)] [some (.box 49 [(.tree (.int .u8) a0.1), (.v (.int .i64 a0.2.1)), (.v (.int .u64 a0.2.2.1))])] (spec_l1Cur_of.res a0 a1 y) (spec_l1Cur_of.out a0 a1 y) := by
  refine spec_intro (G3_ok.at tok []) (ct := []) Tryd.func51 rfl (by kernel_rfl) (by kernel_rfl) rfl ?_
  repeat' first
    | ((with_reducible refine eqg ?_); exact rfl)
    | ((with_reducible refine KOb.mk ?_); kernel_rfl)
    | ((with_reducible intro h); (repeat (first | replace H := grd_k H | replace H := out_step H (by assumption))); first | replace H := cond_t h H | replace H := cond_f h H | exact absurd h (by decide) | skip)
    | ((with_reducible refine Ob.mk ?_); first | (with_reducible rfl) | (first | ((repeat (first | (with_reducible exact grd_p H) | (replace H := grd_k H) | (replace H := out_step H (by assumption)))); done) | rfl | ((repeat (first | exact grd_p H | replace H := grd_k H | replace H := out_step H (by assumption))); done) | ((repeat (first | exact grd_p H | (have hp := grd_p H; exact hp) | replace H := grd_k H | replace H := out_step H (by assumption) | (replace H := bind_some H; obtain ⟨_, _, H⟩ := H))); done) | (repeat (first | exact grd_p H | replace H := grd_k H | replace H := out_step H (by assumption)))))
    | (with_reducible exact True.intro)
    | ((conv => whnf); first
        | (with_reducible refine And.intro ?_ ?_)
        | (with_reducible exact True.intro)
        | ((with_reducible refine Ob.mk ?_); first | (with_reducible rfl) | (first | ((repeat (first | (with_reducible exact grd_p H) | (replace H := grd_k H) | (replace H := out_step H (by assumption)))); done) | rfl | ((repeat (first | exact grd_p H | replace H := grd_k H | replace H := out_step H (by assumption))); done) | ((repeat (first | exact grd_p H | (have hp := grd_p H; exact hp) | replace H := grd_k H | replace H := out_step H (by assumption) | (replace H := bind_some H; obtain ⟨_, _, H⟩ := H))); done) | (repeat (first | exact grd_p H | replace H := grd_k H | replace H := out_step H (by assumption)))))
        | ((with_reducible refine CallW.mk ?_); (repeat (first | replace H := grd_k H | replace H := out_step H (by assumption))); replace H := bind_some H; obtain ⟨y, hy, H⟩ := H; first | ((with_reducible have hz : spec_l1Cur_pick _ _ = some y := hy); clear hz; refine Exists.intro _ (Exists.intro _ ⟨spec_l1Cur_pick.call hy ?_, rfl, rfl, ?_⟩)))
        | ((with_reducible refine fin_mk ?_); (repeat (first | replace H := grd_k H | replace H := out_step H (by assumption))); have H := Option.some.inj H; subst H))
    | constructor
def G4 : Env := G3.add 51 [true] spec_l1Cur_of.S
theorem G4_ok : EnvOk Tryd.prog G4 := G3_ok.add ent_51 fun ar h r h1 ⟨a0, a1, y, hy, e1, e2, e3, e4⟩ => by
  subst e3 e4; exact (spec_l1Cur_of.spec a0 a1 y hy).le e1 e2
attribute [local irreducible] spec_l1Cur_of

noncomputable def spec_l1Cur_among (a0 : l1Cur) (a1 : (List Int)) : Option (Int × l1Cur) :=
  ((spec_l1Cur_pick (a0.1, a0.2.1, a0.2.2.1, ()) (a1.length : Int)).bind fun y1 => (grd (0 ≤ y1.1 ∧ y1.1 < (a1.length : Int)) ((some ((a1.getD y1.1.toNat 0), (y1.2.1, y1.2.2.1, y1.2.2.2.1, ()))))))
def spec_l1Cur_among.res (_ : l1Cur) (_ : (List Int)) (y : Int × l1Cur) : AV := (.v (.int .i64 y.1))
def spec_l1Cur_among.out (_ : l1Cur) (_ : (List Int)) (y : Int × l1Cur) : List (Option LB) := [some (.box 49 [(.tree (.int .u8) y.2.1), (.v (.int .i64 y.2.2.1)), (.v (.int .u64 y.2.2.2.1))])]
def spec_l1Cur_among.S (ar : List AV) (h : List (Option LB)) (r : AV) (h1 : List (Option LB)) : Prop := ∃ a0 a1 y, spec_l1Cur_among a0 a1 = some y ∧ leL ar [(.loc 0 0 0), (.tree (.int .i64) a1)] ∧ leH h [some (.box 49 [(.tree (.int .u8) a0.1), (.v (.int .i64 a0.2.1)), (.v (.int .u64 a0.2.2.1))])] ∧ r = spec_l1Cur_among.res a0 a1 y ∧ h1 = spec_l1Cur_among.out a0 a1 y
theorem spec_l1Cur_among.call {ar : List AV} {h : List (Option LB)} {a0 : l1Cur} {a1 : (List Int)} {y : Int × l1Cur} (H : spec_l1Cur_among a0 a1 = some y) (h0 : leLk ar [(.loc 0 0 0), (.tree (.int .i64) a1)] (leHk h [some (.box 49 [(.tree (.int .u8) a0.1), (.v (.int .i64 a0.2.1)), (.v (.int .u64 a0.2.2.1))])])) : spec_l1Cur_among.S ar h (spec_l1Cur_among.res a0 a1 y) (spec_l1Cur_among.out a0 a1 y) := ⟨a0, a1, y, H, (args_ok h0).1, (args_ok h0).2, rfl, rfl⟩
set_option maxHeartbeats 100000000 in
set_option maxRecDepth 100000 in
theorem spec_l1Cur_among.spec (a0 : l1Cur) (a1 : (List Int)) (y : Int × l1Cur) (H : spec_l1Cur_among a0 a1 = some y) : Spec Tryd.prog 21 [(.loc 0 0 0), (.tree (.int .i64) a1)] [some (.box 49 [(.tree (.int .u8) a0.1), (.v (.int .i64 a0.2.1)), (.v (.int .u64 a0.2.2.1))])] (spec_l1Cur_among.res a0 a1 y) (spec_l1Cur_among.out a0 a1 y) := by
  refine spec_intro (G4_ok.at tok []) (ct := []) Tryd.func21 rfl (by kernel_rfl) (by kernel_rfl) rfl ?_
  repeat' first
    | ((with_reducible refine eqg ?_); exact rfl)
    | ((with_reducible refine KOb.mk ?_); kernel_rfl)
    | ((with_reducible intro h); (repeat (first | replace H := grd_k H | replace H := out_step H (by assumption))); first | replace H := cond_t h H | replace H := cond_f h H | exact absurd h (by decide) | skip)
    | ((with_reducible refine Ob.mk ?_); first | (with_reducible rfl) | (first | ((repeat (first | (with_reducible exact grd_p H) | (replace H := grd_k H) | (replace H := out_step H (by assumption)))); done) | rfl | ((repeat (first | exact grd_p H | replace H := grd_k H | replace H := out_step H (by assumption))); done) | ((repeat (first | exact grd_p H | (have hp := grd_p H; exact hp) | replace H := grd_k H | replace H := out_step H (by assumption) | (replace H := bind_some H; obtain ⟨_, _, H⟩ := H))); done) | (repeat (first | exact grd_p H | replace H := grd_k H | replace H := out_step H (by assumption)))))
    | (with_reducible exact True.intro)
    | ((conv => whnf); first
        | (with_reducible refine And.intro ?_ ?_)
        | (with_reducible exact True.intro)
        | ((with_reducible refine Ob.mk ?_); first | (with_reducible rfl) | (first | ((repeat (first | (with_reducible exact grd_p H) | (replace H := grd_k H) | (replace H := out_step H (by assumption)))); done) | rfl | ((repeat (first | exact grd_p H | replace H := grd_k H | replace H := out_step H (by assumption))); done) | ((repeat (first | exact grd_p H | (have hp := grd_p H; exact hp) | replace H := grd_k H | replace H := out_step H (by assumption) | (replace H := bind_some H; obtain ⟨_, _, H⟩ := H))); done) | (repeat (first | exact grd_p H | replace H := grd_k H | replace H := out_step H (by assumption)))))
        | ((with_reducible refine CallW.mk ?_); (repeat (first | replace H := grd_k H | replace H := out_step H (by assumption))); replace H := bind_some H; obtain ⟨y, hy, H⟩ := H; first | ((with_reducible have hz : spec_l1Cur_pick _ _ = some y := hy); clear hz; refine Exists.intro _ (Exists.intro _ ⟨spec_l1Cur_pick.call hy ?_, rfl, rfl, ?_⟩)))
        | ((with_reducible refine fin_mk ?_); (repeat (first | replace H := grd_k H | replace H := out_step H (by assumption))); have H := Option.some.inj H; subst H))
    | constructor
def G5 : Env := G4.add 21 [true] spec_l1Cur_among.S
theorem G5_ok : EnvOk Tryd.prog G5 := G4_ok.add ent_21 fun ar h r h1 ⟨a0, a1, y, hy, e1, e2, e3, e4⟩ => by
  subst e3 e4; exact (spec_l1Cur_among.spec a0 a1 y hy).le e1 e2
attribute [local irreducible] spec_l1Cur_among

noncomputable def spec_l1Cur_condition (a0 : l1Cur) (a1 : Int) : Option (Condition × l1Cur) :=
  ((spec_l1Cur_of (a0.1, a0.2.1, a0.2.2.1, ()) [(ByteArray.mk #[114, 111, 112, 101]), (ByteArray.mk #[98, 114, 97, 107, 101]), (ByteArray.mk #[116, 111, 119, 101, 114])]).bind fun y1 => ((spec_l1Cur_among (y1.2.1, y1.2.2.1, y1.2.2.2.1, ()) [(1 : Int), (7 : Int), (30 : Int), (90 : Int), (1000 : Int)]).bind fun y2 => ((spec_l1Cur_among (y2.2.1, y2.2.2.1, y2.2.2.2.1, ()) [(0 : Int), (100 : Int), (110 : Int), (9990 : Int)]).bind fun y3 => ((spec_l1Cur_among (y3.2.1, y3.2.2.1, y3.2.2.2.1, ()) [(1 : Int), (1 : Int), (2 : Int), (3 : Int), (4 : Int), (5 : Int)]).bind fun y4 => ((spec_l1Cur_pick (y4.2.1, y4.2.2.1, y4.2.2.2.1, ()) (70 : Int)).bind fun y5 => (cond (decide (y5.1 = (0 : Int))) ((spec_l1Cur_among (y5.2.1, y5.2.2.1, y5.2.2.2.1, ()) [(0 : Int), (99 : Int), (100 : Int)]).bind fun y6 => (some ((y6.1, y1.1, y2.1, y3.1, y4.1, ()), (y6.2.1, y6.2.2.1, y6.2.2.2.1, ())))) (cond (decide (y5.1 = (1 : Int))) ((spec_l1Cur_of (y5.2.1, y5.2.2.1, y5.2.2.2.1, ()) [(ByteArray.mk #[]), (ByteArray.mk #[65]), (ByteArray.mk #[97, 98, 99, 100, 101, 102, 103, 104, 105, 106, 107])]).bind fun y7 => (some ((a1, y7.1, y2.1, y3.1, y4.1, ()), (y7.2.1, y7.2.2.1, y7.2.2.2.1, ())))) (cond (decide (y5.1 = (2 : Int))) ((spec_l1Cur_among (y5.2.1, y5.2.2.1, y5.2.2.2.1, ()) [(0 : Int), (1001 : Int)]).bind fun y8 => (some ((a1, y1.1, y8.1, y3.1, y4.1, ()), (y8.2.1, y8.2.2.1, y8.2.2.2.1, ())))) (cond (decide (y5.1 = (3 : Int))) ((spec_l1Cur_among (y5.2.1, y5.2.2.1, y5.2.2.2.1, ()) [((-1) : Int), (10000 : Int)]).bind fun y9 => (some ((a1, y1.1, y2.1, y9.1, y4.1, ()), (y9.2.1, y9.2.2.1, y9.2.2.2.1, ())))) (cond (decide (y5.1 = (4 : Int))) ((spec_l1Cur_among (y5.2.1, y5.2.2.1, y5.2.2.2.1, ()) [(0 : Int), (6 : Int)]).bind fun y10 => (some ((a1, y1.1, y2.1, y3.1, y10.1, ()), (y10.2.1, y10.2.2.1, y10.2.2.2.1, ())))) ((some ((a1, y1.1, y2.1, y3.1, y4.1, ()), (y5.2.1, y5.2.2.1, y5.2.2.2.1, ()))))))))))))))
def spec_l1Cur_condition.res (_ : l1Cur) (_ : Int) (y : Condition × l1Cur) : AV := (.agg [(.v (.int .i64 y.1.1)), (.v (.string y.1.2.1)), (.v (.int .i64 y.1.2.2.1)), (.v (.int .i64 y.1.2.2.2.1)), (.v (.int .i64 y.1.2.2.2.2.1))])
def spec_l1Cur_condition.out (_ : l1Cur) (_ : Int) (y : Condition × l1Cur) : List (Option LB) := [some (.box 49 [(.tree (.int .u8) y.2.1), (.v (.int .i64 y.2.2.1)), (.v (.int .u64 y.2.2.2.1))])]
def spec_l1Cur_condition.S (ar : List AV) (h : List (Option LB)) (r : AV) (h1 : List (Option LB)) : Prop := ∃ a0 a1 y, spec_l1Cur_condition a0 a1 = some y ∧ leL ar [(.loc 0 0 0), (.v (.int .i64 a1))] ∧ leH h [some (.box 49 [(.tree (.int .u8) a0.1), (.v (.int .i64 a0.2.1)), (.v (.int .u64 a0.2.2.1))])] ∧ r = spec_l1Cur_condition.res a0 a1 y ∧ h1 = spec_l1Cur_condition.out a0 a1 y
theorem spec_l1Cur_condition.call {ar : List AV} {h : List (Option LB)} {a0 : l1Cur} {a1 : Int} {y : Condition × l1Cur} (H : spec_l1Cur_condition a0 a1 = some y) (h0 : leLk ar [(.loc 0 0 0), (.v (.int .i64 a1))] (leHk h [some (.box 49 [(.tree (.int .u8) a0.1), (.v (.int .i64 a0.2.1)), (.v (.int .u64 a0.2.2.1))])])) : spec_l1Cur_condition.S ar h (spec_l1Cur_condition.res a0 a1 y) (spec_l1Cur_condition.out a0 a1 y) := ⟨a0, a1, y, H, (args_ok h0).1, (args_ok h0).2, rfl, rfl⟩
set_option maxHeartbeats 100000000 in
set_option maxRecDepth 100000 in
theorem spec_l1Cur_condition.spec (a0 : l1Cur) (a1 : Int) (y : Condition × l1Cur) (H : spec_l1Cur_condition a0 a1 = some y) : Spec Tryd.prog 35 [(.loc 0 0 0), (.v (.int .i64 a1))] [some (.box 49 [(.tree (.int .u8) a0.1), (.v (.int .i64 a0.2.1)), (.v (.int .u64 a0.2.2.1))])] (spec_l1Cur_condition.res a0 a1 y) (spec_l1Cur_condition.out a0 a1 y) := by
  refine spec_intro (G5_ok.at tok []) (ct := [(2, some [0, 4, 5]), (13, some [4, 5])]) Tryd.func35 rfl (by kernel_rfl) (by kernel_rfl) rfl ?_
  repeat' first
    | ((with_reducible refine eqg ?_); exact rfl)
    | ((with_reducible refine KOb.mk ?_); kernel_rfl)
    | ((with_reducible intro h); (repeat (first | replace H := grd_k H | replace H := out_step H (by assumption))); first | replace H := cond_t h H | replace H := cond_f h H | exact absurd h (by decide) | skip)
    | ((with_reducible refine Ob.mk ?_); first | (with_reducible rfl) | (first | ((repeat (first | (with_reducible exact grd_p H) | (replace H := grd_k H) | (replace H := out_step H (by assumption)))); done) | rfl | ((repeat (first | exact grd_p H | replace H := grd_k H | replace H := out_step H (by assumption))); done) | ((repeat (first | exact grd_p H | (have hp := grd_p H; exact hp) | replace H := grd_k H | replace H := out_step H (by assumption) | (replace H := bind_some H; obtain ⟨_, _, H⟩ := H))); done) | (repeat (first | exact grd_p H | replace H := grd_k H | replace H := out_step H (by assumption)))))
    | (with_reducible exact True.intro)
    | ((conv => whnf); first
        | (with_reducible refine And.intro ?_ ?_)
        | (with_reducible exact True.intro)
        | ((with_reducible refine Ob.mk ?_); first | (with_reducible rfl) | (first | ((repeat (first | (with_reducible exact grd_p H) | (replace H := grd_k H) | (replace H := out_step H (by assumption)))); done) | rfl | ((repeat (first | exact grd_p H | replace H := grd_k H | replace H := out_step H (by assumption))); done) | ((repeat (first | exact grd_p H | (have hp := grd_p H; exact hp) | replace H := grd_k H | replace H := out_step H (by assumption) | (replace H := bind_some H; obtain ⟨_, _, H⟩ := H))); done) | (repeat (first | exact grd_p H | replace H := grd_k H | replace H := out_step H (by assumption)))))
        | ((with_reducible refine CallW.mk ?_); (repeat (first | replace H := grd_k H | replace H := out_step H (by assumption))); replace H := bind_some H; obtain ⟨y, hy, H⟩ := H; first | ((with_reducible have hz : spec_l1Cur_of _ _ = some y := hy); clear hz; refine Exists.intro _ (Exists.intro _ ⟨spec_l1Cur_of.call hy ?_, rfl, rfl, ?_⟩)) | ((with_reducible have hz : spec_l1Cur_among _ _ = some y := hy); clear hz; refine Exists.intro _ (Exists.intro _ ⟨spec_l1Cur_among.call hy ?_, rfl, rfl, ?_⟩)) | ((with_reducible have hz : spec_l1Cur_pick _ _ = some y := hy); clear hz; refine Exists.intro _ (Exists.intro _ ⟨spec_l1Cur_pick.call hy ?_, rfl, rfl, ?_⟩)))
        | ((with_reducible refine fin_mk ?_); (repeat (first | replace H := grd_k H | replace H := out_step H (by assumption))); have H := Option.some.inj H; subst H))
    | constructor
def G6 : Env := G5.add 35 [true] spec_l1Cur_condition.S
theorem G6_ok : EnvOk Tryd.prog G6 := G5_ok.add ent_35 fun ar h r h1 ⟨a0, a1, y, hy, e1, e2, e3, e4⟩ => by
  subst e3 e4; exact (spec_l1Cur_condition.spec a0 a1 y hy).le e1 e2
attribute [local irreducible] spec_l1Cur_condition

noncomputable def spec_l1Cur_one (a0 : l1Cur) (a1 : Int) : Option (Bool × l1Cur) :=
  ((spec_l1Cur_pick (a0.1, a0.2.1, a0.2.2.1, ()) a1).bind fun y1 => (some ((decide (y1.1 = (0 : Int))), (y1.2.1, y1.2.2.1, y1.2.2.2.1, ()))))
def spec_l1Cur_one.res (_ : l1Cur) (_ : Int) (y : Bool × l1Cur) : AV := (.bl y.1)
def spec_l1Cur_one.out (_ : l1Cur) (_ : Int) (y : Bool × l1Cur) : List (Option LB) := [some (.box 49 [(.tree (.int .u8) y.2.1), (.v (.int .i64 y.2.2.1)), (.v (.int .u64 y.2.2.2.1))])]
def spec_l1Cur_one.S (ar : List AV) (h : List (Option LB)) (r : AV) (h1 : List (Option LB)) : Prop := ∃ a0 a1 y, spec_l1Cur_one a0 a1 = some y ∧ leL ar [(.loc 0 0 0), (.v (.int .i64 a1))] ∧ leH h [some (.box 49 [(.tree (.int .u8) a0.1), (.v (.int .i64 a0.2.1)), (.v (.int .u64 a0.2.2.1))])] ∧ r = spec_l1Cur_one.res a0 a1 y ∧ h1 = spec_l1Cur_one.out a0 a1 y
theorem spec_l1Cur_one.call {ar : List AV} {h : List (Option LB)} {a0 : l1Cur} {a1 : Int} {y : Bool × l1Cur} (H : spec_l1Cur_one a0 a1 = some y) (h0 : leLk ar [(.loc 0 0 0), (.v (.int .i64 a1))] (leHk h [some (.box 49 [(.tree (.int .u8) a0.1), (.v (.int .i64 a0.2.1)), (.v (.int .u64 a0.2.2.1))])])) : spec_l1Cur_one.S ar h (spec_l1Cur_one.res a0 a1 y) (spec_l1Cur_one.out a0 a1 y) := ⟨a0, a1, y, H, (args_ok h0).1, (args_ok h0).2, rfl, rfl⟩
set_option maxHeartbeats 100000000 in
set_option maxRecDepth 100000 in
theorem spec_l1Cur_one.spec (a0 : l1Cur) (a1 : Int) (y : Bool × l1Cur) (H : spec_l1Cur_one a0 a1 = some y) : Spec Tryd.prog 45 [(.loc 0 0 0), (.v (.int .i64 a1))] [some (.box 49 [(.tree (.int .u8) a0.1), (.v (.int .i64 a0.2.1)), (.v (.int .u64 a0.2.2.1))])] (spec_l1Cur_one.res a0 a1 y) (spec_l1Cur_one.out a0 a1 y) := by
  refine spec_intro (G6_ok.at tok []) (ct := []) Tryd.func45 rfl (by kernel_rfl) (by kernel_rfl) rfl ?_
  repeat' first
    | ((with_reducible refine eqg ?_); exact rfl)
    | ((with_reducible refine KOb.mk ?_); kernel_rfl)
    | ((with_reducible intro h); (repeat (first | replace H := grd_k H | replace H := out_step H (by assumption))); first | replace H := cond_t h H | replace H := cond_f h H | exact absurd h (by decide) | skip)
    | ((with_reducible refine Ob.mk ?_); first | (with_reducible rfl) | (first | ((repeat (first | (with_reducible exact grd_p H) | (replace H := grd_k H) | (replace H := out_step H (by assumption)))); done) | rfl | ((repeat (first | exact grd_p H | replace H := grd_k H | replace H := out_step H (by assumption))); done) | ((repeat (first | exact grd_p H | (have hp := grd_p H; exact hp) | replace H := grd_k H | replace H := out_step H (by assumption) | (replace H := bind_some H; obtain ⟨_, _, H⟩ := H))); done) | (repeat (first | exact grd_p H | replace H := grd_k H | replace H := out_step H (by assumption)))))
    | (with_reducible exact True.intro)
    | ((conv => whnf); first
        | (with_reducible refine And.intro ?_ ?_)
        | (with_reducible exact True.intro)
        | ((with_reducible refine Ob.mk ?_); first | (with_reducible rfl) | (first | ((repeat (first | (with_reducible exact grd_p H) | (replace H := grd_k H) | (replace H := out_step H (by assumption)))); done) | rfl | ((repeat (first | exact grd_p H | replace H := grd_k H | replace H := out_step H (by assumption))); done) | ((repeat (first | exact grd_p H | (have hp := grd_p H; exact hp) | replace H := grd_k H | replace H := out_step H (by assumption) | (replace H := bind_some H; obtain ⟨_, _, H⟩ := H))); done) | (repeat (first | exact grd_p H | replace H := grd_k H | replace H := out_step H (by assumption)))))
        | ((with_reducible refine CallW.mk ?_); (repeat (first | replace H := grd_k H | replace H := out_step H (by assumption))); replace H := bind_some H; obtain ⟨y, hy, H⟩ := H; first | ((with_reducible have hz : spec_l1Cur_pick _ _ = some y := hy); clear hz; refine Exists.intro _ (Exists.intro _ ⟨spec_l1Cur_pick.call hy ?_, rfl, rfl, ?_⟩)))
        | ((with_reducible refine fin_mk ?_); (repeat (first | replace H := grd_k H | replace H := out_step H (by assumption))); have H := Option.some.inj H; subst H))
    | constructor
def G7 : Env := G6.add 45 [true] spec_l1Cur_one.S
theorem G7_ok : EnvOk Tryd.prog G7 := G6_ok.add ent_45 fun ar h r h1 ⟨a0, a1, y, hy, e1, e2, e3, e4⟩ => by
  subst e3 e4; exact (spec_l1Cur_one.spec a0 a1 y hy).le e1 e2
attribute [local irreducible] spec_l1Cur_one

end Go.Proofs.YtpmmaohaahbphaaDoor
