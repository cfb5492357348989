/-
  Contracts, printed by a program.
-/
import Derived.Test.YtpopcdnjnligiaaXb
namespace Go.Proofs.Ytpopcdnjnligiaa
open Go.RowKit
attribute [local irreducible] Ob loopwp Sub Spec Fin Again CallW CutC KOb iter joinx outm

noncomputable def laws_vBig (a0 : (List Int)) : Option (Bool) :=
  (some (decide ((65536 : Int) < (a0.length : Int))))
def laws_vBig.res (_ : (List Int)) (y : Bool) : AV := (.bl y)
def laws_vBig.out (_ : (List Int)) (_ : Bool) : List (Option LB) := []
def laws_vBig.S (ar : List AV) (h : List (Option LB)) (r : AV) (h1 : List (Option LB)) : Prop := ∃ a0 y, laws_vBig a0 = some y ∧ leL ar [(.tree (.int .u8) a0)] ∧ leH h [] ∧ r = laws_vBig.res a0 y ∧ h1 = laws_vBig.out a0 y
theorem laws_vBig.call {ar : List AV} {h : List (Option LB)} {a0 : (List Int)} {y : Bool} (H : laws_vBig a0 = some y) (h0 : leLk ar [(.tree (.int .u8) a0)] (leHk h [])) : laws_vBig.S ar h (laws_vBig.res a0 y) (laws_vBig.out a0 y) := ⟨a0, y, H, (args_ok h0).1, (args_ok h0).2, rfl, rfl⟩
set_option maxHeartbeats 100000000 in
set_option maxRecDepth 100000 in
theorem laws_vBig.spec (a0 : (List Int)) (y : Bool) (H : laws_vBig a0 = some y) : Spec Try.prog 10 [(.tree (.int .u8) a0)] [] (laws_vBig.res a0 y) (laws_vBig.out a0 y) := by
  refine spec_intro (G0_ok.at tok []) (ct := []) Try.func10 rfl (by kernel_rfl) (by kernel_rfl) rfl ?_
  repeat' first
    | ((with_reducible refine eqg ?_); exact rfl)
    | ((with_reducible refine KOb.mk ?_); kernel_rfl)
    | ((with_reducible intro h); (repeat (first | replace H := grd_k H | replace H := out_step H (by assumption))); first | replace H := cond_t h H | replace H := cond_f h H | exact absurd h (by decide) | skip)
    | ((with_reducible refine Ob.mk ?_); first | (with_reducible rfl) | (first | ((repeat (first | (with_reducible exact grd_p H) | (replace H := grd_k H) | (replace H := out_step H (by assumption)))); done) | rfl | ((repeat (first | exact grd_p H | replace H := grd_k H | replace H := out_step H (by assumption))); done) | ((repeat (first | exact grd_p H | (have hp := grd_p H; exact hp) | replace H := grd_k H | replace H := out_step H (by assumption) | (replace H := bind_some H; obtain ⟨_, _, H⟩ := H))); done) | (repeat (first | exact grd_p H | replace H := grd_k H | replace H := out_step H (by assumption)))))
    | (with_reducible exact True.intro)
    | ((conv => whnf); first
        | (with_reducible refine And.intro ?_ ?_)
        | (with_reducible exact True.intro)
        | ((with_reducible refine Ob.mk ?_); first | (with_reducible rfl) | (first | ((repeat (first | (with_reducible exact grd_p H) | (replace H := grd_k H) | (replace H := out_step H (by assumption)))); done) | rfl | ((repeat (first | exact grd_p H | replace H := grd_k H | replace H := out_step H (by assumption))); done) | ((repeat (first | exact grd_p H | (have hp := grd_p H; exact hp) | replace H := grd_k H | replace H := out_step H (by assumption) | (replace H := bind_some H; obtain ⟨_, _, H⟩ := H))); done) | (repeat (first | exact grd_p H | replace H := grd_k H | replace H := out_step H (by assumption)))))
        | ((with_reducible refine fin_mk ?_); (repeat (first | replace H := grd_k H | replace H := out_step H (by assumption))); have H := Option.some.inj H; subst H))
    | constructor
def G1 : Env := G0.add 10 [] laws_vBig.S
theorem G1_ok : EnvOk Try.prog G1 := G0_ok.add ent_10 fun ar h r h1 ⟨a0, y, hy, e1, e2, e3, e4⟩ => by
  subst e3 e4; exact (laws_vBig.spec a0 y hy).le e1 e2
attribute [local irreducible] laws_vBig

noncomputable def spec_l1Cur_next (a0 : l1Cur) : Option (Int × l1Cur) :=
  ((cond (decide (a0.2.1 < (a0.1.length : Int))) (grd (0 ≤ a0.2.1 ∧ a0.2.1 < (a0.1.length : Int)) ((some (w64 (a0.1.getD a0.2.1.toNat 0))))) ((some (0 : Int)))).bind fun z1 => (cond (decide ((w64 (a0.2.1 + (1 : Int))) ≤ (a0.1.length : Int))) ((some (z1, (a0.1, (w64 (a0.2.1 + (1 : Int))), (wu64 ((wu64 ((wu64 (a0.2.2.1 * (6364136223846793005 : Int))) + (wu64 z1))) + (935935 : Int))), ())))) (grd (0 ≤ (40 : Int)) ((some ((w64 (wu64 ((BitVec.ofInt (IntKind.u64).bits (Int.fdiv (wu64 ((wu64 ((wu64 (a0.2.2.1 * (6364136223846793005 : Int))) + (wu64 z1))) + (935935 : Int))) (2 ^ min (40 : Int).toNat (IntKind.u64).bits)) &&& BitVec.ofInt (IntKind.u64).bits (255 : Int)).toNat))), (a0.1, (w64 (a0.2.1 + (1 : Int))), (wu64 ((wu64 ((wu64 (a0.2.2.1 * (6364136223846793005 : Int))) + (wu64 z1))) + (935935 : Int))), ())))))))
def spec_l1Cur_next.res (_ : l1Cur) (y : Int × l1Cur) : AV := (.v (.int .i64 y.1))
def spec_l1Cur_next.out (_ : l1Cur) (y : Int × l1Cur) : List (Option LB) := [some (.box 115 [(.tree (.int .u8) y.2.1), (.v (.int .i64 y.2.2.1)), (.v (.int .u64 y.2.2.2.1))])]
def spec_l1Cur_next.S (ar : List AV) (h : List (Option LB)) (r : AV) (h1 : List (Option LB)) : Prop := ∃ a0 y, spec_l1Cur_next a0 = some y ∧ leL ar [(.loc 0 0 0)] ∧ leH h [some (.box 115 [(.tree (.int .u8) a0.1), (.v (.int .i64 a0.2.1)), (.v (.int .u64 a0.2.2.1))])] ∧ r = spec_l1Cur_next.res a0 y ∧ h1 = spec_l1Cur_next.out a0 y
theorem spec_l1Cur_next.call {ar : List AV} {h : List (Option LB)} {a0 : l1Cur} {y : Int × l1Cur} (H : spec_l1Cur_next a0 = some y) (h0 : leLk ar [(.loc 0 0 0)] (leHk h [some (.box 115 [(.tree (.int .u8) a0.1), (.v (.int .i64 a0.2.1)), (.v (.int .u64 a0.2.2.1))])])) : spec_l1Cur_next.S ar h (spec_l1Cur_next.res a0 y) (spec_l1Cur_next.out a0 y) := ⟨a0, y, H, (args_ok h0).1, (args_ok h0).2, rfl, rfl⟩
set_option maxHeartbeats 100000000 in
set_option maxRecDepth 100000 in
theorem spec_l1Cur_next.spec (a0 : l1Cur) (y : Int × l1Cur) (H : spec_l1Cur_next a0 = some y) : Spec Try.prog 151 [(.loc 0 0 0)] [some (.box 115 [(.tree (.int .u8) a0.1), (.v (.int .i64 a0.2.1)), (.v (.int .u64 a0.2.2.1))])] (spec_l1Cur_next.res a0 y) (spec_l1Cur_next.out a0 y) := by
  refine spec_intro (G1_ok.at tok []) (ct := [(4, none), (6, some [0, 3])]) Try.func151 rfl (by kernel_rfl) (by kernel_rfl) rfl ?_
  repeat' first
    | ((with_reducible refine eqg ?_); exact rfl)
    | ((with_reducible refine KOb.mk ?_); kernel_rfl)
    | ((with_reducible intro h); (repeat (first | replace H := grd_k H | replace H := out_step H (by assumption))); first | replace H := cond_t h H | replace H := cond_f h H | exact absurd h (by decide) | skip)
    | ((with_reducible refine Ob.mk ?_); first | (with_reducible rfl) | (first | ((repeat (first | (with_reducible exact grd_p H) | (replace H := grd_k H) | (replace H := out_step H (by assumption)))); done) | rfl | ((repeat (first | exact grd_p H | replace H := grd_k H | replace H := out_step H (by assumption))); done) | ((repeat (first | exact grd_p H | (have hp := grd_p H; exact hp) | replace H := grd_k H | replace H := out_step H (by assumption) | (replace H := bind_some H; obtain ⟨_, _, H⟩ := H))); done) | (repeat (first | exact grd_p H | replace H := grd_k H | replace H := out_step H (by assumption)))))
    | (with_reducible exact True.intro)
    | ((conv => whnf); first
        | (with_reducible refine And.intro ?_ ?_)
        | (with_reducible exact True.intro)
        | ((with_reducible refine Ob.mk ?_); first | (with_reducible rfl) | (first | ((repeat (first | (with_reducible exact grd_p H) | (replace H := grd_k H) | (replace H := out_step H (by assumption)))); done) | rfl | ((repeat (first | exact grd_p H | replace H := grd_k H | replace H := out_step H (by assumption))); done) | ((repeat (first | exact grd_p H | (have hp := grd_p H; exact hp) | replace H := grd_k H | replace H := out_step H (by assumption) | (replace H := bind_some H; obtain ⟨_, _, H⟩ := H))); done) | (repeat (first | exact grd_p H | replace H := grd_k H | replace H := out_step H (by assumption)))))
        | ((with_reducible refine cutAt (id := 4) ?_); (repeat (first | replace H := grd_k H | replace H := out_step H (by assumption))); first | (replace H := bind_some H; obtain ⟨z, hz, H⟩ := H; refine CutC.mk (id := 4) ⟨sl [(0, (.loc 0 0 0)), (3, (.v (.int .i64 z)))], [some (.box 115 [(.tree (.int .u8) a0.1), (.v (.int .i64 a0.2.1)), (.v (.int .u64 a0.2.2.1))])]⟩ ?_ ?_; (replace H := hz)))
        | ((repeat (first | replace H := grd_k H | replace H := out_step H (by assumption))); have H := Option.some.inj H; subst H; with_reducible refine sub_auto ?_)
        | ((with_reducible refine fin_mk ?_); (repeat (first | replace H := grd_k H | replace H := out_step H (by assumption))); have H := Option.some.inj H; subst H))
    | constructor
def G2 : Env := G1.add 151 [true] spec_l1Cur_next.S
theorem G2_ok : EnvOk Try.prog G2 := G1_ok.add ent_151 fun ar h r h1 ⟨a0, y, hy, e1, e2, e3, e4⟩ => by
  subst e3 e4; exact (spec_l1Cur_next.spec a0 y hy).le e1 e2
attribute [local irreducible] spec_l1Cur_next

noncomputable def spec_l1Cur_pick (a0 : l1Cur) (a1 : Int) : Option (Int × l1Cur) :=
  (cond (decide (a1 ≤ (1 : Int))) ((some ((0 : Int), (a0.1, a0.2.1, a0.2.2.1, ())))) ((spec_l1Cur_next (a0.1, a0.2.1, a0.2.2.1, ())).bind fun y1 => (cond (decide ((200 : Int) < a1)) ((spec_l1Cur_next (y1.2.1, y1.2.2.1, y1.2.2.2.1, ())).bind fun y2 => (grd (a1 ≠ 0) ((some ((Int.tmod (w64 ((w64 (y1.1 * (256 : Int))) + y2.1)) a1), (y2.2.1, y2.2.2.1, y2.2.2.2.1, ())))))) (grd (a1 ≠ 0) ((some ((Int.tmod y1.1 a1), (y1.2.1, y1.2.2.1, y1.2.2.2.1, ()))))))))
def spec_l1Cur_pick.res (_ : l1Cur) (_ : Int) (y : Int × l1Cur) : AV := (.v (.int .i64 y.1))
def spec_l1Cur_pick.out (_ : l1Cur) (_ : Int) (y : Int × l1Cur) : List (Option LB) := [some (.box 115 [(.tree (.int .u8) y.2.1), (.v (.int .i64 y.2.2.1)), (.v (.int .u64 y.2.2.2.1))])]
def spec_l1Cur_pick.S (ar : List AV) (h : List (Option LB)) (r : AV) (h1 : List (Option LB)) : Prop := ∃ a0 a1 y, spec_l1Cur_pick a0 a1 = some y ∧ leL ar [(.loc 0 0 0), (.v (.int .i64 a1))] ∧ leH h [some (.box 115 [(.tree (.int .u8) a0.1), (.v (.int .i64 a0.2.1)), (.v (.int .u64 a0.2.2.1))])] ∧ r = spec_l1Cur_pick.res a0 a1 y ∧ h1 = spec_l1Cur_pick.out a0 a1 y
theorem spec_l1Cur_pick.call {ar : List AV} {h : List (Option LB)} {a0 : l1Cur} {a1 : Int} {y : Int × l1Cur} (H : spec_l1Cur_pick a0 a1 = some y) (h0 : leLk ar [(.loc 0 0 0), (.v (.int .i64 a1))] (leHk h [some (.box 115 [(.tree (.int .u8) a0.1), (.v (.int .i64 a0.2.1)), (.v (.int .u64 a0.2.2.1))])])) : spec_l1Cur_pick.S ar h (spec_l1Cur_pick.res a0 a1 y) (spec_l1Cur_pick.out a0 a1 y) := ⟨a0, a1, y, H, (args_ok h0).1, (args_ok h0).2, rfl, rfl⟩
set_option maxHeartbeats 100000000 in
set_option maxRecDepth 100000 in
theorem spec_l1Cur_pick.spec (a0 : l1Cur) (a1 : Int) (y : Int × l1Cur) (H : spec_l1Cur_pick a0 a1 = some y) : Spec Try.prog 98 [(.loc 0 0 0), (.v (.int .i64 a1))] [some (.box 115 [(.tree (.int .u8) a0.1), (.v (.int .i64 a0.2.1)), (.v (.int .u64 a0.2.2.1))])] (spec_l1Cur_pick.res a0 a1 y) (spec_l1Cur_pick.out a0 a1 y) := by
  refine spec_intro (G2_ok.at tok []) (ct := [(6, some [1, 5])]) Try.func98 rfl (by kernel_rfl) (by kernel_rfl) rfl ?_
  repeat' first
    | ((with_reducible refine eqg ?_); exact rfl)
    | ((with_reducible refine KOb.mk ?_); kernel_rfl)
    | ((with_reducible intro h); (repeat (first | replace H := grd_k H | replace H := out_step H (by assumption))); first | replace H := cond_t h H | replace H := cond_f h H | exact absurd h (by decide) | skip)
    | ((with_reducible refine Ob.mk ?_); first | (with_reducible rfl) | (first | ((repeat (first | (with_reducible exact grd_p H) | (replace H := grd_k H) | (replace H := out_step H (by assumption)))); done) | rfl | ((repeat (first | exact grd_p H | replace H := grd_k H | replace H := out_step H (by assumption))); done) | ((repeat (first | exact grd_p H | (have hp := grd_p H; exact hp) | replace H := grd_k H | replace H := out_step H (by assumption) | (replace H := bind_some H; obtain ⟨_, _, H⟩ := H))); done) | (repeat (first | exact grd_p H | replace H := grd_k H | replace H := out_step H (by assumption)))))
    | (with_reducible exact True.intro)
    | ((conv => whnf); first
        | (with_reducible refine And.intro ?_ ?_)
        | (with_reducible exact True.intro)
        | ((with_reducible refine Ob.mk ?_); first | (with_reducible rfl) | (first | ((repeat (first | (with_reducible exact grd_p H) | (replace H := grd_k H) | (replace H := out_step H (by assumption)))); done) | rfl | ((repeat (first | exact grd_p H | replace H := grd_k H | replace H := out_step H (by assumption))); done) | ((repeat (first | exact grd_p H | (have hp := grd_p H; exact hp) | replace H := grd_k H | replace H := out_step H (by assumption) | (replace H := bind_some H; obtain ⟨_, _, H⟩ := H))); done) | (repeat (first | exact grd_p H | replace H := grd_k H | replace H := out_step H (by assumption)))))
        | ((with_reducible refine CallW.mk ?_); (repeat (first | replace H := grd_k H | replace H := out_step H (by assumption))); replace H := bind_some H; obtain ⟨y, hy, H⟩ := H; first | ((with_reducible have hz : spec_l1Cur_next _ = some y := hy); clear hz; refine Exists.intro _ (Exists.intro _ ⟨spec_l1Cur_next.call hy ?_, rfl, rfl, ?_⟩)))
        | ((with_reducible refine fin_mk ?_); (repeat (first | replace H := grd_k H | replace H := out_step H (by assumption))); have H := Option.some.inj H; subst H))
    | constructor
def G3 : Env := G2.add 98 [true] spec_l1Cur_pick.S
theorem G3_ok : EnvOk Try.prog G3 := G2_ok.add ent_98 fun ar h r h1 ⟨a0, a1, y, hy, e1, e2, e3, e4⟩ => by
  subst e3 e4; exact (spec_l1Cur_pick.spec a0 a1 y hy).le e1 e2
attribute [local irreducible] spec_l1Cur_pick

noncomputable def spec_l1Cur_among (a0 : l1Cur) (a1 : (List Int)) : Option (Int × l1Cur) :=
  ((spec_l1Cur_pick (a0.1, a0.2.1, a0.2.2.1, ()) (a1.length : Int)).bind fun y1 => (grd (0 ≤ y1.1 ∧ y1.1 < (a1.length : Int)) ((some ((a1.getD y1.1.toNat 0), (y1.2.1, y1.2.2.1, y1.2.2.2.1, ()))))))
def spec_l1Cur_among.res (_ : l1Cur) (_ : (List Int)) (y : Int × l1Cur) : AV := (.v (.int .i64 y.1))
def spec_l1Cur_among.out (_ : l1Cur) (_ : (List Int)) (y : Int × l1Cur) : List (Option LB) := [some (.box 115 [(.tree (.int .u8) y.2.1), (.v (.int .i64 y.2.2.1)), (.v (.int .u64 y.2.2.2.1))])]
def spec_l1Cur_among.S (ar : List AV) (h : List (Option LB)) (r : AV) (h1 : List (Option LB)) : Prop := ∃ a0 a1 y, spec_l1Cur_among a0 a1 = some y ∧ leL ar [(.loc 0 0 0), (.tree (.int .i64) a1)] ∧ leH h [some (.box 115 [(.tree (.int .u8) a0.1), (.v (.int .i64 a0.2.1)), (.v (.int .u64 a0.2.2.1))])] ∧ r = spec_l1Cur_among.res a0 a1 y ∧ h1 = spec_l1Cur_among.out a0 a1 y
theorem spec_l1Cur_among.call {ar : List AV} {h : List (Option LB)} {a0 : l1Cur} {a1 : (List Int)} {y : Int × l1Cur} (H : spec_l1Cur_among a0 a1 = some y) (h0 : leLk ar [(.loc 0 0 0), (.tree (.int .i64) a1)] (leHk h [some (.box 115 [(.tree (.int .u8) a0.1), (.v (.int .i64 a0.2.1)), (.v (.int .u64 a0.2.2.1))])])) : spec_l1Cur_among.S ar h (spec_l1Cur_among.res a0 a1 y) (spec_l1Cur_among.out a0 a1 y) := ⟨a0, a1, y, H, (args_ok h0).1, (args_ok h0).2, rfl, rfl⟩
set_option maxHeartbeats 100000000 in
set_option maxRecDepth 100000 in
theorem spec_l1Cur_among.spec (a0 : l1Cur) (a1 : (List Int)) (y : Int × l1Cur) (H : spec_l1Cur_among a0 a1 = some y) : Spec Try.prog 102 [(.loc 0 0 0), (.tree (.int .i64) a1)] [some (.box 115 [(.tree (.int .u8) a0.1), (.v (.int .i64 a0.2.1)), (.v (.int .u64 a0.2.2.1))])] (spec_l1Cur_among.res a0 a1 y) (spec_l1Cur_among.out a0 a1 y) := by
  refine spec_intro (G3_ok.at tok []) (ct := []) Try.func102 rfl (by kernel_rfl) (by kernel_rfl) rfl ?_
  repeat' first
    | ((with_reducible refine eqg ?_); exact rfl)
    | ((with_reducible refine KOb.mk ?_); kernel_rfl)
    | ((with_reducible intro h); (repeat (first | replace H := grd_k H | replace H := out_step H (by assumption))); first | replace H := cond_t h H | replace H := cond_f h H | exact absurd h (by decide) | skip)
    | ((with_reducible refine Ob.mk ?_); first | (with_reducible rfl) | (first | ((repeat (first | (with_reducible exact grd_p H) | (replace H := grd_k H) | (replace H := out_step H (by assumption)))); done) | rfl | ((repeat (first | exact grd_p H | replace H := grd_k H | replace H := out_step H (by assumption))); done) | ((repeat (first | exact grd_p H | (have hp := grd_p H; exact hp) | replace H := grd_k H | replace H := out_step H (by assumption) | (replace H := bind_some H; obtain ⟨_, _, H⟩ := H))); done) | (repeat (first | exact grd_p H | replace H := grd_k H | replace H := out_step H (by assumption)))))
    | (with_reducible exact True.intro)
    | ((conv => whnf); first
        | (with_reducible refine And.intro ?_ ?_)
        | (with_reducible exact True.intro)
        | ((with_reducible refine Ob.mk ?_); first | (with_reducible rfl) | (first | ((repeat (first | (with_reducible exact grd_p H) | (replace H := grd_k H) | (replace H := out_step H (by assumption)))); done) | rfl | ((repeat (first | exact grd_p H | replace H := grd_k H | replace H := out_step H (by assumption))); done) | ((repeat (first | exact grd_p H | (have hp := grd_p H; exact hp) | replace H := grd_k H | replace H := out_step H (by assumption) | (replace H := bind_some H; obtain ⟨_, _, H⟩ := H))); done) | (repeat (first | exact grd_p H | replace H := grd_k H | replace H := out_step H (by assumption)))))
        | ((with_reducible refine CallW.mk ?_); (repeat (first | replace H := grd_k H | replace H := out_step H (by assumption))); replace H := bind_some H; obtain ⟨y, hy, H⟩ := H; first | ((with_reducible have hz : spec_l1Cur_pick _ _ = some y := hy); clear hz; refine Exists.intro _ (Exists.intro _ ⟨spec_l1Cur_pick.call hy ?_, rfl, rfl, ?_⟩)))
        | ((with_reducible refine fin_mk ?_); (repeat (first | replace H := grd_k H | replace H := out_step H (by assumption))); have H := Option.some.inj H; subst H))
    | constructor
def G4 : Env := G3.add 102 [true] spec_l1Cur_among.S
theorem G4_ok : EnvOk Try.prog G4 := G3_ok.add ent_102 fun ar h r h1 ⟨a0, a1, y, hy, e1, e2, e3, e4⟩ => by
  subst e3 e4; exact (spec_l1Cur_among.spec a0 a1 y hy).le e1 e2
attribute [local irreducible] spec_l1Cur_among

noncomputable def spec_l1Cur_sensors_loop1  (v13 : Int) (v14 : (List Int)) (v15 : Int) (v16 : Int) (v17 : (List Int)) : Option (Lp (Int × (List Int) × Int × Int × (List Int)) (((List Int) × Int × Int × (List Int)))) :=
  (cond (decide ((0 : Int) < v13)) ((spec_l1Cur_among (v14, v15, v16, ()) [((-1) : Int), (0 : Int), (5 : Int), (10 : Int), (12 : Int), (13 : Int), (20 : Int), (60 : Int)]).bind fun y18 => (grd (v17.length + [y18.1].length ≤ 140737488355328 / 8 ∧ v17.length + [y18.1].length ≤ 140737488355328) (some (.go ((w64 (v13 - (1 : Int))), y18.2.1, y18.2.2.1, y18.2.2.2.1, (v17 ++ [y18.1])))))) ((some (.out (v14, v15, v16, v17)))))
noncomputable def spec_l1Cur_sensors (a0 : l1Cur) : Option ((List Int) × l1Cur) :=
  ((spec_l1Cur_pick (a0.1, a0.2.1, a0.2.2.1, ()) (5 : Int)).bind fun y1 => ((iter (fun s => spec_l1Cur_sensors_loop1 s.1 s.2.1 s.2.2.1 s.2.2.2.1 s.2.2.2.2) ((w64 ((1 : Int) + y1.1)), y1.2.1, y1.2.2.1, y1.2.2.2.1, ([] : List Int))).bind (fun r19 => ((spec_l1Cur_pick (r19.1, r19.2.1, r19.2.2.1, ()) (24 : Int)).bind fun y20 => (cond (decide (y20.1 = (0 : Int))) ((spec_l1Cur_among (y20.2.1, y20.2.2.1, y20.2.2.2.1, ()) [(61 : Int), ((-2) : Int)]).bind fun y21 => (grd (r19.2.2.2.length + [y21.1].length ≤ 140737488355328 / 8 ∧ r19.2.2.2.length + [y21.1].length ≤ 140737488355328) ((some ((r19.2.2.2 ++ [y21.1]), (y21.2.1, y21.2.2.1, y21.2.2.2.1, ())))))) (cond (decide (y20.1 = (1 : Int))) ((some (([] : List Int), (y20.2.1, y20.2.2.1, y20.2.2.2.1, ())))) ((some (r19.2.2.2, (y20.2.1, y20.2.2.1, y20.2.2.2.1, ()))))))))))
def spec_l1Cur_sensors.res (_ : l1Cur) (_ : (List Int) × l1Cur) : AV := (.own 1)
def spec_l1Cur_sensors.out (_ : l1Cur) (y : (List Int) × l1Cur) : List (Option LB) := [some (.box 115 [(.tree (.int .u8) y.2.1), (.v (.int .i64 y.2.2.1)), (.v (.int .u64 y.2.2.2.1))]), some (.arr 3 (.int .i64) y.1)]
def spec_l1Cur_sensors.S (ar : List AV) (h : List (Option LB)) (r : AV) (h1 : List (Option LB)) : Prop := ∃ a0 y, spec_l1Cur_sensors a0 = some y ∧ leL ar [(.loc 0 0 0)] ∧ leH h [some (.box 115 [(.tree (.int .u8) a0.1), (.v (.int .i64 a0.2.1)), (.v (.int .u64 a0.2.2.1))])] ∧ r = spec_l1Cur_sensors.res a0 y ∧ h1 = spec_l1Cur_sensors.out a0 y
theorem spec_l1Cur_sensors.call {ar : List AV} {h : List (Option LB)} {a0 : l1Cur} {y : (List Int) × l1Cur} (H : spec_l1Cur_sensors a0 = some y) (h0 : leLk ar [(.loc 0 0 0)] (leHk h [some (.box 115 [(.tree (.int .u8) a0.1), (.v (.int .i64 a0.2.1)), (.v (.int .u64 a0.2.2.1))])])) : spec_l1Cur_sensors.S ar h (spec_l1Cur_sensors.res a0 y) (spec_l1Cur_sensors.out a0 y) := ⟨a0, y, H, (args_ok h0).1, (args_ok h0).2, rfl, rfl⟩
set_option maxHeartbeats 100000000 in
set_option maxRecDepth 100000 in
theorem spec_l1Cur_sensors.spec (a0 : l1Cur) (y : (List Int) × l1Cur) (H : spec_l1Cur_sensors a0 = some y) : Spec Try.prog 125 [(.loc 0 0 0)] [some (.box 115 [(.tree (.int .u8) a0.1), (.v (.int .i64 a0.2.1)), (.v (.int .u64 a0.2.2.1))])] (spec_l1Cur_sensors.res a0 y) (spec_l1Cur_sensors.out a0 y) := by
  refine spec_intro (G4_ok.at tok []) (ct := [(10, some [3, 29]), (11, some [3])]) Try.func125 rfl (by kernel_rfl) (by kernel_rfl) rfl ?_
  repeat' first
    | ((with_reducible refine eqg ?_); exact rfl)
    | ((with_reducible refine KOb.mk ?_); kernel_rfl)
    | ((with_reducible intro h); (repeat (first | replace H := grd_k H | replace H := out_step H (by assumption))); first | replace H := cond_t h H | replace H := cond_f h H | exact absurd h (by decide) | skip)
    | ((with_reducible refine Ob.mk ?_); first | (with_reducible rfl) | (first | ((repeat (first | (with_reducible exact grd_p H) | (replace H := grd_k H) | (replace H := out_step H (by assumption)))); done) | rfl | ((repeat (first | exact grd_p H | replace H := grd_k H | replace H := out_step H (by assumption))); done) | ((repeat (first | exact grd_p H | (have hp := grd_p H; exact hp) | replace H := grd_k H | replace H := out_step H (by assumption) | (replace H := bind_some H; obtain ⟨_, _, H⟩ := H))); done) | (repeat (first | exact grd_p H | replace H := grd_k H | replace H := out_step H (by assumption)))))
    | (with_reducible exact True.intro)
    | ((conv => whnf); first
        | (with_reducible refine And.intro ?_ ?_)
        | (with_reducible exact True.intro)
        | ((with_reducible refine Ob.mk ?_); first | (with_reducible rfl) | (first | ((repeat (first | (with_reducible exact grd_p H) | (replace H := grd_k H) | (replace H := out_step H (by assumption)))); done) | rfl | ((repeat (first | exact grd_p H | replace H := grd_k H | replace H := out_step H (by assumption))); done) | ((repeat (first | exact grd_p H | (have hp := grd_p H; exact hp) | replace H := grd_k H | replace H := out_step H (by assumption) | (replace H := bind_some H; obtain ⟨_, _, H⟩ := H))); done) | (repeat (first | exact grd_p H | replace H := grd_k H | replace H := out_step H (by assumption)))))
        | ((with_reducible refine CallW.mk ?_); (repeat (first | replace H := grd_k H | replace H := out_step H (by assumption))); replace H := bind_some H; obtain ⟨y, hy, H⟩ := H; first | ((with_reducible have hz : spec_l1Cur_pick _ _ = some y := hy); clear hz; refine Exists.intro _ (Exists.intro _ ⟨spec_l1Cur_pick.call hy ?_, rfl, rfl, ?_⟩)) | ((with_reducible have hz : spec_l1Cur_among _ _ = some y := hy); clear hz; refine Exists.intro _ (Exists.intro _ ⟨spec_l1Cur_among.call hy ?_, rfl, rfl, ?_⟩)))
        | ((repeat (first | replace H := grd_k H | replace H := out_step H (by assumption))); refine loop_iter (G4_ok.at tok []) (ct := [(10, some [3, 29]), (11, some [3])]) (F := (fun s1 : Int × (List Int) × Int × Int × (List Int) => ⟨sl [(0, (.loc 0 0 0)), (3, (.own 1)), (4, (.v (.int .i64 s1.1)))], [some (.box 115 [(.tree (.int .u8) s1.2.1), (.v (.int .i64 s1.2.2.1)), (.v (.int .u64 s1.2.2.2.1))]), some (.arr 3 (.int .i64) s1.2.2.2.2)]⟩)) (step := (fun s : Int × (List Int) × Int × Int × (List Int) => spec_l1Cur_sensors_loop1 s.1 s.2.1 s.2.2.1 s.2.2.2.1 s.2.2.2.2)) _ H (by kernel_rfl) (sub_auto ?_) ?_; rotate_left; (intro s1 r v hr H); rotate_right)
        | ((repeat (first | replace H := grd_k H | replace H := out_step H (by assumption))); refine again_step H (by assumption) (sub_auto ?_))
        | ((with_reducible refine fin_mk ?_); (repeat (first | replace H := grd_k H | replace H := out_step H (by assumption))); have H := Option.some.inj H; subst H))
    | constructor
def G5 : Env := G4.add 125 [true] spec_l1Cur_sensors.S
theorem G5_ok : EnvOk Try.prog G5 := G4_ok.add ent_125 fun ar h r h1 ⟨a0, y, hy, e1, e2, e3, e4⟩ => by
  subst e3 e4; exact (spec_l1Cur_sensors.spec a0 y hy).le e1 e2
attribute [local irreducible] spec_l1Cur_sensors

noncomputable def spec_DrawVoteOf (a0 : (List Int)) : Option ((List Int)) :=
  ((spec_l1Cur_sensors (a0, (0 : Int), (0 : Int), ())).bind fun y1 => (some y1.1))
def spec_DrawVoteOf.res (_ : (List Int)) (_ : (List Int)) : AV := (.own 0)
def spec_DrawVoteOf.out (_ : (List Int)) (y : (List Int)) : List (Option LB) := [some (.arr 3 (.int .i64) y)]
def spec_DrawVoteOf.S (ar : List AV) (h : List (Option LB)) (r : AV) (h1 : List (Option LB)) : Prop := ∃ a0 y, spec_DrawVoteOf a0 = some y ∧ leL ar [(.tree (.int .u8) a0)] ∧ leH h [] ∧ r = spec_DrawVoteOf.res a0 y ∧ h1 = spec_DrawVoteOf.out a0 y
theorem spec_DrawVoteOf.call {ar : List AV} {h : List (Option LB)} {a0 : (List Int)} {y : (List Int)} (H : spec_DrawVoteOf a0 = some y) (h0 : leLk ar [(.tree (.int .u8) a0)] (leHk h [])) : spec_DrawVoteOf.S ar h (spec_DrawVoteOf.res a0 y) (spec_DrawVoteOf.out a0 y) := ⟨a0, y, H, (args_ok h0).1, (args_ok h0).2, rfl, rfl⟩
set_option maxHeartbeats 100000000 in
set_option maxRecDepth 100000 in
theorem spec_DrawVoteOf.spec (a0 : (List Int)) (y : (List Int)) (H : spec_DrawVoteOf a0 = some y) : Spec Try.prog 63 [(.tree (.int .u8) a0)] [] (spec_DrawVoteOf.res a0 y) (spec_DrawVoteOf.out a0 y) := by
  refine spec_intro (G5_ok.at tok []) (ct := []) Try.func63 rfl (by kernel_rfl) (by kernel_rfl) rfl ?_
  repeat' first
    | ((with_reducible refine eqg ?_); exact rfl)
    | ((with_reducible refine KOb.mk ?_); kernel_rfl)
    | ((with_reducible intro h); (repeat (first | replace H := grd_k H | replace H := out_step H (by assumption))); first | replace H := cond_t h H | replace H := cond_f h H | exact absurd h (by decide) | skip)
    | ((with_reducible refine Ob.mk ?_); first | (with_reducible rfl) | (first | ((repeat (first | (with_reducible exact grd_p H) | (replace H := grd_k H) | (replace H := out_step H (by assumption)))); done) | rfl | ((repeat (first | exact grd_p H | replace H := grd_k H | replace H := out_step H (by assumption))); done) | ((repeat (first | exact grd_p H | (have hp := grd_p H; exact hp) | replace H := grd_k H | replace H := out_step H (by assumption) | (replace H := bind_some H; obtain ⟨_, _, H⟩ := H))); done) | (repeat (first | exact grd_p H | replace H := grd_k H | replace H := out_step H (by assumption)))))
    | (with_reducible exact True.intro)
    | ((conv => whnf); first
        | (with_reducible refine And.intro ?_ ?_)
        | (with_reducible exact True.intro)
        | ((with_reducible refine Ob.mk ?_); first | (with_reducible rfl) | (first | ((repeat (first | (with_reducible exact grd_p H) | (replace H := grd_k H) | (replace H := out_step H (by assumption)))); done) | rfl | ((repeat (first | exact grd_p H | replace H := grd_k H | replace H := out_step H (by assumption))); done) | ((repeat (first | exact grd_p H | (have hp := grd_p H; exact hp) | replace H := grd_k H | replace H := out_step H (by assumption) | (replace H := bind_some H; obtain ⟨_, _, H⟩ := H))); done) | (repeat (first | exact grd_p H | replace H := grd_k H | replace H := out_step H (by assumption)))))
        | ((with_reducible refine CallW.mk ?_); (repeat (first | replace H := grd_k H | replace H := out_step H (by assumption))); replace H := bind_some H; obtain ⟨y, hy, H⟩ := H; first | ((with_reducible have hz : spec_l1Cur_sensors _ = some y := hy); clear hz; refine Exists.intro _ (Exists.intro _ ⟨spec_l1Cur_sensors.call hy ?_, rfl, rfl, ?_⟩)))
        | ((with_reducible refine fin_mk ?_); (repeat (first | replace H := grd_k H | replace H := out_step H (by assumption))); have H := Option.some.inj H; subst H))
    | constructor
def G6 : Env := G5.add 63 [] spec_DrawVoteOf.S
theorem G6_ok : EnvOk Try.prog G6 := G5_ok.add ent_63 fun ar h r h1 ⟨a0, y, hy, e1, e2, e3, e4⟩ => by
  subst e3 e4; exact (spec_DrawVoteOf.spec a0 y hy).le e1 e2
attribute [local irreducible] spec_DrawVoteOf

noncomputable def impl_within (a0 : Int) (a1 : Int) (a2 : Int) : Option (Bool) :=
  (cond (decide (a1 ≤ a0)) ((some (decide (a0 ≤ a2)))) ((some false)))
def impl_within.res (_ : Int) (_ : Int) (_ : Int) (y : Bool) : AV := (.bl y)
def impl_within.out (_ : Int) (_ : Int) (_ : Int) (_ : Bool) : List (Option LB) := []
def impl_within.S (ar : List AV) (h : List (Option LB)) (r : AV) (h1 : List (Option LB)) : Prop := ∃ a0 a1 a2 y, impl_within a0 a1 a2 = some y ∧ leL ar [(.v (.int .i64 a0)), (.v (.int .i64 a1)), (.v (.int .i64 a2))] ∧ leH h [] ∧ r = impl_within.res a0 a1 a2 y ∧ h1 = impl_within.out a0 a1 a2 y
theorem impl_within.call {ar : List AV} {h : List (Option LB)} {a0 : Int} {a1 : Int} {a2 : Int} {y : Bool} (H : impl_within a0 a1 a2 = some y) (h0 : leLk ar [(.v (.int .i64 a0)), (.v (.int .i64 a1)), (.v (.int .i64 a2))] (leHk h [])) : impl_within.S ar h (impl_within.res a0 a1 a2 y) (impl_within.out a0 a1 a2 y) := ⟨a0, a1, a2, y, H, (args_ok h0).1, (args_ok h0).2, rfl, rfl⟩
set_option maxHeartbeats 100000000 in
set_option maxRecDepth 100000 in
theorem impl_within.spec (a0 : Int) (a1 : Int) (a2 : Int) (y : Bool) (H : impl_within a0 a1 a2 = some y) : Spec Try.prog 93 [(.v (.int .i64 a0)), (.v (.int .i64 a1)), (.v (.int .i64 a2))] [] (impl_within.res a0 a1 a2 y) (impl_within.out a0 a1 a2 y) := by
  refine spec_intro (G6_ok.at tok []) (ct := []) Try.func93 rfl (by kernel_rfl) (by kernel_rfl) rfl ?_
  repeat' first
    | ((with_reducible refine eqg ?_); exact rfl)
    | ((with_reducible refine KOb.mk ?_); kernel_rfl)
    | ((with_reducible intro h); (repeat (first | replace H := grd_k H | replace H := out_step H (by assumption))); first | replace H := cond_t h H | replace H := cond_f h H | exact absurd h (by decide) | skip)
    | ((with_reducible refine Ob.mk ?_); first | (with_reducible rfl) | (first | ((repeat (first | (with_reducible exact grd_p H) | (replace H := grd_k H) | (replace H := out_step H (by assumption)))); done) | rfl | ((repeat (first | exact grd_p H | replace H := grd_k H | replace H := out_step H (by assumption))); done) | ((repeat (first | exact grd_p H | (have hp := grd_p H; exact hp) | replace H := grd_k H | replace H := out_step H (by assumption) | (replace H := bind_some H; obtain ⟨_, _, H⟩ := H))); done) | (repeat (first | exact grd_p H | replace H := grd_k H | replace H := out_step H (by assumption)))))
    | (with_reducible exact True.intro)
    | ((conv => whnf); first
        | (with_reducible refine And.intro ?_ ?_)
        | (with_reducible exact True.intro)
        | ((with_reducible refine Ob.mk ?_); first | (with_reducible rfl) | (first | ((repeat (first | (with_reducible exact grd_p H) | (replace H := grd_k H) | (replace H := out_step H (by assumption)))); done) | rfl | ((repeat (first | exact grd_p H | replace H := grd_k H | replace H := out_step H (by assumption))); done) | ((repeat (first | exact grd_p H | (have hp := grd_p H; exact hp) | replace H := grd_k H | replace H := out_step H (by assumption) | (replace H := bind_some H; obtain ⟨_, _, H⟩ := H))); done) | (repeat (first | exact grd_p H | replace H := grd_k H | replace H := out_step H (by assumption)))))
        | ((with_reducible refine fin_mk ?_); (repeat (first | replace H := grd_k H | replace H := out_step H (by assumption))); have H := Option.some.inj H; subst H))
    | constructor
def G7 : Env := G6.add 93 [] impl_within.S
theorem G7_ok : EnvOk Try.prog G7 := G6_ok.add ent_93 fun ar h r h1 ⟨a0, a1, a2, y, hy, e1, e2, e3, e4⟩ => by
  subst e3 e4; exact (impl_within.spec a0 a1 a2 y hy).le e1 e2
attribute [local irreducible] impl_within

noncomputable def impl_allIn_loop1 (a0 : (List Int)) (a1 : Int) (a2 : Int) (v4 : Int) : Option (Lp (Int) ((Unit) ⊕ (Unit))) :=
  (cond (decide (v4 < (a0.length : Int))) (grd (0 ≤ v4 ∧ v4 < (a0.length : Int)) ((impl_within (a0.getD v4.toNat 0) a1 a2).bind fun y5 => (cond (!y5) ((some (.out (Sum.inl ())))) (some (.go (w64 (v4 + (1 : Int)))))))) ((some (.out (Sum.inr ())))))
noncomputable def impl_allIn (a0 : (List Int)) (a1 : Int) (a2 : Int) : Option (Bool) :=
  ((iter (fun s => impl_allIn_loop1 a0 a1 a2 s) (0 : Int)).bind (Sum.elim (fun _ => (some false)) (fun _ => (some true))))
def impl_allIn.res (_ : (List Int)) (_ : Int) (_ : Int) (y : Bool) : AV := (.bl y)
def impl_allIn.out (_ : (List Int)) (_ : Int) (_ : Int) (_ : Bool) : List (Option LB) := []
def impl_allIn.S (ar : List AV) (h : List (Option LB)) (r : AV) (h1 : List (Option LB)) : Prop := ∃ a0 a1 a2 y, impl_allIn a0 a1 a2 = some y ∧ leL ar [(.tree (.int .i64) a0), (.v (.int .i64 a1)), (.v (.int .i64 a2))] ∧ leH h [] ∧ r = impl_allIn.res a0 a1 a2 y ∧ h1 = impl_allIn.out a0 a1 a2 y
theorem impl_allIn.call {ar : List AV} {h : List (Option LB)} {a0 : (List Int)} {a1 : Int} {a2 : Int} {y : Bool} (H : impl_allIn a0 a1 a2 = some y) (h0 : leLk ar [(.tree (.int .i64) a0), (.v (.int .i64 a1)), (.v (.int .i64 a2))] (leHk h [])) : impl_allIn.S ar h (impl_allIn.res a0 a1 a2 y) (impl_allIn.out a0 a1 a2 y) := ⟨a0, a1, a2, y, H, (args_ok h0).1, (args_ok h0).2, rfl, rfl⟩
set_option maxHeartbeats 100000000 in
set_option maxRecDepth 100000 in
theorem impl_allIn.spec (a0 : (List Int)) (a1 : Int) (a2 : Int) (y : Bool) (H : impl_allIn a0 a1 a2 = some y) : Spec Try.prog 159 [(.tree (.int .i64) a0), (.v (.int .i64 a1)), (.v (.int .i64 a2))] [] (impl_allIn.res a0 a1 a2 y) (impl_allIn.out a0 a1 a2 y) := by
  refine spec_intro (G7_ok.at tok []) (ct := []) Try.func159 rfl (by kernel_rfl) (by kernel_rfl) rfl ?_
  repeat' first
    | ((with_reducible refine eqg ?_); exact rfl)
    | ((with_reducible refine KOb.mk ?_); kernel_rfl)
    | ((with_reducible intro h); (repeat (first | replace H := grd_k H | replace H := out_step H (by assumption))); first | replace H := cond_t h H | replace H := cond_f h H | exact absurd h (by decide) | skip)
    | ((with_reducible refine Ob.mk ?_); first | (with_reducible rfl) | (first | ((repeat (first | (with_reducible exact grd_p H) | (replace H := grd_k H) | (replace H := out_step H (by assumption)))); done) | rfl | ((repeat (first | exact grd_p H | replace H := grd_k H | replace H := out_step H (by assumption))); done) | ((repeat (first | exact grd_p H | (have hp := grd_p H; exact hp) | replace H := grd_k H | replace H := out_step H (by assumption) | (replace H := bind_some H; obtain ⟨_, _, H⟩ := H))); done) | (repeat (first | exact grd_p H | replace H := grd_k H | replace H := out_step H (by assumption)))))
    | (with_reducible exact True.intro)
    | ((conv => whnf); first
        | (with_reducible refine And.intro ?_ ?_)
        | (with_reducible exact True.intro)
        | ((with_reducible refine Ob.mk ?_); first | (with_reducible rfl) | (first | ((repeat (first | (with_reducible exact grd_p H) | (replace H := grd_k H) | (replace H := out_step H (by assumption)))); done) | rfl | ((repeat (first | exact grd_p H | replace H := grd_k H | replace H := out_step H (by assumption))); done) | ((repeat (first | exact grd_p H | (have hp := grd_p H; exact hp) | replace H := grd_k H | replace H := out_step H (by assumption) | (replace H := bind_some H; obtain ⟨_, _, H⟩ := H))); done) | (repeat (first | exact grd_p H | replace H := grd_k H | replace H := out_step H (by assumption)))))
        | ((with_reducible refine CallW.mk ?_); (repeat (first | replace H := grd_k H | replace H := out_step H (by assumption))); replace H := bind_some H; obtain ⟨y, hy, H⟩ := H; first | ((with_reducible have hz : impl_within _ _ _ = some y := hy); clear hz; refine Exists.intro _ (Exists.intro _ ⟨impl_within.call hy ?_, rfl, rfl, ?_⟩)))
        | ((repeat (first | replace H := grd_k H | replace H := out_step H (by assumption))); refine loop_iter (G7_ok.at tok []) (ct := []) (F := (fun s1 : Int => ⟨sl [(1, (.v (.int .i64 a1))), (2, (.v (.int .i64 a2))), (9, (.tree (.int .i64) a0)), (10, (.v (.int .i64 (a0.length : Int)))), (11, (.v (.int .i64 s1)))], []⟩)) (step := (fun s : Int => impl_allIn_loop1 _ _ _ s)) _ H (by kernel_rfl) (sub_auto ?_) ?_; rotate_left; (intro s1 r v hr H); rotate_right)
        | ((repeat (first | replace H := grd_k H | replace H := out_step H (by assumption))); refine again_step H (by assumption) (sub_auto ?_))
        | ((with_reducible refine fin_mk ?_); (repeat (first | replace H := grd_k H | replace H := out_step H (by assumption))); have H := Option.some.inj H; subst H))
    | constructor
def G8 : Env := G7.add 159 [] impl_allIn.S
theorem G8_ok : EnvOk Try.prog G8 := G7_ok.add ent_159 fun ar h r h1 ⟨a0, a1, a2, y, hy, e1, e2, e3, e4⟩ => by
  subst e3 e4; exact (impl_allIn.spec a0 a1 a2 y hy).le e1 e2
attribute [local irreducible] impl_allIn

noncomputable def slices_Clone___int_int_ (a0 : (List Int)) : Option ((List Int)) :=
  (grd (0 < a0.length) (grd (([] : List Int).length + a0.length ≤ 140737488355328 / 8 ∧ ([] : List Int).length + a0.length ≤ 140737488355328) ((some (([] : List Int) ++ a0)))))
def slices_Clone___int_int_.res (_ : (List Int)) (_ : (List Int)) : AV := (.own 0)
def slices_Clone___int_int_.out (_ : (List Int)) (y : (List Int)) : List (Option LB) := [some (.arr 3 (.int .i64) y)]
def slices_Clone___int_int_.S (ar : List AV) (h : List (Option LB)) (r : AV) (h1 : List (Option LB)) : Prop := ∃ a0 y, slices_Clone___int_int_ a0 = some y ∧ leL ar [(.tree (.int .i64) a0)] ∧ leH h [] ∧ r = slices_Clone___int_int_.res a0 y ∧ h1 = slices_Clone___int_int_.out a0 y
theorem slices_Clone___int_int_.call {ar : List AV} {h : List (Option LB)} {a0 : (List Int)} {y : (List Int)} (H : slices_Clone___int_int_ a0 = some y) (h0 : leLk ar [(.tree (.int .i64) a0)] (leHk h [])) : slices_Clone___int_int_.S ar h (slices_Clone___int_int_.res a0 y) (slices_Clone___int_int_.out a0 y) := ⟨a0, y, H, (args_ok h0).1, (args_ok h0).2, rfl, rfl⟩
set_option maxHeartbeats 100000000 in
set_option maxRecDepth 100000 in
theorem slices_Clone___int_int_.spec (a0 : (List Int)) (y : (List Int)) (H : slices_Clone___int_int_ a0 = some y) : Spec Try.prog 161 [(.tree (.int .i64) a0)] [] (slices_Clone___int_int_.res a0 y) (slices_Clone___int_int_.out a0 y) := by
  refine spec_intro (G8_ok.at tok []) (ct := []) Try.func161 rfl (by kernel_rfl) (by kernel_rfl) rfl ?_
  repeat' first
    | ((with_reducible refine eqg ?_); exact rfl)
    | ((with_reducible refine KOb.mk ?_); kernel_rfl)
    | ((with_reducible intro h); (repeat (first | replace H := grd_k H | replace H := out_step H (by assumption))); first | replace H := cond_t h H | replace H := cond_f h H | exact absurd h (by decide) | skip)
    | ((with_reducible refine Ob.mk ?_); first | (with_reducible rfl) | (first | ((repeat (first | (with_reducible exact grd_p H) | (replace H := grd_k H) | (replace H := out_step H (by assumption)))); done) | rfl | ((repeat (first | exact grd_p H | replace H := grd_k H | replace H := out_step H (by assumption))); done) | ((repeat (first | exact grd_p H | (have hp := grd_p H; exact hp) | replace H := grd_k H | replace H := out_step H (by assumption) | (replace H := bind_some H; obtain ⟨_, _, H⟩ := H))); done) | (repeat (first | exact grd_p H | replace H := grd_k H | replace H := out_step H (by assumption)))))
    | (with_reducible exact True.intro)
    | ((conv => whnf); first
        | (with_reducible refine And.intro ?_ ?_)
        | (with_reducible exact True.intro)
        | ((with_reducible refine Ob.mk ?_); first | (with_reducible rfl) | (first | ((repeat (first | (with_reducible exact grd_p H) | (replace H := grd_k H) | (replace H := out_step H (by assumption)))); done) | rfl | ((repeat (first | exact grd_p H | replace H := grd_k H | replace H := out_step H (by assumption))); done) | ((repeat (first | exact grd_p H | (have hp := grd_p H; exact hp) | replace H := grd_k H | replace H := out_step H (by assumption) | (replace H := bind_some H; obtain ⟨_, _, H⟩ := H))); done) | (repeat (first | exact grd_p H | replace H := grd_k H | replace H := out_step H (by assumption)))))
        | ((with_reducible refine fin_mk ?_); (repeat (first | replace H := grd_k H | replace H := out_step H (by assumption))); have H := Option.some.inj H; subst H))
    | constructor
  all_goals exact viewz _ _
def G9 : Env := G8.add 161 [] slices_Clone___int_int_.S
theorem G9_ok : EnvOk Try.prog G9 := G8_ok.add ent_161 fun ar h r h1 ⟨a0, y, hy, e1, e2, e3, e4⟩ => by
  subst e3 e4; exact (slices_Clone___int_int_.spec a0 y hy).le e1 e2
attribute [local irreducible] slices_Clone___int_int_

noncomputable def impl_voteOf_1 (a0 : Int) : Option (Bool) :=
  (some (decide (a0 < (0 : Int))))
def impl_voteOf_1.res (_ : Int) (y : Bool) : AV := (.bl y)
def impl_voteOf_1.out (_ : Int) (_ : Bool) : List (Option LB) := []
def impl_voteOf_1.S (ar : List AV) (h : List (Option LB)) (r : AV) (h1 : List (Option LB)) : Prop := ∃ a0 y, impl_voteOf_1 a0 = some y ∧ leL ar [(.v (.int .i64 a0))] ∧ leH h [] ∧ r = impl_voteOf_1.res a0 y ∧ h1 = impl_voteOf_1.out a0 y
theorem impl_voteOf_1.call {ar : List AV} {h : List (Option LB)} {a0 : Int} {y : Bool} (H : impl_voteOf_1 a0 = some y) (h0 : leLk ar [(.v (.int .i64 a0))] (leHk h [])) : impl_voteOf_1.S ar h (impl_voteOf_1.res a0 y) (impl_voteOf_1.out a0 y) := ⟨a0, y, H, (args_ok h0).1, (args_ok h0).2, rfl, rfl⟩
set_option maxHeartbeats 100000000 in
set_option maxRecDepth 100000 in
theorem impl_voteOf_1.spec (a0 : Int) (y : Bool) (H : impl_voteOf_1 a0 = some y) : Spec Try.prog 162 [(.v (.int .i64 a0))] [] (impl_voteOf_1.res a0 y) (impl_voteOf_1.out a0 y) := by
  refine spec_intro (G9_ok.at tok []) (ct := []) Try.func162 rfl (by kernel_rfl) (by kernel_rfl) rfl ?_
  repeat' first
    | ((with_reducible refine eqg ?_); exact rfl)
    | ((with_reducible refine KOb.mk ?_); kernel_rfl)
    | ((with_reducible intro h); (repeat (first | replace H := grd_k H | replace H := out_step H (by assumption))); first | replace H := cond_t h H | replace H := cond_f h H | exact absurd h (by decide) | skip)
    | ((with_reducible refine Ob.mk ?_); first | (with_reducible rfl) | (first | ((repeat (first | (with_reducible exact grd_p H) | (replace H := grd_k H) | (replace H := out_step H (by assumption)))); done) | rfl | ((repeat (first | exact grd_p H | replace H := grd_k H | replace H := out_step H (by assumption))); done) | ((repeat (first | exact grd_p H | (have hp := grd_p H; exact hp) | replace H := grd_k H | replace H := out_step H (by assumption) | (replace H := bind_some H; obtain ⟨_, _, H⟩ := H))); done) | (repeat (first | exact grd_p H | replace H := grd_k H | replace H := out_step H (by assumption)))))
    | (with_reducible exact True.intro)
    | ((conv => whnf); first
        | (with_reducible refine And.intro ?_ ?_)
        | (with_reducible exact True.intro)
        | ((with_reducible refine Ob.mk ?_); first | (with_reducible rfl) | (first | ((repeat (first | (with_reducible exact grd_p H) | (replace H := grd_k H) | (replace H := out_step H (by assumption)))); done) | rfl | ((repeat (first | exact grd_p H | replace H := grd_k H | replace H := out_step H (by assumption))); done) | ((repeat (first | exact grd_p H | (have hp := grd_p H; exact hp) | replace H := grd_k H | replace H := out_step H (by assumption) | (replace H := bind_some H; obtain ⟨_, _, H⟩ := H))); done) | (repeat (first | exact grd_p H | replace H := grd_k H | replace H := out_step H (by assumption)))))
        | ((with_reducible refine fin_mk ?_); (repeat (first | replace H := grd_k H | replace H := out_step H (by assumption))); have H := Option.some.inj H; subst H))
    | constructor
def G10 : Env := G9.add 162 [] impl_voteOf_1.S
theorem G10_ok : EnvOk Try.prog G10 := G9_ok.add ent_162 fun ar h r h1 ⟨a0, y, hy, e1, e2, e3, e4⟩ => by
  subst e3 e4; exact (impl_voteOf_1.spec a0 y hy).le e1 e2
attribute [local irreducible] impl_voteOf_1

noncomputable def math_bits_Len32 (_ : Int) : Option (Int) :=
  none
def math_bits_Len32.res (_ : Int) (y : Int) : AV := (.v (.int .i64 y))
def math_bits_Len32.out (_ : Int) (_ : Int) : List (Option LB) := []
def math_bits_Len32.S (ar : List AV) (h : List (Option LB)) (r : AV) (h1 : List (Option LB)) : Prop := ∃ a0 y, math_bits_Len32 a0 = some y ∧ leL ar [(.v (.int .u32 a0))] ∧ leH h [] ∧ r = math_bits_Len32.res a0 y ∧ h1 = math_bits_Len32.out a0 y
theorem math_bits_Len32.call {ar : List AV} {h : List (Option LB)} {a0 : Int} {y : Int} (H : math_bits_Len32 a0 = some y) (h0 : leLk ar [(.v (.int .u32 a0))] (leHk h [])) : math_bits_Len32.S ar h (math_bits_Len32.res a0 y) (math_bits_Len32.out a0 y) := ⟨a0, y, H, (args_ok h0).1, (args_ok h0).2, rfl, rfl⟩
theorem math_bits_Len32.spec (a0 : Int) (y : Int) (H : math_bits_Len32 a0 = some y) : Spec Try.prog 194 [(.v (.int .u32 a0))] [] (math_bits_Len32.res a0 y) (math_bits_Len32.out a0 y) := by
  unfold math_bits_Len32 at H
  cases H
def G11 : Env := G10.add 194 [] math_bits_Len32.S
theorem G11_ok : EnvOk Try.prog G11 := G10_ok.add ent_194 fun ar h r h1 ⟨a0, y, hy, e1, e2, e3, e4⟩ => by
  subst e3 e4; exact (math_bits_Len32.spec a0 y hy).le e1 e2
attribute [local irreducible] math_bits_Len32

noncomputable def math_bits_Len64 (a0 : Int) : Option (Int) :=
  (grd (0 ≤ a0 ∧ a0 ≤ 18446744073709551615) ((some ((Lib.bitLen a0.toNat : Nat) : Int))))
def math_bits_Len64.res (_ : Int) (y : Int) : AV := (.v (.int .i64 y))
def math_bits_Len64.out (_ : Int) (_ : Int) : List (Option LB) := []
def math_bits_Len64.S (ar : List AV) (h : List (Option LB)) (r : AV) (h1 : List (Option LB)) : Prop := ∃ a0 y, math_bits_Len64 a0 = some y ∧ leL ar [(.v (.int .u64 a0))] ∧ leH h [] ∧ r = math_bits_Len64.res a0 y ∧ h1 = math_bits_Len64.out a0 y
theorem math_bits_Len64.call {ar : List AV} {h : List (Option LB)} {a0 : Int} {y : Int} (H : math_bits_Len64 a0 = some y) (h0 : leLk ar [(.v (.int .u64 a0))] (leHk h [])) : math_bits_Len64.S ar h (math_bits_Len64.res a0 y) (math_bits_Len64.out a0 y) := ⟨a0, y, H, (args_ok h0).1, (args_ok h0).2, rfl, rfl⟩
theorem math_bits_Len64.spec (a0 : Int) (y : Int) (H : math_bits_Len64 a0 = some y) : Spec Try.prog 195 [(.v (.int .u64 a0))] [] (math_bits_Len64.res a0 y) (math_bits_Len64.out a0 y) := by
  have hg := grd_p H
  have H := Option.some.inj (grd_k H)
  subst H
  exact ext_bits_Len64 a0 hg
def G12 : Env := G11.add 195 [] math_bits_Len64.S
theorem G12_ok : EnvOk Try.prog G12 := G11_ok.add ent_195 fun ar h r h1 ⟨a0, y, hy, e1, e2, e3, e4⟩ => by
  subst e3 e4; exact (math_bits_Len64.spec a0 y hy).le e1 e2
attribute [local irreducible] math_bits_Len64

end Go.Proofs.Ytpopcdnjnligiaa
