/-
  Contracts, printed by a program.
-/
import Derived.Test.YtpopcdnjnligiaaC615
namespace Go.Proofs.Ytpopcdnjnligiaa
open Go.RowKit
attribute [local irreducible] Ob loopwp Sub Spec Fin Again CallW CutC KOb iter joinx outm

attribute [local irreducible] laws_vBig spec_l1Cur_next spec_l1Cur_pick spec_l1Cur_among spec_l1In spec_l25Slot spec_l25Good spec_NewRopeway spec_l25Open spec_l1Cur_one spec_l1Cur_ropeStep spec_l25Step spec_l25Own spec_l25Find spec_l25Rope spec_l25Station spec_l25People spec_l25Make spec_StepRopeway spec_l1Cur_ropeStep_i1 spec_l1Cur_ropeway spec_DrawTurnsTo impl_within impl_Ropeway_isStation impl_IsRopeway_1_i1 slices_IndexFunc___impl_Slot_impl_Slot__i1 slices_ContainsFunc___impl_Slot_impl_Slot__i1 impl_IsRopeway impl_Ropeway_cabinAt_1_i1 slices_IndexFunc___impl_Slot_impl_Slot__i2

noncomputable def impl_Ropeway_cabinAt (a0 : Ropeway) (a1 : Int) : Option (Int) :=
  ((slices_IndexFunc___impl_Slot_impl_Slot__i2 a0.2.1 a1).bind fun y1 => (some y1))
def impl_Ropeway_cabinAt.res (_ : Ropeway) (_ : Int) (y : Int) : AV := (.v (.int .i64 y))
def impl_Ropeway_cabinAt.out (_ : Ropeway) (_ : Int) (_ : Int) : List (Option LB) := []
def impl_Ropeway_cabinAt.S (ar : List AV) (h : List (Option LB)) (r : AV) (h1 : List (Option LB)) : Prop := ∃ a0 a1 y, impl_Ropeway_cabinAt a0 a1 = some y ∧ leL ar [(.agg [(.v (.int .i64 a0.1)), (.tree ty_Slot a0.2.1), (.v (.int .i64 a0.2.2.1)), (.v (.int .i64 a0.2.2.2.1)), (.v (.int .i64 a0.2.2.2.2.1))]), (.v (.int .i64 a1))] ∧ leH h [] ∧ r = impl_Ropeway_cabinAt.res a0 a1 y ∧ h1 = impl_Ropeway_cabinAt.out a0 a1 y
theorem impl_Ropeway_cabinAt.call {ar : List AV} {h : List (Option LB)} {a0 : Ropeway} {a1 : Int} {y : Int} (H : impl_Ropeway_cabinAt a0 a1 = some y) (h0 : leLk ar [(.agg [(.v (.int .i64 a0.1)), (.tree ty_Slot a0.2.1), (.v (.int .i64 a0.2.2.1)), (.v (.int .i64 a0.2.2.2.1)), (.v (.int .i64 a0.2.2.2.2.1))]), (.v (.int .i64 a1))] (leHk h [])) : impl_Ropeway_cabinAt.S ar h (impl_Ropeway_cabinAt.res a0 a1 y) (impl_Ropeway_cabinAt.out a0 a1 y) := ⟨a0, a1, y, H, (args_ok h0).1, (args_ok h0).2, rfl, rfl⟩
set_option maxHeartbeats 100000000 in
set_option maxRecDepth 100000 in
theorem impl_Ropeway_cabinAt.spec (a0 : Ropeway) (a1 : Int) (y : Int) (H : impl_Ropeway_cabinAt a0 a1 = some y) : Spec Try.prog 104 [(.agg [(.v (.int .i64 a0.1)), (.tree ty_Slot a0.2.1), (.v (.int .i64 a0.2.2.1)), (.v (.int .i64 a0.2.2.2.1)), (.v (.int .i64 a0.2.2.2.2.1))]), (.v (.int .i64 a1))] [] (impl_Ropeway_cabinAt.res a0 a1 y) (impl_Ropeway_cabinAt.out a0 a1 y) := by
  refine spec_intro (G30_ok.at tok []) (ct := []) Try.func104 rfl (by kernel_rfl) (by kernel_rfl) rfl ?_
  repeat' first
    | ((with_reducible refine eqg ?_); exact rfl)
    | ((with_reducible refine KOb.mk ?_); kernel_rfl)
    | ((with_reducible intro h); (repeat (first | replace H := grd_k H | replace H := out_step H (by assumption))); first | replace H := cond_t h H | replace H := cond_f h H | exact absurd h (by decide) | skip)
    | ((with_reducible refine Ob.mk ?_); first | (with_reducible rfl) | (first | ((repeat (first | (with_reducible exact grd_p H) | (replace H := grd_k H) | (replace H := out_step H (by assumption)))); done) | rfl | ((repeat (first | exact grd_p H | replace H := grd_k H | replace H := out_step H (by assumption))); done) | ((repeat (first | exact grd_p H | (have hp := grd_p H; exact hp) | replace H := grd_k H | replace H := out_step H (by assumption) | (replace H := bind_some H; obtain ⟨_, _, H⟩ := H))); done) | (repeat (first | exact grd_p H | replace H := grd_k H | replace H := out_step H (by assumption)))))
    | (with_reducible exact True.intro)
    | ((conv => whnf); first
        | (with_reducible refine And.intro ?_ ?_)
        | (with_reducible exact True.intro)
        | ((with_reducible refine Ob.mk ?_); first | (with_reducible rfl) | (first | ((repeat (first | (with_reducible exact grd_p H) | (replace H := grd_k H) | (replace H := out_step H (by assumption)))); done) | rfl | ((repeat (first | exact grd_p H | replace H := grd_k H | replace H := out_step H (by assumption))); done) | ((repeat (first | exact grd_p H | (have hp := grd_p H; exact hp) | replace H := grd_k H | replace H := out_step H (by assumption) | (replace H := bind_some H; obtain ⟨_, _, H⟩ := H))); done) | (repeat (first | exact grd_p H | replace H := grd_k H | replace H := out_step H (by assumption)))))
        | ((with_reducible refine CallW.mk ?_); (repeat (first | replace H := grd_k H | replace H := out_step H (by assumption))); replace H := bind_some H; obtain ⟨y, hy, H⟩ := H; first | ((with_reducible have hz : slices_IndexFunc___impl_Slot_impl_Slot__i2 _ _ = some y := hy); clear hz; refine Exists.intro _ (Exists.intro _ ⟨Or.inl (slices_IndexFunc___impl_Slot_impl_Slot__i2.call hy ?_), rfl, rfl, ?_⟩)))
        | ((with_reducible refine fin_mk ?_); (repeat (first | replace H := grd_k H | replace H := out_step H (by assumption))); have H := Option.some.inj H; subst H))
    | constructor
def G31 : Env := G30.add 104 [] impl_Ropeway_cabinAt.S
theorem G31_ok : EnvOk Try.prog G31 := G30_ok.add ent_104 fun ar h r h1 ⟨a0, a1, y, hy, e1, e2, e3, e4⟩ => by
  subst e3 e4; exact (impl_Ropeway_cabinAt.spec a0 a1 y hy).le e1 e2
attribute [local irreducible] impl_Ropeway_cabinAt

noncomputable def impl_CabinAt (a0 : Ropeway) (a1 : Int) : Option (Int × Bool) :=
  ((impl_IsRopeway (a0.1, a0.2.1, a0.2.2.1, a0.2.2.2.1, a0.2.2.2.2.1, ())).bind fun y1 => (cond (!y1) ((some ((0 : Int), false))) ((impl_Ropeway_cabinAt (a0.1, a0.2.1, a0.2.2.1, a0.2.2.2.1, a0.2.2.2.2.1, ()) a1).bind fun y2 => (some ((if false = true then (if (0 : Int) < y2 then (0 : Int) else y2) else (if (0 : Int) > y2 then (0 : Int) else y2)), (decide ((0 : Int) ≤ y2)))))))
def impl_CabinAt.res (_ : Ropeway) (_ : Int) (y : Int × Bool) : AV := (.tup [(.v (.int .i64 y.1)), (.bl y.2)])
def impl_CabinAt.out (_ : Ropeway) (_ : Int) (_ : Int × Bool) : List (Option LB) := []
def impl_CabinAt.S (ar : List AV) (h : List (Option LB)) (r : AV) (h1 : List (Option LB)) : Prop := ∃ a0 a1 y, impl_CabinAt a0 a1 = some y ∧ leL ar [(.agg [(.v (.int .i64 a0.1)), (.tree ty_Slot a0.2.1), (.v (.int .i64 a0.2.2.1)), (.v (.int .i64 a0.2.2.2.1)), (.v (.int .i64 a0.2.2.2.2.1))]), (.v (.int .i64 a1))] ∧ leH h [] ∧ r = impl_CabinAt.res a0 a1 y ∧ h1 = impl_CabinAt.out a0 a1 y
theorem impl_CabinAt.call {ar : List AV} {h : List (Option LB)} {a0 : Ropeway} {a1 : Int} {y : Int × Bool} (H : impl_CabinAt a0 a1 = some y) (h0 : leLk ar [(.agg [(.v (.int .i64 a0.1)), (.tree ty_Slot a0.2.1), (.v (.int .i64 a0.2.2.1)), (.v (.int .i64 a0.2.2.2.1)), (.v (.int .i64 a0.2.2.2.2.1))]), (.v (.int .i64 a1))] (leHk h [])) : impl_CabinAt.S ar h (impl_CabinAt.res a0 a1 y) (impl_CabinAt.out a0 a1 y) := ⟨a0, a1, y, H, (args_ok h0).1, (args_ok h0).2, rfl, rfl⟩
set_option maxHeartbeats 100000000 in
set_option maxRecDepth 100000 in
theorem impl_CabinAt.spec (a0 : Ropeway) (a1 : Int) (y : Int × Bool) (H : impl_CabinAt a0 a1 = some y) : Spec Try.prog 28 [(.agg [(.v (.int .i64 a0.1)), (.tree ty_Slot a0.2.1), (.v (.int .i64 a0.2.2.1)), (.v (.int .i64 a0.2.2.2.1)), (.v (.int .i64 a0.2.2.2.2.1))]), (.v (.int .i64 a1))] [] (impl_CabinAt.res a0 a1 y) (impl_CabinAt.out a0 a1 y) := by
  refine spec_intro (G31_ok.at tok []) (ct := []) Try.func28 rfl (by kernel_rfl) (by kernel_rfl) rfl ?_
  repeat' first
    | ((with_reducible refine eqg ?_); exact rfl)
    | ((with_reducible refine KOb.mk ?_); kernel_rfl)
    | ((with_reducible intro h); (repeat (first | replace H := grd_k H | replace H := out_step H (by assumption))); first | replace H := cond_t h H | replace H := cond_f h H | exact absurd h (by decide) | skip)
    | ((with_reducible refine Ob.mk ?_); first | (with_reducible rfl) | (first | ((repeat (first | (with_reducible exact grd_p H) | (replace H := grd_k H) | (replace H := out_step H (by assumption)))); done) | rfl | ((repeat (first | exact grd_p H | replace H := grd_k H | replace H := out_step H (by assumption))); done) | ((repeat (first | exact grd_p H | (have hp := grd_p H; exact hp) | replace H := grd_k H | replace H := out_step H (by assumption) | (replace H := bind_some H; obtain ⟨_, _, H⟩ := H))); done) | (repeat (first | exact grd_p H | replace H := grd_k H | replace H := out_step H (by assumption)))))
    | (with_reducible exact True.intro)
    | ((conv => whnf); first
        | (with_reducible refine And.intro ?_ ?_)
        | (with_reducible exact True.intro)
        | ((with_reducible refine Ob.mk ?_); first | (with_reducible rfl) | (first | ((repeat (first | (with_reducible exact grd_p H) | (replace H := grd_k H) | (replace H := out_step H (by assumption)))); done) | rfl | ((repeat (first | exact grd_p H | replace H := grd_k H | replace H := out_step H (by assumption))); done) | ((repeat (first | exact grd_p H | (have hp := grd_p H; exact hp) | replace H := grd_k H | replace H := out_step H (by assumption) | (replace H := bind_some H; obtain ⟨_, _, H⟩ := H))); done) | (repeat (first | exact grd_p H | replace H := grd_k H | replace H := out_step H (by assumption)))))
        | ((with_reducible refine CallW.mk ?_); (repeat (first | replace H := grd_k H | replace H := out_step H (by assumption))); replace H := bind_some H; obtain ⟨y, hy, H⟩ := H; first | ((with_reducible have hz : impl_IsRopeway _ = some y := hy); clear hz; refine Exists.intro _ (Exists.intro _ ⟨impl_IsRopeway.call hy ?_, rfl, rfl, ?_⟩)) | ((with_reducible have hz : impl_Ropeway_cabinAt _ _ = some y := hy); clear hz; refine Exists.intro _ (Exists.intro _ ⟨impl_Ropeway_cabinAt.call hy ?_, rfl, rfl, ?_⟩)))
        | ((with_reducible refine fin_mk ?_); (repeat (first | replace H := grd_k H | replace H := out_step H (by assumption))); have H := Option.some.inj H; subst H))
    | constructor
def G32 : Env := G31.add 28 [] impl_CabinAt.S
theorem G32_ok : EnvOk Try.prog G32 := G31_ok.add ent_28 fun ar h r h1 ⟨a0, a1, y, hy, e1, e2, e3, e4⟩ => by
  subst e3 e4; exact (impl_CabinAt.spec a0 a1 y hy).le e1 e2
attribute [local irreducible] impl_CabinAt

noncomputable def impl_TurnsTo (a0 : Ropeway) (a1 : Int) (a2 : Bool) : Option (Int × Bool) :=
  ((impl_CabinAt (a0.1, a0.2.1, a0.2.2.1, a0.2.2.2.1, a0.2.2.2.2.1, ()) a1).bind fun y1 => (cond (!y1.2) ((some ((0 : Int), false))) (cond a2 (grd ((2 : Int) ≠ 0) (grd ((a0.2.1.length : Int) ≠ 0) ((some ((Int.tmod (w64 ((w64 ((w64 (Int.tdiv (a0.2.1.length : Int) (2 : Int))) - y1.1)) + (a0.2.1.length : Int))) (a0.2.1.length : Int)), true))))) (grd ((a0.2.1.length : Int) ≠ 0) ((some ((Int.tmod (w64 ((w64 ((0 : Int) - y1.1)) + (a0.2.1.length : Int))) (a0.2.1.length : Int)), true)))))))
def impl_TurnsTo.res (_ : Ropeway) (_ : Int) (_ : Bool) (y : Int × Bool) : AV := (.tup [(.v (.int .i64 y.1)), (.bl y.2)])
def impl_TurnsTo.out (_ : Ropeway) (_ : Int) (_ : Bool) (_ : Int × Bool) : List (Option LB) := []
def impl_TurnsTo.S (ar : List AV) (h : List (Option LB)) (r : AV) (h1 : List (Option LB)) : Prop := ∃ a0 a1 a2 y, impl_TurnsTo a0 a1 a2 = some y ∧ leL ar [(.agg [(.v (.int .i64 a0.1)), (.tree ty_Slot a0.2.1), (.v (.int .i64 a0.2.2.1)), (.v (.int .i64 a0.2.2.2.1)), (.v (.int .i64 a0.2.2.2.2.1))]), (.v (.int .i64 a1)), (.bl a2)] ∧ leH h [] ∧ r = impl_TurnsTo.res a0 a1 a2 y ∧ h1 = impl_TurnsTo.out a0 a1 a2 y
theorem impl_TurnsTo.call {ar : List AV} {h : List (Option LB)} {a0 : Ropeway} {a1 : Int} {a2 : Bool} {y : Int × Bool} (H : impl_TurnsTo a0 a1 a2 = some y) (h0 : leLk ar [(.agg [(.v (.int .i64 a0.1)), (.tree ty_Slot a0.2.1), (.v (.int .i64 a0.2.2.1)), (.v (.int .i64 a0.2.2.2.1)), (.v (.int .i64 a0.2.2.2.2.1))]), (.v (.int .i64 a1)), (.bl a2)] (leHk h [])) : impl_TurnsTo.S ar h (impl_TurnsTo.res a0 a1 a2 y) (impl_TurnsTo.out a0 a1 a2 y) := ⟨a0, a1, a2, y, H, (args_ok h0).1, (args_ok h0).2, rfl, rfl⟩
set_option maxHeartbeats 100000000 in
set_option maxRecDepth 100000 in
theorem impl_TurnsTo.spec (a0 : Ropeway) (a1 : Int) (a2 : Bool) (y : Int × Bool) (H : impl_TurnsTo a0 a1 a2 = some y) : Spec Try.prog 26 [(.agg [(.v (.int .i64 a0.1)), (.tree ty_Slot a0.2.1), (.v (.int .i64 a0.2.2.1)), (.v (.int .i64 a0.2.2.2.1)), (.v (.int .i64 a0.2.2.2.2.1))]), (.v (.int .i64 a1)), (.bl a2)] [] (impl_TurnsTo.res a0 a1 a2 y) (impl_TurnsTo.out a0 a1 a2 y) := by
  refine spec_intro (G32_ok.at tok []) (ct := [(4, some [2, 3, 8])]) Try.func26 rfl (by kernel_rfl) (by kernel_rfl) rfl ?_
  repeat' first
    | ((with_reducible refine eqg ?_); exact rfl)
    | ((with_reducible refine KOb.mk ?_); kernel_rfl)
    | ((with_reducible intro h); (repeat (first | replace H := grd_k H | replace H := out_step H (by assumption))); first | replace H := cond_t h H | replace H := cond_f h H | exact absurd h (by decide) | skip)
    | ((with_reducible refine Ob.mk ?_); first | (with_reducible rfl) | (first | ((repeat (first | (with_reducible exact grd_p H) | (replace H := grd_k H) | (replace H := out_step H (by assumption)))); done) | rfl | ((repeat (first | exact grd_p H | replace H := grd_k H | replace H := out_step H (by assumption))); done) | ((repeat (first | exact grd_p H | (have hp := grd_p H; exact hp) | replace H := grd_k H | replace H := out_step H (by assumption) | (replace H := bind_some H; obtain ⟨_, _, H⟩ := H))); done) | (repeat (first | exact grd_p H | replace H := grd_k H | replace H := out_step H (by assumption)))))
    | (with_reducible exact True.intro)
    | ((conv => whnf); first
        | (with_reducible refine And.intro ?_ ?_)
        | (with_reducible exact True.intro)
        | ((with_reducible refine Ob.mk ?_); first | (with_reducible rfl) | (first | ((repeat (first | (with_reducible exact grd_p H) | (replace H := grd_k H) | (replace H := out_step H (by assumption)))); done) | rfl | ((repeat (first | exact grd_p H | replace H := grd_k H | replace H := out_step H (by assumption))); done) | ((repeat (first | exact grd_p H | (have hp := grd_p H; exact hp) | replace H := grd_k H | replace H := out_step H (by assumption) | (replace H := bind_some H; obtain ⟨_, _, H⟩ := H))); done) | (repeat (first | exact grd_p H | replace H := grd_k H | replace H := out_step H (by assumption)))))
        | ((with_reducible refine CallW.mk ?_); (repeat (first | replace H := grd_k H | replace H := out_step H (by assumption))); replace H := bind_some H; obtain ⟨y, hy, H⟩ := H; first | ((with_reducible have hz : impl_CabinAt _ _ = some y := hy); clear hz; refine Exists.intro _ (Exists.intro _ ⟨impl_CabinAt.call hy ?_, rfl, rfl, ?_⟩)))
        | ((with_reducible refine fin_mk ?_); (repeat (first | replace H := grd_k H | replace H := out_step H (by assumption))); have H := Option.some.inj H; subst H))
    | constructor
def G33 : Env := G32.add 26 [] impl_TurnsTo.S
theorem G33_ok : EnvOk Try.prog G33 := G32_ok.add ent_26 fun ar h r h1 ⟨a0, a1, a2, y, hy, e1, e2, e3, e4⟩ => by
  subst e3 e4; exact (impl_TurnsTo.spec a0 a1 a2 y hy).le e1 e2
attribute [local irreducible] impl_TurnsTo

noncomputable def spec_CabinAt (a0 : Ropeway) (a1 : Int) : Option (Int × Bool) :=
  ((spec_l25Good (a0.1, a0.2.1, a0.2.2.1, a0.2.2.2.1, a0.2.2.2.2.1, ())).bind fun y1 => (cond (!y1) ((some ((0 : Int), false))) (cond (decide (a1 < (1 : Int))) ((some ((0 : Int), false))) ((spec_l25Find (a0.1, a0.2.1, a0.2.2.1, a0.2.2.2.1, a0.2.2.2.2.1, ()) a1).bind fun y2 => (cond (decide (y2 < (0 : Int))) ((some ((0 : Int), false))) ((spec_l25Find (a0.1, a0.2.1, a0.2.2.1, a0.2.2.2.1, a0.2.2.2.2.1, ()) a1).bind fun y3 => (some (y3, true))))))))
def spec_CabinAt.res (_ : Ropeway) (_ : Int) (y : Int × Bool) : AV := (.tup [(.v (.int .i64 y.1)), (.bl y.2)])
def spec_CabinAt.out (_ : Ropeway) (_ : Int) (_ : Int × Bool) : List (Option LB) := []
def spec_CabinAt.S (ar : List AV) (h : List (Option LB)) (r : AV) (h1 : List (Option LB)) : Prop := ∃ a0 a1 y, spec_CabinAt a0 a1 = some y ∧ leL ar [(.agg [(.v (.int .i64 a0.1)), (.tree ty_Slot a0.2.1), (.v (.int .i64 a0.2.2.1)), (.v (.int .i64 a0.2.2.2.1)), (.v (.int .i64 a0.2.2.2.2.1))]), (.v (.int .i64 a1))] ∧ leH h [] ∧ r = spec_CabinAt.res a0 a1 y ∧ h1 = spec_CabinAt.out a0 a1 y
theorem spec_CabinAt.call {ar : List AV} {h : List (Option LB)} {a0 : Ropeway} {a1 : Int} {y : Int × Bool} (H : spec_CabinAt a0 a1 = some y) (h0 : leLk ar [(.agg [(.v (.int .i64 a0.1)), (.tree ty_Slot a0.2.1), (.v (.int .i64 a0.2.2.1)), (.v (.int .i64 a0.2.2.2.1)), (.v (.int .i64 a0.2.2.2.2.1))]), (.v (.int .i64 a1))] (leHk h [])) : spec_CabinAt.S ar h (spec_CabinAt.res a0 a1 y) (spec_CabinAt.out a0 a1 y) := ⟨a0, a1, y, H, (args_ok h0).1, (args_ok h0).2, rfl, rfl⟩
set_option maxHeartbeats 100000000 in
set_option maxRecDepth 100000 in
theorem spec_CabinAt.spec (a0 : Ropeway) (a1 : Int) (y : Int × Bool) (H : spec_CabinAt a0 a1 = some y) : Spec Try.prog 35 [(.agg [(.v (.int .i64 a0.1)), (.tree ty_Slot a0.2.1), (.v (.int .i64 a0.2.2.1)), (.v (.int .i64 a0.2.2.2.1)), (.v (.int .i64 a0.2.2.2.2.1))]), (.v (.int .i64 a1))] [] (spec_CabinAt.res a0 a1 y) (spec_CabinAt.out a0 a1 y) := by
  refine spec_intro (G33_ok.at tok []) (ct := [(2, some [1, 2, 18])]) Try.func35 rfl (by kernel_rfl) (by kernel_rfl) rfl ?_
  repeat' first
    | ((with_reducible refine eqg ?_); exact rfl)
    | ((with_reducible refine KOb.mk ?_); kernel_rfl)
    | ((with_reducible intro h); (repeat (first | replace H := grd_k H | replace H := out_step H (by assumption))); first | replace H := cond_t h H | replace H := cond_f h H | exact absurd h (by decide) | skip)
    | ((with_reducible refine Ob.mk ?_); first | (with_reducible rfl) | (first | ((repeat (first | (with_reducible exact grd_p H) | (replace H := grd_k H) | (replace H := out_step H (by assumption)))); done) | rfl | ((repeat (first | exact grd_p H | replace H := grd_k H | replace H := out_step H (by assumption))); done) | ((repeat (first | exact grd_p H | (have hp := grd_p H; exact hp) | replace H := grd_k H | replace H := out_step H (by assumption) | (replace H := bind_some H; obtain ⟨_, _, H⟩ := H))); done) | (repeat (first | exact grd_p H | replace H := grd_k H | replace H := out_step H (by assumption)))))
    | (with_reducible exact True.intro)
    | ((conv => whnf); first
        | (with_reducible refine And.intro ?_ ?_)
        | (with_reducible exact True.intro)
        | ((with_reducible refine Ob.mk ?_); first | (with_reducible rfl) | (first | ((repeat (first | (with_reducible exact grd_p H) | (replace H := grd_k H) | (replace H := out_step H (by assumption)))); done) | rfl | ((repeat (first | exact grd_p H | replace H := grd_k H | replace H := out_step H (by assumption))); done) | ((repeat (first | exact grd_p H | (have hp := grd_p H; exact hp) | replace H := grd_k H | replace H := out_step H (by assumption) | (replace H := bind_some H; obtain ⟨_, _, H⟩ := H))); done) | (repeat (first | exact grd_p H | replace H := grd_k H | replace H := out_step H (by assumption)))))
        | ((with_reducible refine CallW.mk ?_); (repeat (first | replace H := grd_k H | replace H := out_step H (by assumption))); replace H := bind_some H; obtain ⟨y, hy, H⟩ := H; first | ((with_reducible have hz : spec_l25Good _ = some y := hy); clear hz; refine Exists.intro _ (Exists.intro _ ⟨spec_l25Good.call hy ?_, rfl, rfl, ?_⟩)) | ((with_reducible have hz : spec_l25Find _ _ = some y := hy); clear hz; refine Exists.intro _ (Exists.intro _ ⟨spec_l25Find.call hy ?_, rfl, rfl, ?_⟩)))
        | ((with_reducible refine fin_mk ?_); (repeat (first | replace H := grd_k H | replace H := out_step H (by assumption))); have H := Option.some.inj H; subst H))
    | constructor
def G34 : Env := G33.add 35 [] spec_CabinAt.S
theorem G34_ok : EnvOk Try.prog G34 := G33_ok.add ent_35 fun ar h r h1 ⟨a0, a1, y, hy, e1, e2, e3, e4⟩ => by
  subst e3 e4; exact (spec_CabinAt.spec a0 a1 y hy).le e1 e2
attribute [local irreducible] spec_CabinAt

noncomputable def spec_TurnsTo (a0 : Ropeway) (a1 : Int) (a2 : Bool) : Option (Int × Bool) :=
  ((spec_CabinAt (a0.1, a0.2.1, a0.2.2.1, a0.2.2.2.1, a0.2.2.2.2.1, ()) a1).bind fun y1 => (cond (!y1.2) ((some ((0 : Int), false))) (cond a2 (grd ((2 : Int) ≠ 0) (grd ((a0.2.1.length : Int) ≠ 0) ((some ((Int.tmod (w64 ((w64 ((w64 (Int.tdiv (a0.2.1.length : Int) (2 : Int))) - y1.1)) + (a0.2.1.length : Int))) (a0.2.1.length : Int)), true))))) (grd ((a0.2.1.length : Int) ≠ 0) ((some ((Int.tmod (w64 ((w64 ((0 : Int) - y1.1)) + (a0.2.1.length : Int))) (a0.2.1.length : Int)), true)))))))
def spec_TurnsTo.res (_ : Ropeway) (_ : Int) (_ : Bool) (y : Int × Bool) : AV := (.tup [(.v (.int .i64 y.1)), (.bl y.2)])
def spec_TurnsTo.out (_ : Ropeway) (_ : Int) (_ : Bool) (_ : Int × Bool) : List (Option LB) := []
def spec_TurnsTo.S (ar : List AV) (h : List (Option LB)) (r : AV) (h1 : List (Option LB)) : Prop := ∃ a0 a1 a2 y, spec_TurnsTo a0 a1 a2 = some y ∧ leL ar [(.agg [(.v (.int .i64 a0.1)), (.tree ty_Slot a0.2.1), (.v (.int .i64 a0.2.2.1)), (.v (.int .i64 a0.2.2.2.1)), (.v (.int .i64 a0.2.2.2.2.1))]), (.v (.int .i64 a1)), (.bl a2)] ∧ leH h [] ∧ r = spec_TurnsTo.res a0 a1 a2 y ∧ h1 = spec_TurnsTo.out a0 a1 a2 y
theorem spec_TurnsTo.call {ar : List AV} {h : List (Option LB)} {a0 : Ropeway} {a1 : Int} {a2 : Bool} {y : Int × Bool} (H : spec_TurnsTo a0 a1 a2 = some y) (h0 : leLk ar [(.agg [(.v (.int .i64 a0.1)), (.tree ty_Slot a0.2.1), (.v (.int .i64 a0.2.2.1)), (.v (.int .i64 a0.2.2.2.1)), (.v (.int .i64 a0.2.2.2.2.1))]), (.v (.int .i64 a1)), (.bl a2)] (leHk h [])) : spec_TurnsTo.S ar h (spec_TurnsTo.res a0 a1 a2 y) (spec_TurnsTo.out a0 a1 a2 y) := ⟨a0, a1, a2, y, H, (args_ok h0).1, (args_ok h0).2, rfl, rfl⟩
set_option maxHeartbeats 100000000 in
set_option maxRecDepth 100000 in
theorem spec_TurnsTo.spec (a0 : Ropeway) (a1 : Int) (a2 : Bool) (y : Int × Bool) (H : spec_TurnsTo a0 a1 a2 = some y) : Spec Try.prog 27 [(.agg [(.v (.int .i64 a0.1)), (.tree ty_Slot a0.2.1), (.v (.int .i64 a0.2.2.1)), (.v (.int .i64 a0.2.2.2.1)), (.v (.int .i64 a0.2.2.2.2.1))]), (.v (.int .i64 a1)), (.bl a2)] [] (spec_TurnsTo.res a0 a1 a2 y) (spec_TurnsTo.out a0 a1 a2 y) := by
  refine spec_intro (G34_ok.at tok []) (ct := [(4, some [2, 3, 8])]) Try.func27 rfl (by kernel_rfl) (by kernel_rfl) rfl ?_
  repeat' first
    | ((with_reducible refine eqg ?_); exact rfl)
    | ((with_reducible refine KOb.mk ?_); kernel_rfl)
    | ((with_reducible intro h); (repeat (first | replace H := grd_k H | replace H := out_step H (by assumption))); first | replace H := cond_t h H | replace H := cond_f h H | exact absurd h (by decide) | skip)
    | ((with_reducible refine Ob.mk ?_); first | (with_reducible rfl) | (first | ((repeat (first | (with_reducible exact grd_p H) | (replace H := grd_k H) | (replace H := out_step H (by assumption)))); done) | rfl | ((repeat (first | exact grd_p H | replace H := grd_k H | replace H := out_step H (by assumption))); done) | ((repeat (first | exact grd_p H | (have hp := grd_p H; exact hp) | replace H := grd_k H | replace H := out_step H (by assumption) | (replace H := bind_some H; obtain ⟨_, _, H⟩ := H))); done) | (repeat (first | exact grd_p H | replace H := grd_k H | replace H := out_step H (by assumption)))))
    | (with_reducible exact True.intro)
    | ((conv => whnf); first
        | (with_reducible refine And.intro ?_ ?_)
        | (with_reducible exact True.intro)
        | ((with_reducible refine Ob.mk ?_); first | (with_reducible rfl) | (first | ((repeat (first | (with_reducible exact grd_p H) | (replace H := grd_k H) | (replace H := out_step H (by assumption)))); done) | rfl | ((repeat (first | exact grd_p H | replace H := grd_k H | replace H := out_step H (by assumption))); done) | ((repeat (first | exact grd_p H | (have hp := grd_p H; exact hp) | replace H := grd_k H | replace H := out_step H (by assumption) | (replace H := bind_some H; obtain ⟨_, _, H⟩ := H))); done) | (repeat (first | exact grd_p H | replace H := grd_k H | replace H := out_step H (by assumption)))))
        | ((with_reducible refine CallW.mk ?_); (repeat (first | replace H := grd_k H | replace H := out_step H (by assumption))); replace H := bind_some H; obtain ⟨y, hy, H⟩ := H; first | ((with_reducible have hz : spec_CabinAt _ _ = some y := hy); clear hz; refine Exists.intro _ (Exists.intro _ ⟨spec_CabinAt.call hy ?_, rfl, rfl, ?_⟩)))
        | ((with_reducible refine fin_mk ?_); (repeat (first | replace H := grd_k H | replace H := out_step H (by assumption))); have H := Option.some.inj H; subst H))
    | constructor
def G35 : Env := G34.add 27 [] spec_TurnsTo.S
theorem G35_ok : EnvOk Try.prog G35 := G34_ok.add ent_27 fun ar h r h1 ⟨a0, a1, a2, y, hy, e1, e2, e3, e4⟩ => by
  subst e3 e4; exact (spec_TurnsTo.spec a0 a1 a2 y hy).le e1 e2
attribute [local irreducible] spec_TurnsTo

noncomputable def slices_Clone___impl_Slot_impl_Slot_ (a0 : (List Slot)) : Option ((List Slot)) :=
  (grd (0 < a0.length) (grd (([] : List Slot).length + a0.length ≤ 140737488355328 / 24 ∧ ([] : List Slot).length + a0.length ≤ 140737488355328) ((some (([] : List Slot) ++ a0)))))
def slices_Clone___impl_Slot_impl_Slot_.res (_ : (List Slot)) (_ : (List Slot)) : AV := (.own 0)
def slices_Clone___impl_Slot_impl_Slot_.out (_ : (List Slot)) (y : (List Slot)) : List (Option LB) := [some (.arr 41 ty_Slot y)]
def slices_Clone___impl_Slot_impl_Slot_.S (ar : List AV) (h : List (Option LB)) (r : AV) (h1 : List (Option LB)) : Prop := ∃ a0 y, slices_Clone___impl_Slot_impl_Slot_ a0 = some y ∧ leL ar [(.tree ty_Slot a0)] ∧ leH h [] ∧ r = slices_Clone___impl_Slot_impl_Slot_.res a0 y ∧ h1 = slices_Clone___impl_Slot_impl_Slot_.out a0 y
theorem slices_Clone___impl_Slot_impl_Slot_.call {ar : List AV} {h : List (Option LB)} {a0 : (List Slot)} {y : (List Slot)} (H : slices_Clone___impl_Slot_impl_Slot_ a0 = some y) (h0 : leLk ar [(.tree ty_Slot a0)] (leHk h [])) : slices_Clone___impl_Slot_impl_Slot_.S ar h (slices_Clone___impl_Slot_impl_Slot_.res a0 y) (slices_Clone___impl_Slot_impl_Slot_.out a0 y) := ⟨a0, y, H, (args_ok h0).1, (args_ok h0).2, rfl, rfl⟩
set_option maxHeartbeats 100000000 in
set_option maxRecDepth 100000 in
theorem slices_Clone___impl_Slot_impl_Slot_.spec (a0 : (List Slot)) (y : (List Slot)) (H : slices_Clone___impl_Slot_impl_Slot_ a0 = some y) : Spec Try.prog 152 [(.tree ty_Slot a0)] [] (slices_Clone___impl_Slot_impl_Slot_.res a0 y) (slices_Clone___impl_Slot_impl_Slot_.out a0 y) := by
  refine spec_intro (G35_ok.at tok []) (ct := []) Try.func152 rfl (by kernel_rfl) (by kernel_rfl) rfl ?_
  repeat' first
    | ((with_reducible refine eqg ?_); exact rfl)
    | ((with_reducible refine KOb.mk ?_); kernel_rfl)
    | ((with_reducible intro h); (repeat (first | replace H := grd_k H | replace H := out_step H (by assumption))); first | replace H := cond_t h H | replace H := cond_f h H | exact absurd h (by decide) | skip)
    | ((with_reducible refine Ob.mk ?_); first | (with_reducible rfl) | (first | ((repeat (first | (with_reducible exact grd_p H) | (replace H := grd_k H) | (replace H := out_step H (by assumption)))); done) | rfl | ((repeat (first | exact grd_p H | replace H := grd_k H | replace H := out_step H (by assumption))); done) | ((repeat (first | exact grd_p H | (have hp := grd_p H; exact hp) | replace H := grd_k H | replace H := out_step H (by assumption) | (replace H := bind_some H; obtain ⟨_, _, H⟩ := H))); done) | (repeat (first | exact grd_p H | replace H := grd_k H | replace H := out_step H (by assumption)))))
    | (with_reducible exact True.intro)
    | ((conv => whnf); first
        | (with_reducible refine And.intro ?_ ?_)
        | (with_reducible exact True.intro)
        | ((with_reducible refine Ob.mk ?_); first | (with_reducible rfl) | (first | ((repeat (first | (with_reducible exact grd_p H) | (replace H := grd_k H) | (replace H := out_step H (by assumption)))); done) | rfl | ((repeat (first | exact grd_p H | replace H := grd_k H | replace H := out_step H (by assumption))); done) | ((repeat (first | exact grd_p H | (have hp := grd_p H; exact hp) | replace H := grd_k H | replace H := out_step H (by assumption) | (replace H := bind_some H; obtain ⟨_, _, H⟩ := H))); done) | (repeat (first | exact grd_p H | replace H := grd_k H | replace H := out_step H (by assumption)))))
        | ((with_reducible refine fin_mk ?_); (repeat (first | replace H := grd_k H | replace H := out_step H (by assumption))); have H := Option.some.inj H; subst H))
    | constructor
  all_goals exact viewz _ _
def G36 : Env := G35.add 152 [] slices_Clone___impl_Slot_impl_Slot_.S
theorem G36_ok : EnvOk Try.prog G36 := G35_ok.add ent_152 fun ar h r h1 ⟨a0, y, hy, e1, e2, e3, e4⟩ => by
  subst e3 e4; exact (slices_Clone___impl_Slot_impl_Slot_.spec a0 y hy).le e1 e2
attribute [local irreducible] slices_Clone___impl_Slot_impl_Slot_

end Go.Proofs.Ytpopcdnjnligiaa
