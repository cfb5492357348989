/-
  Contracts, printed by a program.
-/
import Derived.Test.YtpopcdnjnligiaaC616
namespace Go.Proofs.Ytpopcdnjnligiaa
open Go.RowKit
attribute [local irreducible] Ob loopwp Sub Spec Fin Again CallW CutC KOb iter joinx outm

attribute [local irreducible] laws_vBig spec_l1Cur_next spec_l1Cur_pick spec_l1Cur_among spec_l1In spec_l25Slot spec_l25Good spec_NewRopeway spec_l25Open spec_l1Cur_one spec_l1Cur_ropeStep spec_l25Step spec_l25Own spec_l25Find spec_l25Rope spec_l25Station spec_l25People spec_l25Make spec_StepRopeway spec_l1Cur_ropeStep_i1 spec_l1Cur_ropeway spec_DrawTurnsTo impl_within impl_Ropeway_isStation impl_IsRopeway_1_i1 slices_IndexFunc___impl_Slot_impl_Slot__i1 slices_ContainsFunc___impl_Slot_impl_Slot__i1 impl_IsRopeway impl_Ropeway_cabinAt_1_i1 slices_IndexFunc___impl_Slot_impl_Slot__i2 impl_Ropeway_cabinAt impl_CabinAt impl_TurnsTo spec_CabinAt spec_TurnsTo slices_Clone___impl_Slot_impl_Slot_

noncomputable def impl_copyRopeway (a0 : Ropeway) : Option (Ropeway) :=
  ((slices_Clone___impl_Slot_impl_Slot_ a0.2.1).bind fun y1 => (some (a0.1, y1, a0.2.2.1, a0.2.2.2.1, a0.2.2.2.2.1, ())))
def impl_copyRopeway.res (_ : Ropeway) (y : Ropeway) : AV := (.agg [(.v (.int .i64 y.1)), (.own 0), (.v (.int .i64 y.2.2.1)), (.v (.int .i64 y.2.2.2.1)), (.v (.int .i64 y.2.2.2.2.1))])
def impl_copyRopeway.out (_ : Ropeway) (y : Ropeway) : List (Option LB) := [some (.arr 41 ty_Slot y.2.1)]
def impl_copyRopeway.S (ar : List AV) (h : List (Option LB)) (r : AV) (h1 : List (Option LB)) : Prop := ∃ a0 y, impl_copyRopeway a0 = some y ∧ leL ar [(.agg [(.v (.int .i64 a0.1)), (.tree ty_Slot a0.2.1), (.v (.int .i64 a0.2.2.1)), (.v (.int .i64 a0.2.2.2.1)), (.v (.int .i64 a0.2.2.2.2.1))])] ∧ leH h [] ∧ r = impl_copyRopeway.res a0 y ∧ h1 = impl_copyRopeway.out a0 y
theorem impl_copyRopeway.call {ar : List AV} {h : List (Option LB)} {a0 : Ropeway} {y : Ropeway} (H : impl_copyRopeway a0 = some y) (h0 : leLk ar [(.agg [(.v (.int .i64 a0.1)), (.tree ty_Slot a0.2.1), (.v (.int .i64 a0.2.2.1)), (.v (.int .i64 a0.2.2.2.1)), (.v (.int .i64 a0.2.2.2.2.1))])] (leHk h [])) : impl_copyRopeway.S ar h (impl_copyRopeway.res a0 y) (impl_copyRopeway.out a0 y) := ⟨a0, y, H, (args_ok h0).1, (args_ok h0).2, rfl, rfl⟩
set_option maxHeartbeats 100000000 in
set_option maxRecDepth 100000 in
theorem impl_copyRopeway.spec (a0 : Ropeway) (y : Ropeway) (H : impl_copyRopeway a0 = some y) : Spec Try.prog 100 [(.agg [(.v (.int .i64 a0.1)), (.tree ty_Slot a0.2.1), (.v (.int .i64 a0.2.2.1)), (.v (.int .i64 a0.2.2.2.1)), (.v (.int .i64 a0.2.2.2.2.1))])] [] (impl_copyRopeway.res a0 y) (impl_copyRopeway.out a0 y) := by
  refine spec_intro (G36_ok.at tok []) (ct := []) Try.func100 rfl (by kernel_rfl) (by kernel_rfl) rfl ?_
  repeat' first
    | ((with_reducible refine eqg ?_); exact rfl)
    | ((with_reducible refine KOb.mk ?_); kernel_rfl)
    | ((with_reducible intro h); (repeat (first | replace H := grd_k H | replace H := out_step H (by assumption))); first | replace H := cond_t h H | replace H := cond_f h H | exact absurd h (by decide) | skip)
    | ((with_reducible refine Ob.mk ?_); first | (with_reducible rfl) | (first | ((repeat (first | (with_reducible exact grd_p H) | (replace H := grd_k H) | (replace H := out_step H (by assumption)))); done) | rfl | ((repeat (first | exact grd_p H | replace H := grd_k H | replace H := out_step H (by assumption))); done) | ((repeat (first | exact grd_p H | (have hp := grd_p H; exact hp) | replace H := grd_k H | replace H := out_step H (by assumption) | (replace H := bind_some H; obtain ⟨_, _, H⟩ := H))); done) | (repeat (first | exact grd_p H | replace H := grd_k H | replace H := out_step H (by assumption)))))
    | (with_reducible exact True.intro)
    | ((conv => whnf); first
        | (with_reducible refine And.intro ?_ ?_)
        | (with_reducible exact True.intro)
        | ((with_reducible refine Ob.mk ?_); first | (with_reducible rfl) | (first | ((repeat (first | (with_reducible exact grd_p H) | (replace H := grd_k H) | (replace H := out_step H (by assumption)))); done) | rfl | ((repeat (first | exact grd_p H | replace H := grd_k H | replace H := out_step H (by assumption))); done) | ((repeat (first | exact grd_p H | (have hp := grd_p H; exact hp) | replace H := grd_k H | replace H := out_step H (by assumption) | (replace H := bind_some H; obtain ⟨_, _, H⟩ := H))); done) | (repeat (first | exact grd_p H | replace H := grd_k H | replace H := out_step H (by assumption)))))
        | ((with_reducible refine CallW.mk ?_); (repeat (first | replace H := grd_k H | replace H := out_step H (by assumption))); replace H := bind_some H; obtain ⟨y, hy, H⟩ := H; first | ((with_reducible have hz : slices_Clone___impl_Slot_impl_Slot_ _ = some y := hy); clear hz; refine Exists.intro _ (Exists.intro _ ⟨slices_Clone___impl_Slot_impl_Slot_.call hy ?_, rfl, rfl, ?_⟩)))
        | ((with_reducible refine fin_mk ?_); (repeat (first | replace H := grd_k H | replace H := out_step H (by assumption))); have H := Option.some.inj H; subst H))
    | constructor
def G37 : Env := G36.add 100 [] impl_copyRopeway.S
theorem G37_ok : EnvOk Try.prog G37 := G36_ok.add ent_100 fun ar h r h1 ⟨a0, y, hy, e1, e2, e3, e4⟩ => by
  subst e3 e4; exact (impl_copyRopeway.spec a0 y hy).le e1 e2
attribute [local irreducible] impl_copyRopeway

noncomputable def impl_Ropeway_act_1 (a0 : Slot) : Option (Bool) :=
  (some a0.2.1)
def impl_Ropeway_act_1.res (_ : Slot) (y : Bool) : AV := (.bl y)
def impl_Ropeway_act_1.out (_ : Slot) (_ : Bool) : List (Option LB) := []
def impl_Ropeway_act_1.S (ar : List AV) (h : List (Option LB)) (r : AV) (h1 : List (Option LB)) : Prop := ∃ a0 y, impl_Ropeway_act_1 a0 = some y ∧ leL ar [(.agg [(.v (.int .i64 a0.1)), (.bl a0.2.1), (.v (.int .i64 a0.2.2.1))])] ∧ leH h [] ∧ r = impl_Ropeway_act_1.res a0 y ∧ h1 = impl_Ropeway_act_1.out a0 y
theorem impl_Ropeway_act_1.call {ar : List AV} {h : List (Option LB)} {a0 : Slot} {y : Bool} (H : impl_Ropeway_act_1 a0 = some y) (h0 : leLk ar [(.agg [(.v (.int .i64 a0.1)), (.bl a0.2.1), (.v (.int .i64 a0.2.2.1))])] (leHk h [])) : impl_Ropeway_act_1.S ar h (impl_Ropeway_act_1.res a0 y) (impl_Ropeway_act_1.out a0 y) := ⟨a0, y, H, (args_ok h0).1, (args_ok h0).2, rfl, rfl⟩
set_option maxHeartbeats 100000000 in
set_option maxRecDepth 100000 in
theorem impl_Ropeway_act_1.spec (a0 : Slot) (y : Bool) (H : impl_Ropeway_act_1 a0 = some y) : Spec Try.prog 171 [(.agg [(.v (.int .i64 a0.1)), (.bl a0.2.1), (.v (.int .i64 a0.2.2.1))])] [] (impl_Ropeway_act_1.res a0 y) (impl_Ropeway_act_1.out a0 y) := by
  refine spec_intro (G37_ok.at tok []) (ct := []) Try.func171 rfl (by kernel_rfl) (by kernel_rfl) rfl ?_
  repeat' first
    | ((with_reducible refine eqg ?_); exact rfl)
    | ((with_reducible refine KOb.mk ?_); kernel_rfl)
    | ((with_reducible intro h); (repeat (first | replace H := grd_k H | replace H := out_step H (by assumption))); first | replace H := cond_t h H | replace H := cond_f h H | exact absurd h (by decide) | skip)
    | ((with_reducible refine Ob.mk ?_); first | (with_reducible rfl) | (first | ((repeat (first | (with_reducible exact grd_p H) | (replace H := grd_k H) | (replace H := out_step H (by assumption)))); done) | rfl | ((repeat (first | exact grd_p H | replace H := grd_k H | replace H := out_step H (by assumption))); done) | ((repeat (first | exact grd_p H | (have hp := grd_p H; exact hp) | replace H := grd_k H | replace H := out_step H (by assumption) | (replace H := bind_some H; obtain ⟨_, _, H⟩ := H))); done) | (repeat (first | exact grd_p H | replace H := grd_k H | replace H := out_step H (by assumption)))))
    | (with_reducible exact True.intro)
    | ((conv => whnf); first
        | (with_reducible refine And.intro ?_ ?_)
        | (with_reducible exact True.intro)
        | ((with_reducible refine Ob.mk ?_); first | (with_reducible rfl) | (first | ((repeat (first | (with_reducible exact grd_p H) | (replace H := grd_k H) | (replace H := out_step H (by assumption)))); done) | rfl | ((repeat (first | exact grd_p H | replace H := grd_k H | replace H := out_step H (by assumption))); done) | ((repeat (first | exact grd_p H | (have hp := grd_p H; exact hp) | replace H := grd_k H | replace H := out_step H (by assumption) | (replace H := bind_some H; obtain ⟨_, _, H⟩ := H))); done) | (repeat (first | exact grd_p H | replace H := grd_k H | replace H := out_step H (by assumption)))))
        | ((with_reducible refine fin_mk ?_); (repeat (first | replace H := grd_k H | replace H := out_step H (by assumption))); have H := Option.some.inj H; subst H))
    | constructor
def G38 : Env := G37.add 171 [] impl_Ropeway_act_1.S
theorem G38_ok : EnvOk Try.prog G38 := G37_ok.add ent_171 fun ar h r h1 ⟨a0, y, hy, e1, e2, e3, e4⟩ => by
  subst e3 e4; exact (impl_Ropeway_act_1.spec a0 y hy).le e1 e2
attribute [local irreducible] impl_Ropeway_act_1

noncomputable def slices_Grow___impl_Slot_impl_Slot__i1 (a1 : Int) : Option (((List Slot)) ⊕ (Unit)) :=
  ((cond (decide (a1 < (0 : Int))) (grd (False) none) ((some ()))).bind fun _ => (cond (decide ((0 : Int) < (w64 (a1 - (w64 ((0 : Int) - (0 : Int))))))) (grd (0 ≤ (0 : Int) ∧ (0 : Int) ≤ (0 : Int) ∧ (0 : Int) ≤ (0 : Int)) (grd (0 < (w64 (a1 - (w64 ((0 : Int) - (0 : Int))))) ∧ (24 : Int) * (w64 (a1 - (w64 ((0 : Int) - (0 : Int))))) ≤ 140737488355328 ∧ (w64 (a1 - (w64 ((0 : Int) - (0 : Int))))) ≤ 140737488355328) (grd (0 ≤ (0 : Int) ∧ (0 : Int) ≤ (0 : Int) ∧ (0 : Int) ≤ ((List.replicate (w64 (a1 - (w64 ((0 : Int) - (0 : Int))))).toNat ((0 : Int), false, (0 : Int), ())).length : Int)) ((some (Sum.inl ((List.replicate (w64 (a1 - (w64 ((0 : Int) - (0 : Int))))).toNat ((0 : Int), false, (0 : Int), ())).take (0 : Int).toNat))))))) ((some (Sum.inr ())))))
def slices_Grow___impl_Slot_impl_Slot__i1.res (_ : Int) (y : ((List Slot)) ⊕ (Unit)) : AV := match y with
  | (.inl y) => (.own 0)
  | (.inr y) => (.v (.slice none 0 0))
def slices_Grow___impl_Slot_impl_Slot__i1.out (_ : Int) (y : ((List Slot)) ⊕ (Unit)) : List (Option LB) := match y with
  | (.inl y) => [some (.arr 41 ty_Slot y)]
  | (.inr y) => []
def slices_Grow___impl_Slot_impl_Slot__i1.S (ar : List AV) (h : List (Option LB)) (r : AV) (h1 : List (Option LB)) : Prop := ∃ a1 y, slices_Grow___impl_Slot_impl_Slot__i1 a1 = some y ∧ leL ar [(.v (.slice none 0 0)), (.v (.int .i64 a1))] ∧ leH h [] ∧ r = slices_Grow___impl_Slot_impl_Slot__i1.res a1 y ∧ h1 = slices_Grow___impl_Slot_impl_Slot__i1.out a1 y
theorem slices_Grow___impl_Slot_impl_Slot__i1.call {ar : List AV} {h : List (Option LB)} {a1 : Int} {y : ((List Slot)) ⊕ (Unit)} (H : slices_Grow___impl_Slot_impl_Slot__i1 a1 = some y) (h0 : leLk ar [(.v (.slice none 0 0)), (.v (.int .i64 a1))] (leHk h [])) : slices_Grow___impl_Slot_impl_Slot__i1.S ar h (slices_Grow___impl_Slot_impl_Slot__i1.res a1 y) (slices_Grow___impl_Slot_impl_Slot__i1.out a1 y) := ⟨a1, y, H, (args_ok h0).1, (args_ok h0).2, rfl, rfl⟩
set_option maxHeartbeats 100000000 in
set_option maxRecDepth 100000 in
theorem slices_Grow___impl_Slot_impl_Slot__i1.spec (a1 : Int) (y : ((List Slot)) ⊕ (Unit)) (H : slices_Grow___impl_Slot_impl_Slot__i1 a1 = some y) : Spec Try.prog 184 [(.v (.slice none 0 0)), (.v (.int .i64 a1))] [] (slices_Grow___impl_Slot_impl_Slot__i1.res a1 y) (slices_Grow___impl_Slot_impl_Slot__i1.out a1 y) := by
  have hlen : Nat.ble ([] : List (Option LB)).length (slices_Grow___impl_Slot_impl_Slot__i1.out a1 y).length = true := by
    rcases y with y | y <;> rfl
  refine spec_intro (G38_ok.at tok [25]) (ct := [(3, none), (6, some [0])]) Try.func184 rfl (by kernel_rfl) (by kernel_rfl) hlen ?_
  repeat' first
    | ((with_reducible refine eqg ?_); exact rfl)
    | ((with_reducible refine KOb.mk ?_); kernel_rfl)
    | ((with_reducible intro h); (repeat (first | replace H := grd_k H | replace H := out_step H (by assumption))); first | replace H := cond_t h H | replace H := cond_f h H | exact absurd h (by decide) | skip)
    | ((with_reducible refine Ob.mk ?_); first | (with_reducible rfl) | (first | ((repeat (first | (with_reducible exact grd_p H) | (replace H := grd_k H) | (replace H := out_step H (by assumption)))); done) | rfl | ((repeat (first | exact grd_p H | replace H := grd_k H | replace H := out_step H (by assumption))); done) | ((repeat (first | exact grd_p H | (have hp := grd_p H; exact hp) | replace H := grd_k H | replace H := out_step H (by assumption) | (replace H := bind_some H; obtain ⟨_, _, H⟩ := H))); done) | (repeat (first | exact grd_p H | replace H := grd_k H | replace H := out_step H (by assumption)))))
    | (with_reducible exact True.intro)
    | ((conv => whnf); first
        | (with_reducible refine And.intro ?_ ?_)
        | (with_reducible exact True.intro)
        | ((with_reducible refine Ob.mk ?_); first | (with_reducible rfl) | (first | ((repeat (first | (with_reducible exact grd_p H) | (replace H := grd_k H) | (replace H := out_step H (by assumption)))); done) | rfl | ((repeat (first | exact grd_p H | replace H := grd_k H | replace H := out_step H (by assumption))); done) | ((repeat (first | exact grd_p H | (have hp := grd_p H; exact hp) | replace H := grd_k H | replace H := out_step H (by assumption) | (replace H := bind_some H; obtain ⟨_, _, H⟩ := H))); done) | (repeat (first | exact grd_p H | replace H := grd_k H | replace H := out_step H (by assumption)))))
        | ((with_reducible refine cutAt (id := 3) ?_); (repeat (first | replace H := grd_k H | replace H := out_step H (by assumption))); first | (replace H := bind_some H; obtain ⟨z, hz, H⟩ := H; refine CutC.mk (id := 3) ⟨sl [(0, (.v (.slice none 0 0))), (1, (.v (.int .i64 a1)))], []⟩ ?_ ?_; (replace H := hz)))
        | ((repeat (first | replace H := grd_k H | replace H := out_step H (by assumption))); have H := Option.some.inj H; subst H; with_reducible refine sub_auto ?_)
        | ((with_reducible refine fin_mk ?_); (repeat (first | replace H := grd_k H | replace H := out_step H (by assumption))); have H := Option.some.inj H; subst H))
    | constructor
  all_goals exact viewz _ _
def G39 : Env := G38.add 184 [true] slices_Grow___impl_Slot_impl_Slot__i1.S
theorem G39_ok : EnvOk Try.prog G39 := G38_ok.add ent_184 fun ar h r h1 ⟨a1, y, hy, e1, e2, e3, e4⟩ => by
  subst e3 e4; exact (slices_Grow___impl_Slot_impl_Slot__i1.spec a1 y hy).le e1 e2
attribute [local irreducible] slices_Grow___impl_Slot_impl_Slot__i1

noncomputable def slices_Concat___impl_Slot_impl_Slot__loop1 (a0 : (List (List Slot))) (v3 : Int) (v4 : Int) : Option (Lp (Int × Int) ((Int))) :=
  (cond (decide (v4 < (a0.length : Int))) (grd (0 ≤ v4 ∧ v4 < (a0.length : Int)) (cond (decide ((w64 (v3 + ((a0.getD v4.toNat []).length : Int))) < (0 : Int))) (grd (False) none) (some (.go ((w64 (v3 + ((a0.getD v4.toNat []).length : Int))), (w64 (v4 + (1 : Int)))))))) ((some (.out v3))))
noncomputable def slices_Concat___impl_Slot_impl_Slot__loop2 (a0 : (List (List Slot))) (v11 : Int) (v12 : (List Slot)) : Option (Lp (Int × (List Slot)) (((List Slot)))) :=
  (cond (decide (v11 < (a0.length : Int))) (grd (0 ≤ v11 ∧ v11 < (a0.length : Int)) (grd (v12.length + (a0.getD v11.toNat []).length ≤ 140737488355328 / 24 ∧ v12.length + (a0.getD v11.toNat []).length ≤ 140737488355328) (some (.go ((w64 (v11 + (1 : Int))), (v12 ++ (a0.getD v11.toNat []))))))) ((some (.out v12))))
noncomputable def slices_Concat___impl_Slot_impl_Slot_ (a0 : (List (List Slot))) : Option ((List Slot)) :=
  ((iter (fun s => slices_Concat___impl_Slot_impl_Slot__loop1 a0 s.1 s.2) ((0 : Int), (0 : Int))).bind (fun r5 => ((slices_Grow___impl_Slot_impl_Slot__i1 r5).bind (Sum.elim (fun y7 => ((iter (fun s => slices_Concat___impl_Slot_impl_Slot__loop2 a0 s.1 s.2) ((0 : Int), y7)).bind (fun r13 => (some r13)))) (fun _ => (grd (False) none))))))
def slices_Concat___impl_Slot_impl_Slot_.res (_ : (List (List Slot))) (_ : (List Slot)) : AV := (.own 0)
def slices_Concat___impl_Slot_impl_Slot_.out (_ : (List (List Slot))) (y : (List Slot)) : List (Option LB) := [some (.arr 41 ty_Slot y)]
def slices_Concat___impl_Slot_impl_Slot_.S (ar : List AV) (h : List (Option LB)) (r : AV) (h1 : List (Option LB)) : Prop := ∃ a0 y, slices_Concat___impl_Slot_impl_Slot_ a0 = some y ∧ leL ar [(.tree (.sl ty_Slot) a0)] ∧ leH h [] ∧ r = slices_Concat___impl_Slot_impl_Slot_.res a0 y ∧ h1 = slices_Concat___impl_Slot_impl_Slot_.out a0 y
theorem slices_Concat___impl_Slot_impl_Slot_.call {ar : List AV} {h : List (Option LB)} {a0 : (List (List Slot))} {y : (List Slot)} (H : slices_Concat___impl_Slot_impl_Slot_ a0 = some y) (h0 : leLk ar [(.tree (.sl ty_Slot) a0)] (leHk h [])) : slices_Concat___impl_Slot_impl_Slot_.S ar h (slices_Concat___impl_Slot_impl_Slot_.res a0 y) (slices_Concat___impl_Slot_impl_Slot_.out a0 y) := ⟨a0, y, H, (args_ok h0).1, (args_ok h0).2, rfl, rfl⟩
set_option maxHeartbeats 100000000 in
set_option maxRecDepth 100000 in
theorem slices_Concat___impl_Slot_impl_Slot_.spec (a0 : (List (List Slot))) (y : (List Slot)) (H : slices_Concat___impl_Slot_impl_Slot_ a0 = some y) : Spec Try.prog 172 [(.tree (.sl ty_Slot) a0)] [] (slices_Concat___impl_Slot_impl_Slot_.res a0 y) (slices_Concat___impl_Slot_impl_Slot_.out a0 y) := by
  refine spec_intro (G39_ok.at tok []) (ct := [(15, some [6])]) Try.func172 rfl (by kernel_rfl) (by kernel_rfl) rfl ?_
  repeat' first
    | ((with_reducible refine eqg ?_); exact rfl)
    | ((with_reducible refine KOb.mk ?_); kernel_rfl)
    | ((with_reducible intro h); (repeat (first | replace H := grd_k H | replace H := out_step H (by assumption))); first | replace H := cond_t h H | replace H := cond_f h H | exact absurd h (by decide) | skip)
    | ((with_reducible refine Ob.mk ?_); first | (with_reducible rfl) | (first | ((repeat (first | (with_reducible exact grd_p H) | (replace H := grd_k H) | (replace H := out_step H (by assumption)))); done) | rfl | ((repeat (first | exact grd_p H | replace H := grd_k H | replace H := out_step H (by assumption))); done) | ((repeat (first | exact grd_p H | (have hp := grd_p H; exact hp) | replace H := grd_k H | replace H := out_step H (by assumption) | (replace H := bind_some H; obtain ⟨_, _, H⟩ := H))); done) | (repeat (first | exact grd_p H | replace H := grd_k H | replace H := out_step H (by assumption)))))
    | (with_reducible exact True.intro)
    | ((conv => whnf); first
        | (with_reducible refine And.intro ?_ ?_)
        | (with_reducible exact True.intro)
        | ((with_reducible refine Ob.mk ?_); first | (with_reducible rfl) | (first | ((repeat (first | (with_reducible exact grd_p H) | (replace H := grd_k H) | (replace H := out_step H (by assumption)))); done) | rfl | ((repeat (first | exact grd_p H | replace H := grd_k H | replace H := out_step H (by assumption))); done) | ((repeat (first | exact grd_p H | (have hp := grd_p H; exact hp) | replace H := grd_k H | replace H := out_step H (by assumption) | (replace H := bind_some H; obtain ⟨_, _, H⟩ := H))); done) | (repeat (first | exact grd_p H | replace H := grd_k H | replace H := out_step H (by assumption)))))
        | ((with_reducible refine CallW.mk ?_); (repeat (first | replace H := grd_k H | replace H := out_step H (by assumption))); replace H := bind_some H; obtain ⟨y, hy, H⟩ := H; first | ((with_reducible have hz : slices_Grow___impl_Slot_impl_Slot__i1 _ = some y := hy); clear hz; rcases y with y | y <;> refine Exists.intro _ (Exists.intro _ ⟨slices_Grow___impl_Slot_impl_Slot__i1.call hy ?_, rfl, rfl, ?_⟩)))
        | ((repeat (first | replace H := grd_k H | replace H := out_step H (by assumption))); refine loop_iter (G39_ok.at tok []) (ct := [(15, some [6])]) (F := (fun s1 : Int × Int => ⟨sl [(0, (.tree (.sl ty_Slot) a0)), (3, (.v (.int .i64 s1.1))), (9, (.tree (.sl ty_Slot) a0)), (10, (.v (.int .i64 (a0.length : Int)))), (11, (.v (.int .i64 s1.2)))], []⟩)) (step := (fun s : Int × Int => slices_Concat___impl_Slot_impl_Slot__loop1 _ s.1 s.2)) _ H (by kernel_rfl) (sub_auto ?_) ?_; rotate_left; (intro s1 r v hr H); rotate_right)
        | ((repeat (first | replace H := grd_k H | replace H := out_step H (by assumption))); refine loop_iter (G39_ok.at tok []) (ct := [(15, some [6])]) (F := (fun s2 : Int × (List Slot) => ⟨sl [(6, (.own 0)), (25, (.tree (.sl ty_Slot) a0)), (26, (.v (.int .i64 (a0.length : Int)))), (27, (.v (.int .i64 s2.1)))], [some (.arr 41 ty_Slot s2.2)]⟩)) (step := (fun s : Int × (List Slot) => slices_Concat___impl_Slot_impl_Slot__loop2 _ s.1 s.2)) _ H (by kernel_rfl) (sub_auto ?_) ?_; rotate_left; (intro s2 r v hr H); rotate_right)
        | ((repeat (first | replace H := grd_k H | replace H := out_step H (by assumption))); refine again_step H (by assumption) (sub_auto ?_))
        | ((with_reducible refine fin_mk ?_); (repeat (first | replace H := grd_k H | replace H := out_step H (by assumption))); have H := Option.some.inj H; subst H)
        | (exact (grd_no H).elim))
    | constructor
  all_goals exact viewz _ _
def G40 : Env := G39.add 172 [] slices_Concat___impl_Slot_impl_Slot_.S
theorem G40_ok : EnvOk Try.prog G40 := G39_ok.add ent_172 fun ar h r h1 ⟨a0, y, hy, e1, e2, e3, e4⟩ => by
  subst e3 e4; exact (slices_Concat___impl_Slot_impl_Slot_.spec a0 y hy).le e1 e2
attribute [local irreducible] slices_Concat___impl_Slot_impl_Slot_

noncomputable def impl_Ropeway_stationOf (a0 : Ropeway) (a1 : Int) : Option (Int) :=
  (grd ((2 : Int) ≠ 0) ((some (w64 (Int.tdiv (w64 (a1 * (a0.2.1.length : Int))) (2 : Int))))))
def impl_Ropeway_stationOf.res (_ : Ropeway) (_ : Int) (y : Int) : AV := (.v (.int .i64 y))
def impl_Ropeway_stationOf.out (_ : Ropeway) (_ : Int) (_ : Int) : List (Option LB) := []
def impl_Ropeway_stationOf.S (ar : List AV) (h : List (Option LB)) (r : AV) (h1 : List (Option LB)) : Prop := ∃ a0 a1 y, impl_Ropeway_stationOf a0 a1 = some y ∧ leL ar [(.agg [(.v (.int .i64 a0.1)), (.tree ty_Slot a0.2.1), (.v (.int .i64 a0.2.2.1)), (.v (.int .i64 a0.2.2.2.1)), (.v (.int .i64 a0.2.2.2.2.1))]), (.v (.int .i64 a1))] ∧ leH h [] ∧ r = impl_Ropeway_stationOf.res a0 a1 y ∧ h1 = impl_Ropeway_stationOf.out a0 a1 y
theorem impl_Ropeway_stationOf.call {ar : List AV} {h : List (Option LB)} {a0 : Ropeway} {a1 : Int} {y : Int} (H : impl_Ropeway_stationOf a0 a1 = some y) (h0 : leLk ar [(.agg [(.v (.int .i64 a0.1)), (.tree ty_Slot a0.2.1), (.v (.int .i64 a0.2.2.1)), (.v (.int .i64 a0.2.2.2.1)), (.v (.int .i64 a0.2.2.2.2.1))]), (.v (.int .i64 a1))] (leHk h [])) : impl_Ropeway_stationOf.S ar h (impl_Ropeway_stationOf.res a0 a1 y) (impl_Ropeway_stationOf.out a0 a1 y) := ⟨a0, a1, y, H, (args_ok h0).1, (args_ok h0).2, rfl, rfl⟩
set_option maxHeartbeats 100000000 in
set_option maxRecDepth 100000 in
theorem impl_Ropeway_stationOf.spec (a0 : Ropeway) (a1 : Int) (y : Int) (H : impl_Ropeway_stationOf a0 a1 = some y) : Spec Try.prog 173 [(.agg [(.v (.int .i64 a0.1)), (.tree ty_Slot a0.2.1), (.v (.int .i64 a0.2.2.1)), (.v (.int .i64 a0.2.2.2.1)), (.v (.int .i64 a0.2.2.2.2.1))]), (.v (.int .i64 a1))] [] (impl_Ropeway_stationOf.res a0 a1 y) (impl_Ropeway_stationOf.out a0 a1 y) := by
  refine spec_intro (G40_ok.at tok []) (ct := []) Try.func173 rfl (by kernel_rfl) (by kernel_rfl) rfl ?_
  repeat' first
    | ((with_reducible refine eqg ?_); exact rfl)
    | ((with_reducible refine KOb.mk ?_); kernel_rfl)
    | ((with_reducible intro h); (repeat (first | replace H := grd_k H | replace H := out_step H (by assumption))); first | replace H := cond_t h H | replace H := cond_f h H | exact absurd h (by decide) | skip)
    | ((with_reducible refine Ob.mk ?_); first | (with_reducible rfl) | (first | ((repeat (first | (with_reducible exact grd_p H) | (replace H := grd_k H) | (replace H := out_step H (by assumption)))); done) | rfl | ((repeat (first | exact grd_p H | replace H := grd_k H | replace H := out_step H (by assumption))); done) | ((repeat (first | exact grd_p H | (have hp := grd_p H; exact hp) | replace H := grd_k H | replace H := out_step H (by assumption) | (replace H := bind_some H; obtain ⟨_, _, H⟩ := H))); done) | (repeat (first | exact grd_p H | replace H := grd_k H | replace H := out_step H (by assumption)))))
    | (with_reducible exact True.intro)
    | ((conv => whnf); first
        | (with_reducible refine And.intro ?_ ?_)
        | (with_reducible exact True.intro)
        | ((with_reducible refine Ob.mk ?_); first | (with_reducible rfl) | (first | ((repeat (first | (with_reducible exact grd_p H) | (replace H := grd_k H) | (replace H := out_step H (by assumption)))); done) | rfl | ((repeat (first | exact grd_p H | replace H := grd_k H | replace H := out_step H (by assumption))); done) | ((repeat (first | exact grd_p H | (have hp := grd_p H; exact hp) | replace H := grd_k H | replace H := out_step H (by assumption) | (replace H := bind_some H; obtain ⟨_, _, H⟩ := H))); done) | (repeat (first | exact grd_p H | replace H := grd_k H | replace H := out_step H (by assumption)))))
        | ((with_reducible refine fin_mk ?_); (repeat (first | replace H := grd_k H | replace H := out_step H (by assumption))); have H := Option.some.inj H; subst H))
    | constructor
def G41 : Env := G40.add 173 [] impl_Ropeway_stationOf.S
theorem G41_ok : EnvOk Try.prog G41 := G40_ok.add ent_173 fun ar h r h1 ⟨a0, a1, y, hy, e1, e2, e3, e4⟩ => by
  subst e3 e4; exact (impl_Ropeway_stationOf.spec a0 a1 y hy).le e1 e2
attribute [local irreducible] impl_Ropeway_stationOf

noncomputable def slices_IndexFunc___impl_Slot_impl_Slot__i3_loop1 (a0 : (List Slot)) (v4 : Int) : Option (Lp (Int) ((Int) ⊕ (Unit))) :=
  (cond (decide (v4 < (a0.length : Int))) (grd (0 ≤ v4 ∧ v4 < (a0.length : Int)) ((impl_Ropeway_act_1 ((a0.getD v4.toNat d_Slot).1, (a0.getD v4.toNat d_Slot).2.1, (a0.getD v4.toNat d_Slot).2.2.1, ())).bind fun y5 => (cond y5 ((some (.out (Sum.inl v4)))) (some (.go (w64 (v4 + (1 : Int)))))))) ((some (.out (Sum.inr ())))))
noncomputable def slices_IndexFunc___impl_Slot_impl_Slot__i3 (a0 : (List Slot)) : Option (Int) :=
  ((iter (fun s => slices_IndexFunc___impl_Slot_impl_Slot__i3_loop1 a0 s) (0 : Int)).bind (Sum.elim (fun r7 => (some r7)) (fun _ => (some ((-1) : Int)))))
def slices_IndexFunc___impl_Slot_impl_Slot__i3.res (_ : (List Slot)) (y : Int) : AV := (.v (.int .i64 y))
def slices_IndexFunc___impl_Slot_impl_Slot__i3.out (_ : (List Slot)) (_ : Int) : List (Option LB) := []
def slices_IndexFunc___impl_Slot_impl_Slot__i3.S (ar : List AV) (h : List (Option LB)) (r : AV) (h1 : List (Option LB)) : Prop := ∃ a0 y, slices_IndexFunc___impl_Slot_impl_Slot__i3 a0 = some y ∧ leL ar [(.tree ty_Slot a0), (.fn 171 [])] ∧ leH h [] ∧ r = slices_IndexFunc___impl_Slot_impl_Slot__i3.res a0 y ∧ h1 = slices_IndexFunc___impl_Slot_impl_Slot__i3.out a0 y
theorem slices_IndexFunc___impl_Slot_impl_Slot__i3.call {ar : List AV} {h : List (Option LB)} {a0 : (List Slot)} {y : Int} (H : slices_IndexFunc___impl_Slot_impl_Slot__i3 a0 = some y) (h0 : leLk ar [(.tree ty_Slot a0), (.fn 171 [])] (leHk h [])) : slices_IndexFunc___impl_Slot_impl_Slot__i3.S ar h (slices_IndexFunc___impl_Slot_impl_Slot__i3.res a0 y) (slices_IndexFunc___impl_Slot_impl_Slot__i3.out a0 y) := ⟨a0, y, H, (args_ok h0).1, (args_ok h0).2, rfl, rfl⟩
set_option maxHeartbeats 100000000 in
set_option maxRecDepth 100000 in
theorem slices_IndexFunc___impl_Slot_impl_Slot__i3.spec (a0 : (List Slot)) (y : Int) (H : slices_IndexFunc___impl_Slot_impl_Slot__i3 a0 = some y) : Spec Try.prog 150 [(.tree ty_Slot a0), (.fn 171 [])] [] (slices_IndexFunc___impl_Slot_impl_Slot__i3.res a0 y) (slices_IndexFunc___impl_Slot_impl_Slot__i3.out a0 y) := by
  refine spec_intro (G41_ok.at tok []) (ct := []) Try.func150 rfl (by kernel_rfl) (by kernel_rfl) rfl ?_
  repeat' first
    | ((with_reducible refine eqg ?_); exact rfl)
    | ((with_reducible refine KOb.mk ?_); kernel_rfl)
    | ((with_reducible intro h); (repeat (first | replace H := grd_k H | replace H := out_step H (by assumption))); first | replace H := cond_t h H | replace H := cond_f h H | exact absurd h (by decide) | skip)
    | ((with_reducible refine Ob.mk ?_); first | (with_reducible rfl) | (first | ((repeat (first | (with_reducible exact grd_p H) | (replace H := grd_k H) | (replace H := out_step H (by assumption)))); done) | rfl | ((repeat (first | exact grd_p H | replace H := grd_k H | replace H := out_step H (by assumption))); done) | ((repeat (first | exact grd_p H | (have hp := grd_p H; exact hp) | replace H := grd_k H | replace H := out_step H (by assumption) | (replace H := bind_some H; obtain ⟨_, _, H⟩ := H))); done) | (repeat (first | exact grd_p H | replace H := grd_k H | replace H := out_step H (by assumption)))))
    | (with_reducible exact True.intro)
    | ((conv => whnf); first
        | (with_reducible refine And.intro ?_ ?_)
        | (with_reducible exact True.intro)
        | ((with_reducible refine Ob.mk ?_); first | (with_reducible rfl) | (first | ((repeat (first | (with_reducible exact grd_p H) | (replace H := grd_k H) | (replace H := out_step H (by assumption)))); done) | rfl | ((repeat (first | exact grd_p H | replace H := grd_k H | replace H := out_step H (by assumption))); done) | ((repeat (first | exact grd_p H | (have hp := grd_p H; exact hp) | replace H := grd_k H | replace H := out_step H (by assumption) | (replace H := bind_some H; obtain ⟨_, _, H⟩ := H))); done) | (repeat (first | exact grd_p H | replace H := grd_k H | replace H := out_step H (by assumption)))))
        | ((with_reducible refine CallW.mk ?_); (repeat (first | replace H := grd_k H | replace H := out_step H (by assumption))); replace H := bind_some H; obtain ⟨y, hy, H⟩ := H; first | ((with_reducible have hz : impl_Ropeway_act_1 _ = some y := hy); clear hz; refine Exists.intro _ (Exists.intro _ ⟨impl_Ropeway_act_1.call hy ?_, rfl, rfl, ?_⟩)))
        | ((repeat (first | replace H := grd_k H | replace H := out_step H (by assumption))); refine loop_iter (G41_ok.at tok []) (ct := []) (F := (fun s1 : Int => ⟨sl [(0, (.tree ty_Slot a0)), (1, (.fn 171 [])), (7, (.v (.int .i64 (a0.length : Int)))), (8, (.v (.int .i64 s1)))], []⟩)) (step := (fun s : Int => slices_IndexFunc___impl_Slot_impl_Slot__i3_loop1 _ s)) _ H (by kernel_rfl) (sub_auto ?_) ?_; rotate_left; (intro s1 r v hr H); rotate_right)
        | ((repeat (first | replace H := grd_k H | replace H := out_step H (by assumption))); refine again_step H (by assumption) (sub_auto ?_))
        | ((with_reducible refine fin_mk ?_); (repeat (first | replace H := grd_k H | replace H := out_step H (by assumption))); have H := Option.some.inj H; subst H))
    | constructor
  all_goals exact viewz _ _
def G42 : Env := G41.addOr 150 [] slices_IndexFunc___impl_Slot_impl_Slot__i3.S
theorem G42_ok : EnvOk Try.prog G42 := G41_ok.addOr ent_150 fun ar h r h1 ⟨a0, y, hy, e1, e2, e3, e4⟩ => by
  subst e3 e4; exact (slices_IndexFunc___impl_Slot_impl_Slot__i3.spec a0 y hy).le e1 e2
attribute [local irreducible] slices_IndexFunc___impl_Slot_impl_Slot__i3

end Go.Proofs.Ytpopcdnjnligiaa
