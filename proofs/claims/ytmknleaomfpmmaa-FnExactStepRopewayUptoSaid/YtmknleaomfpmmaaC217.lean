/-
  Contracts, printed by a program.
-/
import Derived.Test.YtmknleaomfpmmaaC216
namespace Go.Proofs.Ytmknleaomfpmmaa
open Go.RowKit
attribute [local irreducible] Ob loopwp Sub Spec Fin Again CallW CutC KOb iter joinx outm

attribute [local irreducible] laws_szSlotS laws_szRopeway laws_toSlot laws_toSlotS laws_toRopeway laws_toRopeStep spec_l1In spec_l25Slot spec_l25Good spec_l25Step spec_l25Own spec_l25Open spec_l25Find spec_l25Rope spec_l25Station spec_l25People spec_l25Make spec_StepRopeway impl_within impl_Ropeway_isStation impl_IsRopeway_1_i1 slices_IndexFunc___impl_Slot_impl_Slot__i1 slices_ContainsFunc___impl_Slot_impl_Slot__i1 impl_IsRopeway

noncomputable def slices_Clone___impl_Slot_impl_Slot_ (a0 : (List Slot)) : Option ((List Slot)) :=
  (grd (0 < a0.length) (grd ((([] : List Slot).length + a0.length) * 24 ≤ 140737488355328 ∧ ([] : List Slot).length + a0.length ≤ 140737488355328) ((some (([] : List Slot) ++ a0)))))
def slices_Clone___impl_Slot_impl_Slot_.res (_ : (List Slot)) (_ : (List Slot)) : AV := (.own 0)
def slices_Clone___impl_Slot_impl_Slot_.out (_ : (List Slot)) (y : (List Slot)) : List (Option LB) := [some (.arr 100 ty_Slot y)]
def slices_Clone___impl_Slot_impl_Slot_.S (ar : List AV) (h : List (Option LB)) (r : AV) (h1 : List (Option LB)) : Prop := ∃ a0 y, slices_Clone___impl_Slot_impl_Slot_ a0 = some y ∧ leL ar [(.tree ty_Slot a0)] ∧ leH h [] ∧ r = slices_Clone___impl_Slot_impl_Slot_.res a0 y ∧ h1 = slices_Clone___impl_Slot_impl_Slot_.out a0 y
theorem slices_Clone___impl_Slot_impl_Slot_.call {ar : List AV} {h : List (Option LB)} {a0 : (List Slot)} {y : (List Slot)} (H : slices_Clone___impl_Slot_impl_Slot_ a0 = some y) (h0 : leLk ar [(.tree ty_Slot a0)] (leHk h [])) : slices_Clone___impl_Slot_impl_Slot_.S ar h (slices_Clone___impl_Slot_impl_Slot_.res a0 y) (slices_Clone___impl_Slot_impl_Slot_.out a0 y) := ⟨a0, y, H, (args_ok h0).1, (args_ok h0).2, rfl, rfl⟩
set_option maxHeartbeats 100000000 in
set_option maxRecDepth 100000 in
theorem slices_Clone___impl_Slot_impl_Slot_.spec (a0 : (List Slot)) (y : (List Slot)) (H : slices_Clone___impl_Slot_impl_Slot_ a0 = some y) : Spec Try.prog 184 [(.tree ty_Slot a0)] [] (slices_Clone___impl_Slot_impl_Slot_.res a0 y) (slices_Clone___impl_Slot_impl_Slot_.out a0 y) := by
  refine spec_intro (G24_ok.at tok []) (ct := []) Try.func184 rfl (by kernel_rfl) (by kernel_rfl) rfl ?_
  repeat' first
    | ((with_reducible refine eqg ?_); exact rfl)
    | ((with_reducible refine KOb.mk ?_); kernel_rfl)
    | ((with_reducible intro h); (repeat (first | replace H := grd_k H | replace H := out_step H (by assumption))); first | replace H := cond_t h H | replace H := cond_f h H | exact absurd h (by decide) | skip)
    | ((with_reducible refine Ob.mk ?_); first | (with_reducible rfl) | (first | ((repeat (first | (with_reducible exact grd_p H) | (replace H := grd_k H) | (replace H := out_step H (by assumption)))); done) | rfl | ((repeat (first | exact grd_p H | replace H := grd_k H | replace H := out_step H (by assumption))); done) | ((repeat (first | exact grd_p H | (have hp := grd_p H; exact hp) | replace H := grd_k H | replace H := out_step H (by assumption) | (replace H := bind_some H; obtain ⟨_, _, H⟩ := H))); done) | (repeat (first | exact grd_p H | replace H := grd_k H | replace H := out_step H (by assumption)))))
    | (with_reducible exact True.intro)
    | constructor
    | ((conv => whnf); first
        | ((with_reducible refine Ob.mk ?_); first | (with_reducible rfl) | (first | ((repeat (first | (with_reducible exact grd_p H) | (replace H := grd_k H) | (replace H := out_step H (by assumption)))); done) | rfl | ((repeat (first | exact grd_p H | replace H := grd_k H | replace H := out_step H (by assumption))); done) | ((repeat (first | exact grd_p H | (have hp := grd_p H; exact hp) | replace H := grd_k H | replace H := out_step H (by assumption) | (replace H := bind_some H; obtain ⟨_, _, H⟩ := H))); done) | (repeat (first | exact grd_p H | replace H := grd_k H | replace H := out_step H (by assumption)))))
        | ((with_reducible refine fin_mk ?_); (repeat (first | replace H := grd_k H | replace H := out_step H (by assumption))); have H := Option.some.inj H; subst H))
  all_goals exact viewz _ _
def G25 : Env := G24.add 184 [] slices_Clone___impl_Slot_impl_Slot_.S
theorem G25_ok : EnvOk Try.prog G25 := G24_ok.add ent_184 fun ar h r h1 ⟨a0, y, hy, e1, e2, e3, e4⟩ => by
  subst e3 e4; exact (slices_Clone___impl_Slot_impl_Slot_.spec a0 y hy).le e1 e2
attribute [local irreducible] slices_Clone___impl_Slot_impl_Slot_

noncomputable def impl_copyRopeway (a0 : Ropeway) : Option (Ropeway) :=
  ((slices_Clone___impl_Slot_impl_Slot_ a0.2.1).bind fun y1 => (some (a0.1, y1, a0.2.2.1, a0.2.2.2.1, a0.2.2.2.2.1, ())))
def impl_copyRopeway.res (_ : Ropeway) (y : Ropeway) : AV := (.agg [(.v (.int .i64 y.1)), (.own 0), (.v (.int .i64 y.2.2.1)), (.v (.int .i64 y.2.2.2.1)), (.v (.int .i64 y.2.2.2.2.1))])
def impl_copyRopeway.out (_ : Ropeway) (y : Ropeway) : List (Option LB) := [some (.arr 100 ty_Slot y.2.1)]
def impl_copyRopeway.S (ar : List AV) (h : List (Option LB)) (r : AV) (h1 : List (Option LB)) : Prop := ∃ a0 y, impl_copyRopeway a0 = some y ∧ leL ar [(.agg [(.v (.int .i64 a0.1)), (.tree ty_Slot a0.2.1), (.v (.int .i64 a0.2.2.1)), (.v (.int .i64 a0.2.2.2.1)), (.v (.int .i64 a0.2.2.2.2.1))])] ∧ leH h [] ∧ r = impl_copyRopeway.res a0 y ∧ h1 = impl_copyRopeway.out a0 y
theorem impl_copyRopeway.call {ar : List AV} {h : List (Option LB)} {a0 : Ropeway} {y : Ropeway} (H : impl_copyRopeway a0 = some y) (h0 : leLk ar [(.agg [(.v (.int .i64 a0.1)), (.tree ty_Slot a0.2.1), (.v (.int .i64 a0.2.2.1)), (.v (.int .i64 a0.2.2.2.1)), (.v (.int .i64 a0.2.2.2.2.1))])] (leHk h [])) : impl_copyRopeway.S ar h (impl_copyRopeway.res a0 y) (impl_copyRopeway.out a0 y) := ⟨a0, y, H, (args_ok h0).1, (args_ok h0).2, rfl, rfl⟩
set_option maxHeartbeats 100000000 in
set_option maxRecDepth 100000 in
theorem impl_copyRopeway.spec (a0 : Ropeway) (y : Ropeway) (H : impl_copyRopeway a0 = some y) : Spec Try.prog 152 [(.agg [(.v (.int .i64 a0.1)), (.tree ty_Slot a0.2.1), (.v (.int .i64 a0.2.2.1)), (.v (.int .i64 a0.2.2.2.1)), (.v (.int .i64 a0.2.2.2.2.1))])] [] (impl_copyRopeway.res a0 y) (impl_copyRopeway.out a0 y) := by
  refine spec_intro (G25_ok.at tok []) (ct := []) Try.func152 rfl (by kernel_rfl) (by kernel_rfl) rfl ?_
  repeat' first
    | ((with_reducible refine eqg ?_); exact rfl)
    | ((with_reducible refine KOb.mk ?_); kernel_rfl)
    | ((with_reducible intro h); (repeat (first | replace H := grd_k H | replace H := out_step H (by assumption))); first | replace H := cond_t h H | replace H := cond_f h H | exact absurd h (by decide) | skip)
    | ((with_reducible refine Ob.mk ?_); first | (with_reducible rfl) | (first | ((repeat (first | (with_reducible exact grd_p H) | (replace H := grd_k H) | (replace H := out_step H (by assumption)))); done) | rfl | ((repeat (first | exact grd_p H | replace H := grd_k H | replace H := out_step H (by assumption))); done) | ((repeat (first | exact grd_p H | (have hp := grd_p H; exact hp) | replace H := grd_k H | replace H := out_step H (by assumption) | (replace H := bind_some H; obtain ⟨_, _, H⟩ := H))); done) | (repeat (first | exact grd_p H | replace H := grd_k H | replace H := out_step H (by assumption)))))
    | (with_reducible exact True.intro)
    | constructor
    | ((conv => whnf); first
        | ((with_reducible refine Ob.mk ?_); first | (with_reducible rfl) | (first | ((repeat (first | (with_reducible exact grd_p H) | (replace H := grd_k H) | (replace H := out_step H (by assumption)))); done) | rfl | ((repeat (first | exact grd_p H | replace H := grd_k H | replace H := out_step H (by assumption))); done) | ((repeat (first | exact grd_p H | (have hp := grd_p H; exact hp) | replace H := grd_k H | replace H := out_step H (by assumption) | (replace H := bind_some H; obtain ⟨_, _, H⟩ := H))); done) | (repeat (first | exact grd_p H | replace H := grd_k H | replace H := out_step H (by assumption)))))
        | ((with_reducible refine CallW.mk ?_); (repeat (first | replace H := grd_k H | replace H := out_step H (by assumption))); replace H := bind_some H; obtain ⟨y, hy, H⟩ := H; first | ((with_reducible have hz : slices_Clone___impl_Slot_impl_Slot_ _ = some y := hy); clear hz; refine Exists.intro _ (Exists.intro _ ⟨slices_Clone___impl_Slot_impl_Slot_.call hy ?_, rfl, rfl, ?_⟩)))
        | ((with_reducible refine fin_mk ?_); (repeat (first | replace H := grd_k H | replace H := out_step H (by assumption))); have H := Option.some.inj H; subst H))
def G26 : Env := G25.add 152 [] impl_copyRopeway.S
theorem G26_ok : EnvOk Try.prog G26 := G25_ok.add ent_152 fun ar h r h1 ⟨a0, y, hy, e1, e2, e3, e4⟩ => by
  subst e3 e4; exact (impl_copyRopeway.spec a0 y hy).le e1 e2
attribute [local irreducible] impl_copyRopeway

noncomputable def impl_Ropeway_act_1 (a0 : Slot) : Option (Bool) :=
  (some a0.2.1)
def impl_Ropeway_act_1.res (_ : Slot) (y : Bool) : AV := (.bl y)
def impl_Ropeway_act_1.out (_ : Slot) (_ : Bool) : List (Option LB) := []
def impl_Ropeway_act_1.S (ar : List AV) (h : List (Option LB)) (r : AV) (h1 : List (Option LB)) : Prop := ∃ a0 y, impl_Ropeway_act_1 a0 = some y ∧ leL ar [(.agg [(.v (.int .i64 a0.1)), (.bl a0.2.1), (.v (.int .i64 a0.2.2.1))])] ∧ leH h [] ∧ r = impl_Ropeway_act_1.res a0 y ∧ h1 = impl_Ropeway_act_1.out a0 y
theorem impl_Ropeway_act_1.call {ar : List AV} {h : List (Option LB)} {a0 : Slot} {y : Bool} (H : impl_Ropeway_act_1 a0 = some y) (h0 : leLk ar [(.agg [(.v (.int .i64 a0.1)), (.bl a0.2.1), (.v (.int .i64 a0.2.2.1))])] (leHk h [])) : impl_Ropeway_act_1.S ar h (impl_Ropeway_act_1.res a0 y) (impl_Ropeway_act_1.out a0 y) := ⟨a0, y, H, (args_ok h0).1, (args_ok h0).2, rfl, rfl⟩
set_option maxHeartbeats 100000000 in
set_option maxRecDepth 100000 in
theorem impl_Ropeway_act_1.spec (a0 : Slot) (y : Bool) (H : impl_Ropeway_act_1 a0 = some y) : Spec Try.prog 192 [(.agg [(.v (.int .i64 a0.1)), (.bl a0.2.1), (.v (.int .i64 a0.2.2.1))])] [] (impl_Ropeway_act_1.res a0 y) (impl_Ropeway_act_1.out a0 y) := by
  refine spec_intro (G26_ok.at tok []) (ct := []) Try.func192 rfl (by kernel_rfl) (by kernel_rfl) rfl ?_
  repeat' first
    | ((with_reducible refine eqg ?_); exact rfl)
    | ((with_reducible refine KOb.mk ?_); kernel_rfl)
    | ((with_reducible intro h); (repeat (first | replace H := grd_k H | replace H := out_step H (by assumption))); first | replace H := cond_t h H | replace H := cond_f h H | exact absurd h (by decide) | skip)
    | ((with_reducible refine Ob.mk ?_); first | (with_reducible rfl) | (first | ((repeat (first | (with_reducible exact grd_p H) | (replace H := grd_k H) | (replace H := out_step H (by assumption)))); done) | rfl | ((repeat (first | exact grd_p H | replace H := grd_k H | replace H := out_step H (by assumption))); done) | ((repeat (first | exact grd_p H | (have hp := grd_p H; exact hp) | replace H := grd_k H | replace H := out_step H (by assumption) | (replace H := bind_some H; obtain ⟨_, _, H⟩ := H))); done) | (repeat (first | exact grd_p H | replace H := grd_k H | replace H := out_step H (by assumption)))))
    | (with_reducible exact True.intro)
    | constructor
    | ((conv => whnf); first
        | ((with_reducible refine Ob.mk ?_); first | (with_reducible rfl) | (first | ((repeat (first | (with_reducible exact grd_p H) | (replace H := grd_k H) | (replace H := out_step H (by assumption)))); done) | rfl | ((repeat (first | exact grd_p H | replace H := grd_k H | replace H := out_step H (by assumption))); done) | ((repeat (first | exact grd_p H | (have hp := grd_p H; exact hp) | replace H := grd_k H | replace H := out_step H (by assumption) | (replace H := bind_some H; obtain ⟨_, _, H⟩ := H))); done) | (repeat (first | exact grd_p H | replace H := grd_k H | replace H := out_step H (by assumption)))))
        | ((with_reducible refine fin_mk ?_); (repeat (first | replace H := grd_k H | replace H := out_step H (by assumption))); have H := Option.some.inj H; subst H))
def G27 : Env := G26.add 192 [] impl_Ropeway_act_1.S
theorem G27_ok : EnvOk Try.prog G27 := G26_ok.add ent_192 fun ar h r h1 ⟨a0, y, hy, e1, e2, e3, e4⟩ => by
  subst e3 e4; exact (impl_Ropeway_act_1.spec a0 y hy).le e1 e2
attribute [local irreducible] impl_Ropeway_act_1

noncomputable def slices_Grow___impl_Slot_impl_Slot__i1 (a1 : Int) : Option (((List Slot)) ⊕ (Unit)) :=
  ((cond (decide (a1 < (0 : Int))) (grd (False) none) ((some ()))).bind fun _ => (cond (decide ((0 : Int) < (w64 (a1 - (w64 ((0 : Int) - (0 : Int))))))) (grd (0 ≤ (0 : Int) ∧ (0 : Int) ≤ (0 : Int) ∧ (0 : Int) ≤ (0 : Int)) (grd (0 < (w64 (a1 - (w64 ((0 : Int) - (0 : Int))))) ∧ (24 : Int) * (w64 (a1 - (w64 ((0 : Int) - (0 : Int))))) ≤ 140737488355328 ∧ (w64 (a1 - (w64 ((0 : Int) - (0 : Int))))) ≤ 140737488355328) (grd (0 ≤ (0 : Int) ∧ (0 : Int) ≤ (0 : Int) ∧ (0 : Int) ≤ ((List.replicate (w64 (a1 - (w64 ((0 : Int) - (0 : Int))))).toNat ((0 : Int), false, (0 : Int), ())).length : Int)) ((some (Sum.inl ((List.replicate (w64 (a1 - (w64 ((0 : Int) - (0 : Int))))).toNat ((0 : Int), false, (0 : Int), ())).take (0 : Int).toNat))))))) ((some (Sum.inr ())))))
def slices_Grow___impl_Slot_impl_Slot__i1.res (_ : Int) (y : ((List Slot)) ⊕ (Unit)) : AV := match y with
  | (.inl y) => (.own 0)
  | (.inr y) => (.v (.slice none 0 0))
def slices_Grow___impl_Slot_impl_Slot__i1.out (_ : Int) (y : ((List Slot)) ⊕ (Unit)) : List (Option LB) := match y with
  | (.inl y) => [some (.arr 100 ty_Slot y)]
  | (.inr y) => []
def slices_Grow___impl_Slot_impl_Slot__i1.S (ar : List AV) (h : List (Option LB)) (r : AV) (h1 : List (Option LB)) : Prop := ∃ a1 y, slices_Grow___impl_Slot_impl_Slot__i1 a1 = some y ∧ leL ar [(.v (.slice none 0 0)), (.v (.int .i64 a1))] ∧ leH h [] ∧ r = slices_Grow___impl_Slot_impl_Slot__i1.res a1 y ∧ h1 = slices_Grow___impl_Slot_impl_Slot__i1.out a1 y
theorem slices_Grow___impl_Slot_impl_Slot__i1.call {ar : List AV} {h : List (Option LB)} {a1 : Int} {y : ((List Slot)) ⊕ (Unit)} (H : slices_Grow___impl_Slot_impl_Slot__i1 a1 = some y) (h0 : leLk ar [(.v (.slice none 0 0)), (.v (.int .i64 a1))] (leHk h [])) : slices_Grow___impl_Slot_impl_Slot__i1.S ar h (slices_Grow___impl_Slot_impl_Slot__i1.res a1 y) (slices_Grow___impl_Slot_impl_Slot__i1.out a1 y) := ⟨a1, y, H, (args_ok h0).1, (args_ok h0).2, rfl, rfl⟩
set_option maxHeartbeats 100000000 in
set_option maxRecDepth 100000 in
theorem slices_Grow___impl_Slot_impl_Slot__i1.spec (a1 : Int) (y : ((List Slot)) ⊕ (Unit)) (H : slices_Grow___impl_Slot_impl_Slot__i1 a1 = some y) : Spec Try.prog 207 [(.v (.slice none 0 0)), (.v (.int .i64 a1))] [] (slices_Grow___impl_Slot_impl_Slot__i1.res a1 y) (slices_Grow___impl_Slot_impl_Slot__i1.out a1 y) := by
  have hlen : Nat.ble ([] : List (Option LB)).length (slices_Grow___impl_Slot_impl_Slot__i1.out a1 y).length = true := by
    rcases y with y | y <;> rfl
  refine spec_intro (G27_ok.at tok [25]) (ct := [(3, none), (6, some [0])]) Try.func207 rfl (by kernel_rfl) (by kernel_rfl) hlen ?_
  repeat' first
    | ((with_reducible refine eqg ?_); exact rfl)
    | ((with_reducible refine KOb.mk ?_); kernel_rfl)
    | ((with_reducible intro h); (repeat (first | replace H := grd_k H | replace H := out_step H (by assumption))); first | replace H := cond_t h H | replace H := cond_f h H | exact absurd h (by decide) | skip)
    | ((with_reducible refine Ob.mk ?_); first | (with_reducible rfl) | (first | ((repeat (first | (with_reducible exact grd_p H) | (replace H := grd_k H) | (replace H := out_step H (by assumption)))); done) | rfl | ((repeat (first | exact grd_p H | replace H := grd_k H | replace H := out_step H (by assumption))); done) | ((repeat (first | exact grd_p H | (have hp := grd_p H; exact hp) | replace H := grd_k H | replace H := out_step H (by assumption) | (replace H := bind_some H; obtain ⟨_, _, H⟩ := H))); done) | (repeat (first | exact grd_p H | replace H := grd_k H | replace H := out_step H (by assumption)))))
    | (with_reducible exact True.intro)
    | constructor
    | ((conv => whnf); first
        | ((with_reducible refine Ob.mk ?_); first | (with_reducible rfl) | (first | ((repeat (first | (with_reducible exact grd_p H) | (replace H := grd_k H) | (replace H := out_step H (by assumption)))); done) | rfl | ((repeat (first | exact grd_p H | replace H := grd_k H | replace H := out_step H (by assumption))); done) | ((repeat (first | exact grd_p H | (have hp := grd_p H; exact hp) | replace H := grd_k H | replace H := out_step H (by assumption) | (replace H := bind_some H; obtain ⟨_, _, H⟩ := H))); done) | (repeat (first | exact grd_p H | replace H := grd_k H | replace H := out_step H (by assumption)))))
        | ((with_reducible refine cutAt (id := 3) ?_); (repeat (first | replace H := grd_k H | replace H := out_step H (by assumption))); first | (replace H := bind_some H; obtain ⟨z, hz, H⟩ := H; refine CutC.mk (id := 3) ⟨sl [(0, (.v (.slice none 0 0))), (1, (.v (.int .i64 a1)))], []⟩ ?_ ?_; (replace H := hz)))
        | ((repeat (first | replace H := grd_k H | replace H := out_step H (by assumption))); have H := Option.some.inj H; subst H; with_reducible refine sub_auto ?_)
        | ((with_reducible refine fin_mk ?_); (repeat (first | replace H := grd_k H | replace H := out_step H (by assumption))); have H := Option.some.inj H; subst H))
  all_goals exact viewz _ _
def G28 : Env := G27.add 207 [true] slices_Grow___impl_Slot_impl_Slot__i1.S
theorem G28_ok : EnvOk Try.prog G28 := G27_ok.add ent_207 fun ar h r h1 ⟨a1, y, hy, e1, e2, e3, e4⟩ => by
  subst e3 e4; exact (slices_Grow___impl_Slot_impl_Slot__i1.spec a1 y hy).le e1 e2
attribute [local irreducible] slices_Grow___impl_Slot_impl_Slot__i1

end Go.Proofs.Ytmknleaomfpmmaa
