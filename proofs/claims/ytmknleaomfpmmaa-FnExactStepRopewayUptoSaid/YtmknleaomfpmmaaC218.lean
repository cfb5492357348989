/-
  Contracts, printed by a program.
-/
import Derived.Test.YtmknleaomfpmmaaC217
namespace Go.Proofs.Ytmknleaomfpmmaa
open Go.RowKit
attribute [local irreducible] Ob loopwp Sub Spec Fin Again CallW CutC KOb iter joinx outm

attribute [local irreducible] laws_szSlotS laws_szRopeway laws_toSlot laws_toSlotS laws_toRopeway laws_toRopeStep spec_l1In spec_l25Slot spec_l25Good spec_l25Step spec_l25Own spec_l25Open spec_l25Find spec_l25Rope spec_l25Station spec_l25People spec_l25Make spec_StepRopeway impl_within impl_Ropeway_isStation impl_IsRopeway_1_i1 slices_IndexFunc___impl_Slot_impl_Slot__i1 slices_ContainsFunc___impl_Slot_impl_Slot__i1 impl_IsRopeway slices_Clone___impl_Slot_impl_Slot_ impl_copyRopeway impl_Ropeway_act_1 slices_Grow___impl_Slot_impl_Slot__i1

noncomputable def slices_Concat___impl_Slot_impl_Slot__loop1 (a0 : (List (List Slot))) (v3 : Int) (v4 : Int) : Option (Lp (Int × Int) ((Int))) :=
  (cond (decide (v4 < (a0.length : Int))) (grd (0 ≤ v4 ∧ v4 < (a0.length : Int)) (cond (decide ((w64 (v3 + ((a0.getD v4.toNat []).length : Int))) < (0 : Int))) (grd (False) none) (some (.go ((w64 (v3 + ((a0.getD v4.toNat []).length : Int))), (w64 (v4 + (1 : Int)))))))) ((some (.out v3))))
noncomputable def slices_Concat___impl_Slot_impl_Slot__loop2 (a0 : (List (List Slot))) (v11 : Int) (v12 : (List Slot)) : Option (Lp (Int × (List Slot)) (((List Slot)))) :=
  (cond (decide (v11 < (a0.length : Int))) (grd (0 ≤ v11 ∧ v11 < (a0.length : Int)) (grd ((v12.length + (a0.getD v11.toNat []).length) * 24 ≤ 140737488355328 ∧ v12.length + (a0.getD v11.toNat []).length ≤ 140737488355328) (some (.go ((w64 (v11 + (1 : Int))), (v12 ++ (a0.getD v11.toNat []))))))) ((some (.out v12))))
noncomputable def slices_Concat___impl_Slot_impl_Slot_ (a0 : (List (List Slot))) : Option ((List Slot)) :=
  ((iter (fun s => slices_Concat___impl_Slot_impl_Slot__loop1 a0 s.1 s.2) ((0 : Int), (0 : Int))).bind (fun r5 => ((slices_Grow___impl_Slot_impl_Slot__i1 r5).bind (Sum.elim (fun y7 => ((iter (fun s => slices_Concat___impl_Slot_impl_Slot__loop2 a0 s.1 s.2) ((0 : Int), y7)).bind (fun r13 => (some r13)))) (fun _ => (grd (False) none))))))
def slices_Concat___impl_Slot_impl_Slot_.res (_ : (List (List Slot))) (_ : (List Slot)) : AV := (.own 0)
def slices_Concat___impl_Slot_impl_Slot_.out (_ : (List (List Slot))) (y : (List Slot)) : List (Option LB) := [some (.arr 100 ty_Slot y)]
def slices_Concat___impl_Slot_impl_Slot_.S (ar : List AV) (h : List (Option LB)) (r : AV) (h1 : List (Option LB)) : Prop := ∃ a0 y, slices_Concat___impl_Slot_impl_Slot_ a0 = some y ∧ leL ar [(.tree (.sl ty_Slot) a0)] ∧ leH h [] ∧ r = slices_Concat___impl_Slot_impl_Slot_.res a0 y ∧ h1 = slices_Concat___impl_Slot_impl_Slot_.out a0 y
theorem slices_Concat___impl_Slot_impl_Slot_.call {ar : List AV} {h : List (Option LB)} {a0 : (List (List Slot))} {y : (List Slot)} (H : slices_Concat___impl_Slot_impl_Slot_ a0 = some y) (h0 : leLk ar [(.tree (.sl ty_Slot) a0)] (leHk h [])) : slices_Concat___impl_Slot_impl_Slot_.S ar h (slices_Concat___impl_Slot_impl_Slot_.res a0 y) (slices_Concat___impl_Slot_impl_Slot_.out a0 y) := ⟨a0, y, H, (args_ok h0).1, (args_ok h0).2, rfl, rfl⟩
set_option maxHeartbeats 100000000 in
set_option maxRecDepth 100000 in
theorem slices_Concat___impl_Slot_impl_Slot_.spec (a0 : (List (List Slot))) (y : (List Slot)) (H : slices_Concat___impl_Slot_impl_Slot_ a0 = some y) : Spec Try.prog 193 [(.tree (.sl ty_Slot) a0)] [] (slices_Concat___impl_Slot_impl_Slot_.res a0 y) (slices_Concat___impl_Slot_impl_Slot_.out a0 y) := by
  refine spec_intro (G28_ok.at tok []) (ct := [(15, some [6])]) Try.func193 rfl (by kernel_rfl) (by kernel_rfl) rfl ?_
  repeat' first
    | ((with_reducible refine eqg ?_); exact rfl)
    | ((with_reducible refine KOb.mk ?_); kernel_rfl)
    | ((with_reducible intro h); (repeat (first | replace H := grd_k H | replace H := out_step H (by assumption))); first | replace H := cond_t h H | replace H := cond_f h H | exact absurd h (by decide) | skip)
    | ((with_reducible refine Ob.mk ?_); first | (with_reducible rfl) | (first | ((repeat (first | (with_reducible exact grd_p H) | (replace H := grd_k H) | (replace H := out_step H (by assumption)))); done) | rfl | ((repeat (first | exact grd_p H | replace H := grd_k H | replace H := out_step H (by assumption))); done) | ((repeat (first | exact grd_p H | (have hp := grd_p H; exact hp) | replace H := grd_k H | replace H := out_step H (by assumption) | (replace H := bind_some H; obtain ⟨_, _, H⟩ := H))); done) | (repeat (first | exact grd_p H | replace H := grd_k H | replace H := out_step H (by assumption)))))
    | (with_reducible exact True.intro)
    | constructor
    | ((conv => whnf); first
        | ((with_reducible refine Ob.mk ?_); first | (with_reducible rfl) | (first | ((repeat (first | (with_reducible exact grd_p H) | (replace H := grd_k H) | (replace H := out_step H (by assumption)))); done) | rfl | ((repeat (first | exact grd_p H | replace H := grd_k H | replace H := out_step H (by assumption))); done) | ((repeat (first | exact grd_p H | (have hp := grd_p H; exact hp) | replace H := grd_k H | replace H := out_step H (by assumption) | (replace H := bind_some H; obtain ⟨_, _, H⟩ := H))); done) | (repeat (first | exact grd_p H | replace H := grd_k H | replace H := out_step H (by assumption)))))
        | ((with_reducible refine CallW.mk ?_); (repeat (first | replace H := grd_k H | replace H := out_step H (by assumption))); replace H := bind_some H; obtain ⟨y, hy, H⟩ := H; first | ((with_reducible have hz : slices_Grow___impl_Slot_impl_Slot__i1 _ = some y := hy); clear hz; rcases y with y | y <;> refine Exists.intro _ (Exists.intro _ ⟨slices_Grow___impl_Slot_impl_Slot__i1.call hy ?_, rfl, rfl, ?_⟩)))
        | ((repeat (first | replace H := grd_k H | replace H := out_step H (by assumption))); refine loop_iter (G28_ok.at tok []) (ct := [(15, some [6])]) (F := (fun s1 : Int × Int => ⟨sl [(0, (.tree (.sl ty_Slot) a0)), (3, (.v (.int .i64 s1.1))), (9, (.tree (.sl ty_Slot) a0)), (10, (.v (.int .i64 (a0.length : Int)))), (11, (.v (.int .i64 s1.2)))], []⟩)) (step := (fun s : Int × Int => slices_Concat___impl_Slot_impl_Slot__loop1 _ s.1 s.2)) _ H (by kernel_rfl) (sub_auto ?_) ?_; rotate_left; (intro s1 r v hr H); rotate_right)
        | ((repeat (first | replace H := grd_k H | replace H := out_step H (by assumption))); refine loop_iter (G28_ok.at tok []) (ct := [(15, some [6])]) (F := (fun s2 : Int × (List Slot) => ⟨sl [(6, (.own 0)), (25, (.tree (.sl ty_Slot) a0)), (26, (.v (.int .i64 (a0.length : Int)))), (27, (.v (.int .i64 s2.1)))], [some (.arr 100 ty_Slot s2.2)]⟩)) (step := (fun s : Int × (List Slot) => slices_Concat___impl_Slot_impl_Slot__loop2 _ s.1 s.2)) _ H (by kernel_rfl) (sub_auto ?_) ?_; rotate_left; (intro s2 r v hr H); rotate_right)
        | ((repeat (first | replace H := grd_k H | replace H := out_step H (by assumption))); refine again_step H (by assumption) (sub_auto ?_))
        | ((with_reducible refine fin_mk ?_); (repeat (first | replace H := grd_k H | replace H := out_step H (by assumption))); have H := Option.some.inj H; subst H)
        | (exact (grd_no H).elim))
  all_goals exact viewz _ _
def G29 : Env := G28.add 193 [] slices_Concat___impl_Slot_impl_Slot_.S
theorem G29_ok : EnvOk Try.prog G29 := G28_ok.add ent_193 fun ar h r h1 ⟨a0, y, hy, e1, e2, e3, e4⟩ => by
  subst e3 e4; exact (slices_Concat___impl_Slot_impl_Slot_.spec a0 y hy).le e1 e2
attribute [local irreducible] slices_Concat___impl_Slot_impl_Slot_

noncomputable def impl_Ropeway_cabinAt_1_i1 (a0 : Slot) (a100 : Int) : Option (Bool) :=
  (cond (decide ((0 : Int) < a0.1)) ((some (decide (a0.1 = a100)))) ((some false)))
def impl_Ropeway_cabinAt_1_i1.res (_ : Slot) (_ : Int) (y : Bool) : AV := (.bl y)
def impl_Ropeway_cabinAt_1_i1.out (_ : Slot) (_ : Int) (_ : Bool) : List (Option LB) := []
def impl_Ropeway_cabinAt_1_i1.S (ar : List AV) (h : List (Option LB)) (r : AV) (h1 : List (Option LB)) : Prop := ∃ a0 a100 y, impl_Ropeway_cabinAt_1_i1 a0 a100 = some y ∧ leL ar [(.agg [(.v (.int .i64 a0.1)), (.bl a0.2.1), (.v (.int .i64 a0.2.2.1))]), (.bptr [(.v (.int .i64 a100))] 0)] ∧ leH h [] ∧ r = impl_Ropeway_cabinAt_1_i1.res a0 a100 y ∧ h1 = impl_Ropeway_cabinAt_1_i1.out a0 a100 y
theorem impl_Ropeway_cabinAt_1_i1.call {ar : List AV} {h : List (Option LB)} {a0 : Slot} {a100 : Int} {y : Bool} (H : impl_Ropeway_cabinAt_1_i1 a0 a100 = some y) (h0 : leLk ar [(.agg [(.v (.int .i64 a0.1)), (.bl a0.2.1), (.v (.int .i64 a0.2.2.1))]), (.bptr [(.v (.int .i64 a100))] 0)] (leHk h [])) : impl_Ropeway_cabinAt_1_i1.S ar h (impl_Ropeway_cabinAt_1_i1.res a0 a100 y) (impl_Ropeway_cabinAt_1_i1.out a0 a100 y) := ⟨a0, a100, y, H, (args_ok h0).1, (args_ok h0).2, rfl, rfl⟩
set_option maxHeartbeats 100000000 in
set_option maxRecDepth 100000 in
theorem impl_Ropeway_cabinAt_1_i1.spec (a0 : Slot) (a100 : Int) (y : Bool) (H : impl_Ropeway_cabinAt_1_i1 a0 a100 = some y) : Spec Try.prog 187 [(.agg [(.v (.int .i64 a0.1)), (.bl a0.2.1), (.v (.int .i64 a0.2.2.1))]), (.bptr [(.v (.int .i64 a100))] 0)] [] (impl_Ropeway_cabinAt_1_i1.res a0 a100 y) (impl_Ropeway_cabinAt_1_i1.out a0 a100 y) := by
  refine spec_intro (G29_ok.at tok []) (ct := []) Try.func187 rfl (by kernel_rfl) (by kernel_rfl) rfl ?_
  repeat' first
    | ((with_reducible refine eqg ?_); exact rfl)
    | ((with_reducible refine KOb.mk ?_); kernel_rfl)
    | ((with_reducible intro h); (repeat (first | replace H := grd_k H | replace H := out_step H (by assumption))); first | replace H := cond_t h H | replace H := cond_f h H | exact absurd h (by decide) | skip)
    | ((with_reducible refine Ob.mk ?_); first | (with_reducible rfl) | (first | ((repeat (first | (with_reducible exact grd_p H) | (replace H := grd_k H) | (replace H := out_step H (by assumption)))); done) | rfl | ((repeat (first | exact grd_p H | replace H := grd_k H | replace H := out_step H (by assumption))); done) | ((repeat (first | exact grd_p H | (have hp := grd_p H; exact hp) | replace H := grd_k H | replace H := out_step H (by assumption) | (replace H := bind_some H; obtain ⟨_, _, H⟩ := H))); done) | (repeat (first | exact grd_p H | replace H := grd_k H | replace H := out_step H (by assumption)))))
    | (with_reducible exact True.intro)
    | constructor
    | ((conv => whnf); first
        | ((with_reducible refine Ob.mk ?_); first | (with_reducible rfl) | (first | ((repeat (first | (with_reducible exact grd_p H) | (replace H := grd_k H) | (replace H := out_step H (by assumption)))); done) | rfl | ((repeat (first | exact grd_p H | replace H := grd_k H | replace H := out_step H (by assumption))); done) | ((repeat (first | exact grd_p H | (have hp := grd_p H; exact hp) | replace H := grd_k H | replace H := out_step H (by assumption) | (replace H := bind_some H; obtain ⟨_, _, H⟩ := H))); done) | (repeat (first | exact grd_p H | replace H := grd_k H | replace H := out_step H (by assumption)))))
        | ((with_reducible refine fin_mk ?_); (repeat (first | replace H := grd_k H | replace H := out_step H (by assumption))); have H := Option.some.inj H; subst H))
def G30 : Env := G29.add 187 [] impl_Ropeway_cabinAt_1_i1.S
theorem G30_ok : EnvOk Try.prog G30 := G29_ok.add ent_187 fun ar h r h1 ⟨a0, a100, y, hy, e1, e2, e3, e4⟩ => by
  subst e3 e4; exact (impl_Ropeway_cabinAt_1_i1.spec a0 a100 y hy).le e1 e2
attribute [local irreducible] impl_Ropeway_cabinAt_1_i1

noncomputable def slices_IndexFunc___impl_Slot_impl_Slot__i2_loop1 (a0 : (List Slot)) (a100 : Int) (v4 : Int) : Option (Lp (Int) ((Int) ⊕ (Unit))) :=
  (cond (decide (v4 < (a0.length : Int))) (grd (0 ≤ v4 ∧ v4 < (a0.length : Int)) ((impl_Ropeway_cabinAt_1_i1 ((a0.getD v4.toNat d_Slot).1, (a0.getD v4.toNat d_Slot).2.1, (a0.getD v4.toNat d_Slot).2.2.1, ()) a100).bind fun y5 => (cond y5 ((some (.out (Sum.inl v4)))) (some (.go (w64 (v4 + (1 : Int)))))))) ((some (.out (Sum.inr ())))))
noncomputable def slices_IndexFunc___impl_Slot_impl_Slot__i2 (a0 : (List Slot)) (a100 : Int) : Option (Int) :=
  ((iter (fun s => slices_IndexFunc___impl_Slot_impl_Slot__i2_loop1 a0 a100 s) (0 : Int)).bind (Sum.elim (fun r7 => (some r7)) (fun _ => (some ((-1) : Int)))))
def slices_IndexFunc___impl_Slot_impl_Slot__i2.res (_ : (List Slot)) (_ : Int) (y : Int) : AV := (.v (.int .i64 y))
def slices_IndexFunc___impl_Slot_impl_Slot__i2.out (_ : (List Slot)) (_ : Int) (_ : Int) : List (Option LB) := []
def slices_IndexFunc___impl_Slot_impl_Slot__i2.S (ar : List AV) (h : List (Option LB)) (r : AV) (h1 : List (Option LB)) : Prop := ∃ a0 a100 y, slices_IndexFunc___impl_Slot_impl_Slot__i2 a0 a100 = some y ∧ leL ar [(.tree ty_Slot a0), (.fn 187 [(.bptr [(.v (.int .i64 a100))] 0)])] ∧ leH h [] ∧ r = slices_IndexFunc___impl_Slot_impl_Slot__i2.res a0 a100 y ∧ h1 = slices_IndexFunc___impl_Slot_impl_Slot__i2.out a0 a100 y
theorem slices_IndexFunc___impl_Slot_impl_Slot__i2.call {ar : List AV} {h : List (Option LB)} {a0 : (List Slot)} {a100 : Int} {y : Int} (H : slices_IndexFunc___impl_Slot_impl_Slot__i2 a0 a100 = some y) (h0 : leLk ar [(.tree ty_Slot a0), (.fn 187 [(.bptr [(.v (.int .i64 a100))] 0)])] (leHk h [])) : slices_IndexFunc___impl_Slot_impl_Slot__i2.S ar h (slices_IndexFunc___impl_Slot_impl_Slot__i2.res a0 a100 y) (slices_IndexFunc___impl_Slot_impl_Slot__i2.out a0 a100 y) := ⟨a0, a100, y, H, (args_ok h0).1, (args_ok h0).2, rfl, rfl⟩
set_option maxHeartbeats 100000000 in
set_option maxRecDepth 100000 in
theorem slices_IndexFunc___impl_Slot_impl_Slot__i2.spec (a0 : (List Slot)) (a100 : Int) (y : Int) (H : slices_IndexFunc___impl_Slot_impl_Slot__i2 a0 a100 = some y) : Spec Try.prog 183 [(.tree ty_Slot a0), (.fn 187 [(.bptr [(.v (.int .i64 a100))] 0)])] [] (slices_IndexFunc___impl_Slot_impl_Slot__i2.res a0 a100 y) (slices_IndexFunc___impl_Slot_impl_Slot__i2.out a0 a100 y) := by
  refine spec_intro (G30_ok.at tok []) (ct := []) Try.func183 rfl (by kernel_rfl) (by kernel_rfl) rfl ?_
  repeat' first
    | ((with_reducible refine eqg ?_); exact rfl)
    | ((with_reducible refine KOb.mk ?_); kernel_rfl)
    | ((with_reducible intro h); (repeat (first | replace H := grd_k H | replace H := out_step H (by assumption))); first | replace H := cond_t h H | replace H := cond_f h H | exact absurd h (by decide) | skip)
    | ((with_reducible refine Ob.mk ?_); first | (with_reducible rfl) | (first | ((repeat (first | (with_reducible exact grd_p H) | (replace H := grd_k H) | (replace H := out_step H (by assumption)))); done) | rfl | ((repeat (first | exact grd_p H | replace H := grd_k H | replace H := out_step H (by assumption))); done) | ((repeat (first | exact grd_p H | (have hp := grd_p H; exact hp) | replace H := grd_k H | replace H := out_step H (by assumption) | (replace H := bind_some H; obtain ⟨_, _, H⟩ := H))); done) | (repeat (first | exact grd_p H | replace H := grd_k H | replace H := out_step H (by assumption)))))
    | (with_reducible exact True.intro)
    | constructor
    | ((conv => whnf); first
        | ((with_reducible refine Ob.mk ?_); first | (with_reducible rfl) | (first | ((repeat (first | (with_reducible exact grd_p H) | (replace H := grd_k H) | (replace H := out_step H (by assumption)))); done) | rfl | ((repeat (first | exact grd_p H | replace H := grd_k H | replace H := out_step H (by assumption))); done) | ((repeat (first | exact grd_p H | (have hp := grd_p H; exact hp) | replace H := grd_k H | replace H := out_step H (by assumption) | (replace H := bind_some H; obtain ⟨_, _, H⟩ := H))); done) | (repeat (first | exact grd_p H | replace H := grd_k H | replace H := out_step H (by assumption)))))
        | ((with_reducible refine CallW.mk ?_); (repeat (first | replace H := grd_k H | replace H := out_step H (by assumption))); replace H := bind_some H; obtain ⟨y, hy, H⟩ := H; first | ((with_reducible have hz : impl_Ropeway_cabinAt_1_i1 _ _ = some y := hy); clear hz; refine Exists.intro _ (Exists.intro _ ⟨impl_Ropeway_cabinAt_1_i1.call hy ?_, rfl, rfl, ?_⟩)))
        | ((repeat (first | replace H := grd_k H | replace H := out_step H (by assumption))); refine loop_iter (G30_ok.at tok []) (ct := []) (F := (fun s1 : Int => ⟨sl [(0, (.tree ty_Slot a0)), (1, (.fn 187 [(.bptr [(.v (.int .i64 a100))] 0)])), (7, (.v (.int .i64 (a0.length : Int)))), (8, (.v (.int .i64 s1)))], []⟩)) (step := (fun s : Int => slices_IndexFunc___impl_Slot_impl_Slot__i2_loop1 _ _ s)) _ H (by kernel_rfl) (sub_auto ?_) ?_; rotate_left; (intro s1 r v hr H); rotate_right)
        | ((repeat (first | replace H := grd_k H | replace H := out_step H (by assumption))); refine again_step H (by assumption) (sub_auto ?_))
        | ((with_reducible refine fin_mk ?_); (repeat (first | replace H := grd_k H | replace H := out_step H (by assumption))); have H := Option.some.inj H; subst H))
  all_goals exact viewz _ _
def G31 : Env := G30.addOr 183 [] slices_IndexFunc___impl_Slot_impl_Slot__i2.S
theorem G31_ok : EnvOk Try.prog G31 := G30_ok.addOr ent_183 fun ar h r h1 ⟨a0, a100, y, hy, e1, e2, e3, e4⟩ => by
  subst e3 e4; exact (slices_IndexFunc___impl_Slot_impl_Slot__i2.spec a0 a100 y hy).le e1 e2
attribute [local irreducible] slices_IndexFunc___impl_Slot_impl_Slot__i2

noncomputable def impl_Ropeway_cabinAt (a0 : Ropeway) (a1 : Int) : Option (Int) :=
  ((slices_IndexFunc___impl_Slot_impl_Slot__i2 a0.2.1 a1).bind fun y1 => (some y1))
def impl_Ropeway_cabinAt.res (_ : Ropeway) (_ : Int) (y : Int) : AV := (.v (.int .i64 y))
def impl_Ropeway_cabinAt.out (_ : Ropeway) (_ : Int) (_ : Int) : List (Option LB) := []
def impl_Ropeway_cabinAt.S (ar : List AV) (h : List (Option LB)) (r : AV) (h1 : List (Option LB)) : Prop := ∃ a0 a1 y, impl_Ropeway_cabinAt a0 a1 = some y ∧ leL ar [(.agg [(.v (.int .i64 a0.1)), (.tree ty_Slot a0.2.1), (.v (.int .i64 a0.2.2.1)), (.v (.int .i64 a0.2.2.2.1)), (.v (.int .i64 a0.2.2.2.2.1))]), (.v (.int .i64 a1))] ∧ leH h [] ∧ r = impl_Ropeway_cabinAt.res a0 a1 y ∧ h1 = impl_Ropeway_cabinAt.out a0 a1 y
theorem impl_Ropeway_cabinAt.call {ar : List AV} {h : List (Option LB)} {a0 : Ropeway} {a1 : Int} {y : Int} (H : impl_Ropeway_cabinAt a0 a1 = some y) (h0 : leLk ar [(.agg [(.v (.int .i64 a0.1)), (.tree ty_Slot a0.2.1), (.v (.int .i64 a0.2.2.1)), (.v (.int .i64 a0.2.2.2.1)), (.v (.int .i64 a0.2.2.2.2.1))]), (.v (.int .i64 a1))] (leHk h [])) : impl_Ropeway_cabinAt.S ar h (impl_Ropeway_cabinAt.res a0 a1 y) (impl_Ropeway_cabinAt.out a0 a1 y) := ⟨a0, a1, y, H, (args_ok h0).1, (args_ok h0).2, rfl, rfl⟩
set_option maxHeartbeats 100000000 in
set_option maxRecDepth 100000 in
theorem impl_Ropeway_cabinAt.spec (a0 : Ropeway) (a1 : Int) (y : Int) (H : impl_Ropeway_cabinAt a0 a1 = some y) : Spec Try.prog 160 [(.agg [(.v (.int .i64 a0.1)), (.tree ty_Slot a0.2.1), (.v (.int .i64 a0.2.2.1)), (.v (.int .i64 a0.2.2.2.1)), (.v (.int .i64 a0.2.2.2.2.1))]), (.v (.int .i64 a1))] [] (impl_Ropeway_cabinAt.res a0 a1 y) (impl_Ropeway_cabinAt.out a0 a1 y) := by
  refine spec_intro (G31_ok.at tok []) (ct := []) Try.func160 rfl (by kernel_rfl) (by kernel_rfl) rfl ?_
  repeat' first
    | ((with_reducible refine eqg ?_); exact rfl)
    | ((with_reducible refine KOb.mk ?_); kernel_rfl)
    | ((with_reducible intro h); (repeat (first | replace H := grd_k H | replace H := out_step H (by assumption))); first | replace H := cond_t h H | replace H := cond_f h H | exact absurd h (by decide) | skip)
    | ((with_reducible refine Ob.mk ?_); first | (with_reducible rfl) | (first | ((repeat (first | (with_reducible exact grd_p H) | (replace H := grd_k H) | (replace H := out_step H (by assumption)))); done) | rfl | ((repeat (first | exact grd_p H | replace H := grd_k H | replace H := out_step H (by assumption))); done) | ((repeat (first | exact grd_p H | (have hp := grd_p H; exact hp) | replace H := grd_k H | replace H := out_step H (by assumption) | (replace H := bind_some H; obtain ⟨_, _, H⟩ := H))); done) | (repeat (first | exact grd_p H | replace H := grd_k H | replace H := out_step H (by assumption)))))
    | (with_reducible exact True.intro)
    | constructor
    | ((conv => whnf); first
        | ((with_reducible refine Ob.mk ?_); first | (with_reducible rfl) | (first | ((repeat (first | (with_reducible exact grd_p H) | (replace H := grd_k H) | (replace H := out_step H (by assumption)))); done) | rfl | ((repeat (first | exact grd_p H | replace H := grd_k H | replace H := out_step H (by assumption))); done) | ((repeat (first | exact grd_p H | (have hp := grd_p H; exact hp) | replace H := grd_k H | replace H := out_step H (by assumption) | (replace H := bind_some H; obtain ⟨_, _, H⟩ := H))); done) | (repeat (first | exact grd_p H | replace H := grd_k H | replace H := out_step H (by assumption)))))
        | ((with_reducible refine CallW.mk ?_); (repeat (first | replace H := grd_k H | replace H := out_step H (by assumption))); replace H := bind_some H; obtain ⟨y, hy, H⟩ := H; first | ((with_reducible have hz : slices_IndexFunc___impl_Slot_impl_Slot__i2 _ _ = some y := hy); clear hz; refine Exists.intro _ (Exists.intro _ ⟨Or.inl (slices_IndexFunc___impl_Slot_impl_Slot__i2.call hy ?_), rfl, rfl, ?_⟩)))
        | ((with_reducible refine fin_mk ?_); (repeat (first | replace H := grd_k H | replace H := out_step H (by assumption))); have H := Option.some.inj H; subst H))
def G32 : Env := G31.add 160 [] impl_Ropeway_cabinAt.S
theorem G32_ok : EnvOk Try.prog G32 := G31_ok.add ent_160 fun ar h r h1 ⟨a0, a1, y, hy, e1, e2, e3, e4⟩ => by
  subst e3 e4; exact (impl_Ropeway_cabinAt.spec a0 a1 y hy).le e1 e2
attribute [local irreducible] impl_Ropeway_cabinAt

end Go.Proofs.Ytmknleaomfpmmaa
