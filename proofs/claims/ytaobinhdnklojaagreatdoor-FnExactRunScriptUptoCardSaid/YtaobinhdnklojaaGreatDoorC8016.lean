/-
  Contracts, printed by a program.
-/
import Derived.Test.YtaobinhdnklojaaGreatDoorC8013
namespace Go.Proofs.YtaobinhdnklojaaGreatDoor
open Go.RowKit
set_option maxHeartbeats 100000000
set_option maxRecDepth 100000
attribute [local irreducible] Ob loopwp Sub Spec Fin Again CallW CutC KOb iter

attribute [local irreducible] spec_l1Num_f impl_Ropeway_act_1 slices_Grow___impl_Slot_impl_Slot__i1

noncomputable def slices_Concat___impl_Slot_impl_Slot__loop1 (a0 : (List (List Slot))) (v3 : Int) (v4 : Int) : Option (Lp (Int × Int) ((Int))) :=
  (cond (decide (v4 < (a0.length : Int))) (grd (0 ≤ v4 ∧ v4 < (a0.length : Int)) (cond (decide ((w64 (v3 + ((a0.getD v4.toNat []).length : Int))) < (0 : Int))) (grd (False) none) (some (.go ((w64 (v3 + ((a0.getD v4.toNat []).length : Int))), (w64 (v4 + (1 : Int)))))))) ((some (.out v3))))
noncomputable def slices_Concat___impl_Slot_impl_Slot__loop2 (a0 : (List (List Slot))) (v11 : Int) (v12 : (List Slot)) : Option (Lp (Int × (List Slot)) (((List Slot)))) :=
  (cond (decide (v11 < (a0.length : Int))) (grd (0 ≤ v11 ∧ v11 < (a0.length : Int)) (grd (v12.length + (a0.getD v11.toNat []).length ≤ 140737488355328 / 24 ∧ v12.length + (a0.getD v11.toNat []).length ≤ 140737488355328) (some (.go ((w64 (v11 + (1 : Int))), (v12 ++ (a0.getD v11.toNat []))))))) ((some (.out v12))))
noncomputable def slices_Concat___impl_Slot_impl_Slot_ (a0 : (List (List Slot))) : Option ((List Slot)) :=
  ((iter (fun s => slices_Concat___impl_Slot_impl_Slot__loop1 a0 s.1 s.2) ((0 : Int), (0 : Int))).bind (fun r5 => ((slices_Grow___impl_Slot_impl_Slot__i1 r5).bind (Sum.elim (fun y7 => ((iter (fun s => slices_Concat___impl_Slot_impl_Slot__loop2 a0 s.1 s.2) ((0 : Int), y7)).bind (fun r13 => (some r13)))) (fun _ => (grd (False) none))))))
def slices_Concat___impl_Slot_impl_Slot_.res (_ : (List (List Slot))) (_ : (List Slot)) : AV := (.own 0)
def slices_Concat___impl_Slot_impl_Slot_.out (_ : (List (List Slot))) (y : (List Slot)) : List (Option LB) := [some (.arr 96 ty_Slot y)]
def slices_Concat___impl_Slot_impl_Slot_.S (ar : List AV) (h : List (Option LB)) (r : AV) (h1 : List (Option LB)) : Prop := ∃ a0 y, slices_Concat___impl_Slot_impl_Slot_ a0 = some y ∧ leL ar [(.tree (.sl ty_Slot) a0)] ∧ leH h [] ∧ r = slices_Concat___impl_Slot_impl_Slot_.res a0 y ∧ h1 = slices_Concat___impl_Slot_impl_Slot_.out a0 y
theorem slices_Concat___impl_Slot_impl_Slot_.call {ar : List AV} {h : List (Option LB)} {a0 : (List (List Slot))} {y : (List Slot)} (H : slices_Concat___impl_Slot_impl_Slot_ a0 = some y) (h0 : leLk ar [(.tree (.sl ty_Slot) a0)] (leHk h [])) : slices_Concat___impl_Slot_impl_Slot_.S ar h (slices_Concat___impl_Slot_impl_Slot_.res a0 y) (slices_Concat___impl_Slot_impl_Slot_.out a0 y) := ⟨a0, y, H, (args_ok h0).1, (args_ok h0).2, rfl, rfl⟩
theorem slices_Concat___impl_Slot_impl_Slot_.spec (a0 : (List (List Slot))) (y : (List Slot)) (H : slices_Concat___impl_Slot_impl_Slot_ a0 = some y) : Spec Tryz.prog 161 [(.tree (.sl ty_Slot) a0)] [] (slices_Concat___impl_Slot_impl_Slot_.res a0 y) (slices_Concat___impl_Slot_impl_Slot_.out a0 y) := by
  refine spec_intro (G78_ok.at tok []) (ct := [(15, some [6])]) Tryz.func161 rfl (by kernel_rfl) (by kernel_rfl) rfl ?_
  repeat' first
    | ((with_reducible refine eqg ?_); exact rfl)
    | ((with_reducible refine KOb.mk ?_); kernel_rfl)
    | ((with_reducible intro h); (repeat first | replace H := grd_k H | replace H := out_step H ‹_›); first | replace H := cond_t h H | replace H := cond_f h H | exact absurd h (by decide) | skip)
    | ((with_reducible refine Ob.mk ?_); first | (with_reducible rfl) | (first | ((repeat (first | (with_reducible exact grd_p H) | replace H := grd_k H | replace H := out_step H ‹_›)); done) | rfl | ((repeat (first | exact grd_p H | (have hp := grd_p H; exact hp) | replace H := grd_k H | replace H := out_step H ‹_› | (replace H := bind_some H; obtain ⟨_, _, H⟩ := H))); done) | (repeat (first | exact grd_p H | replace H := grd_k H | replace H := out_step H ‹_›))))
    | (with_reducible exact True.intro)
    | ((conv => whnf); first
        | (with_reducible refine And.intro ?_ ?_)
        | (with_reducible exact True.intro)
        | (with_reducible refine (?_ : Ob _))
        | ((with_reducible refine CallW.mk ?_); (repeat first | replace H := grd_k H | replace H := out_step H ‹_›); replace H := bind_some H; obtain ⟨y, hy, H⟩ := H; first | ((with_reducible have hz : slices_Grow___impl_Slot_impl_Slot__i1 _ = some y := hy); clear hz; rcases y with y | y <;> refine ⟨_, _, slices_Grow___impl_Slot_impl_Slot__i1.call hy ?_, rfl, rfl, ?_⟩))
        | ((repeat first | replace H := grd_k H | replace H := out_step H ‹_›); refine loop_iter (G78_ok.at tok []) (ct := [(15, some [6])]) (F := (fun s1 : Int × Int => ⟨sl [(0, (.tree (.sl ty_Slot) a0)), (3, (.v (.int .i64 s1.1))), (9, (.tree (.sl ty_Slot) a0)), (10, (.v (.int .i64 (a0.length : Int)))), (11, (.v (.int .i64 s1.2)))], []⟩)) (step := (fun s : Int × Int => slices_Concat___impl_Slot_impl_Slot__loop1 _ s.1 s.2)) _ H (by kernel_rfl) (sub_auto ?_) ?_; rotate_left; (intro s1 r v hr H); rotate_right)
        | ((repeat first | replace H := grd_k H | replace H := out_step H ‹_›); refine loop_iter (G78_ok.at tok []) (ct := [(15, some [6])]) (F := (fun s2 : Int × (List Slot) => ⟨sl [(6, (.own 0)), (25, (.tree (.sl ty_Slot) a0)), (26, (.v (.int .i64 (a0.length : Int)))), (27, (.v (.int .i64 s2.1)))], [some (.arr 96 ty_Slot s2.2)]⟩)) (step := (fun s : Int × (List Slot) => slices_Concat___impl_Slot_impl_Slot__loop2 _ s.1 s.2)) _ H (by kernel_rfl) (sub_auto ?_) ?_; rotate_left; (intro s2 r v hr H); rotate_right)
        | ((repeat first | replace H := grd_k H | replace H := out_step H ‹_›); refine again_step H (by assumption) (sub_auto ?_))
        | ((with_reducible refine fin_mk ?_); (repeat first | replace H := grd_k H | replace H := out_step H ‹_›); have H := Option.some.inj H; subst H)
        | (exact (grd_no H).elim))
    | constructor
  all_goals exact viewz _ _
def G79 : Env := G78.add 161 [] slices_Concat___impl_Slot_impl_Slot_.S
theorem G79_ok : EnvOk Tryz.prog G79 := G78_ok.add ent_161 fun ar h r h1 ⟨a0, y, hy, e1, e2, e3, e4⟩ => by
  subst e3 e4; exact (slices_Concat___impl_Slot_impl_Slot_.spec a0 y hy).le e1 e2
attribute [local irreducible] slices_Concat___impl_Slot_impl_Slot_

noncomputable def impl_Ropeway_cabinAt_1_i1 (a0 : Slot) (a100 : Int) : Option (Bool) :=
  (cond (decide ((0 : Int) < a0.1)) ((some (decide (a0.1 = a100)))) ((some false)))
def impl_Ropeway_cabinAt_1_i1.res (_ : Slot) (_ : Int) (y : Bool) : AV := (.bl y)
def impl_Ropeway_cabinAt_1_i1.out (_ : Slot) (_ : Int) (_ : Bool) : List (Option LB) := []
def impl_Ropeway_cabinAt_1_i1.S (ar : List AV) (h : List (Option LB)) (r : AV) (h1 : List (Option LB)) : Prop := ∃ a0 a100 y, impl_Ropeway_cabinAt_1_i1 a0 a100 = some y ∧ leL ar [(.agg [(.v (.int .i64 a0.1)), (.bl a0.2.1), (.v (.int .i64 a0.2.2.1))]), (.bptr [(.v (.int .i64 a100))] 0)] ∧ leH h [] ∧ r = impl_Ropeway_cabinAt_1_i1.res a0 a100 y ∧ h1 = impl_Ropeway_cabinAt_1_i1.out a0 a100 y
theorem impl_Ropeway_cabinAt_1_i1.call {ar : List AV} {h : List (Option LB)} {a0 : Slot} {a100 : Int} {y : Bool} (H : impl_Ropeway_cabinAt_1_i1 a0 a100 = some y) (h0 : leLk ar [(.agg [(.v (.int .i64 a0.1)), (.bl a0.2.1), (.v (.int .i64 a0.2.2.1))]), (.bptr [(.v (.int .i64 a100))] 0)] (leHk h [])) : impl_Ropeway_cabinAt_1_i1.S ar h (impl_Ropeway_cabinAt_1_i1.res a0 a100 y) (impl_Ropeway_cabinAt_1_i1.out a0 a100 y) := ⟨a0, a100, y, H, (args_ok h0).1, (args_ok h0).2, rfl, rfl⟩
theorem impl_Ropeway_cabinAt_1_i1.spec (a0 : Slot) (a100 : Int) (y : Bool) (H : impl_Ropeway_cabinAt_1_i1 a0 a100 = some y) : Spec Tryz.prog 190 [(.agg [(.v (.int .i64 a0.1)), (.bl a0.2.1), (.v (.int .i64 a0.2.2.1))]), (.bptr [(.v (.int .i64 a100))] 0)] [] (impl_Ropeway_cabinAt_1_i1.res a0 a100 y) (impl_Ropeway_cabinAt_1_i1.out a0 a100 y) := by
  refine spec_intro (G79_ok.at tok []) (ct := []) Tryz.func190 rfl (by kernel_rfl) (by kernel_rfl) rfl ?_
  repeat' first
    | ((with_reducible refine eqg ?_); exact rfl)
    | ((with_reducible refine KOb.mk ?_); kernel_rfl)
    | ((with_reducible intro h); (repeat first | replace H := grd_k H | replace H := out_step H ‹_›); first | replace H := cond_t h H | replace H := cond_f h H | exact absurd h (by decide) | skip)
    | ((with_reducible refine Ob.mk ?_); first | (with_reducible rfl) | (first | ((repeat (first | (with_reducible exact grd_p H) | replace H := grd_k H | replace H := out_step H ‹_›)); done) | rfl | ((repeat (first | exact grd_p H | (have hp := grd_p H; exact hp) | replace H := grd_k H | replace H := out_step H ‹_› | (replace H := bind_some H; obtain ⟨_, _, H⟩ := H))); done) | (repeat (first | exact grd_p H | replace H := grd_k H | replace H := out_step H ‹_›))))
    | (with_reducible exact True.intro)
    | ((conv => whnf); first
        | (with_reducible refine And.intro ?_ ?_)
        | (with_reducible exact True.intro)
        | (with_reducible refine (?_ : Ob _))
        | ((with_reducible refine fin_mk ?_); (repeat first | replace H := grd_k H | replace H := out_step H ‹_›); have H := Option.some.inj H; subst H))
    | constructor
def G80 : Env := G79.add 190 [] impl_Ropeway_cabinAt_1_i1.S
theorem G80_ok : EnvOk Tryz.prog G80 := G79_ok.add ent_190 fun ar h r h1 ⟨a0, a100, y, hy, e1, e2, e3, e4⟩ => by
  subst e3 e4; exact (impl_Ropeway_cabinAt_1_i1.spec a0 a100 y hy).le e1 e2
attribute [local irreducible] impl_Ropeway_cabinAt_1_i1

noncomputable def slices_IndexFunc___impl_Slot_impl_Slot__i2_loop1 (a0 : (List Slot)) (a100 : Int) (v4 : Int) : Option (Lp (Int) ((Int) ⊕ (Unit))) :=
  (cond (decide (v4 < (a0.length : Int))) (grd (0 ≤ v4 ∧ v4 < (a0.length : Int)) ((impl_Ropeway_cabinAt_1_i1 ((a0.getD v4.toNat d_Slot).1, (a0.getD v4.toNat d_Slot).2.1, (a0.getD v4.toNat d_Slot).2.2.1, ()) a100).bind fun y5 => (cond y5 ((some (.out (Sum.inl v4)))) (some (.go (w64 (v4 + (1 : Int)))))))) ((some (.out (Sum.inr ())))))
noncomputable def slices_IndexFunc___impl_Slot_impl_Slot__i2 (a0 : (List Slot)) (a100 : Int) : Option (Int) :=
  ((iter (fun s => slices_IndexFunc___impl_Slot_impl_Slot__i2_loop1 a0 a100 s) (0 : Int)).bind (Sum.elim (fun r7 => (some r7)) (fun _ => (some ((-1) : Int)))))
def slices_IndexFunc___impl_Slot_impl_Slot__i2.res (_ : (List Slot)) (_ : Int) (y : Int) : AV := (.v (.int .i64 y))
def slices_IndexFunc___impl_Slot_impl_Slot__i2.out (_ : (List Slot)) (_ : Int) (_ : Int) : List (Option LB) := []
def slices_IndexFunc___impl_Slot_impl_Slot__i2.S (ar : List AV) (h : List (Option LB)) (r : AV) (h1 : List (Option LB)) : Prop := ∃ a0 a100 y, slices_IndexFunc___impl_Slot_impl_Slot__i2 a0 a100 = some y ∧ leL ar [(.tree ty_Slot a0), (.fn 190 [(.bptr [(.v (.int .i64 a100))] 0)])] ∧ leH h [] ∧ r = slices_IndexFunc___impl_Slot_impl_Slot__i2.res a0 a100 y ∧ h1 = slices_IndexFunc___impl_Slot_impl_Slot__i2.out a0 a100 y
theorem slices_IndexFunc___impl_Slot_impl_Slot__i2.call {ar : List AV} {h : List (Option LB)} {a0 : (List Slot)} {a100 : Int} {y : Int} (H : slices_IndexFunc___impl_Slot_impl_Slot__i2 a0 a100 = some y) (h0 : leLk ar [(.tree ty_Slot a0), (.fn 190 [(.bptr [(.v (.int .i64 a100))] 0)])] (leHk h [])) : slices_IndexFunc___impl_Slot_impl_Slot__i2.S ar h (slices_IndexFunc___impl_Slot_impl_Slot__i2.res a0 a100 y) (slices_IndexFunc___impl_Slot_impl_Slot__i2.out a0 a100 y) := ⟨a0, a100, y, H, (args_ok h0).1, (args_ok h0).2, rfl, rfl⟩
theorem slices_IndexFunc___impl_Slot_impl_Slot__i2.spec (a0 : (List Slot)) (a100 : Int) (y : Int) (H : slices_IndexFunc___impl_Slot_impl_Slot__i2 a0 a100 = some y) : Spec Tryz.prog 156 [(.tree ty_Slot a0), (.fn 190 [(.bptr [(.v (.int .i64 a100))] 0)])] [] (slices_IndexFunc___impl_Slot_impl_Slot__i2.res a0 a100 y) (slices_IndexFunc___impl_Slot_impl_Slot__i2.out a0 a100 y) := by
  refine spec_intro (G80_ok.at tok []) (ct := []) Tryz.func156 rfl (by kernel_rfl) (by kernel_rfl) rfl ?_
  repeat' first
    | ((with_reducible refine eqg ?_); exact rfl)
    | ((with_reducible refine KOb.mk ?_); kernel_rfl)
    | ((with_reducible intro h); (repeat first | replace H := grd_k H | replace H := out_step H ‹_›); first | replace H := cond_t h H | replace H := cond_f h H | exact absurd h (by decide) | skip)
    | ((with_reducible refine Ob.mk ?_); first | (with_reducible rfl) | (first | ((repeat (first | (with_reducible exact grd_p H) | replace H := grd_k H | replace H := out_step H ‹_›)); done) | rfl | ((repeat (first | exact grd_p H | (have hp := grd_p H; exact hp) | replace H := grd_k H | replace H := out_step H ‹_› | (replace H := bind_some H; obtain ⟨_, _, H⟩ := H))); done) | (repeat (first | exact grd_p H | replace H := grd_k H | replace H := out_step H ‹_›))))
    | (with_reducible exact True.intro)
    | ((conv => whnf); first
        | (with_reducible refine And.intro ?_ ?_)
        | (with_reducible exact True.intro)
        | (with_reducible refine (?_ : Ob _))
        | ((with_reducible refine CallW.mk ?_); (repeat first | replace H := grd_k H | replace H := out_step H ‹_›); replace H := bind_some H; obtain ⟨y, hy, H⟩ := H; first | ((with_reducible have hz : impl_Ropeway_cabinAt_1_i1 _ _ = some y := hy); clear hz; refine ⟨_, _, impl_Ropeway_cabinAt_1_i1.call hy ?_, rfl, rfl, ?_⟩))
        | ((repeat first | replace H := grd_k H | replace H := out_step H ‹_›); refine loop_iter (G80_ok.at tok []) (ct := []) (F := (fun s1 : Int => ⟨sl [(0, (.tree ty_Slot a0)), (1, (.fn 190 [(.bptr [(.v (.int .i64 a100))] 0)])), (7, (.v (.int .i64 (a0.length : Int)))), (8, (.v (.int .i64 s1)))], []⟩)) (step := (fun s : Int => slices_IndexFunc___impl_Slot_impl_Slot__i2_loop1 _ _ s)) _ H (by kernel_rfl) (sub_auto ?_) ?_; rotate_left; (intro s1 r v hr H); rotate_right)
        | ((repeat first | replace H := grd_k H | replace H := out_step H ‹_›); refine again_step H (by assumption) (sub_auto ?_))
        | ((with_reducible refine fin_mk ?_); (repeat first | replace H := grd_k H | replace H := out_step H ‹_›); have H := Option.some.inj H; subst H))
    | constructor
  all_goals exact viewz _ _
def G81 : Env := G80.addOr 156 [] slices_IndexFunc___impl_Slot_impl_Slot__i2.S
theorem G81_ok : EnvOk Tryz.prog G81 := G80_ok.addOr ent_156 fun ar h r h1 ⟨a0, a100, y, hy, e1, e2, e3, e4⟩ => by
  subst e3 e4; exact (slices_IndexFunc___impl_Slot_impl_Slot__i2.spec a0 a100 y hy).le e1 e2
attribute [local irreducible] slices_IndexFunc___impl_Slot_impl_Slot__i2

noncomputable def impl_Ropeway_cabinAt (a0 : Ropeway) (a1 : Int) : Option (Int) :=
  ((slices_IndexFunc___impl_Slot_impl_Slot__i2 a0.2.1 a1).bind fun y1 => (some y1))
def impl_Ropeway_cabinAt.res (_ : Ropeway) (_ : Int) (y : Int) : AV := (.v (.int .i64 y))
def impl_Ropeway_cabinAt.out (_ : Ropeway) (_ : Int) (_ : Int) : List (Option LB) := []
def impl_Ropeway_cabinAt.S (ar : List AV) (h : List (Option LB)) (r : AV) (h1 : List (Option LB)) : Prop := ∃ a0 a1 y, impl_Ropeway_cabinAt a0 a1 = some y ∧ leL ar [(.agg [(.v (.int .i64 a0.1)), (.tree ty_Slot a0.2.1), (.v (.int .i64 a0.2.2.1)), (.v (.int .i64 a0.2.2.2.1)), (.v (.int .i64 a0.2.2.2.2.1))]), (.v (.int .i64 a1))] ∧ leH h [] ∧ r = impl_Ropeway_cabinAt.res a0 a1 y ∧ h1 = impl_Ropeway_cabinAt.out a0 a1 y
theorem impl_Ropeway_cabinAt.call {ar : List AV} {h : List (Option LB)} {a0 : Ropeway} {a1 : Int} {y : Int} (H : impl_Ropeway_cabinAt a0 a1 = some y) (h0 : leLk ar [(.agg [(.v (.int .i64 a0.1)), (.tree ty_Slot a0.2.1), (.v (.int .i64 a0.2.2.1)), (.v (.int .i64 a0.2.2.2.1)), (.v (.int .i64 a0.2.2.2.2.1))]), (.v (.int .i64 a1))] (leHk h [])) : impl_Ropeway_cabinAt.S ar h (impl_Ropeway_cabinAt.res a0 a1 y) (impl_Ropeway_cabinAt.out a0 a1 y) := ⟨a0, a1, y, H, (args_ok h0).1, (args_ok h0).2, rfl, rfl⟩
theorem impl_Ropeway_cabinAt.spec (a0 : Ropeway) (a1 : Int) (y : Int) (H : impl_Ropeway_cabinAt a0 a1 = some y) : Spec Tryz.prog 162 [(.agg [(.v (.int .i64 a0.1)), (.tree ty_Slot a0.2.1), (.v (.int .i64 a0.2.2.1)), (.v (.int .i64 a0.2.2.2.1)), (.v (.int .i64 a0.2.2.2.2.1))]), (.v (.int .i64 a1))] [] (impl_Ropeway_cabinAt.res a0 a1 y) (impl_Ropeway_cabinAt.out a0 a1 y) := by
  refine spec_intro (G81_ok.at tok []) (ct := []) Tryz.func162 rfl (by kernel_rfl) (by kernel_rfl) rfl ?_
  repeat' first
    | ((with_reducible refine eqg ?_); exact rfl)
    | ((with_reducible refine KOb.mk ?_); kernel_rfl)
    | ((with_reducible intro h); (repeat first | replace H := grd_k H | replace H := out_step H ‹_›); first | replace H := cond_t h H | replace H := cond_f h H | exact absurd h (by decide) | skip)
    | ((with_reducible refine Ob.mk ?_); first | (with_reducible rfl) | (first | ((repeat (first | (with_reducible exact grd_p H) | replace H := grd_k H | replace H := out_step H ‹_›)); done) | rfl | ((repeat (first | exact grd_p H | (have hp := grd_p H; exact hp) | replace H := grd_k H | replace H := out_step H ‹_› | (replace H := bind_some H; obtain ⟨_, _, H⟩ := H))); done) | (repeat (first | exact grd_p H | replace H := grd_k H | replace H := out_step H ‹_›))))
    | (with_reducible exact True.intro)
    | ((conv => whnf); first
        | (with_reducible refine And.intro ?_ ?_)
        | (with_reducible exact True.intro)
        | (with_reducible refine (?_ : Ob _))
        | ((with_reducible refine CallW.mk ?_); (repeat first | replace H := grd_k H | replace H := out_step H ‹_›); replace H := bind_some H; obtain ⟨y, hy, H⟩ := H; first | ((with_reducible have hz : slices_IndexFunc___impl_Slot_impl_Slot__i2 _ _ = some y := hy); clear hz; refine Exists.intro _ (Exists.intro _ ⟨Or.inl (slices_IndexFunc___impl_Slot_impl_Slot__i2.call hy ?_), rfl, rfl, ?_⟩)))
        | ((with_reducible refine fin_mk ?_); (repeat first | replace H := grd_k H | replace H := out_step H ‹_›); have H := Option.some.inj H; subst H))
    | constructor
def G82 : Env := G81.add 162 [] impl_Ropeway_cabinAt.S
theorem G82_ok : EnvOk Tryz.prog G82 := G81_ok.add ent_162 fun ar h r h1 ⟨a0, a1, y, hy, e1, e2, e3, e4⟩ => by
  subst e3 e4; exact (impl_Ropeway_cabinAt.spec a0 a1 y hy).le e1 e2
attribute [local irreducible] impl_Ropeway_cabinAt

noncomputable def impl_Ropeway_stationOf (a0 : Ropeway) (a1 : Int) : Option (Int) :=
  (grd ((2 : Int) ≠ 0) ((some (w64 (Int.tdiv (w64 (a1 * (a0.2.1.length : Int))) (2 : Int))))))
def impl_Ropeway_stationOf.res (_ : Ropeway) (_ : Int) (y : Int) : AV := (.v (.int .i64 y))
def impl_Ropeway_stationOf.out (_ : Ropeway) (_ : Int) (_ : Int) : List (Option LB) := []
def impl_Ropeway_stationOf.S (ar : List AV) (h : List (Option LB)) (r : AV) (h1 : List (Option LB)) : Prop := ∃ a0 a1 y, impl_Ropeway_stationOf a0 a1 = some y ∧ leL ar [(.agg [(.v (.int .i64 a0.1)), (.tree ty_Slot a0.2.1), (.v (.int .i64 a0.2.2.1)), (.v (.int .i64 a0.2.2.2.1)), (.v (.int .i64 a0.2.2.2.2.1))]), (.v (.int .i64 a1))] ∧ leH h [] ∧ r = impl_Ropeway_stationOf.res a0 a1 y ∧ h1 = impl_Ropeway_stationOf.out a0 a1 y
theorem impl_Ropeway_stationOf.call {ar : List AV} {h : List (Option LB)} {a0 : Ropeway} {a1 : Int} {y : Int} (H : impl_Ropeway_stationOf a0 a1 = some y) (h0 : leLk ar [(.agg [(.v (.int .i64 a0.1)), (.tree ty_Slot a0.2.1), (.v (.int .i64 a0.2.2.1)), (.v (.int .i64 a0.2.2.2.1)), (.v (.int .i64 a0.2.2.2.2.1))]), (.v (.int .i64 a1))] (leHk h [])) : impl_Ropeway_stationOf.S ar h (impl_Ropeway_stationOf.res a0 a1 y) (impl_Ropeway_stationOf.out a0 a1 y) := ⟨a0, a1, y, H, (args_ok h0).1, (args_ok h0).2, rfl, rfl⟩
theorem impl_Ropeway_stationOf.spec (a0 : Ropeway) (a1 : Int) (y : Int) (H : impl_Ropeway_stationOf a0 a1 = some y) : Spec Tryz.prog 130 [(.agg [(.v (.int .i64 a0.1)), (.tree ty_Slot a0.2.1), (.v (.int .i64 a0.2.2.1)), (.v (.int .i64 a0.2.2.2.1)), (.v (.int .i64 a0.2.2.2.2.1))]), (.v (.int .i64 a1))] [] (impl_Ropeway_stationOf.res a0 a1 y) (impl_Ropeway_stationOf.out a0 a1 y) := by
  refine spec_intro (G82_ok.at tok []) (ct := []) Tryz.func130 rfl (by kernel_rfl) (by kernel_rfl) rfl ?_
  repeat' first
    | ((with_reducible refine eqg ?_); exact rfl)
    | ((with_reducible refine KOb.mk ?_); kernel_rfl)
    | ((with_reducible intro h); (repeat first | replace H := grd_k H | replace H := out_step H ‹_›); first | replace H := cond_t h H | replace H := cond_f h H | exact absurd h (by decide) | skip)
    | ((with_reducible refine Ob.mk ?_); first | (with_reducible rfl) | (first | ((repeat (first | (with_reducible exact grd_p H) | replace H := grd_k H | replace H := out_step H ‹_›)); done) | rfl | ((repeat (first | exact grd_p H | (have hp := grd_p H; exact hp) | replace H := grd_k H | replace H := out_step H ‹_› | (replace H := bind_some H; obtain ⟨_, _, H⟩ := H))); done) | (repeat (first | exact grd_p H | replace H := grd_k H | replace H := out_step H ‹_›))))
    | (with_reducible exact True.intro)
    | ((conv => whnf); first
        | (with_reducible refine And.intro ?_ ?_)
        | (with_reducible exact True.intro)
        | (with_reducible refine (?_ : Ob _))
        | ((with_reducible refine fin_mk ?_); (repeat first | replace H := grd_k H | replace H := out_step H ‹_›); have H := Option.some.inj H; subst H))
    | constructor
def G83 : Env := G82.add 130 [] impl_Ropeway_stationOf.S
theorem G83_ok : EnvOk Tryz.prog G83 := G82_ok.add ent_130 fun ar h r h1 ⟨a0, a1, y, hy, e1, e2, e3, e4⟩ => by
  subst e3 e4; exact (impl_Ropeway_stationOf.spec a0 a1 y hy).le e1 e2
attribute [local irreducible] impl_Ropeway_stationOf

noncomputable def slices_IndexFunc___impl_Slot_impl_Slot__i3_loop1 (a0 : (List Slot)) (v4 : Int) : Option (Lp (Int) ((Int) ⊕ (Unit))) :=
  (cond (decide (v4 < (a0.length : Int))) (grd (0 ≤ v4 ∧ v4 < (a0.length : Int)) ((impl_Ropeway_act_1 ((a0.getD v4.toNat d_Slot).1, (a0.getD v4.toNat d_Slot).2.1, (a0.getD v4.toNat d_Slot).2.2.1, ())).bind fun y5 => (cond y5 ((some (.out (Sum.inl v4)))) (some (.go (w64 (v4 + (1 : Int)))))))) ((some (.out (Sum.inr ())))))
noncomputable def slices_IndexFunc___impl_Slot_impl_Slot__i3 (a0 : (List Slot)) : Option (Int) :=
  ((iter (fun s => slices_IndexFunc___impl_Slot_impl_Slot__i3_loop1 a0 s) (0 : Int)).bind (Sum.elim (fun r7 => (some r7)) (fun _ => (some ((-1) : Int)))))
def slices_IndexFunc___impl_Slot_impl_Slot__i3.res (_ : (List Slot)) (y : Int) : AV := (.v (.int .i64 y))
def slices_IndexFunc___impl_Slot_impl_Slot__i3.out (_ : (List Slot)) (_ : Int) : List (Option LB) := []
def slices_IndexFunc___impl_Slot_impl_Slot__i3.S (ar : List AV) (h : List (Option LB)) (r : AV) (h1 : List (Option LB)) : Prop := ∃ a0 y, slices_IndexFunc___impl_Slot_impl_Slot__i3 a0 = some y ∧ leL ar [(.tree ty_Slot a0), (.fn 160 [])] ∧ leH h [] ∧ r = slices_IndexFunc___impl_Slot_impl_Slot__i3.res a0 y ∧ h1 = slices_IndexFunc___impl_Slot_impl_Slot__i3.out a0 y
theorem slices_IndexFunc___impl_Slot_impl_Slot__i3.call {ar : List AV} {h : List (Option LB)} {a0 : (List Slot)} {y : Int} (H : slices_IndexFunc___impl_Slot_impl_Slot__i3 a0 = some y) (h0 : leLk ar [(.tree ty_Slot a0), (.fn 160 [])] (leHk h [])) : slices_IndexFunc___impl_Slot_impl_Slot__i3.S ar h (slices_IndexFunc___impl_Slot_impl_Slot__i3.res a0 y) (slices_IndexFunc___impl_Slot_impl_Slot__i3.out a0 y) := ⟨a0, y, H, (args_ok h0).1, (args_ok h0).2, rfl, rfl⟩
theorem slices_IndexFunc___impl_Slot_impl_Slot__i3.spec (a0 : (List Slot)) (y : Int) (H : slices_IndexFunc___impl_Slot_impl_Slot__i3 a0 = some y) : Spec Tryz.prog 156 [(.tree ty_Slot a0), (.fn 160 [])] [] (slices_IndexFunc___impl_Slot_impl_Slot__i3.res a0 y) (slices_IndexFunc___impl_Slot_impl_Slot__i3.out a0 y) := by
  refine spec_intro (G83_ok.at tok []) (ct := []) Tryz.func156 rfl (by kernel_rfl) (by kernel_rfl) rfl ?_
  repeat' first
    | ((with_reducible refine eqg ?_); exact rfl)
    | ((with_reducible refine KOb.mk ?_); kernel_rfl)
    | ((with_reducible intro h); (repeat first | replace H := grd_k H | replace H := out_step H ‹_›); first | replace H := cond_t h H | replace H := cond_f h H | exact absurd h (by decide) | skip)
    | ((with_reducible refine Ob.mk ?_); first | (with_reducible rfl) | (first | ((repeat (first | (with_reducible exact grd_p H) | replace H := grd_k H | replace H := out_step H ‹_›)); done) | rfl | ((repeat (first | exact grd_p H | (have hp := grd_p H; exact hp) | replace H := grd_k H | replace H := out_step H ‹_› | (replace H := bind_some H; obtain ⟨_, _, H⟩ := H))); done) | (repeat (first | exact grd_p H | replace H := grd_k H | replace H := out_step H ‹_›))))
    | (with_reducible exact True.intro)
    | ((conv => whnf); first
        | (with_reducible refine And.intro ?_ ?_)
        | (with_reducible exact True.intro)
        | (with_reducible refine (?_ : Ob _))
        | ((with_reducible refine CallW.mk ?_); (repeat first | replace H := grd_k H | replace H := out_step H ‹_›); replace H := bind_some H; obtain ⟨y, hy, H⟩ := H; first | ((with_reducible have hz : impl_Ropeway_act_1 _ = some y := hy); clear hz; refine ⟨_, _, impl_Ropeway_act_1.call hy ?_, rfl, rfl, ?_⟩))
        | ((repeat first | replace H := grd_k H | replace H := out_step H ‹_›); refine loop_iter (G83_ok.at tok []) (ct := []) (F := (fun s1 : Int => ⟨sl [(0, (.tree ty_Slot a0)), (1, (.fn 160 [])), (7, (.v (.int .i64 (a0.length : Int)))), (8, (.v (.int .i64 s1)))], []⟩)) (step := (fun s : Int => slices_IndexFunc___impl_Slot_impl_Slot__i3_loop1 _ s)) _ H (by kernel_rfl) (sub_auto ?_) ?_; rotate_left; (intro s1 r v hr H); rotate_right)
        | ((repeat first | replace H := grd_k H | replace H := out_step H ‹_›); refine again_step H (by assumption) (sub_auto ?_))
        | ((with_reducible refine fin_mk ?_); (repeat first | replace H := grd_k H | replace H := out_step H ‹_›); have H := Option.some.inj H; subst H))
    | constructor
  all_goals exact viewz _ _
def G84 : Env := G83.addOr 156 [] slices_IndexFunc___impl_Slot_impl_Slot__i3.S
theorem G84_ok : EnvOk Tryz.prog G84 := G83_ok.addOr ent_156 fun ar h r h1 ⟨a0, y, hy, e1, e2, e3, e4⟩ => by
  subst e3 e4; exact (slices_IndexFunc___impl_Slot_impl_Slot__i3.spec a0 y hy).le e1 e2
attribute [local irreducible] slices_IndexFunc___impl_Slot_impl_Slot__i3

end Go.Proofs.YtaobinhdnklojaaGreatDoor
namespace Go.Proofs.YtaobinhdnklojaaGreatDoor
open Go.RowKit
set_option maxHeartbeats 100000000
set_option maxRecDepth 100000
attribute [local irreducible] Ob loopwp Sub Spec Fin Again CallW CutC KOb iter

attribute [local irreducible] spec_l1Num_f impl_within impl_IsRopeway slices_Concat___impl_Slot_impl_Slot_ slices_IndexFunc___impl_Slot_impl_Slot__i2 impl_Ropeway_cabinAt impl_Ropeway_stationOf slices_IndexFunc___impl_Slot_impl_Slot__i3

noncomputable def slices_ContainsFunc___impl_Slot_impl_Slot__i2 (a0 : (List Slot)) : Option (Bool) :=
  ((slices_IndexFunc___impl_Slot_impl_Slot__i3 a0).bind fun y1 => (some (decide ((0 : Int) ≤ y1))))
def slices_ContainsFunc___impl_Slot_impl_Slot__i2.res (_ : (List Slot)) (y : Bool) : AV := (.bl y)
def slices_ContainsFunc___impl_Slot_impl_Slot__i2.out (_ : (List Slot)) (_ : Bool) : List (Option LB) := []
def slices_ContainsFunc___impl_Slot_impl_Slot__i2.S (ar : List AV) (h : List (Option LB)) (r : AV) (h1 : List (Option LB)) : Prop := ∃ a0 y, slices_ContainsFunc___impl_Slot_impl_Slot__i2 a0 = some y ∧ leL ar [(.tree ty_Slot a0), (.fn 160 [])] ∧ leH h [] ∧ r = slices_ContainsFunc___impl_Slot_impl_Slot__i2.res a0 y ∧ h1 = slices_ContainsFunc___impl_Slot_impl_Slot__i2.out a0 y
theorem slices_ContainsFunc___impl_Slot_impl_Slot__i2.call {ar : List AV} {h : List (Option LB)} {a0 : (List Slot)} {y : Bool} (H : slices_ContainsFunc___impl_Slot_impl_Slot__i2 a0 = some y) (h0 : leLk ar [(.tree ty_Slot a0), (.fn 160 [])] (leHk h [])) : slices_ContainsFunc___impl_Slot_impl_Slot__i2.S ar h (slices_ContainsFunc___impl_Slot_impl_Slot__i2.res a0 y) (slices_ContainsFunc___impl_Slot_impl_Slot__i2.out a0 y) := ⟨a0, y, H, (args_ok h0).1, (args_ok h0).2, rfl, rfl⟩
theorem slices_ContainsFunc___impl_Slot_impl_Slot__i2.spec (a0 : (List Slot)) (y : Bool) (H : slices_ContainsFunc___impl_Slot_impl_Slot__i2 a0 = some y) : Spec Tryz.prog 125 [(.tree ty_Slot a0), (.fn 160 [])] [] (slices_ContainsFunc___impl_Slot_impl_Slot__i2.res a0 y) (slices_ContainsFunc___impl_Slot_impl_Slot__i2.out a0 y) := by
  refine spec_intro (G84_ok.at tok []) (ct := []) Tryz.func125 rfl (by kernel_rfl) (by kernel_rfl) rfl ?_
  repeat' first
    | ((with_reducible refine eqg ?_); exact rfl)
    | ((with_reducible refine KOb.mk ?_); kernel_rfl)
    | ((with_reducible intro h); (repeat first | replace H := grd_k H | replace H := out_step H ‹_›); first | replace H := cond_t h H | replace H := cond_f h H | exact absurd h (by decide) | skip)
    | ((with_reducible refine Ob.mk ?_); first | (with_reducible rfl) | (first | ((repeat (first | (with_reducible exact grd_p H) | replace H := grd_k H | replace H := out_step H ‹_›)); done) | rfl | ((repeat (first | exact grd_p H | (have hp := grd_p H; exact hp) | replace H := grd_k H | replace H := out_step H ‹_› | (replace H := bind_some H; obtain ⟨_, _, H⟩ := H))); done) | (repeat (first | exact grd_p H | replace H := grd_k H | replace H := out_step H ‹_›))))
    | (with_reducible exact True.intro)
    | ((conv => whnf); first
        | (with_reducible refine And.intro ?_ ?_)
        | (with_reducible exact True.intro)
        | (with_reducible refine (?_ : Ob _))
        | ((with_reducible refine CallW.mk ?_); (repeat first | replace H := grd_k H | replace H := out_step H ‹_›); replace H := bind_some H; obtain ⟨y, hy, H⟩ := H; first | ((with_reducible have hz : slices_IndexFunc___impl_Slot_impl_Slot__i3 _ = some y := hy); clear hz; refine Exists.intro _ (Exists.intro _ ⟨Or.inl (slices_IndexFunc___impl_Slot_impl_Slot__i3.call hy ?_), rfl, rfl, ?_⟩)))
        | ((with_reducible refine fin_mk ?_); (repeat first | replace H := grd_k H | replace H := out_step H ‹_›); have H := Option.some.inj H; subst H))
    | constructor
  all_goals exact viewz _ _
def G85 : Env := G84.addOr 125 [] slices_ContainsFunc___impl_Slot_impl_Slot__i2.S
theorem G85_ok : EnvOk Tryz.prog G85 := G84_ok.addOr ent_125 fun ar h r h1 ⟨a0, y, hy, e1, e2, e3, e4⟩ => by
  subst e3 e4; exact (slices_ContainsFunc___impl_Slot_impl_Slot__i2.spec a0 y hy).le e1 e2
attribute [local irreducible] slices_ContainsFunc___impl_Slot_impl_Slot__i2

noncomputable def impl_Ropeway_act (a0 : Ropeway) (a1 : RopeStep) : Option ((Bool × Ropeway) ⊕ (Bool × Ropeway)) :=
  (cond (decide (a1.1 = (1 : Int))) (cond (!decide (a1.2.1 = a0.1)) (cond (!decide (a0.1 = (3 : Int))) (cond (!decide (a1.2.1 = (2 : Int))) ((some (Sum.inl (true, (a1.2.1, a0.2.1, a0.2.2.1, a0.2.2.2.1, a0.2.2.2.2.1, ()))))) ((some (Sum.inl ((decide (a0.1 = (1 : Int))), (a1.2.1, a0.2.1, a0.2.2.1, a0.2.2.2.1, a0.2.2.2.2.1, ())))))) (cond (decide (a1.2.1 = (0 : Int))) (cond (!decide (a1.2.1 = (2 : Int))) ((some (Sum.inl (true, (a1.2.1, a0.2.1, a0.2.2.1, a0.2.2.2.1, a0.2.2.2.2.1, ()))))) ((some (Sum.inl ((decide (a0.1 = (1 : Int))), (a1.2.1, a0.2.1, a0.2.2.1, a0.2.2.2.1, a0.2.2.2.2.1, ())))))) ((some (Sum.inl (false, (a1.2.1, a0.2.1, a0.2.2.1, a0.2.2.2.1, a0.2.2.2.2.1, ()))))))) ((some (Sum.inl (false, (a1.2.1, a0.2.1, a0.2.2.1, a0.2.2.2.1, a0.2.2.2.2.1, ())))))) (cond (decide (a1.1 = (2 : Int))) ((slices_ContainsFunc___impl_Slot_impl_Slot__i2 a0.2.1).bind fun y1 => ((grd (0 ≤ (w64 ((a0.2.1.length : Int) - (1 : Int))) ∧ (w64 ((a0.2.1.length : Int) - (1 : Int))) ≤ (a0.2.1.length : Int) ∧ (a0.2.1.length : Int) ≤ (a0.2.1.length : Int)) (grd (0 ≤ (0 : Int) ∧ (0 : Int) ≤ (w64 ((a0.2.1.length : Int) - (1 : Int))) ∧ (w64 ((a0.2.1.length : Int) - (1 : Int))) ≤ (a0.2.1.length : Int)) ((slices_Concat___impl_Slot_impl_Slot_ [((a0.2.1.drop ((w64 ((a0.2.1.length : Int) - (1 : Int))).toNat)).take (((a0.2.1.length : Int) - (w64 ((a0.2.1.length : Int) - (1 : Int)))).toNat)), ((a0.2.1.drop ((0 : Int).toNat)).take (((w64 ((a0.2.1.length : Int) - (1 : Int))) - (0 : Int)).toNat))]).bind fun y2 => (some ((Tg.mk : Tg 1), y1, y2))))).bind fun z3 => (cond (decide (a1.2.1 = (0 : Int))) (cond (!z3.2.1) (cond (decide (a0.1 = (1 : Int))) ((some (Sum.inr (true, (a0.1, z3.2.2, a0.2.2.1, a0.2.2.2.1, a0.2.2.2.2.1, ()))))) ((some (Sum.inr ((decide (a0.1 = (2 : Int))), (a0.1, z3.2.2, a0.2.2.1, a0.2.2.2.1, a0.2.2.2.2.1, ())))))) ((some (Sum.inr (false, (a0.1, z3.2.2, a0.2.2.1, a0.2.2.2.1, a0.2.2.2.2.1, ())))))) ((some (Sum.inr (false, (a0.1, z3.2.2, a0.2.2.1, a0.2.2.2.1, a0.2.2.2.2.1, ())))))))) (cond (decide (a1.1 = (3 : Int))) (cond (decide (a0.1 = (0 : Int))) ((impl_within a1.2.1 (1 : Int) (20 : Int)).bind fun y4 => (cond y4 (grd (0 ≤ (0 : Int) ∧ (0 : Int) < (a0.2.1.length : Int)) (cond (decide (((a0.2.1.getD ((0 : Int).toNat) d_Slot).1) = (0 : Int))) ((impl_Ropeway_cabinAt (a0.1, a0.2.1, a0.2.2.1, a0.2.2.2.1, a0.2.2.2.2.1, ()) a1.2.1).bind fun y5 => (grd (0 ≤ (0 : Int) ∧ (0 : Int) < (a0.2.1.length : Int)) ((some (Sum.inl ((decide (y5 < (0 : Int))), (a0.1, (a0.2.1.set ((0 : Int).toNat) (a1.2.1, false, (0 : Int), ())), a0.2.2.1, a0.2.2.2.1, a0.2.2.2.2.1, ()))))))) (grd (0 ≤ (0 : Int) ∧ (0 : Int) < (a0.2.1.length : Int)) ((some (Sum.inl (false, (a0.1, (a0.2.1.set ((0 : Int).toNat) (a1.2.1, false, (0 : Int), ())), a0.2.2.1, a0.2.2.2.1, a0.2.2.2.2.1, ())))))))) (grd (0 ≤ (0 : Int) ∧ (0 : Int) < (a0.2.1.length : Int)) ((some (Sum.inl (false, (a0.1, (a0.2.1.set ((0 : Int).toNat) (a1.2.1, false, (0 : Int), ())), a0.2.2.1, a0.2.2.2.1, a0.2.2.2.2.1, ())))))))) (grd (0 ≤ (0 : Int) ∧ (0 : Int) < (a0.2.1.length : Int)) ((some (Sum.inl (false, (a0.1, (a0.2.1.set ((0 : Int).toNat) (a1.2.1, false, (0 : Int), ())), a0.2.2.1, a0.2.2.2.1, a0.2.2.2.2.1, ()))))))) (cond (decide (a1.1 = (4 : Int))) (cond (decide (a1.2.1 = (0 : Int))) (cond (decide (a0.1 = (0 : Int))) (grd (0 ≤ (0 : Int) ∧ (0 : Int) < (a0.2.1.length : Int)) (cond (decide ((0 : Int) < ((a0.2.1.getD ((0 : Int).toNat) d_Slot).1))) (grd (0 ≤ (0 : Int) ∧ (0 : Int) < (a0.2.1.length : Int)) (grd (0 ≤ (0 : Int) ∧ (0 : Int) < (a0.2.1.length : Int)) ((some (Sum.inl ((decide (((a0.2.1.getD ((0 : Int).toNat) d_Slot).2.2.1) = (0 : Int))), (a0.1, (a0.2.1.set ((0 : Int).toNat) ((0 : Int), false, (0 : Int), ())), a0.2.2.1, a0.2.2.2.1, a0.2.2.2.2.1, ()))))))) (grd (0 ≤ (0 : Int) ∧ (0 : Int) < (a0.2.1.length : Int)) ((some (Sum.inl (false, (a0.1, (a0.2.1.set ((0 : Int).toNat) ((0 : Int), false, (0 : Int), ())), a0.2.2.1, a0.2.2.2.1, a0.2.2.2.2.1, ())))))))) (grd (0 ≤ (0 : Int) ∧ (0 : Int) < (a0.2.1.length : Int)) ((some (Sum.inl (false, (a0.1, (a0.2.1.set ((0 : Int).toNat) ((0 : Int), false, (0 : Int), ())), a0.2.2.1, a0.2.2.2.1, a0.2.2.2.2.1, ()))))))) (grd (0 ≤ (0 : Int) ∧ (0 : Int) < (a0.2.1.length : Int)) ((some (Sum.inl (false, (a0.1, (a0.2.1.set ((0 : Int).toNat) ((0 : Int), false, (0 : Int), ())), a0.2.2.1, a0.2.2.2.1, a0.2.2.2.2.1, ()))))))) ((impl_within a1.2.1 (0 : Int) (1 : Int)).bind fun y6 => (cond (!y6) ((some (Sum.inl (false, (a0.1, a0.2.1, a0.2.2.1, a0.2.2.2.1, a0.2.2.2.2.1, ()))))) ((impl_Ropeway_stationOf (a0.1, a0.2.1, a0.2.2.1, a0.2.2.2.1, a0.2.2.2.2.1, ()) a1.2.1).bind fun y7 => (grd (0 ≤ y7 ∧ y7 < (a0.2.1.length : Int)) (cond (decide (a1.1 = (7 : Int))) (cond (decide ((0 : Int) < (((a0.2.1.set y7.toNat ((a0.2.1.getD y7.toNat d_Slot).1, (!((a0.2.1.getD y7.toNat d_Slot).2.1)), (a0.2.1.getD y7.toNat d_Slot).2.2.1, ())).getD y7.toNat d_Slot).1))) ((some (Sum.inl ((!decide (a0.1 = (2 : Int))), (a0.1, (a0.2.1.set y7.toNat ((a0.2.1.getD y7.toNat d_Slot).1, (!((a0.2.1.getD y7.toNat d_Slot).2.1)), (a0.2.1.getD y7.toNat d_Slot).2.2.1, ())), a0.2.2.1, a0.2.2.2.1, a0.2.2.2.2.1, ()))))) ((some (Sum.inl (false, (a0.1, (a0.2.1.set y7.toNat ((a0.2.1.getD y7.toNat d_Slot).1, (!((a0.2.1.getD y7.toNat d_Slot).2.1)), (a0.2.1.getD y7.toNat d_Slot).2.2.1, ())), a0.2.2.1, a0.2.2.2.1, a0.2.2.2.2.1, ())))))) (cond (decide (a1.1 = (5 : Int))) ((cond (decide (a1.2.1 = (0 : Int))) ((some (y7.toNat, (w64 (a0.2.2.1 - (1 : Int))), a0.2.2.2.1))) ((some (y7.toNat, a0.2.2.1, (w64 (a0.2.2.2.1 - (1 : Int))))))).bind fun z8 => (cond (((a0.2.1.set z8.1 ((a0.2.1.getD z8.1 d_Slot).1, (a0.2.1.getD z8.1 d_Slot).2.1, (w64 (((a0.2.1.getD z8.1 d_Slot).2.2.1) + (1 : Int))), ())).getD z8.1 d_Slot).2.1) (cond (decide (a1.2.1 = (1 : Int))) ((some (Sum.inl (true, (a0.1, (a0.2.1.set z8.1 ((a0.2.1.getD z8.1 d_Slot).1, (a0.2.1.getD z8.1 d_Slot).2.1, (w64 (((a0.2.1.getD z8.1 d_Slot).2.2.1) + (1 : Int))), ())), z8.2.1, z8.2.2, a0.2.2.2.2.1, ()))))) ((some (Sum.inl ((!decide (a0.1 = (3 : Int))), (a0.1, (a0.2.1.set z8.1 ((a0.2.1.getD z8.1 d_Slot).1, (a0.2.1.getD z8.1 d_Slot).2.1, (w64 (((a0.2.1.getD z8.1 d_Slot).2.2.1) + (1 : Int))), ())), z8.2.1, z8.2.2, a0.2.2.2.2.1, ())))))) ((some (Sum.inl (false, (a0.1, (a0.2.1.set z8.1 ((a0.2.1.getD z8.1 d_Slot).1, (a0.2.1.getD z8.1 d_Slot).2.1, (w64 (((a0.2.1.getD z8.1 d_Slot).2.2.1) + (1 : Int))), ())), z8.2.1, z8.2.2, a0.2.2.2.2.1, ()))))))) (cond (decide (a1.1 = (6 : Int))) (cond (decide (a1.2.1 = (0 : Int))) ((some (Sum.inl ((((a0.2.1.set y7.toNat ((a0.2.1.getD y7.toNat d_Slot).1, (a0.2.1.getD y7.toNat d_Slot).2.1, (w64 (((a0.2.1.getD y7.toNat d_Slot).2.2.1) - (1 : Int))), ())).getD y7.toNat d_Slot).2.1), (a0.1, (a0.2.1.set y7.toNat ((a0.2.1.getD y7.toNat d_Slot).1, (a0.2.1.getD y7.toNat d_Slot).2.1, (w64 (((a0.2.1.getD y7.toNat d_Slot).2.2.1) - (1 : Int))), ())), a0.2.2.1, a0.2.2.2.1, (w64 (a0.2.2.2.2.1 + (1 : Int))), ()))))) ((some (Sum.inl ((((a0.2.1.set y7.toNat ((a0.2.1.getD y7.toNat d_Slot).1, (a0.2.1.getD y7.toNat d_Slot).2.1, (w64 (((a0.2.1.getD y7.toNat d_Slot).2.2.1) - (1 : Int))), ())).getD y7.toNat d_Slot).2.1), (a0.1, (a0.2.1.set y7.toNat ((a0.2.1.getD y7.toNat d_Slot).1, (a0.2.1.getD y7.toNat d_Slot).2.1, (w64 (((a0.2.1.getD y7.toNat d_Slot).2.2.1) - (1 : Int))), ())), a0.2.2.1, (w64 (a0.2.2.2.1 + (1 : Int))), a0.2.2.2.2.1, ())))))) ((some (Sum.inl (false, (a0.1, a0.2.1, a0.2.2.1, a0.2.2.2.1, a0.2.2.2.2.1, ()))))))))))))))))
def impl_Ropeway_act.res (_ : Ropeway) (_ : RopeStep) (y : (Bool × Ropeway) ⊕ (Bool × Ropeway)) : AV := match y with
  | (.inl y) => (.bl y.1)
  | (.inr y) => (.bl y.1)
def impl_Ropeway_act.out (_ : Ropeway) (_ : RopeStep) (y : (Bool × Ropeway) ⊕ (Bool × Ropeway)) : List (Option LB) := match y with
  | (.inl y) => [some (.box 38 [(.v (.int .i64 y.2.1)), (.own 1), (.v (.int .i64 y.2.2.2.1)), (.v (.int .i64 y.2.2.2.2.1)), (.v (.int .i64 y.2.2.2.2.2.1))]), some (.arr 96 ty_Slot y.2.2.1)]
  | (.inr y) => [some (.box 38 [(.v (.int .i64 y.2.1)), (.own 2), (.v (.int .i64 y.2.2.2.1)), (.v (.int .i64 y.2.2.2.2.1)), (.v (.int .i64 y.2.2.2.2.2.1))]), none, some (.arr 96 ty_Slot y.2.2.1)]
def impl_Ropeway_act.S (ar : List AV) (h : List (Option LB)) (r : AV) (h1 : List (Option LB)) : Prop := ∃ a0 a1 y, impl_Ropeway_act a0 a1 = some y ∧ leL ar [(.loc 0 0 0), (.agg [(.v (.int .i64 a1.1)), (.v (.int .i64 a1.2.1))])] ∧ leH h [some (.box 38 [(.v (.int .i64 a0.1)), (.own 1), (.v (.int .i64 a0.2.2.1)), (.v (.int .i64 a0.2.2.2.1)), (.v (.int .i64 a0.2.2.2.2.1))]), some (.arr 96 ty_Slot a0.2.1)] ∧ r = impl_Ropeway_act.res a0 a1 y ∧ h1 = impl_Ropeway_act.out a0 a1 y
theorem impl_Ropeway_act.call {ar : List AV} {h : List (Option LB)} {a0 : Ropeway} {a1 : RopeStep} {y : (Bool × Ropeway) ⊕ (Bool × Ropeway)} (H : impl_Ropeway_act a0 a1 = some y) (h0 : leLk ar [(.loc 0 0 0), (.agg [(.v (.int .i64 a1.1)), (.v (.int .i64 a1.2.1))])] (leHk h [some (.box 38 [(.v (.int .i64 a0.1)), (.own 1), (.v (.int .i64 a0.2.2.1)), (.v (.int .i64 a0.2.2.2.1)), (.v (.int .i64 a0.2.2.2.2.1))]), some (.arr 96 ty_Slot a0.2.1)])) : impl_Ropeway_act.S ar h (impl_Ropeway_act.res a0 a1 y) (impl_Ropeway_act.out a0 a1 y) := ⟨a0, a1, y, H, (args_ok h0).1, (args_ok h0).2, rfl, rfl⟩
theorem impl_Ropeway_act.spec (a0 : Ropeway) (a1 : RopeStep) (y : (Bool × Ropeway) ⊕ (Bool × Ropeway)) (H : impl_Ropeway_act a0 a1 = some y) : Spec Tryz.prog 129 [(.loc 0 0 0), (.agg [(.v (.int .i64 a1.1)), (.v (.int .i64 a1.2.1))])] [some (.box 38 [(.v (.int .i64 a0.1)), (.own 1), (.v (.int .i64 a0.2.2.1)), (.v (.int .i64 a0.2.2.2.1)), (.v (.int .i64 a0.2.2.2.2.1))]), some (.arr 96 ty_Slot a0.2.1)] (impl_Ropeway_act.res a0 a1 y) (impl_Ropeway_act.out a0 a1 y) := by
  have hlen : Nat.ble ([some (.box 38 [(.v (.int .i64 a0.1)), (.own 1), (.v (.int .i64 a0.2.2.1)), (.v (.int .i64 a0.2.2.2.1)), (.v (.int .i64 a0.2.2.2.2.1))]), some (.arr 96 ty_Slot a0.2.1)] : List (Option LB)).length (impl_Ropeway_act.out a0 a1 y).length = true := by
    rcases y with y | y <;> rfl
  refine spec_intro (G85_ok.at tok []) (ct := [(10, none), (30, none), (5, some [0, 3, 6, 34, 35, 36, 37, 38, 39, 40, 43, 44, 45, 46, 47, 48, 49]), (8, some [0, 3, 5, 17, 51, 81, 82, 85, 86, 87, 88, 89, 90, 91, 92, 93, 94, 95, 96, 106, 107, 108, 111, 112, 113, 114, 115, 116, 117, 118, 121, 122, 123, 124, 125, 126, 127, 144, 145, 146, 147, 148, 151, 152, 153, 154, 155, 156, 157, 158, 161, 162, 163, 164, 165, 166, 167, 168, 210, 211, 212, 213, 214, 247, 248, 249, 250, 251, 252, 253, 254, 255, 256]), (13, some [0, 3, 8]), (17, some [0, 9]), (19, some [0, 3, 210, 211, 212, 213, 214, 247, 248, 249, 250, 251, 252, 253, 254, 255, 256]), (22, some [0, 3, 10, 210, 211, 212, 213, 214, 247, 248, 249, 250, 251, 252, 253, 254, 255, 256]), (36, some [10]), (38, some [])]) Tryz.func129 rfl (by kernel_rfl) (by kernel_rfl) hlen ?_
  repeat' first
    | ((with_reducible refine eqg ?_); exact rfl)
    | ((with_reducible refine KOb.mk ?_); kernel_rfl)
    | ((with_reducible intro h); (repeat first | replace H := grd_k H | replace H := out_step H ‹_›); first | replace H := cond_t h H | replace H := cond_f h H | exact absurd h (by decide) | skip)
    | ((with_reducible refine Ob.mk ?_); first | (with_reducible rfl) | (first | ((repeat (first | (with_reducible exact grd_p H) | replace H := grd_k H | replace H := out_step H ‹_›)); done) | rfl | ((repeat (first | exact grd_p H | (have hp := grd_p H; exact hp) | replace H := grd_k H | replace H := out_step H ‹_› | (replace H := bind_some H; obtain ⟨_, _, H⟩ := H))); done) | (repeat (first | exact grd_p H | replace H := grd_k H | replace H := out_step H ‹_›))))
    | (with_reducible exact True.intro)
    | ((conv => whnf); first
        | (with_reducible refine And.intro ?_ ?_)
        | (with_reducible exact True.intro)
        | (with_reducible refine (?_ : Ob _))
        | ((with_reducible refine CallW.mk ?_); (repeat first | replace H := grd_k H | replace H := out_step H ‹_›); replace H := bind_some H; obtain ⟨y, hy, H⟩ := H; first | ((with_reducible have hz : slices_ContainsFunc___impl_Slot_impl_Slot__i2 _ = some y := hy); clear hz; refine Exists.intro _ (Exists.intro _ ⟨Or.inl (slices_ContainsFunc___impl_Slot_impl_Slot__i2.call hy ?_), rfl, rfl, ?_⟩)) | ((with_reducible have hz : slices_Concat___impl_Slot_impl_Slot_ _ = some y := hy); clear hz; refine ⟨_, _, slices_Concat___impl_Slot_impl_Slot_.call hy ?_, rfl, rfl, ?_⟩) | ((with_reducible have hz : impl_within _ _ _ = some y := hy); clear hz; refine ⟨_, _, impl_within.call hy ?_, rfl, rfl, ?_⟩) | ((with_reducible have hz : impl_Ropeway_cabinAt _ _ = some y := hy); clear hz; refine ⟨_, _, impl_Ropeway_cabinAt.call hy ?_, rfl, rfl, ?_⟩) | ((with_reducible have hz : impl_Ropeway_stationOf _ _ = some y := hy); clear hz; refine ⟨_, _, impl_Ropeway_stationOf.call hy ?_, rfl, rfl, ?_⟩))
        | ((with_reducible refine cutAt (id := 10) ?_); (repeat first | replace H := grd_k H | replace H := out_step H ‹_›); first | (replace H := bind_some H; obtain ⟨z, hz, H⟩ := H; have hT : Tg 1 × Bool × (List Slot) := z; clear hT; refine CutC.mk (id := 10) ⟨sl [(0, (.loc 0 0 0)), (3, (.loc 2 0 0)), (7, (.bl z.2.1))], [some (.box 38 [(.v (.int .i64 a0.1)), (.own 3), (.v (.int .i64 a0.2.2.1)), (.v (.int .i64 a0.2.2.2.1)), (.v (.int .i64 a0.2.2.2.2.1))]), none, some (.box 120 [(.v (.int .i64 a1.1)), (.v (.int .i64 a1.2.1))]), some (.arr 96 ty_Slot z.2.2)]⟩ ?_ ?_; (replace H := hz)))
        | ((with_reducible refine cutAt (id := 30) ?_); (repeat first | replace H := grd_k H | replace H := out_step H ‹_›); first | (replace H := bind_some H; obtain ⟨z, hz, H⟩ := H; refine CutC.mk (id := 30) ⟨sl [(0, (.loc 0 0 0)), (3, (.loc 2 0 0)), (10, (.loc 1 z.1 0))], [some (.box 38 [(.v (.int .i64 a0.1)), (.own 1), (.v (.int .i64 z.2.1)), (.v (.int .i64 z.2.2)), (.v (.int .i64 a0.2.2.2.2.1))]), some (.arr 96 ty_Slot a0.2.1), some (.box 120 [(.v (.int .i64 a1.1)), (.v (.int .i64 a1.2.1))])]⟩ ?_ ?_; (replace H := hz)))
        | ((repeat first | replace H := grd_k H | replace H := out_step H ‹_›); have H := Option.some.inj H; subst H; with_reducible refine sub_auto ?_)
        | ((with_reducible refine fin_mk ?_); (repeat first | replace H := grd_k H | replace H := out_step H ‹_›); have H := Option.some.inj H; subst H))
    | constructor
def G86 : Env := G85.add 129 [true] impl_Ropeway_act.S
theorem G86_ok : EnvOk Tryz.prog G86 := G85_ok.add ent_129 fun ar h r h1 ⟨a0, a1, y, hy, e1, e2, e3, e4⟩ => by
  subst e3 e4; exact (impl_Ropeway_act.spec a0 a1 y hy).le e1 e2
attribute [local irreducible] impl_Ropeway_act

noncomputable def slices_Clone___impl_Slot_impl_Slot__i1 (a100 : (List Slot)) : Option ((List Slot)) :=
  (grd (0 < a100.length) (grd (([] : List Slot).length + a100.length ≤ 140737488355328 / 24 ∧ ([] : List Slot).length + a100.length ≤ 140737488355328) ((some (([] : List Slot) ++ a100)))))
def slices_Clone___impl_Slot_impl_Slot__i1.res (_ : (List Slot)) (_ : (List Slot)) : AV := (.own 0)
def slices_Clone___impl_Slot_impl_Slot__i1.out (_ : (List Slot)) (y : (List Slot)) : List (Option LB) := [some (.arr 96 ty_Slot y)]
def slices_Clone___impl_Slot_impl_Slot__i1.S (ar : List AV) (h : List (Option LB)) (r : AV) (h1 : List (Option LB)) : Prop := ∃ a100 y, slices_Clone___impl_Slot_impl_Slot__i1 a100 = some y ∧ leL ar [(.tree ty_Slot a100)] ∧ leH h [] ∧ r = slices_Clone___impl_Slot_impl_Slot__i1.res a100 y ∧ h1 = slices_Clone___impl_Slot_impl_Slot__i1.out a100 y
theorem slices_Clone___impl_Slot_impl_Slot__i1.call {ar : List AV} {h : List (Option LB)} {a100 : (List Slot)} {y : (List Slot)} (H : slices_Clone___impl_Slot_impl_Slot__i1 a100 = some y) (h0 : leLk ar [(.tree ty_Slot a100)] (leHk h [])) : slices_Clone___impl_Slot_impl_Slot__i1.S ar h (slices_Clone___impl_Slot_impl_Slot__i1.res a100 y) (slices_Clone___impl_Slot_impl_Slot__i1.out a100 y) := ⟨a100, y, H, (args_ok h0).1, (args_ok h0).2, rfl, rfl⟩
theorem slices_Clone___impl_Slot_impl_Slot__i1.spec (a100 : (List Slot)) (y : (List Slot)) (H : slices_Clone___impl_Slot_impl_Slot__i1 a100 = some y) : Spec Tryz.prog 84 [(.tree ty_Slot a100)] [] (slices_Clone___impl_Slot_impl_Slot__i1.res a100 y) (slices_Clone___impl_Slot_impl_Slot__i1.out a100 y) := by
  refine spec_intro (G86_ok.at tok []) (ct := []) Tryz.func84 rfl (by kernel_rfl) (by kernel_rfl) rfl ?_
  repeat' first
    | ((with_reducible refine eqg ?_); exact rfl)
    | ((with_reducible refine KOb.mk ?_); kernel_rfl)
    | ((with_reducible intro h); (repeat first | replace H := grd_k H | replace H := out_step H ‹_›); first | replace H := cond_t h H | replace H := cond_f h H | exact absurd h (by decide) | skip)
    | ((with_reducible refine Ob.mk ?_); first | (with_reducible rfl) | (first | ((repeat (first | (with_reducible exact grd_p H) | replace H := grd_k H | replace H := out_step H ‹_›)); done) | rfl | ((repeat (first | exact grd_p H | (have hp := grd_p H; exact hp) | replace H := grd_k H | replace H := out_step H ‹_› | (replace H := bind_some H; obtain ⟨_, _, H⟩ := H))); done) | (repeat (first | exact grd_p H | replace H := grd_k H | replace H := out_step H ‹_›))))
    | (with_reducible exact True.intro)
    | ((conv => whnf); first
        | (with_reducible refine And.intro ?_ ?_)
        | (with_reducible exact True.intro)
        | (with_reducible refine (?_ : Ob _))
        | ((with_reducible refine fin_mk ?_); (repeat first | replace H := grd_k H | replace H := out_step H ‹_›); have H := Option.some.inj H; subst H))
    | constructor
  all_goals exact viewz _ _
def G87 : Env := G86.addOr 84 [true] slices_Clone___impl_Slot_impl_Slot__i1.S
theorem G87_ok : EnvOk Tryz.prog G87 := G86_ok.addOr ent_84 fun ar h r h1 ⟨a100, y, hy, e1, e2, e3, e4⟩ => by
  subst e3 e4; exact (slices_Clone___impl_Slot_impl_Slot__i1.spec a100 y hy).le e1 e2
attribute [local irreducible] slices_Clone___impl_Slot_impl_Slot__i1

noncomputable def impl_copyRopeway_i1 (a100 : Int) (a101 : (List Slot)) (a102 : Int) (a103 : Int) (a104 : Int) : Option (Ropeway) :=
  ((slices_Clone___impl_Slot_impl_Slot__i1 a101).bind fun y1 => (some (a100, y1, a102, a103, a104, ())))
def impl_copyRopeway_i1.res (_ : Int) (_ : (List Slot)) (_ : Int) (_ : Int) (_ : Int) (y : Ropeway) : AV := (.agg [(.v (.int .i64 y.1)), (.own 0), (.v (.int .i64 y.2.2.1)), (.v (.int .i64 y.2.2.2.1)), (.v (.int .i64 y.2.2.2.2.1))])
def impl_copyRopeway_i1.out (_ : Int) (_ : (List Slot)) (_ : Int) (_ : Int) (_ : Int) (y : Ropeway) : List (Option LB) := [some (.arr 96 ty_Slot y.2.1)]
def impl_copyRopeway_i1.S (ar : List AV) (h : List (Option LB)) (r : AV) (h1 : List (Option LB)) : Prop := ∃ a100 a101 a102 a103 a104 y, impl_copyRopeway_i1 a100 a101 a102 a103 a104 = some y ∧ leL ar [(.agg [(.v (.int .i64 a100)), (.tree ty_Slot a101), (.v (.int .i64 a102)), (.v (.int .i64 a103)), (.v (.int .i64 a104))])] ∧ leH h [] ∧ r = impl_copyRopeway_i1.res a100 a101 a102 a103 a104 y ∧ h1 = impl_copyRopeway_i1.out a100 a101 a102 a103 a104 y
theorem impl_copyRopeway_i1.call {ar : List AV} {h : List (Option LB)} {a100 : Int} {a101 : (List Slot)} {a102 : Int} {a103 : Int} {a104 : Int} {y : Ropeway} (H : impl_copyRopeway_i1 a100 a101 a102 a103 a104 = some y) (h0 : leLk ar [(.agg [(.v (.int .i64 a100)), (.tree ty_Slot a101), (.v (.int .i64 a102)), (.v (.int .i64 a103)), (.v (.int .i64 a104))])] (leHk h [])) : impl_copyRopeway_i1.S ar h (impl_copyRopeway_i1.res a100 a101 a102 a103 a104 y) (impl_copyRopeway_i1.out a100 a101 a102 a103 a104 y) := ⟨a100, a101, a102, a103, a104, y, H, (args_ok h0).1, (args_ok h0).2, rfl, rfl⟩
theorem impl_copyRopeway_i1.spec (a100 : Int) (a101 : (List Slot)) (a102 : Int) (a103 : Int) (a104 : Int) (y : Ropeway) (H : impl_copyRopeway_i1 a100 a101 a102 a103 a104 = some y) : Spec Tryz.prog 45 [(.agg [(.v (.int .i64 a100)), (.tree ty_Slot a101), (.v (.int .i64 a102)), (.v (.int .i64 a103)), (.v (.int .i64 a104))])] [] (impl_copyRopeway_i1.res a100 a101 a102 a103 a104 y) (impl_copyRopeway_i1.out a100 a101 a102 a103 a104 y) := by
  refine spec_intro (G87_ok.at tok []) (ct := []) Tryz.func45 rfl (by kernel_rfl) (by kernel_rfl) rfl ?_
  repeat' first
    | ((with_reducible refine eqg ?_); exact rfl)
    | ((with_reducible refine KOb.mk ?_); kernel_rfl)
    | ((with_reducible intro h); (repeat first | replace H := grd_k H | replace H := out_step H ‹_›); first | replace H := cond_t h H | replace H := cond_f h H | exact absurd h (by decide) | skip)
    | ((with_reducible refine Ob.mk ?_); first | (with_reducible rfl) | (first | ((repeat (first | (with_reducible exact grd_p H) | replace H := grd_k H | replace H := out_step H ‹_›)); done) | rfl | ((repeat (first | exact grd_p H | (have hp := grd_p H; exact hp) | replace H := grd_k H | replace H := out_step H ‹_› | (replace H := bind_some H; obtain ⟨_, _, H⟩ := H))); done) | (repeat (first | exact grd_p H | replace H := grd_k H | replace H := out_step H ‹_›))))
    | (with_reducible exact True.intro)
    | ((conv => whnf); first
        | (with_reducible refine And.intro ?_ ?_)
        | (with_reducible exact True.intro)
        | (with_reducible refine (?_ : Ob _))
        | ((with_reducible refine CallW.mk ?_); (repeat first | replace H := grd_k H | replace H := out_step H ‹_›); replace H := bind_some H; obtain ⟨y, hy, H⟩ := H; first | ((with_reducible have hz : slices_Clone___impl_Slot_impl_Slot__i1 _ = some y := hy); clear hz; refine Exists.intro _ (Exists.intro _ ⟨Or.inl (slices_Clone___impl_Slot_impl_Slot__i1.call hy ?_), rfl, rfl, ?_⟩)))
        | ((with_reducible refine fin_mk ?_); (repeat first | replace H := grd_k H | replace H := out_step H ‹_›); have H := Option.some.inj H; subst H))
    | constructor
def G88 : Env := G87.addOr 45 [true] impl_copyRopeway_i1.S
theorem G88_ok : EnvOk Tryz.prog G88 := G87_ok.addOr ent_45 fun ar h r h1 ⟨a100, a101, a102, a103, a104, y, hy, e1, e2, e3, e4⟩ => by
  subst e3 e4; exact (impl_copyRopeway_i1.spec a100 a101 a102 a103 a104 y hy).le e1 e2
attribute [local irreducible] impl_copyRopeway_i1

noncomputable def impl_Ropeway_step (a0 : Ropeway) (a1 : RopeStep) : Option ((Ropeway) ⊕ (Ropeway)) :=
  ((impl_copyRopeway_i1 a0.1 a0.2.1 a0.2.2.1 a0.2.2.2.1 a0.2.2.2.2.1).bind fun y1 => ((impl_Ropeway_act (y1.1, y1.2.1, y1.2.2.1, y1.2.2.2.1, y1.2.2.2.2.1, ()) (a1.1, a1.2.1, ())).bind (Sum.elim (fun y3 => (cond (!y3.1) ((some (Sum.inl ((0 : Int), [], (0 : Int), (0 : Int), (0 : Int), ())))) ((impl_IsRopeway (y3.2.1, y3.2.2.1, y3.2.2.2.1, y3.2.2.2.2.1, y3.2.2.2.2.2.1, ())).bind fun y4 => (cond (!y4) ((some (Sum.inl ((0 : Int), [], (0 : Int), (0 : Int), (0 : Int), ())))) ((some (Sum.inr (y3.2.1, y3.2.2.1, y3.2.2.2.1, y3.2.2.2.2.1, y3.2.2.2.2.2.1, ())))))))) (fun y5 => (cond (!y5.1) ((some (Sum.inl ((0 : Int), [], (0 : Int), (0 : Int), (0 : Int), ())))) ((impl_IsRopeway (y5.2.1, y5.2.2.1, y5.2.2.2.1, y5.2.2.2.2.1, y5.2.2.2.2.2.1, ())).bind fun y6 => (cond (!y6) ((some (Sum.inl ((0 : Int), [], (0 : Int), (0 : Int), (0 : Int), ())))) ((some (Sum.inr (y5.2.1, y5.2.2.1, y5.2.2.2.1, y5.2.2.2.2.1, y5.2.2.2.2.2.1, ())))))))))))
def impl_Ropeway_step.res (_ : Ropeway) (_ : RopeStep) (y : (Ropeway) ⊕ (Ropeway)) : AV := match y with
  | (.inl y) => (.tup [(.agg [(.v (.int .i64 y.1)), (.v (.slice none 0 0)), (.v (.int .i64 y.2.2.1)), (.v (.int .i64 y.2.2.2.1)), (.v (.int .i64 y.2.2.2.2.1))]), (.v (.bool false))])
  | (.inr y) => (.tup [(.agg [(.v (.int .i64 y.1)), (.own 0), (.v (.int .i64 y.2.2.1)), (.v (.int .i64 y.2.2.2.1)), (.v (.int .i64 y.2.2.2.2.1))]), (.v (.bool true))])
def impl_Ropeway_step.out (_ : Ropeway) (_ : RopeStep) (y : (Ropeway) ⊕ (Ropeway)) : List (Option LB) := match y with
  | (.inl y) => []
  | (.inr y) => [some (.arr 96 ty_Slot y.2.1)]
def impl_Ropeway_step.S (ar : List AV) (h : List (Option LB)) (r : AV) (h1 : List (Option LB)) : Prop := ∃ a0 a1 y, impl_Ropeway_step a0 a1 = some y ∧ leL ar [(.agg [(.v (.int .i64 a0.1)), (.tree ty_Slot a0.2.1), (.v (.int .i64 a0.2.2.1)), (.v (.int .i64 a0.2.2.2.1)), (.v (.int .i64 a0.2.2.2.2.1))]), (.agg [(.v (.int .i64 a1.1)), (.v (.int .i64 a1.2.1))])] ∧ leH h [] ∧ r = impl_Ropeway_step.res a0 a1 y ∧ h1 = impl_Ropeway_step.out a0 a1 y
theorem impl_Ropeway_step.call {ar : List AV} {h : List (Option LB)} {a0 : Ropeway} {a1 : RopeStep} {y : (Ropeway) ⊕ (Ropeway)} (H : impl_Ropeway_step a0 a1 = some y) (h0 : leLk ar [(.agg [(.v (.int .i64 a0.1)), (.tree ty_Slot a0.2.1), (.v (.int .i64 a0.2.2.1)), (.v (.int .i64 a0.2.2.2.1)), (.v (.int .i64 a0.2.2.2.2.1))]), (.agg [(.v (.int .i64 a1.1)), (.v (.int .i64 a1.2.1))])] (leHk h [])) : impl_Ropeway_step.S ar h (impl_Ropeway_step.res a0 a1 y) (impl_Ropeway_step.out a0 a1 y) := ⟨a0, a1, y, H, (args_ok h0).1, (args_ok h0).2, rfl, rfl⟩
theorem impl_Ropeway_step.spec (a0 : Ropeway) (a1 : RopeStep) (y : (Ropeway) ⊕ (Ropeway)) (H : impl_Ropeway_step a0 a1 = some y) : Spec Tryz.prog 89 [(.agg [(.v (.int .i64 a0.1)), (.tree ty_Slot a0.2.1), (.v (.int .i64 a0.2.2.1)), (.v (.int .i64 a0.2.2.2.1)), (.v (.int .i64 a0.2.2.2.2.1))]), (.agg [(.v (.int .i64 a1.1)), (.v (.int .i64 a1.2.1))])] [] (impl_Ropeway_step.res a0 a1 y) (impl_Ropeway_step.out a0 a1 y) := by
  have hlen : Nat.ble ([] : List (Option LB)).length (impl_Ropeway_step.out a0 a1 y).length = true := by
    rcases y with y | y <;> rfl
  refine spec_intro (G88_ok.at tok []) (ct := [(3, some [4, 6, 16])]) Tryz.func89 rfl (by kernel_rfl) (by kernel_rfl) hlen ?_
  repeat' first
    | ((with_reducible refine eqg ?_); exact rfl)
    | ((with_reducible refine KOb.mk ?_); kernel_rfl)
    | ((with_reducible intro h); (repeat first | replace H := grd_k H | replace H := out_step H ‹_›); first | replace H := cond_t h H | replace H := cond_f h H | exact absurd h (by decide) | skip)
    | ((with_reducible refine Ob.mk ?_); first | (with_reducible rfl) | (first | ((repeat (first | (with_reducible exact grd_p H) | replace H := grd_k H | replace H := out_step H ‹_›)); done) | rfl | ((repeat (first | exact grd_p H | (have hp := grd_p H; exact hp) | replace H := grd_k H | replace H := out_step H ‹_› | (replace H := bind_some H; obtain ⟨_, _, H⟩ := H))); done) | (repeat (first | exact grd_p H | replace H := grd_k H | replace H := out_step H ‹_›))))
    | (with_reducible exact True.intro)
    | ((conv => whnf); first
        | (with_reducible refine And.intro ?_ ?_)
        | (with_reducible exact True.intro)
        | (with_reducible refine (?_ : Ob _))
        | ((with_reducible refine CallW.mk ?_); (repeat first | replace H := grd_k H | replace H := out_step H ‹_›); replace H := bind_some H; obtain ⟨y, hy, H⟩ := H; first | ((with_reducible have hz : impl_copyRopeway_i1 _ _ _ _ _ = some y := hy); clear hz; refine Exists.intro _ (Exists.intro _ ⟨Or.inl (impl_copyRopeway_i1.call hy ?_), rfl, rfl, ?_⟩)) | ((with_reducible have hz : impl_Ropeway_act _ _ = some y := hy); clear hz; rcases y with y | y <;> refine ⟨_, _, impl_Ropeway_act.call hy ?_, rfl, rfl, ?_⟩) | ((with_reducible have hz : impl_IsRopeway _ = some y := hy); clear hz; refine ⟨_, _, impl_IsRopeway.call hy ?_, rfl, rfl, ?_⟩))
        | ((with_reducible refine fin_mk ?_); (repeat first | replace H := grd_k H | replace H := out_step H ‹_›); have H := Option.some.inj H; subst H))
    | constructor
def G89 : Env := G88.add 89 [] impl_Ropeway_step.S
theorem G89_ok : EnvOk Tryz.prog G89 := G88_ok.add ent_89 fun ar h r h1 ⟨a0, a1, y, hy, e1, e2, e3, e4⟩ => by
  subst e3 e4; exact (impl_Ropeway_step.spec a0 a1 y hy).le e1 e2
attribute [local irreducible] impl_Ropeway_step

noncomputable def strings_Join (a0 : (List ByteArray)) (a1 : ByteArray) : Option (ByteArray) :=
  (grd ((joinB a0 a1).size ≤ 140737488355328) ((some (joinB a0 a1))))
def strings_Join.res (_ : (List ByteArray)) (_ : ByteArray) (y : ByteArray) : AV := (.v (.string y))
def strings_Join.out (_ : (List ByteArray)) (_ : ByteArray) (_ : ByteArray) : List (Option LB) := []
def strings_Join.S (ar : List AV) (h : List (Option LB)) (r : AV) (h1 : List (Option LB)) : Prop := ∃ a0 a1 y, strings_Join a0 a1 = some y ∧ leL ar [(.tree .str a0), (.v (.string a1))] ∧ leH h [] ∧ r = strings_Join.res a0 a1 y ∧ h1 = strings_Join.out a0 a1 y
theorem strings_Join.call {ar : List AV} {h : List (Option LB)} {a0 : (List ByteArray)} {a1 : ByteArray} {y : ByteArray} (H : strings_Join a0 a1 = some y) (h0 : leLk ar [(.tree .str a0), (.v (.string a1))] (leHk h [])) : strings_Join.S ar h (strings_Join.res a0 a1 y) (strings_Join.out a0 a1 y) := ⟨a0, a1, y, H, (args_ok h0).1, (args_ok h0).2, rfl, rfl⟩
theorem strings_Join.spec (a0 : (List ByteArray)) (a1 : ByteArray) (y : ByteArray) (H : strings_Join a0 a1 = some y) : Spec Tryz.prog 62 [(.tree .str a0), (.v (.string a1))] [] (strings_Join.res a0 a1 y) (strings_Join.out a0 a1 y) := by
  have hg := grd_p H
  have H := Option.some.inj (grd_k H)
  subst H
  exact ext_strings_Join a0 a1 hg
def G90 : Env := G89.add 62 [] strings_Join.S
theorem G90_ok : EnvOk Tryz.prog G90 := G89_ok.add ent_62 fun ar h r h1 ⟨a0, a1, y, hy, e1, e2, e3, e4⟩ => by
  subst e3 e4; exact (strings_Join.spec a0 a1 y hy).le e1 e2
attribute [local irreducible] strings_Join

end Go.Proofs.YtaobinhdnklojaaGreatDoor
namespace Go.Proofs.YtaobinhdnklojaaGreatDoor
open Go.RowKit
set_option maxHeartbeats 100000000
set_option maxRecDepth 100000
attribute [local irreducible] Ob loopwp Sub Spec Fin Again CallW CutC KOb iter

attribute [local irreducible] spec_l1Num_f impl_IsRopeway strconv_Itoa slices_IndexFunc___impl_Slot_impl_Slot__i2 impl_Ropeway_cabinAt impl_Ropeway_stationOf slices_IndexFunc___impl_Slot_impl_Slot__i3 slices_ContainsFunc___impl_Slot_impl_Slot__i2 slices_Clone___impl_Slot_impl_Slot__i1 impl_copyRopeway_i1 strings_Join

noncomputable def impl_numbersText_loop1 (a0 : (List Int)) (v5 : Int) (v6 : (List ByteArray)) : Option (Lp (Int × (List ByteArray)) (((List ByteArray)))) :=
  (cond (decide (v5 < (a0.length : Int))) (grd (0 ≤ v5 ∧ v5 < (a0.length : Int)) ((strconv_Itoa (a0.getD v5.toNat 0)).bind fun y7 => (grd (v6.length + [y7].length ≤ 140737488355328 / 16 ∧ v6.length + [y7].length ≤ 140737488355328) (some (.go ((w64 (v5 + (1 : Int))), (v6 ++ [y7]))))))) ((some (.out v6))))
noncomputable def impl_numbersText (a0 : (List Int)) (a1 : ByteArray) : Option (ByteArray) :=
  ((iter (fun s => impl_numbersText_loop1 a0 s.1 s.2) ((0 : Int), ([] : List ByteArray))).bind (fun r8 => ((strings_Join r8 a1).bind fun y9 => (some y9))))
def impl_numbersText.res (_ : (List Int)) (_ : ByteArray) (y : ByteArray) : AV := (.v (.string y))
def impl_numbersText.out (_ : (List Int)) (_ : ByteArray) (_ : ByteArray) : List (Option LB) := []
def impl_numbersText.S (ar : List AV) (h : List (Option LB)) (r : AV) (h1 : List (Option LB)) : Prop := ∃ a0 a1 y, impl_numbersText a0 a1 = some y ∧ leL ar [(.tree (.int .i64) a0), (.v (.string a1))] ∧ leH h [] ∧ r = impl_numbersText.res a0 a1 y ∧ h1 = impl_numbersText.out a0 a1 y
theorem impl_numbersText.call {ar : List AV} {h : List (Option LB)} {a0 : (List Int)} {a1 : ByteArray} {y : ByteArray} (H : impl_numbersText a0 a1 = some y) (h0 : leLk ar [(.tree (.int .i64) a0), (.v (.string a1))] (leHk h [])) : impl_numbersText.S ar h (impl_numbersText.res a0 a1 y) (impl_numbersText.out a0 a1 y) := ⟨a0, a1, y, H, (args_ok h0).1, (args_ok h0).2, rfl, rfl⟩
theorem impl_numbersText.spec (a0 : (List Int)) (a1 : ByteArray) (y : ByteArray) (H : impl_numbersText a0 a1 = some y) : Spec Tryz.prog 163 [(.tree (.int .i64) a0), (.v (.string a1))] [] (impl_numbersText.res a0 a1 y) (impl_numbersText.out a0 a1 y) := by
  refine spec_intro (G90_ok.at tok []) (ct := []) Tryz.func163 rfl (by kernel_rfl) (by kernel_rfl) rfl ?_
  repeat' first
    | ((with_reducible refine eqg ?_); exact rfl)
    | ((with_reducible refine KOb.mk ?_); kernel_rfl)
    | ((with_reducible intro h); (repeat first | replace H := grd_k H | replace H := out_step H ‹_›); first | replace H := cond_t h H | replace H := cond_f h H | exact absurd h (by decide) | skip)
    | ((with_reducible refine Ob.mk ?_); first | (with_reducible rfl) | (first | ((repeat (first | (with_reducible exact grd_p H) | replace H := grd_k H | replace H := out_step H ‹_›)); done) | rfl | ((repeat (first | exact grd_p H | (have hp := grd_p H; exact hp) | replace H := grd_k H | replace H := out_step H ‹_› | (replace H := bind_some H; obtain ⟨_, _, H⟩ := H))); done) | (repeat (first | exact grd_p H | replace H := grd_k H | replace H := out_step H ‹_›))))
    | (with_reducible exact True.intro)
    | ((conv => whnf); first
        | (with_reducible refine And.intro ?_ ?_)
        | (with_reducible exact True.intro)
        | (with_reducible refine (?_ : Ob _))
        | ((with_reducible refine CallW.mk ?_); (repeat first | replace H := grd_k H | replace H := out_step H ‹_›); replace H := bind_some H; obtain ⟨y, hy, H⟩ := H; first | ((with_reducible have hz : strconv_Itoa _ = some y := hy); clear hz; refine ⟨_, _, strconv_Itoa.call hy ?_, rfl, rfl, ?_⟩) | ((with_reducible have hz : strings_Join _ _ = some y := hy); clear hz; refine ⟨_, _, strings_Join.call hy ?_, rfl, rfl, ?_⟩))
        | ((repeat first | replace H := grd_k H | replace H := out_step H ‹_›); refine loop_iter (G90_ok.at tok []) (ct := []) (F := (fun s1 : Int × (List ByteArray) => ⟨sl [(1, (.v (.string a1))), (5, (.own 0)), (9, (.tree (.int .i64) a0)), (10, (.v (.int .i64 (a0.length : Int)))), (11, (.v (.int .i64 s1.1)))], [some (.arr 9 .str s1.2)]⟩)) (step := (fun s : Int × (List ByteArray) => impl_numbersText_loop1 _ s.1 s.2)) _ H (by kernel_rfl) (sub_auto ?_) ?_; rotate_left; (intro s1 r v hr H); rotate_right)
        | ((repeat first | replace H := grd_k H | replace H := out_step H ‹_›); refine again_step H (by assumption) (sub_auto ?_))
        | ((with_reducible refine fin_mk ?_); (repeat first | replace H := grd_k H | replace H := out_step H ‹_›); have H := Option.some.inj H; subst H))
    | constructor
def G91 : Env := G90.add 163 [] impl_numbersText.S
theorem G91_ok : EnvOk Tryz.prog G91 := G90_ok.add ent_163 fun ar h r h1 ⟨a0, a1, y, hy, e1, e2, e3, e4⟩ => by
  subst e3 e4; exact (impl_numbersText.spec a0 a1 y hy).le e1 e2
attribute [local irreducible] impl_numbersText

noncomputable def impl_listText (a0 : (List Int)) : Option (ByteArray) :=
  (cond (decide ((a0.length : Int) = (0 : Int))) ((some (ByteArray.mk #[110, 111, 110, 101]))) ((impl_numbersText a0 (ByteArray.mk #[32])).bind fun y1 => (some y1)))
def impl_listText.res (_ : (List Int)) (y : ByteArray) : AV := (.v (.string y))
def impl_listText.out (_ : (List Int)) (_ : ByteArray) : List (Option LB) := []
def impl_listText.S (ar : List AV) (h : List (Option LB)) (r : AV) (h1 : List (Option LB)) : Prop := ∃ a0 y, impl_listText a0 = some y ∧ leL ar [(.tree (.int .i64) a0)] ∧ leH h [] ∧ r = impl_listText.res a0 y ∧ h1 = impl_listText.out a0 y
theorem impl_listText.call {ar : List AV} {h : List (Option LB)} {a0 : (List Int)} {y : ByteArray} (H : impl_listText a0 = some y) (h0 : leLk ar [(.tree (.int .i64) a0)] (leHk h [])) : impl_listText.S ar h (impl_listText.res a0 y) (impl_listText.out a0 y) := ⟨a0, y, H, (args_ok h0).1, (args_ok h0).2, rfl, rfl⟩
theorem impl_listText.spec (a0 : (List Int)) (y : ByteArray) (H : impl_listText a0 = some y) : Spec Tryz.prog 135 [(.tree (.int .i64) a0)] [] (impl_listText.res a0 y) (impl_listText.out a0 y) := by
  refine spec_intro (G91_ok.at tok []) (ct := []) Tryz.func135 rfl (by kernel_rfl) (by kernel_rfl) rfl ?_
  repeat' first
    | ((with_reducible refine eqg ?_); exact rfl)
    | ((with_reducible refine KOb.mk ?_); kernel_rfl)
    | ((with_reducible intro h); (repeat first | replace H := grd_k H | replace H := out_step H ‹_›); first | replace H := cond_t h H | replace H := cond_f h H | exact absurd h (by decide) | skip)
    | ((with_reducible refine Ob.mk ?_); first | (with_reducible rfl) | (first | ((repeat (first | (with_reducible exact grd_p H) | replace H := grd_k H | replace H := out_step H ‹_›)); done) | rfl | ((repeat (first | exact grd_p H | (have hp := grd_p H; exact hp) | replace H := grd_k H | replace H := out_step H ‹_› | (replace H := bind_some H; obtain ⟨_, _, H⟩ := H))); done) | (repeat (first | exact grd_p H | replace H := grd_k H | replace H := out_step H ‹_›))))
    | (with_reducible exact True.intro)
    | ((conv => whnf); first
        | (with_reducible refine And.intro ?_ ?_)
        | (with_reducible exact True.intro)
        | (with_reducible refine (?_ : Ob _))
        | ((with_reducible refine CallW.mk ?_); (repeat first | replace H := grd_k H | replace H := out_step H ‹_›); replace H := bind_some H; obtain ⟨y, hy, H⟩ := H; first | ((with_reducible have hz : impl_numbersText _ _ = some y := hy); clear hz; refine ⟨_, _, impl_numbersText.call hy ?_, rfl, rfl, ?_⟩))
        | ((with_reducible refine fin_mk ?_); (repeat first | replace H := grd_k H | replace H := out_step H ‹_›); have H := Option.some.inj H; subst H))
    | constructor
def G92 : Env := G91.add 135 [] impl_listText.S
theorem G92_ok : EnvOk Tryz.prog G92 := G91_ok.add ent_135 fun ar h r h1 ⟨a0, y, hy, e1, e2, e3, e4⟩ => by
  subst e3 e4; exact (impl_listText.spec a0 y hy).le e1 e2
attribute [local irreducible] impl_listText

noncomputable def impl_cabinsText_loop1 (a0 : Ropeway) (v3 : Int) (v4 : (List Int)) : Option (Lp (Int × (List Int)) (((List Int)))) :=
  (cond (decide (v3 < (a0.2.1.length : Int))) (grd (0 ≤ v3 ∧ v3 < (a0.2.1.length : Int)) (grd (v4.length + [(a0.2.1.getD v3.toNat d_Slot).1].length ≤ 140737488355328 / 8 ∧ v4.length + [(a0.2.1.getD v3.toNat d_Slot).1].length ≤ 140737488355328) (some (.go ((w64 (v3 + (1 : Int))), (v4 ++ [(a0.2.1.getD v3.toNat d_Slot).1])))))) ((some (.out v4))))
noncomputable def impl_cabinsText (a0 : Ropeway) : Option (ByteArray) :=
  ((iter (fun s => impl_cabinsText_loop1 a0 s.1 s.2) ((0 : Int), ([] : List Int))).bind (fun r5 => ((impl_listText r5).bind fun y6 => (some y6))))
def impl_cabinsText.res (_ : Ropeway) (y : ByteArray) : AV := (.v (.string y))
def impl_cabinsText.out (_ : Ropeway) (_ : ByteArray) : List (Option LB) := []
def impl_cabinsText.S (ar : List AV) (h : List (Option LB)) (r : AV) (h1 : List (Option LB)) : Prop := ∃ a0 y, impl_cabinsText a0 = some y ∧ leL ar [(.agg [(.v (.int .i64 a0.1)), (.tree ty_Slot a0.2.1), (.v (.int .i64 a0.2.2.1)), (.v (.int .i64 a0.2.2.2.1)), (.v (.int .i64 a0.2.2.2.2.1))])] ∧ leH h [] ∧ r = impl_cabinsText.res a0 y ∧ h1 = impl_cabinsText.out a0 y
theorem impl_cabinsText.call {ar : List AV} {h : List (Option LB)} {a0 : Ropeway} {y : ByteArray} (H : impl_cabinsText a0 = some y) (h0 : leLk ar [(.agg [(.v (.int .i64 a0.1)), (.tree ty_Slot a0.2.1), (.v (.int .i64 a0.2.2.1)), (.v (.int .i64 a0.2.2.2.1)), (.v (.int .i64 a0.2.2.2.2.1))])] (leHk h [])) : impl_cabinsText.S ar h (impl_cabinsText.res a0 y) (impl_cabinsText.out a0 y) := ⟨a0, y, H, (args_ok h0).1, (args_ok h0).2, rfl, rfl⟩
theorem impl_cabinsText.spec (a0 : Ropeway) (y : ByteArray) (H : impl_cabinsText a0 = some y) : Spec Tryz.prog 131 [(.agg [(.v (.int .i64 a0.1)), (.tree ty_Slot a0.2.1), (.v (.int .i64 a0.2.2.1)), (.v (.int .i64 a0.2.2.2.1)), (.v (.int .i64 a0.2.2.2.2.1))])] [] (impl_cabinsText.res a0 y) (impl_cabinsText.out a0 y) := by
  refine spec_intro (G92_ok.at tok []) (ct := []) Tryz.func131 rfl (by kernel_rfl) (by kernel_rfl) rfl ?_
  repeat' first
    | ((with_reducible refine eqg ?_); exact rfl)
    | ((with_reducible refine KOb.mk ?_); kernel_rfl)
    | ((with_reducible intro h); (repeat first | replace H := grd_k H | replace H := out_step H ‹_›); first | replace H := cond_t h H | replace H := cond_f h H | exact absurd h (by decide) | skip)
    | ((with_reducible refine Ob.mk ?_); first | (with_reducible rfl) | (first | ((repeat (first | (with_reducible exact grd_p H) | replace H := grd_k H | replace H := out_step H ‹_›)); done) | rfl | ((repeat (first | exact grd_p H | (have hp := grd_p H; exact hp) | replace H := grd_k H | replace H := out_step H ‹_› | (replace H := bind_some H; obtain ⟨_, _, H⟩ := H))); done) | (repeat (first | exact grd_p H | replace H := grd_k H | replace H := out_step H ‹_›))))
    | (with_reducible exact True.intro)
    | ((conv => whnf); first
        | (with_reducible refine And.intro ?_ ?_)
        | (with_reducible exact True.intro)
        | (with_reducible refine (?_ : Ob _))
        | ((with_reducible refine CallW.mk ?_); (repeat first | replace H := grd_k H | replace H := out_step H ‹_›); replace H := bind_some H; obtain ⟨y, hy, H⟩ := H; first | ((with_reducible have hz : impl_listText _ = some y := hy); clear hz; refine ⟨_, _, impl_listText.call hy ?_, rfl, rfl, ?_⟩))
        | ((repeat first | replace H := grd_k H | replace H := out_step H ‹_›); refine loop_iter (G92_ok.at tok []) (ct := []) (F := (fun s1 : Int × (List Int) => ⟨sl [(3, (.own 0)), (8, (.tree ty_Slot a0.2.1)), (9, (.v (.int .i64 (a0.2.1.length : Int)))), (10, (.v (.int .i64 s1.1)))], [some (.arr 3 (.int .i64) s1.2)]⟩)) (step := (fun s : Int × (List Int) => impl_cabinsText_loop1 _ s.1 s.2)) _ H (by kernel_rfl) (sub_auto ?_) ?_; rotate_left; (intro s1 r v hr H); rotate_right)
        | ((repeat first | replace H := grd_k H | replace H := out_step H ‹_›); refine again_step H (by assumption) (sub_auto ?_))
        | ((with_reducible refine fin_mk ?_); (repeat first | replace H := grd_k H | replace H := out_step H ‹_›); have H := Option.some.inj H; subst H))
    | constructor
def G93 : Env := G92.add 131 [] impl_cabinsText.S
theorem G93_ok : EnvOk Tryz.prog G93 := G92_ok.add ent_131 fun ar h r h1 ⟨a0, y, hy, e1, e2, e3, e4⟩ => by
  subst e3 e4; exact (impl_cabinsText.spec a0 y hy).le e1 e2
attribute [local irreducible] impl_cabinsText

noncomputable def impl_stepReply (a0 : Ropeway) (a1 : RopeStep) : Option (ByteArray) :=
  (cond (decide (a1.1 = (1 : Int))) (grd (0 ≤ a1.2.1 ∧ a1.2.1 < (4 : Int)) ((some ([(ByteArray.mk #[115, 116, 111, 112, 112, 101, 100]), (ByteArray.mk #[115, 108, 111, 119]), (ByteArray.mk #[110, 111, 114, 109, 97, 108]), (ByteArray.mk #[108, 111, 99, 107, 101, 100])].getD a1.2.1.toNat (ByteArray.mk #[]))))) (cond (decide (a1.1 = (7 : Int))) ((impl_Ropeway_stationOf (a0.1, a0.2.1, a0.2.2.1, a0.2.2.2.1, a0.2.2.2.2.1, ()) a1.2.1).bind fun y1 => (grd (0 ≤ y1 ∧ y1 < (a0.2.1.length : Int)) (cond ((a0.2.1.getD y1.toNat d_Slot).2.1) ((some (ByteArray.mk #[111, 112, 101, 110]))) ((some (ByteArray.mk #[115, 104, 117, 116])))))) ((cond (decide (a1.1 = (5 : Int))) ((some true)) ((some (decide (a1.1 = (6 : Int)))))).bind fun z2 => (cond z2 ((impl_Ropeway_stationOf (a0.1, a0.2.1, a0.2.2.1, a0.2.2.2.1, a0.2.2.2.2.1, ()) a1.2.1).bind fun y3 => (grd (0 ≤ y3 ∧ y3 < (a0.2.1.length : Int)) ((strconv_Itoa ((a0.2.1.getD y3.toNat d_Slot).2.2.1)).bind fun y4 => (some y4)))) ((impl_cabinsText (a0.1, a0.2.1, a0.2.2.1, a0.2.2.2.1, a0.2.2.2.2.1, ())).bind fun y5 => (some y5))))))
def impl_stepReply.res (_ : Ropeway) (_ : RopeStep) (y : ByteArray) : AV := (.v (.string y))
def impl_stepReply.out (_ : Ropeway) (_ : RopeStep) (_ : ByteArray) : List (Option LB) := []
def impl_stepReply.S (ar : List AV) (h : List (Option LB)) (r : AV) (h1 : List (Option LB)) : Prop := ∃ a0 a1 y, impl_stepReply a0 a1 = some y ∧ leL ar [(.agg [(.v (.int .i64 a0.1)), (.tree ty_Slot a0.2.1), (.v (.int .i64 a0.2.2.1)), (.v (.int .i64 a0.2.2.2.1)), (.v (.int .i64 a0.2.2.2.2.1))]), (.agg [(.v (.int .i64 a1.1)), (.v (.int .i64 a1.2.1))])] ∧ leH h [] ∧ r = impl_stepReply.res a0 a1 y ∧ h1 = impl_stepReply.out a0 a1 y
theorem impl_stepReply.call {ar : List AV} {h : List (Option LB)} {a0 : Ropeway} {a1 : RopeStep} {y : ByteArray} (H : impl_stepReply a0 a1 = some y) (h0 : leLk ar [(.agg [(.v (.int .i64 a0.1)), (.tree ty_Slot a0.2.1), (.v (.int .i64 a0.2.2.1)), (.v (.int .i64 a0.2.2.2.1)), (.v (.int .i64 a0.2.2.2.2.1))]), (.agg [(.v (.int .i64 a1.1)), (.v (.int .i64 a1.2.1))])] (leHk h [])) : impl_stepReply.S ar h (impl_stepReply.res a0 a1 y) (impl_stepReply.out a0 a1 y) := ⟨a0, a1, y, H, (args_ok h0).1, (args_ok h0).2, rfl, rfl⟩
theorem impl_stepReply.spec (a0 : Ropeway) (a1 : RopeStep) (y : ByteArray) (H : impl_stepReply a0 a1 = some y) : Spec Tryz.prog 90 [(.agg [(.v (.int .i64 a0.1)), (.tree ty_Slot a0.2.1), (.v (.int .i64 a0.2.2.1)), (.v (.int .i64 a0.2.2.2.1)), (.v (.int .i64 a0.2.2.2.2.1))]), (.agg [(.v (.int .i64 a1.1)), (.v (.int .i64 a1.2.1))])] [] (impl_stepReply.res a0 a1 y) (impl_stepReply.out a0 a1 y) := by
  refine spec_intro (G93_ok.at tok []) (ct := [(10, none), (6, some [23])]) Tryz.func90 rfl (by kernel_rfl) (by kernel_rfl) rfl ?_
  repeat' first
    | ((with_reducible refine eqg ?_); exact rfl)
    | ((with_reducible refine KOb.mk ?_); kernel_rfl)
    | ((with_reducible intro h); (repeat first | replace H := grd_k H | replace H := out_step H ‹_›); first | replace H := cond_t h H | replace H := cond_f h H | exact absurd h (by decide) | skip)
    | ((with_reducible refine Ob.mk ?_); first | (with_reducible rfl) | (first | ((repeat (first | (with_reducible exact grd_p H) | replace H := grd_k H | replace H := out_step H ‹_›)); done) | rfl | ((repeat (first | exact grd_p H | (have hp := grd_p H; exact hp) | replace H := grd_k H | replace H := out_step H ‹_› | (replace H := bind_some H; obtain ⟨_, _, H⟩ := H))); done) | (repeat (first | exact grd_p H | replace H := grd_k H | replace H := out_step H ‹_›))))
    | (with_reducible exact True.intro)
    | ((conv => whnf); first
        | (with_reducible refine And.intro ?_ ?_)
        | (with_reducible exact True.intro)
        | (with_reducible refine (?_ : Ob _))
        | ((with_reducible refine CallW.mk ?_); (repeat first | replace H := grd_k H | replace H := out_step H ‹_›); replace H := bind_some H; obtain ⟨y, hy, H⟩ := H; first | ((with_reducible have hz : impl_Ropeway_stationOf _ _ = some y := hy); clear hz; refine ⟨_, _, impl_Ropeway_stationOf.call hy ?_, rfl, rfl, ?_⟩) | ((with_reducible have hz : strconv_Itoa _ = some y := hy); clear hz; refine ⟨_, _, strconv_Itoa.call hy ?_, rfl, rfl, ?_⟩) | ((with_reducible have hz : impl_cabinsText _ = some y := hy); clear hz; refine ⟨_, _, impl_cabinsText.call hy ?_, rfl, rfl, ?_⟩))
        | ((with_reducible refine cutAt (id := 10) ?_); (repeat first | replace H := grd_k H | replace H := out_step H ‹_›); first | (replace H := bind_some H; obtain ⟨z, hz, H⟩ := H; refine CutC.mk (id := 10) ⟨sl [(2, (.loc 0 0 0)), (3, (.loc 1 0 0)), (24, (.bl z))], [some (.box 38 [(.v (.int .i64 a0.1)), (.tree ty_Slot a0.2.1), (.v (.int .i64 a0.2.2.1)), (.v (.int .i64 a0.2.2.2.1)), (.v (.int .i64 a0.2.2.2.2.1))]), some (.box 120 [(.v (.int .i64 a1.1)), (.v (.int .i64 a1.2.1))])]⟩ ?_ ?_; (replace H := hz)))
        | ((repeat first | replace H := grd_k H | replace H := out_step H ‹_›); have H := Option.some.inj H; subst H; with_reducible refine sub_auto ?_)
        | ((with_reducible refine fin_mk ?_); (repeat first | replace H := grd_k H | replace H := out_step H ‹_›); have H := Option.some.inj H; subst H))
    | constructor
def G94 : Env := G93.add 90 [] impl_stepReply.S
theorem G94_ok : EnvOk Tryz.prog G94 := G93_ok.add ent_90 fun ar h r h1 ⟨a0, a1, y, hy, e1, e2, e3, e4⟩ => by
  subst e3 e4; exact (impl_stepReply.spec a0 a1 y hy).le e1 e2
attribute [local irreducible] impl_stepReply

noncomputable def impl_CabinAt (a0 : Ropeway) (a1 : Int) : Option (Int × Bool) :=
  ((impl_IsRopeway (a0.1, a0.2.1, a0.2.2.1, a0.2.2.2.1, a0.2.2.2.2.1, ())).bind fun y1 => (cond (!y1) ((some ((0 : Int), false))) ((impl_Ropeway_cabinAt (a0.1, a0.2.1, a0.2.2.1, a0.2.2.2.1, a0.2.2.2.2.1, ()) a1).bind fun y2 => (some ((if false = true then (if (0 : Int) < y2 then (0 : Int) else y2) else (if (0 : Int) > y2 then (0 : Int) else y2)), (decide ((0 : Int) ≤ y2)))))))
def impl_CabinAt.res (_ : Ropeway) (_ : Int) (y : Int × Bool) : AV := (.tup [(.v (.int .i64 y.1)), (.bl y.2)])
def impl_CabinAt.out (_ : Ropeway) (_ : Int) (_ : Int × Bool) : List (Option LB) := []
def impl_CabinAt.S (ar : List AV) (h : List (Option LB)) (r : AV) (h1 : List (Option LB)) : Prop := ∃ a0 a1 y, impl_CabinAt a0 a1 = some y ∧ leL ar [(.agg [(.v (.int .i64 a0.1)), (.tree ty_Slot a0.2.1), (.v (.int .i64 a0.2.2.1)), (.v (.int .i64 a0.2.2.2.1)), (.v (.int .i64 a0.2.2.2.2.1))]), (.v (.int .i64 a1))] ∧ leH h [] ∧ r = impl_CabinAt.res a0 a1 y ∧ h1 = impl_CabinAt.out a0 a1 y
theorem impl_CabinAt.call {ar : List AV} {h : List (Option LB)} {a0 : Ropeway} {a1 : Int} {y : Int × Bool} (H : impl_CabinAt a0 a1 = some y) (h0 : leLk ar [(.agg [(.v (.int .i64 a0.1)), (.tree ty_Slot a0.2.1), (.v (.int .i64 a0.2.2.1)), (.v (.int .i64 a0.2.2.2.1)), (.v (.int .i64 a0.2.2.2.2.1))]), (.v (.int .i64 a1))] (leHk h [])) : impl_CabinAt.S ar h (impl_CabinAt.res a0 a1 y) (impl_CabinAt.out a0 a1 y) := ⟨a0, a1, y, H, (args_ok h0).1, (args_ok h0).2, rfl, rfl⟩
theorem impl_CabinAt.spec (a0 : Ropeway) (a1 : Int) (y : Int × Bool) (H : impl_CabinAt a0 a1 = some y) : Spec Tryz.prog 132 [(.agg [(.v (.int .i64 a0.1)), (.tree ty_Slot a0.2.1), (.v (.int .i64 a0.2.2.1)), (.v (.int .i64 a0.2.2.2.1)), (.v (.int .i64 a0.2.2.2.2.1))]), (.v (.int .i64 a1))] [] (impl_CabinAt.res a0 a1 y) (impl_CabinAt.out a0 a1 y) := by
  refine spec_intro (G94_ok.at tok []) (ct := []) Tryz.func132 rfl (by kernel_rfl) (by kernel_rfl) rfl ?_
  repeat' first
    | ((with_reducible refine eqg ?_); exact rfl)
    | ((with_reducible refine KOb.mk ?_); kernel_rfl)
    | ((with_reducible intro h); (repeat first | replace H := grd_k H | replace H := out_step H ‹_›); first | replace H := cond_t h H | replace H := cond_f h H | exact absurd h (by decide) | skip)
    | ((with_reducible refine Ob.mk ?_); first | (with_reducible rfl) | (first | ((repeat (first | (with_reducible exact grd_p H) | replace H := grd_k H | replace H := out_step H ‹_›)); done) | rfl | ((repeat (first | exact grd_p H | (have hp := grd_p H; exact hp) | replace H := grd_k H | replace H := out_step H ‹_› | (replace H := bind_some H; obtain ⟨_, _, H⟩ := H))); done) | (repeat (first | exact grd_p H | replace H := grd_k H | replace H := out_step H ‹_›))))
    | (with_reducible exact True.intro)
    | ((conv => whnf); first
        | (with_reducible refine And.intro ?_ ?_)
        | (with_reducible exact True.intro)
        | (with_reducible refine (?_ : Ob _))
        | ((with_reducible refine CallW.mk ?_); (repeat first | replace H := grd_k H | replace H := out_step H ‹_›); replace H := bind_some H; obtain ⟨y, hy, H⟩ := H; first | ((with_reducible have hz : impl_IsRopeway _ = some y := hy); clear hz; refine ⟨_, _, impl_IsRopeway.call hy ?_, rfl, rfl, ?_⟩) | ((with_reducible have hz : impl_Ropeway_cabinAt _ _ = some y := hy); clear hz; refine ⟨_, _, impl_Ropeway_cabinAt.call hy ?_, rfl, rfl, ?_⟩))
        | ((with_reducible refine fin_mk ?_); (repeat first | replace H := grd_k H | replace H := out_step H ‹_›); have H := Option.some.inj H; subst H))
    | constructor
def G95 : Env := G94.add 132 [] impl_CabinAt.S
theorem G95_ok : EnvOk Tryz.prog G95 := G94_ok.add ent_132 fun ar h r h1 ⟨a0, a1, y, hy, e1, e2, e3, e4⟩ => by
  subst e3 e4; exact (impl_CabinAt.spec a0 a1 y hy).le e1 e2
attribute [local irreducible] impl_CabinAt

noncomputable def impl_TurnsTo (a0 : Ropeway) (a1 : Int) (a2 : Bool) : Option (Int × Bool) :=
  ((impl_CabinAt (a0.1, a0.2.1, a0.2.2.1, a0.2.2.2.1, a0.2.2.2.2.1, ()) a1).bind fun y1 => (cond (!y1.2) ((some ((0 : Int), false))) (cond a2 (grd ((2 : Int) ≠ 0) (grd ((a0.2.1.length : Int) ≠ 0) ((some ((Int.tmod (w64 ((w64 ((w64 (Int.tdiv (a0.2.1.length : Int) (2 : Int))) - y1.1)) + (a0.2.1.length : Int))) (a0.2.1.length : Int)), true))))) (grd ((a0.2.1.length : Int) ≠ 0) ((some ((Int.tmod (w64 ((w64 ((0 : Int) - y1.1)) + (a0.2.1.length : Int))) (a0.2.1.length : Int)), true)))))))
def impl_TurnsTo.res (_ : Ropeway) (_ : Int) (_ : Bool) (y : Int × Bool) : AV := (.tup [(.v (.int .i64 y.1)), (.bl y.2)])
def impl_TurnsTo.out (_ : Ropeway) (_ : Int) (_ : Bool) (_ : Int × Bool) : List (Option LB) := []
def impl_TurnsTo.S (ar : List AV) (h : List (Option LB)) (r : AV) (h1 : List (Option LB)) : Prop := ∃ a0 a1 a2 y, impl_TurnsTo a0 a1 a2 = some y ∧ leL ar [(.agg [(.v (.int .i64 a0.1)), (.tree ty_Slot a0.2.1), (.v (.int .i64 a0.2.2.1)), (.v (.int .i64 a0.2.2.2.1)), (.v (.int .i64 a0.2.2.2.2.1))]), (.v (.int .i64 a1)), (.bl a2)] ∧ leH h [] ∧ r = impl_TurnsTo.res a0 a1 a2 y ∧ h1 = impl_TurnsTo.out a0 a1 a2 y
theorem impl_TurnsTo.call {ar : List AV} {h : List (Option LB)} {a0 : Ropeway} {a1 : Int} {a2 : Bool} {y : Int × Bool} (H : impl_TurnsTo a0 a1 a2 = some y) (h0 : leLk ar [(.agg [(.v (.int .i64 a0.1)), (.tree ty_Slot a0.2.1), (.v (.int .i64 a0.2.2.1)), (.v (.int .i64 a0.2.2.2.1)), (.v (.int .i64 a0.2.2.2.2.1))]), (.v (.int .i64 a1)), (.bl a2)] (leHk h [])) : impl_TurnsTo.S ar h (impl_TurnsTo.res a0 a1 a2 y) (impl_TurnsTo.out a0 a1 a2 y) := ⟨a0, a1, a2, y, H, (args_ok h0).1, (args_ok h0).2, rfl, rfl⟩
theorem impl_TurnsTo.spec (a0 : Ropeway) (a1 : Int) (a2 : Bool) (y : Int × Bool) (H : impl_TurnsTo a0 a1 a2 = some y) : Spec Tryz.prog 133 [(.agg [(.v (.int .i64 a0.1)), (.tree ty_Slot a0.2.1), (.v (.int .i64 a0.2.2.1)), (.v (.int .i64 a0.2.2.2.1)), (.v (.int .i64 a0.2.2.2.2.1))]), (.v (.int .i64 a1)), (.bl a2)] [] (impl_TurnsTo.res a0 a1 a2 y) (impl_TurnsTo.out a0 a1 a2 y) := by
  refine spec_intro (G95_ok.at tok []) (ct := [(4, some [2, 3, 8])]) Tryz.func133 rfl (by kernel_rfl) (by kernel_rfl) rfl ?_
  repeat' first
    | ((with_reducible refine eqg ?_); exact rfl)
    | ((with_reducible refine KOb.mk ?_); kernel_rfl)
    | ((with_reducible intro h); (repeat first | replace H := grd_k H | replace H := out_step H ‹_›); first | replace H := cond_t h H | replace H := cond_f h H | exact absurd h (by decide) | skip)
    | ((with_reducible refine Ob.mk ?_); first | (with_reducible rfl) | (first | ((repeat (first | (with_reducible exact grd_p H) | replace H := grd_k H | replace H := out_step H ‹_›)); done) | rfl | ((repeat (first | exact grd_p H | (have hp := grd_p H; exact hp) | replace H := grd_k H | replace H := out_step H ‹_› | (replace H := bind_some H; obtain ⟨_, _, H⟩ := H))); done) | (repeat (first | exact grd_p H | replace H := grd_k H | replace H := out_step H ‹_›))))
    | (with_reducible exact True.intro)
    | ((conv => whnf); first
        | (with_reducible refine And.intro ?_ ?_)
        | (with_reducible exact True.intro)
        | (with_reducible refine (?_ : Ob _))
        | ((with_reducible refine CallW.mk ?_); (repeat first | replace H := grd_k H | replace H := out_step H ‹_›); replace H := bind_some H; obtain ⟨y, hy, H⟩ := H; first | ((with_reducible have hz : impl_CabinAt _ _ = some y := hy); clear hz; refine ⟨_, _, impl_CabinAt.call hy ?_, rfl, rfl, ?_⟩))
        | ((with_reducible refine fin_mk ?_); (repeat first | replace H := grd_k H | replace H := out_step H ‹_›); have H := Option.some.inj H; subst H))
    | constructor
def G96 : Env := G95.add 133 [] impl_TurnsTo.S
theorem G96_ok : EnvOk Tryz.prog G96 := G95_ok.add ent_133 fun ar h r h1 ⟨a0, a1, a2, y, hy, e1, e2, e3, e4⟩ => by
  subst e3 e4; exact (impl_TurnsTo.spec a0 a1 a2 y hy).le e1 e2
attribute [local irreducible] impl_TurnsTo

end Go.Proofs.YtaobinhdnklojaaGreatDoor
