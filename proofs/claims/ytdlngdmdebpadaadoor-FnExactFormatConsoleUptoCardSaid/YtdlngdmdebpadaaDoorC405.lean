/-
  Contracts, printed by a program.
-/
import Derived.Test.YtdlngdmdebpadaaDoorC404
namespace Go.Proofs.YtdlngdmdebpadaaDoor
open Go.RowKit
attribute [local irreducible] Ob loopwp Sub Spec Fin Again CallW CutC KOb iter joinx outm

attribute [local irreducible] laws_szSlotS laws_szRopeway laws_szLog laws_szConsole laws_toSlot laws_toSlotS laws_toRopeway laws_toLog laws_toConsole spec_l1In spec_l25Slot spec_l25Good spec_l1Split spec_l1Num spec_l1Num_f spec_l27Plain spec_l1Stands spec_l27Good spec_l1Sum spec_l1Seal spec_l27Line spec_l27Read spec_l27Open spec_l27Log spec_l28Good spec_FormatConsole impl_within impl_Ropeway_isStation impl_IsRopeway_1_i1

noncomputable def slices_IndexFunc___impl_Slot_impl_Slot__i1_loop1 (a0 : (List Slot)) (a100 : Int) (a101 : Bool) (a102 : Int) (v4 : Int) : Option (Lp (Int) ((Int) ⊕ (Unit))) :=
  (cond (decide (v4 < (a0.length : Int))) (grd (0 ≤ v4 ∧ v4 < (a0.length : Int)) ((impl_IsRopeway_1_i1 ((a0.getD v4.toNat d_Slot).1, (a0.getD v4.toNat d_Slot).2.1, (a0.getD v4.toNat d_Slot).2.2.1, ()) a100 a101 a102).bind fun y5 => (cond y5 ((some (.out (Sum.inl v4)))) (some (.go (w64 (v4 + (1 : Int)))))))) ((some (.out (Sum.inr ())))))
noncomputable def slices_IndexFunc___impl_Slot_impl_Slot__i1 (a0 : (List Slot)) (a100 : Int) (a101 : Bool) (a102 : Int) : Option (Int) :=
  ((iter (fun s => slices_IndexFunc___impl_Slot_impl_Slot__i1_loop1 a0 a100 a101 a102 s) (0 : Int)).bind (Sum.elim (fun r7 => (some r7)) (fun _ => (some ((-1) : Int)))))
def slices_IndexFunc___impl_Slot_impl_Slot__i1.res (_ : (List Slot)) (_ : Int) (_ : Bool) (_ : Int) (y : Int) : AV := (.v (.int .i64 y))
def slices_IndexFunc___impl_Slot_impl_Slot__i1.out (_ : (List Slot)) (_ : Int) (_ : Bool) (_ : Int) (_ : Int) : List (Option LB) := []
def slices_IndexFunc___impl_Slot_impl_Slot__i1.S (ar : List AV) (h : List (Option LB)) (r : AV) (h1 : List (Option LB)) : Prop := ∃ a0 a100 a101 a102 y, slices_IndexFunc___impl_Slot_impl_Slot__i1 a0 a100 a101 a102 = some y ∧ leL ar [(.tree ty_Slot a0), (.fn 31 [(.bptr [(.v (.int .i64 a100)), (.bl a101), (.v (.int .i64 a102))] 0)])] ∧ leH h [] ∧ r = slices_IndexFunc___impl_Slot_impl_Slot__i1.res a0 a100 a101 a102 y ∧ h1 = slices_IndexFunc___impl_Slot_impl_Slot__i1.out a0 a100 a101 a102 y
theorem slices_IndexFunc___impl_Slot_impl_Slot__i1.call {ar : List AV} {h : List (Option LB)} {a0 : (List Slot)} {a100 : Int} {a101 : Bool} {a102 : Int} {y : Int} (H : slices_IndexFunc___impl_Slot_impl_Slot__i1 a0 a100 a101 a102 = some y) (h0 : leLk ar [(.tree ty_Slot a0), (.fn 31 [(.bptr [(.v (.int .i64 a100)), (.bl a101), (.v (.int .i64 a102))] 0)])] (leHk h [])) : slices_IndexFunc___impl_Slot_impl_Slot__i1.S ar h (slices_IndexFunc___impl_Slot_impl_Slot__i1.res a0 a100 a101 a102 y) (slices_IndexFunc___impl_Slot_impl_Slot__i1.out a0 a100 a101 a102 y) := ⟨a0, a100, a101, a102, y, H, (args_ok h0).1, (args_ok h0).2, rfl, rfl⟩
set_option maxHeartbeats 100000000 in
set_option maxRecDepth 100000 in
theorem slices_IndexFunc___impl_Slot_impl_Slot__i1.spec (a0 : (List Slot)) (a100 : Int) (a101 : Bool) (a102 : Int) (y : Int) (H : slices_IndexFunc___impl_Slot_impl_Slot__i1 a0 a100 a101 a102 = some y) : Spec Tryd.prog 42 [(.tree ty_Slot a0), (.fn 31 [(.bptr [(.v (.int .i64 a100)), (.bl a101), (.v (.int .i64 a102))] 0)])] [] (slices_IndexFunc___impl_Slot_impl_Slot__i1.res a0 a100 a101 a102 y) (slices_IndexFunc___impl_Slot_impl_Slot__i1.out a0 a100 a101 a102 y) := by
  refine spec_intro (G28_ok.at tok []) (ct := []) Tryd.func42 rfl (by kernel_rfl) (by kernel_rfl) rfl ?_
  repeat' first
    | ((with_reducible refine eqg ?_); exact rfl)
    | ((with_reducible refine KOb.mk ?_); kernel_rfl)
    | ((with_reducible intro h); (repeat (first | replace H := grd_k H | replace H := out_step H (by assumption))); first | replace H := cond_t h H | replace H := cond_f h H | exact absurd h (by decide) | skip)
    | ((with_reducible refine Ob.mk ?_); first | (with_reducible rfl) | (first | ((repeat (first | (with_reducible exact grd_p H) | (replace H := grd_k H) | (replace H := out_step H (by assumption)))); done) | rfl | ((repeat (first | exact grd_p H | replace H := grd_k H | replace H := out_step H (by assumption))); done) | ((repeat (first | exact grd_p H | (have hp := grd_p H; exact hp) | replace H := grd_k H | replace H := out_step H (by assumption) | (replace H := bind_some H; obtain ⟨_, _, H⟩ := H))); done) | (repeat (first | exact grd_p H | replace H := grd_k H | replace H := out_step H (by assumption)))))
    | (with_reducible exact True.intro)
    | constructor
    | ((conv => whnf); first
        | ((with_reducible refine Ob.mk ?_); first | (with_reducible rfl) | (first | ((repeat (first | (with_reducible exact grd_p H) | (replace H := grd_k H) | (replace H := out_step H (by assumption)))); done) | rfl | ((repeat (first | exact grd_p H | replace H := grd_k H | replace H := out_step H (by assumption))); done) | ((repeat (first | exact grd_p H | (have hp := grd_p H; exact hp) | replace H := grd_k H | replace H := out_step H (by assumption) | (replace H := bind_some H; obtain ⟨_, _, H⟩ := H))); done) | (repeat (first | exact grd_p H | replace H := grd_k H | replace H := out_step H (by assumption)))))
        | ((with_reducible refine CallW.mk ?_); (repeat (first | replace H := grd_k H | replace H := out_step H (by assumption))); replace H := bind_some H; obtain ⟨y, hy, H⟩ := H; first | ((with_reducible have hz : impl_IsRopeway_1_i1 _ _ _ _ = some y := hy); clear hz; refine Exists.intro _ (Exists.intro _ ⟨impl_IsRopeway_1_i1.call hy ?_, rfl, rfl, ?_⟩)))
        | ((repeat (first | replace H := grd_k H | replace H := out_step H (by assumption))); refine loop_iter (G28_ok.at tok []) (ct := []) (F := (fun s1 : Int => ⟨sl [(0, (.tree ty_Slot a0)), (1, (.fn 31 [(.bptr [(.v (.int .i64 a100)), (.bl a101), (.v (.int .i64 a102))] 0)])), (7, (.v (.int .i64 (a0.length : Int)))), (8, (.v (.int .i64 s1)))], []⟩)) (step := (fun s : Int => slices_IndexFunc___impl_Slot_impl_Slot__i1_loop1 _ _ _ _ s)) _ H (by kernel_rfl) (sub_auto ?_) ?_; rotate_left; (intro s1 r v hr H); rotate_right)
        | ((repeat (first | replace H := grd_k H | replace H := out_step H (by assumption))); refine again_step H (by assumption) (sub_auto ?_))
        | ((with_reducible refine fin_mk ?_); (repeat (first | replace H := grd_k H | replace H := out_step H (by assumption))); have H := Option.some.inj H; subst H))
  all_goals exact viewz _ _
def G29 : Env := G28.add 42 [] slices_IndexFunc___impl_Slot_impl_Slot__i1.S
theorem G29_ok : EnvOk Tryd.prog G29 := G28_ok.add ent_42 fun ar h r h1 ⟨a0, a100, a101, a102, y, hy, e1, e2, e3, e4⟩ => by
  subst e3 e4; exact (slices_IndexFunc___impl_Slot_impl_Slot__i1.spec a0 a100 a101 a102 y hy).le e1 e2
attribute [local irreducible] slices_IndexFunc___impl_Slot_impl_Slot__i1

noncomputable def slices_ContainsFunc___impl_Slot_impl_Slot__i1 (a0 : (List Slot)) (a100 : Int) (a101 : Bool) (a102 : Int) : Option (Bool) :=
  ((slices_IndexFunc___impl_Slot_impl_Slot__i1 a0 a100 a101 a102).bind fun y1 => (some (decide ((0 : Int) ≤ y1))))
def slices_ContainsFunc___impl_Slot_impl_Slot__i1.res (_ : (List Slot)) (_ : Int) (_ : Bool) (_ : Int) (y : Bool) : AV := (.bl y)
def slices_ContainsFunc___impl_Slot_impl_Slot__i1.out (_ : (List Slot)) (_ : Int) (_ : Bool) (_ : Int) (_ : Bool) : List (Option LB) := []
def slices_ContainsFunc___impl_Slot_impl_Slot__i1.S (ar : List AV) (h : List (Option LB)) (r : AV) (h1 : List (Option LB)) : Prop := ∃ a0 a100 a101 a102 y, slices_ContainsFunc___impl_Slot_impl_Slot__i1 a0 a100 a101 a102 = some y ∧ leL ar [(.tree ty_Slot a0), (.fn 31 [(.bptr [(.v (.int .i64 a100)), (.bl a101), (.v (.int .i64 a102))] 0)])] ∧ leH h [] ∧ r = slices_ContainsFunc___impl_Slot_impl_Slot__i1.res a0 a100 a101 a102 y ∧ h1 = slices_ContainsFunc___impl_Slot_impl_Slot__i1.out a0 a100 a101 a102 y
theorem slices_ContainsFunc___impl_Slot_impl_Slot__i1.call {ar : List AV} {h : List (Option LB)} {a0 : (List Slot)} {a100 : Int} {a101 : Bool} {a102 : Int} {y : Bool} (H : slices_ContainsFunc___impl_Slot_impl_Slot__i1 a0 a100 a101 a102 = some y) (h0 : leLk ar [(.tree ty_Slot a0), (.fn 31 [(.bptr [(.v (.int .i64 a100)), (.bl a101), (.v (.int .i64 a102))] 0)])] (leHk h [])) : slices_ContainsFunc___impl_Slot_impl_Slot__i1.S ar h (slices_ContainsFunc___impl_Slot_impl_Slot__i1.res a0 a100 a101 a102 y) (slices_ContainsFunc___impl_Slot_impl_Slot__i1.out a0 a100 a101 a102 y) := ⟨a0, a100, a101, a102, y, H, (args_ok h0).1, (args_ok h0).2, rfl, rfl⟩
set_option maxHeartbeats 100000000 in
set_option maxRecDepth 100000 in
theorem slices_ContainsFunc___impl_Slot_impl_Slot__i1.spec (a0 : (List Slot)) (a100 : Int) (a101 : Bool) (a102 : Int) (y : Bool) (H : slices_ContainsFunc___impl_Slot_impl_Slot__i1 a0 a100 a101 a102 = some y) : Spec Tryd.prog 30 [(.tree ty_Slot a0), (.fn 31 [(.bptr [(.v (.int .i64 a100)), (.bl a101), (.v (.int .i64 a102))] 0)])] [] (slices_ContainsFunc___impl_Slot_impl_Slot__i1.res a0 a100 a101 a102 y) (slices_ContainsFunc___impl_Slot_impl_Slot__i1.out a0 a100 a101 a102 y) := by
  refine spec_intro (G29_ok.at tok []) (ct := []) Tryd.func30 rfl (by kernel_rfl) (by kernel_rfl) rfl ?_
  repeat' first
    | ((with_reducible refine eqg ?_); exact rfl)
    | ((with_reducible refine KOb.mk ?_); kernel_rfl)
    | ((with_reducible intro h); (repeat (first | replace H := grd_k H | replace H := out_step H (by assumption))); first | replace H := cond_t h H | replace H := cond_f h H | exact absurd h (by decide) | skip)
    | ((with_reducible refine Ob.mk ?_); first | (with_reducible rfl) | (first | ((repeat (first | (with_reducible exact grd_p H) | (replace H := grd_k H) | (replace H := out_step H (by assumption)))); done) | rfl | ((repeat (first | exact grd_p H | replace H := grd_k H | replace H := out_step H (by assumption))); done) | ((repeat (first | exact grd_p H | (have hp := grd_p H; exact hp) | replace H := grd_k H | replace H := out_step H (by assumption) | (replace H := bind_some H; obtain ⟨_, _, H⟩ := H))); done) | (repeat (first | exact grd_p H | replace H := grd_k H | replace H := out_step H (by assumption)))))
    | (with_reducible exact True.intro)
    | constructor
    | ((conv => whnf); first
        | ((with_reducible refine Ob.mk ?_); first | (with_reducible rfl) | (first | ((repeat (first | (with_reducible exact grd_p H) | (replace H := grd_k H) | (replace H := out_step H (by assumption)))); done) | rfl | ((repeat (first | exact grd_p H | replace H := grd_k H | replace H := out_step H (by assumption))); done) | ((repeat (first | exact grd_p H | (have hp := grd_p H; exact hp) | replace H := grd_k H | replace H := out_step H (by assumption) | (replace H := bind_some H; obtain ⟨_, _, H⟩ := H))); done) | (repeat (first | exact grd_p H | replace H := grd_k H | replace H := out_step H (by assumption)))))
        | ((with_reducible refine CallW.mk ?_); (repeat (first | replace H := grd_k H | replace H := out_step H (by assumption))); replace H := bind_some H; obtain ⟨y, hy, H⟩ := H; first | ((with_reducible have hz : slices_IndexFunc___impl_Slot_impl_Slot__i1 _ _ _ _ = some y := hy); clear hz; refine Exists.intro _ (Exists.intro _ ⟨slices_IndexFunc___impl_Slot_impl_Slot__i1.call hy ?_, rfl, rfl, ?_⟩)))
        | ((with_reducible refine fin_mk ?_); (repeat (first | replace H := grd_k H | replace H := out_step H (by assumption))); have H := Option.some.inj H; subst H))
  all_goals exact viewz _ _
def G30 : Env := G29.add 30 [] slices_ContainsFunc___impl_Slot_impl_Slot__i1.S
theorem G30_ok : EnvOk Tryd.prog G30 := G29_ok.add ent_30 fun ar h r h1 ⟨a0, a100, a101, a102, y, hy, e1, e2, e3, e4⟩ => by
  subst e3 e4; exact (slices_ContainsFunc___impl_Slot_impl_Slot__i1.spec a0 a100 a101 a102 y hy).le e1 e2
attribute [local irreducible] slices_ContainsFunc___impl_Slot_impl_Slot__i1

noncomputable def impl_IsRopeway_loop1 (a0 : Ropeway) (v22 : Int) : Option (Lp (Int) ((Unit) ⊕ (Unit))) :=
  (cond (decide (v22 < (a0.2.1.length : Int))) (grd (0 ≤ v22 ∧ v22 < (a0.2.1.length : Int)) ((impl_within ((a0.2.1.getD v22.toNat d_Slot).1) (0 : Int) (20 : Int)).bind fun y23 => (cond (!y23) ((some (.out (Sum.inl ())))) ((impl_within ((a0.2.1.getD v22.toNat d_Slot).2.2.1) (0 : Int) (8 : Int)).bind fun y24 => (cond (!y24) ((some (.out (Sum.inl ())))) (cond (decide (((a0.2.1.getD v22.toNat d_Slot).1) = (0 : Int))) (cond ((a0.2.1.getD v22.toNat d_Slot).2.1) ((some (.out (Sum.inl ())))) (cond (decide ((0 : Int) < ((a0.2.1.getD v22.toNat d_Slot).2.2.1))) ((some (.out (Sum.inl ())))) (some (.go (w64 (v22 + (1 : Int))))))) (cond ((a0.2.1.getD v22.toNat d_Slot).2.1) ((impl_Ropeway_isStation (a0.1, a0.2.1, a0.2.2.1, a0.2.2.2.1, a0.2.2.2.2.1, ()) v22).bind fun y25 => (cond (!y25) ((some (.out (Sum.inl ())))) (grd ((a0.2.1.length : Int) ≠ 0) (grd (0 ≤ (Int.tmod (w64 (v22 + (1 : Int))) (a0.2.1.length : Int)) ∧ (Int.tmod (w64 (v22 + (1 : Int))) (a0.2.1.length : Int)) < (a0.2.1.length : Int)) (cond (decide ((0 : Int) < ((a0.2.1.getD ((Int.tmod (w64 (v22 + (1 : Int))) (a0.2.1.length : Int)).toNat) d_Slot).1))) ((some (.out (Sum.inl ())))) (grd (0 ≤ (0 : Int) ∧ (0 : Int) ≤ v22 ∧ v22 ≤ (a0.2.1.length : Int)) ((slices_ContainsFunc___impl_Slot_impl_Slot__i1 (lsub a0.2.1 (0 : Int) v22) ((a0.2.1.getD v22.toNat d_Slot).1) ((a0.2.1.getD v22.toNat d_Slot).2.1) ((a0.2.1.getD v22.toNat d_Slot).2.2.1)).bind fun y26 => (cond y26 ((some (.out (Sum.inl ())))) (some (.go (w64 (v22 + (1 : Int))))))))))))) (grd ((a0.2.1.length : Int) ≠ 0) (grd (0 ≤ (Int.tmod (w64 (v22 + (1 : Int))) (a0.2.1.length : Int)) ∧ (Int.tmod (w64 (v22 + (1 : Int))) (a0.2.1.length : Int)) < (a0.2.1.length : Int)) (cond (decide ((0 : Int) < ((a0.2.1.getD ((Int.tmod (w64 (v22 + (1 : Int))) (a0.2.1.length : Int)).toNat) d_Slot).1))) ((some (.out (Sum.inl ())))) (grd (0 ≤ (0 : Int) ∧ (0 : Int) ≤ v22 ∧ v22 ≤ (a0.2.1.length : Int)) ((slices_ContainsFunc___impl_Slot_impl_Slot__i1 (lsub a0.2.1 (0 : Int) v22) ((a0.2.1.getD v22.toNat d_Slot).1) ((a0.2.1.getD v22.toNat d_Slot).2.1) ((a0.2.1.getD v22.toNat d_Slot).2.2.1)).bind fun y27 => (cond y27 ((some (.out (Sum.inl ())))) (some (.go (w64 (v22 + (1 : Int)))))))))))))))))) ((some (.out (Sum.inr ())))))
noncomputable def impl_IsRopeway (a0 : Ropeway) : Option (Bool) :=
  ((impl_within a0.1 (0 : Int) (3 : Int)).bind fun y1 => (cond (!y1) ((some false)) ((impl_within (a0.2.1.length : Int) (4 : Int) (10 : Int)).bind fun y2 => (cond (!y2) ((some false)) (grd ((2 : Int) ≠ 0) (cond (!decide ((Int.tmod (a0.2.1.length : Int) (2 : Int)) = (0 : Int))) ((some false)) ((impl_within a0.2.2.1 (0 : Int) (500 : Int)).bind fun y3 => (cond (!y3) ((some false)) ((impl_within a0.2.2.2.1 (0 : Int) (500 : Int)).bind fun y4 => (cond (!y4) ((some false)) ((impl_within a0.2.2.2.2.1 (0 : Int) (500 : Int)).bind fun y5 => (cond (!y5) ((some false)) ((iter (fun s => impl_IsRopeway_loop1 a0 s) (0 : Int)).bind (Sum.elim (fun _ => (some false)) (fun _ => (some true))))))))))))))))
def impl_IsRopeway.res (_ : Ropeway) (y : Bool) : AV := (.bl y)
def impl_IsRopeway.out (_ : Ropeway) (_ : Bool) : List (Option LB) := []
def impl_IsRopeway.S (ar : List AV) (h : List (Option LB)) (r : AV) (h1 : List (Option LB)) : Prop := ∃ a0 y, impl_IsRopeway a0 = some y ∧ leL ar [(.agg [(.v (.int .i64 a0.1)), (.tree ty_Slot a0.2.1), (.v (.int .i64 a0.2.2.1)), (.v (.int .i64 a0.2.2.2.1)), (.v (.int .i64 a0.2.2.2.2.1))])] ∧ leH h [] ∧ r = impl_IsRopeway.res a0 y ∧ h1 = impl_IsRopeway.out a0 y
theorem impl_IsRopeway.call {ar : List AV} {h : List (Option LB)} {a0 : Ropeway} {y : Bool} (H : impl_IsRopeway a0 = some y) (h0 : leLk ar [(.agg [(.v (.int .i64 a0.1)), (.tree ty_Slot a0.2.1), (.v (.int .i64 a0.2.2.1)), (.v (.int .i64 a0.2.2.2.1)), (.v (.int .i64 a0.2.2.2.2.1))])] (leHk h [])) : impl_IsRopeway.S ar h (impl_IsRopeway.res a0 y) (impl_IsRopeway.out a0 y) := ⟨a0, y, H, (args_ok h0).1, (args_ok h0).2, rfl, rfl⟩
set_option maxHeartbeats 100000000 in
set_option maxRecDepth 100000 in
theorem impl_IsRopeway.spec (a0 : Ropeway) (y : Bool) (H : impl_IsRopeway a0 = some y) : Spec Tryd.prog 17 [(.agg [(.v (.int .i64 a0.1)), (.tree ty_Slot a0.2.1), (.v (.int .i64 a0.2.2.1)), (.v (.int .i64 a0.2.2.2.1)), (.v (.int .i64 a0.2.2.2.2.1))])] [] (impl_IsRopeway.res a0 y) (impl_IsRopeway.out a0 y) := by
  refine spec_intro (G30_ok.at tok []) (ct := [(3, some [1, 3, 40, 54, 55, 56, 57, 65, 66, 67, 72, 73, 74, 75, 78, 79, 80, 81, 82, 83, 84, 85, 86, 87, 90, 91, 92, 93, 94, 95]), (8, some [1, 3, 4, 5, 42, 43, 44, 54, 55, 56, 57, 58, 65, 66, 67, 72, 73, 74, 75, 78, 79, 80, 81, 82, 83, 84, 85, 86, 87, 90, 91, 92, 93, 94, 95]), (13, some [1, 3, 42, 43, 44, 54, 55, 56, 57, 65, 66, 67, 72, 73, 74, 75, 78, 79, 80, 81, 82, 83, 84, 85, 86, 87, 90, 91, 92, 93, 94, 95, 96])]) Tryd.func17 rfl (by kernel_rfl) (by kernel_rfl) rfl ?_
  repeat' first
    | ((with_reducible refine eqg ?_); exact rfl)
    | ((with_reducible refine KOb.mk ?_); kernel_rfl)
    | ((with_reducible intro h); (repeat (first | replace H := grd_k H | replace H := out_step H (by assumption))); first | replace H := cond_t h H | replace H := cond_f h H | exact absurd h (by decide) | skip)
    | ((with_reducible refine Ob.mk ?_); first | (with_reducible rfl) | (first | ((repeat (first | (with_reducible exact grd_p H) | (replace H := grd_k H) | (replace H := out_step H (by assumption)))); done) | rfl | ((repeat (first | exact grd_p H | replace H := grd_k H | replace H := out_step H (by assumption))); done) | ((repeat (first | exact grd_p H | (have hp := grd_p H; exact hp) | replace H := grd_k H | replace H := out_step H (by assumption) | (replace H := bind_some H; obtain ⟨_, _, H⟩ := H))); done) | (repeat (first | exact grd_p H | replace H := grd_k H | replace H := out_step H (by assumption)))))
    | (with_reducible exact True.intro)
    | constructor
    | ((conv => whnf); first
        | ((with_reducible refine Ob.mk ?_); first | (with_reducible rfl) | (first | ((repeat (first | (with_reducible exact grd_p H) | (replace H := grd_k H) | (replace H := out_step H (by assumption)))); done) | rfl | ((repeat (first | exact grd_p H | replace H := grd_k H | replace H := out_step H (by assumption))); done) | ((repeat (first | exact grd_p H | (have hp := grd_p H; exact hp) | replace H := grd_k H | replace H := out_step H (by assumption) | (replace H := bind_some H; obtain ⟨_, _, H⟩ := H))); done) | (repeat (first | exact grd_p H | replace H := grd_k H | replace H := out_step H (by assumption)))))
        | ((with_reducible refine CallW.mk ?_); (repeat (first | replace H := grd_k H | replace H := out_step H (by assumption))); replace H := bind_some H; obtain ⟨y, hy, H⟩ := H; first | ((with_reducible have hz : impl_within _ _ _ = some y := hy); clear hz; refine Exists.intro _ (Exists.intro _ ⟨impl_within.call hy ?_, rfl, rfl, ?_⟩)) | ((with_reducible have hz : impl_Ropeway_isStation _ _ = some y := hy); clear hz; refine Exists.intro _ (Exists.intro _ ⟨impl_Ropeway_isStation.call hy ?_, rfl, rfl, ?_⟩)) | ((with_reducible have hz : slices_ContainsFunc___impl_Slot_impl_Slot__i1 _ _ _ _ = some y := hy); clear hz; refine Exists.intro _ (Exists.intro _ ⟨slices_ContainsFunc___impl_Slot_impl_Slot__i1.call hy ?_, rfl, rfl, ?_⟩)))
        | ((repeat (first | replace H := grd_k H | replace H := out_step H (by assumption))); refine loop_iter (G30_ok.at tok []) (ct := [(3, some [1, 3, 40, 54, 55, 56, 57, 65, 66, 67, 72, 73, 74, 75, 78, 79, 80, 81, 82, 83, 84, 85, 86, 87, 90, 91, 92, 93, 94, 95]), (8, some [1, 3, 4, 5, 42, 43, 44, 54, 55, 56, 57, 58, 65, 66, 67, 72, 73, 74, 75, 78, 79, 80, 81, 82, 83, 84, 85, 86, 87, 90, 91, 92, 93, 94, 95]), (13, some [1, 3, 42, 43, 44, 54, 55, 56, 57, 65, 66, 67, 72, 73, 74, 75, 78, 79, 80, 81, 82, 83, 84, 85, 86, 87, 90, 91, 92, 93, 94, 95, 96])]) (F := (fun s1 : Int => ⟨sl [(1, (.loc 0 0 0)), (3, (.v (.int .i64 (a0.2.1.length : Int)))), (42, (.tree ty_Slot a0.2.1)), (43, (.v (.int .i64 (a0.2.1.length : Int)))), (44, (.v (.int .i64 s1)))], [some (.box 33 [(.v (.int .i64 a0.1)), (.tree ty_Slot a0.2.1), (.v (.int .i64 a0.2.2.1)), (.v (.int .i64 a0.2.2.2.1)), (.v (.int .i64 a0.2.2.2.2.1))])]⟩)) (step := (fun s : Int => impl_IsRopeway_loop1 _ s)) _ H (by kernel_rfl) (sub_auto ?_) ?_; rotate_left; (intro s1 r v hr H); rotate_right)
        | ((repeat (first | replace H := grd_k H | replace H := out_step H (by assumption))); refine again_step H (by assumption) (sub_auto ?_))
        | ((with_reducible refine fin_mk ?_); (repeat (first | replace H := grd_k H | replace H := out_step H (by assumption))); have H := Option.some.inj H; subst H))
def G31 : Env := G30.add 17 [] impl_IsRopeway.S
theorem G31_ok : EnvOk Tryd.prog G31 := G30_ok.add ent_17 fun ar h r h1 ⟨a0, y, hy, e1, e2, e3, e4⟩ => by
  subst e3 e4; exact (impl_IsRopeway.spec a0 y hy).le e1 e2
attribute [local irreducible] impl_IsRopeway

noncomputable def strings_Cut (a0 : ByteArray) (a1 : ByteArray) : Option (ByteArray × ByteArray × Bool) :=
  (grd (a0.size < 4294967281) ((some ((cutA a0 a1), (cutB a0 a1), (cutF a0 a1)))))
def strings_Cut.res (_ : ByteArray) (_ : ByteArray) (y : ByteArray × ByteArray × Bool) : AV := (.tup [(.v (.string y.1)), (.v (.string y.2.1)), (.bl y.2.2)])
def strings_Cut.out (_ : ByteArray) (_ : ByteArray) (_ : ByteArray × ByteArray × Bool) : List (Option LB) := []
def strings_Cut.S (ar : List AV) (h : List (Option LB)) (r : AV) (h1 : List (Option LB)) : Prop := ∃ a0 a1 y, strings_Cut a0 a1 = some y ∧ leL ar [(.v (.string a0)), (.v (.string a1))] ∧ leH h [] ∧ r = strings_Cut.res a0 a1 y ∧ h1 = strings_Cut.out a0 a1 y
theorem strings_Cut.call {ar : List AV} {h : List (Option LB)} {a0 : ByteArray} {a1 : ByteArray} {y : ByteArray × ByteArray × Bool} (H : strings_Cut a0 a1 = some y) (h0 : leLk ar [(.v (.string a0)), (.v (.string a1))] (leHk h [])) : strings_Cut.S ar h (strings_Cut.res a0 a1 y) (strings_Cut.out a0 a1 y) := ⟨a0, a1, y, H, (args_ok h0).1, (args_ok h0).2, rfl, rfl⟩
theorem strings_Cut.spec (a0 : ByteArray) (a1 : ByteArray) (y : ByteArray × ByteArray × Bool) (H : strings_Cut a0 a1 = some y) : Spec Tryd.prog 50 [(.v (.string a0)), (.v (.string a1))] [] (strings_Cut.res a0 a1 y) (strings_Cut.out a0 a1 y) := by
  have hg := grd_p H
  have H := Option.some.inj (grd_k H)
  subst H
  exact ext_strings_Cut a0 a1 hg
def G32 : Env := G31.add 50 [] strings_Cut.S
theorem G32_ok : EnvOk Tryd.prog G32 := G31_ok.add ent_50 fun ar h r h1 ⟨a0, a1, y, hy, e1, e2, e3, e4⟩ => by
  subst e3 e4; exact (strings_Cut.spec a0 a1 y hy).le e1 e2
attribute [local irreducible] strings_Cut

noncomputable def strings_Contains (a0 : ByteArray) (a1 : ByteArray) : Option (Bool) :=
  (grd (a0.size < 4294967281) ((some (Lib.contains a0.data.toList a1.data.toList))))
def strings_Contains.res (_ : ByteArray) (_ : ByteArray) (y : Bool) : AV := (.bl y)
def strings_Contains.out (_ : ByteArray) (_ : ByteArray) (_ : Bool) : List (Option LB) := []
def strings_Contains.S (ar : List AV) (h : List (Option LB)) (r : AV) (h1 : List (Option LB)) : Prop := ∃ a0 a1 y, strings_Contains a0 a1 = some y ∧ leL ar [(.v (.string a0)), (.v (.string a1))] ∧ leH h [] ∧ r = strings_Contains.res a0 a1 y ∧ h1 = strings_Contains.out a0 a1 y
theorem strings_Contains.call {ar : List AV} {h : List (Option LB)} {a0 : ByteArray} {a1 : ByteArray} {y : Bool} (H : strings_Contains a0 a1 = some y) (h0 : leLk ar [(.v (.string a0)), (.v (.string a1))] (leHk h [])) : strings_Contains.S ar h (strings_Contains.res a0 a1 y) (strings_Contains.out a0 a1 y) := ⟨a0, a1, y, H, (args_ok h0).1, (args_ok h0).2, rfl, rfl⟩
theorem strings_Contains.spec (a0 : ByteArray) (a1 : ByteArray) (y : Bool) (H : strings_Contains a0 a1 = some y) : Spec Tryd.prog 83 [(.v (.string a0)), (.v (.string a1))] [] (strings_Contains.res a0 a1 y) (strings_Contains.out a0 a1 y) := by
  have hg := grd_p H
  have H := Option.some.inj (grd_k H)
  subst H
  exact ext_strings_Contains a0 a1 hg
def G33 : Env := G32.add 83 [] strings_Contains.S
theorem G33_ok : EnvOk Tryd.prog G33 := G32_ok.add ent_83 fun ar h r h1 ⟨a0, a1, y, hy, e1, e2, e3, e4⟩ => by
  subst e3 e4; exact (strings_Contains.spec a0 a1 y hy).le e1 e2
attribute [local irreducible] strings_Contains

noncomputable def impl_checksum_loop1 (a0 : ByteArray) (v3 : Int) (v4 : Int) : Option (Lp (Int × Int) ((Int))) :=
  (cond (decide (v4 < (a0.size : Int))) (grd (0 ≤ v4 ∧ v4 < (a0.size : Int)) (grd ((999979 : Int) ≠ 0) (some (.go ((Int.tmod (w64 ((w64 ((w64 ((41 : Int) * v3)) + (w64 (bAt a0 v4)))) + (1 : Int))) (999979 : Int)), (w64 (v4 + (1 : Int)))))))) ((some (.out v3))))
noncomputable def impl_checksum (a0 : ByteArray) : Option (Int) :=
  ((iter (fun s => impl_checksum_loop1 a0 s.1 s.2) ((7 : Int), (0 : Int))).bind (fun r5 => (some r5)))
def impl_checksum.res (_ : ByteArray) (y : Int) : AV := (.v (.int .i64 y))
def impl_checksum.out (_ : ByteArray) (_ : Int) : List (Option LB) := []
def impl_checksum.S (ar : List AV) (h : List (Option LB)) (r : AV) (h1 : List (Option LB)) : Prop := ∃ a0 y, impl_checksum a0 = some y ∧ leL ar [(.v (.string a0))] ∧ leH h [] ∧ r = impl_checksum.res a0 y ∧ h1 = impl_checksum.out a0 y
theorem impl_checksum.call {ar : List AV} {h : List (Option LB)} {a0 : ByteArray} {y : Int} (H : impl_checksum a0 = some y) (h0 : leLk ar [(.v (.string a0))] (leHk h [])) : impl_checksum.S ar h (impl_checksum.res a0 y) (impl_checksum.out a0 y) := ⟨a0, y, H, (args_ok h0).1, (args_ok h0).2, rfl, rfl⟩
set_option maxHeartbeats 100000000 in
set_option maxRecDepth 100000 in
theorem impl_checksum.spec (a0 : ByteArray) (y : Int) (H : impl_checksum a0 = some y) : Spec Tryd.prog 84 [(.v (.string a0))] [] (impl_checksum.res a0 y) (impl_checksum.out a0 y) := by
  refine spec_intro (G33_ok.at tok []) (ct := []) Tryd.func84 rfl (by kernel_rfl) (by kernel_rfl) rfl ?_
  repeat' first
    | ((with_reducible refine eqg ?_); exact rfl)
    | ((with_reducible refine KOb.mk ?_); kernel_rfl)
    | ((with_reducible intro h); (repeat (first | replace H := grd_k H | replace H := out_step H (by assumption))); first | replace H := cond_t h H | replace H := cond_f h H | exact absurd h (by decide) | skip)
    | ((with_reducible refine Ob.mk ?_); first | (with_reducible rfl) | (first | ((repeat (first | (with_reducible exact grd_p H) | (replace H := grd_k H) | (replace H := out_step H (by assumption)))); done) | rfl | ((repeat (first | exact grd_p H | replace H := grd_k H | replace H := out_step H (by assumption))); done) | ((repeat (first | exact grd_p H | (have hp := grd_p H; exact hp) | replace H := grd_k H | replace H := out_step H (by assumption) | (replace H := bind_some H; obtain ⟨_, _, H⟩ := H))); done) | (repeat (first | exact grd_p H | replace H := grd_k H | replace H := out_step H (by assumption)))))
    | (with_reducible exact True.intro)
    | constructor
    | ((conv => whnf); first
        | ((with_reducible refine Ob.mk ?_); first | (with_reducible rfl) | (first | ((repeat (first | (with_reducible exact grd_p H) | (replace H := grd_k H) | (replace H := out_step H (by assumption)))); done) | rfl | ((repeat (first | exact grd_p H | replace H := grd_k H | replace H := out_step H (by assumption))); done) | ((repeat (first | exact grd_p H | (have hp := grd_p H; exact hp) | replace H := grd_k H | replace H := out_step H (by assumption) | (replace H := bind_some H; obtain ⟨_, _, H⟩ := H))); done) | (repeat (first | exact grd_p H | replace H := grd_k H | replace H := out_step H (by assumption)))))
        | ((repeat (first | replace H := grd_k H | replace H := out_step H (by assumption))); refine loop_iter (G33_ok.at tok []) (ct := []) (F := (fun s1 : Int × Int => ⟨sl [(0, (.v (.string a0))), (3, (.v (.int .i64 s1.1))), (6, (.v (.int .i64 (a0.size : Int)))), (7, (.v (.int .i64 s1.2)))], []⟩)) (step := (fun s : Int × Int => impl_checksum_loop1 _ s.1 s.2)) _ H (by kernel_rfl) (sub_auto ?_) ?_; rotate_left; (intro s1 r v hr H); rotate_right)
        | ((repeat (first | replace H := grd_k H | replace H := out_step H (by assumption))); refine again_step H (by assumption) (sub_auto ?_))
        | ((with_reducible refine fin_mk ?_); (repeat (first | replace H := grd_k H | replace H := out_step H (by assumption))); have H := Option.some.inj H; subst H))
def G34 : Env := G33.add 84 [] impl_checksum.S
theorem G34_ok : EnvOk Tryd.prog G34 := G33_ok.add ent_84 fun ar h r h1 ⟨a0, y, hy, e1, e2, e3, e4⟩ => by
  subst e3 e4; exact (impl_checksum.spec a0 y hy).le e1 e2
attribute [local irreducible] impl_checksum

noncomputable def strconv_Itoa (a0 : Int) : Option (ByteArray) :=
  (grd (-9223372036854775808 ≤ a0 ∧ a0 ≤ 9223372036854775807) ((some (itoaB a0))))
def strconv_Itoa.res (_ : Int) (y : ByteArray) : AV := (.v (.string y))
def strconv_Itoa.out (_ : Int) (_ : ByteArray) : List (Option LB) := []
def strconv_Itoa.S (ar : List AV) (h : List (Option LB)) (r : AV) (h1 : List (Option LB)) : Prop := ∃ a0 y, strconv_Itoa a0 = some y ∧ leL ar [(.v (.int .i64 a0))] ∧ leH h [] ∧ r = strconv_Itoa.res a0 y ∧ h1 = strconv_Itoa.out a0 y
theorem strconv_Itoa.call {ar : List AV} {h : List (Option LB)} {a0 : Int} {y : ByteArray} (H : strconv_Itoa a0 = some y) (h0 : leLk ar [(.v (.int .i64 a0))] (leHk h [])) : strconv_Itoa.S ar h (strconv_Itoa.res a0 y) (strconv_Itoa.out a0 y) := ⟨a0, y, H, (args_ok h0).1, (args_ok h0).2, rfl, rfl⟩
theorem strconv_Itoa.spec (a0 : Int) (y : ByteArray) (H : strconv_Itoa a0 = some y) : Spec Tryd.prog 22 [(.v (.int .i64 a0))] [] (strconv_Itoa.res a0 y) (strconv_Itoa.out a0 y) := by
  have hg := grd_p H
  have H := Option.some.inj (grd_k H)
  subst H
  exact ext_strconv_Itoa a0 hg
def G35 : Env := G34.add 22 [] strconv_Itoa.S
theorem G35_ok : EnvOk Tryd.prog G35 := G34_ok.add ent_22 fun ar h r h1 ⟨a0, y, hy, e1, e2, e3, e4⟩ => by
  subst e3 e4; exact (strconv_Itoa.spec a0 y hy).le e1 e2
attribute [local irreducible] strconv_Itoa

end Go.Proofs.YtdlngdmdebpadaaDoor
