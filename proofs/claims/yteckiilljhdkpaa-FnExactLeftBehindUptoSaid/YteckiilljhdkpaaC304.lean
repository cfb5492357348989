/-
  Contracts, printed by a program.
-/
import Derived.Test.YteckiilljhdkpaaC303
namespace Go.Proofs.Yteckiilljhdkpaa
open Go.RowKit
attribute [local irreducible] Ob loopwp Sub Spec Fin Again CallW CutC KOb iter joinx outm

attribute [local irreducible] laws_szDayRow laws_szDayRowS laws_toDayRow laws_toDayRowS spec_l1In spec_l2Word spec_l26One spec_l26Good spec_LeftBehind impl_within impl_isDay impl_isWord impl_IsDayRow impl_AreDayRows impl_LeftBehind laws_eqIntS laws_eqDayRow laws_eqDayRowS laws_markText laws_markDayRowS laws_markIntS laws_heldIntS laws_markIntS_i1 laws_FnExactLeftBehind spec_l25Slot spec_l25Good spec_NewRopeway spec_NewConsole impl_Ropeway_isStation impl_IsRopeway_1_i1

noncomputable def slices_IndexFunc___impl_Slot_impl_Slot__i1_loop1 (a0 : (List Slot)) (a100 : Int) (a101 : Bool) (a102 : Int) (v4 : Int) : Option (Lp (Int) ((Int) ⊕ (Unit))) :=
  (cond (decide (v4 < (a0.length : Int))) (grd (0 ≤ v4 ∧ v4 < (a0.length : Int)) ((impl_IsRopeway_1_i1 ((a0.getD v4.toNat d_Slot).1, (a0.getD v4.toNat d_Slot).2.1, (a0.getD v4.toNat d_Slot).2.2.1, ()) a100 a101 a102).bind fun y5 => (cond y5 ((some (.out (Sum.inl v4)))) (some (.go (w64 (v4 + (1 : Int)))))))) ((some (.out (Sum.inr ())))))
noncomputable def slices_IndexFunc___impl_Slot_impl_Slot__i1 (a0 : (List Slot)) (a100 : Int) (a101 : Bool) (a102 : Int) : Option (Int) :=
  ((iter (fun s => slices_IndexFunc___impl_Slot_impl_Slot__i1_loop1 a0 a100 a101 a102 s) (0 : Int)).bind (Sum.elim (fun r7 => (some r7)) (fun _ => (some ((-1) : Int)))))
def slices_IndexFunc___impl_Slot_impl_Slot__i1.res (_ : (List Slot)) (_ : Int) (_ : Bool) (_ : Int) (y : Int) : AV := (.v (.int .i64 y))
def slices_IndexFunc___impl_Slot_impl_Slot__i1.out (_ : (List Slot)) (_ : Int) (_ : Bool) (_ : Int) (_ : Int) : List (Option LB) := []
def slices_IndexFunc___impl_Slot_impl_Slot__i1.S (ar : List AV) (h : List (Option LB)) (r : AV) (h1 : List (Option LB)) : Prop := ∃ a0 a100 a101 a102 y, slices_IndexFunc___impl_Slot_impl_Slot__i1 a0 a100 a101 a102 = some y ∧ leL ar [(.tree ty_Slot a0), (.fn 64 [(.bptr [(.v (.int .i64 a100)), (.bl a101), (.v (.int .i64 a102))] 0)])] ∧ leH h [] ∧ r = slices_IndexFunc___impl_Slot_impl_Slot__i1.res a0 a100 a101 a102 y ∧ h1 = slices_IndexFunc___impl_Slot_impl_Slot__i1.out a0 a100 a101 a102 y
theorem slices_IndexFunc___impl_Slot_impl_Slot__i1.call {ar : List AV} {h : List (Option LB)} {a0 : (List Slot)} {a100 : Int} {a101 : Bool} {a102 : Int} {y : Int} (H : slices_IndexFunc___impl_Slot_impl_Slot__i1 a0 a100 a101 a102 = some y) (h0 : leLk ar [(.tree ty_Slot a0), (.fn 64 [(.bptr [(.v (.int .i64 a100)), (.bl a101), (.v (.int .i64 a102))] 0)])] (leHk h [])) : slices_IndexFunc___impl_Slot_impl_Slot__i1.S ar h (slices_IndexFunc___impl_Slot_impl_Slot__i1.res a0 a100 a101 a102 y) (slices_IndexFunc___impl_Slot_impl_Slot__i1.out a0 a100 a101 a102 y) := ⟨a0, a100, a101, a102, y, H, (args_ok h0).1, (args_ok h0).2, rfl, rfl⟩
set_option maxHeartbeats 100000000 in
set_option maxRecDepth 100000 in
theorem slices_IndexFunc___impl_Slot_impl_Slot__i1.spec (a0 : (List Slot)) (a100 : Int) (a101 : Bool) (a102 : Int) (y : Int) (H : slices_IndexFunc___impl_Slot_impl_Slot__i1 a0 a100 a101 a102 = some y) : Spec Try.prog 68 [(.tree ty_Slot a0), (.fn 64 [(.bptr [(.v (.int .i64 a100)), (.bl a101), (.v (.int .i64 a102))] 0)])] [] (slices_IndexFunc___impl_Slot_impl_Slot__i1.res a0 a100 a101 a102 y) (slices_IndexFunc___impl_Slot_impl_Slot__i1.out a0 a100 a101 a102 y) := by
  refine spec_intro (G30_ok.at tok []) (ct := []) Try.func68 rfl (by kernel_rfl) (by kernel_rfl) rfl ?_
  repeat' first
    | ((with_reducible refine eqg ?_); exact rfl)
    | ((with_reducible refine KOb.mk ?_); kernel_rfl)
    | ((with_reducible intro h); (repeat (first | replace H := grd_k H | replace H := out_step H (by assumption))); first | replace H := cond_t h H | replace H := cond_f h H | exact absurd h (by decide) | skip)
    | ((with_reducible refine Ob.mk ?_); first | (with_reducible rfl) | (first | ((repeat (first | (with_reducible exact grd_p H) | (replace H := grd_k H) | (replace H := out_step H (by assumption)))); done) | rfl | ((repeat (first | exact grd_p H | replace H := grd_k H | replace H := out_step H (by assumption))); done) | ((repeat (first | exact grd_p H | (have hp := grd_p H; exact hp) | replace H := grd_k H | replace H := out_step H (by assumption) | (replace H := bind_some H; obtain ⟨_, _, H⟩ := H))); done) | (repeat (first | exact grd_p H | replace H := grd_k H | replace H := out_step H (by assumption)))))
    | (with_reducible exact True.intro)
    | constructor
    | ((conv => whnf); first
        | ((with_reducible refine Ob.mk ?_); first | (with_reducible rfl) | (first | ((repeat (first | (with_reducible exact grd_p H) | (replace H := grd_k H) | (replace H := out_step H (by assumption)))); done) | rfl | ((repeat (first | exact grd_p H | replace H := grd_k H | replace H := out_step H (by assumption))); done) | ((repeat (first | exact grd_p H | (have hp := grd_p H; exact hp) | replace H := grd_k H | replace H := out_step H (by assumption) | (replace H := bind_some H; obtain ⟨_, _, H⟩ := H))); done) | (repeat (first | exact grd_p H | replace H := grd_k H | replace H := out_step H (by assumption)))))
        | ((with_reducible refine CallW.mk ?_); (repeat (first | replace H := grd_k H | replace H := out_step H (by assumption))); replace H := bind_some H; obtain ⟨y, hy, H⟩ := H; first | ((with_reducible have hz : impl_IsRopeway_1_i1 _ _ _ _ = some y := hy); clear hz; refine Exists.intro _ (Exists.intro _ ⟨impl_IsRopeway_1_i1.call hy ?_, rfl, rfl, ?_⟩)))
        | ((repeat (first | replace H := grd_k H | replace H := out_step H (by assumption))); refine loop_iter (G30_ok.at tok []) (ct := []) (F := (fun s1 : Int => ⟨sl [(0, (.tree ty_Slot a0)), (1, (.fn 64 [(.bptr [(.v (.int .i64 a100)), (.bl a101), (.v (.int .i64 a102))] 0)])), (7, (.v (.int .i64 (a0.length : Int)))), (8, (.v (.int .i64 s1)))], []⟩)) (step := (fun s : Int => slices_IndexFunc___impl_Slot_impl_Slot__i1_loop1 _ _ _ _ s)) _ H (by kernel_rfl) (sub_auto ?_) ?_; rotate_left; (intro s1 r v hr H); rotate_right)
        | ((repeat (first | replace H := grd_k H | replace H := out_step H (by assumption))); refine again_step H (by assumption) (sub_auto ?_))
        | ((with_reducible refine fin_mk ?_); (repeat (first | replace H := grd_k H | replace H := out_step H (by assumption))); have H := Option.some.inj H; subst H))
  all_goals exact viewz _ _
def G31 : Env := G30.add 68 [] slices_IndexFunc___impl_Slot_impl_Slot__i1.S
theorem G31_ok : EnvOk Try.prog G31 := G30_ok.add ent_68 fun ar h r h1 ⟨a0, a100, a101, a102, y, hy, e1, e2, e3, e4⟩ => by
  subst e3 e4; exact (slices_IndexFunc___impl_Slot_impl_Slot__i1.spec a0 a100 a101 a102 y hy).le e1 e2
attribute [local irreducible] slices_IndexFunc___impl_Slot_impl_Slot__i1

noncomputable def slices_ContainsFunc___impl_Slot_impl_Slot__i1 (a0 : (List Slot)) (a100 : Int) (a101 : Bool) (a102 : Int) : Option (Bool) :=
  ((slices_IndexFunc___impl_Slot_impl_Slot__i1 a0 a100 a101 a102).bind fun y1 => (some (decide ((0 : Int) ≤ y1))))
def slices_ContainsFunc___impl_Slot_impl_Slot__i1.res (_ : (List Slot)) (_ : Int) (_ : Bool) (_ : Int) (y : Bool) : AV := (.bl y)
def slices_ContainsFunc___impl_Slot_impl_Slot__i1.out (_ : (List Slot)) (_ : Int) (_ : Bool) (_ : Int) (_ : Bool) : List (Option LB) := []
def slices_ContainsFunc___impl_Slot_impl_Slot__i1.S (ar : List AV) (h : List (Option LB)) (r : AV) (h1 : List (Option LB)) : Prop := ∃ a0 a100 a101 a102 y, slices_ContainsFunc___impl_Slot_impl_Slot__i1 a0 a100 a101 a102 = some y ∧ leL ar [(.tree ty_Slot a0), (.fn 64 [(.bptr [(.v (.int .i64 a100)), (.bl a101), (.v (.int .i64 a102))] 0)])] ∧ leH h [] ∧ r = slices_ContainsFunc___impl_Slot_impl_Slot__i1.res a0 a100 a101 a102 y ∧ h1 = slices_ContainsFunc___impl_Slot_impl_Slot__i1.out a0 a100 a101 a102 y
theorem slices_ContainsFunc___impl_Slot_impl_Slot__i1.call {ar : List AV} {h : List (Option LB)} {a0 : (List Slot)} {a100 : Int} {a101 : Bool} {a102 : Int} {y : Bool} (H : slices_ContainsFunc___impl_Slot_impl_Slot__i1 a0 a100 a101 a102 = some y) (h0 : leLk ar [(.tree ty_Slot a0), (.fn 64 [(.bptr [(.v (.int .i64 a100)), (.bl a101), (.v (.int .i64 a102))] 0)])] (leHk h [])) : slices_ContainsFunc___impl_Slot_impl_Slot__i1.S ar h (slices_ContainsFunc___impl_Slot_impl_Slot__i1.res a0 a100 a101 a102 y) (slices_ContainsFunc___impl_Slot_impl_Slot__i1.out a0 a100 a101 a102 y) := ⟨a0, a100, a101, a102, y, H, (args_ok h0).1, (args_ok h0).2, rfl, rfl⟩
set_option maxHeartbeats 100000000 in
set_option maxRecDepth 100000 in
theorem slices_ContainsFunc___impl_Slot_impl_Slot__i1.spec (a0 : (List Slot)) (a100 : Int) (a101 : Bool) (a102 : Int) (y : Bool) (H : slices_ContainsFunc___impl_Slot_impl_Slot__i1 a0 a100 a101 a102 = some y) : Spec Try.prog 63 [(.tree ty_Slot a0), (.fn 64 [(.bptr [(.v (.int .i64 a100)), (.bl a101), (.v (.int .i64 a102))] 0)])] [] (slices_ContainsFunc___impl_Slot_impl_Slot__i1.res a0 a100 a101 a102 y) (slices_ContainsFunc___impl_Slot_impl_Slot__i1.out a0 a100 a101 a102 y) := by
  refine spec_intro (G31_ok.at tok []) (ct := []) Try.func63 rfl (by kernel_rfl) (by kernel_rfl) rfl ?_
  repeat' first
    | ((with_reducible refine eqg ?_); exact rfl)
    | ((with_reducible refine KOb.mk ?_); kernel_rfl)
    | ((with_reducible intro h); (repeat (first | replace H := grd_k H | replace H := out_step H (by assumption))); first | replace H := cond_t h H | replace H := cond_f h H | exact absurd h (by decide) | skip)
    | ((with_reducible refine Ob.mk ?_); first | (with_reducible rfl) | (first | ((repeat (first | (with_reducible exact grd_p H) | (replace H := grd_k H) | (replace H := out_step H (by assumption)))); done) | rfl | ((repeat (first | exact grd_p H | replace H := grd_k H | replace H := out_step H (by assumption))); done) | ((repeat (first | exact grd_p H | (have hp := grd_p H; exact hp) | replace H := grd_k H | replace H := out_step H (by assumption) | (replace H := bind_some H; obtain ⟨_, _, H⟩ := H))); done) | (repeat (first | exact grd_p H | replace H := grd_k H | replace H := out_step H (by assumption)))))
    | (with_reducible exact True.intro)
    | constructor
    | ((conv => whnf); first
        | ((with_reducible refine Ob.mk ?_); first | (with_reducible rfl) | (first | ((repeat (first | (with_reducible exact grd_p H) | (replace H := grd_k H) | (replace H := out_step H (by assumption)))); done) | rfl | ((repeat (first | exact grd_p H | replace H := grd_k H | replace H := out_step H (by assumption))); done) | ((repeat (first | exact grd_p H | (have hp := grd_p H; exact hp) | replace H := grd_k H | replace H := out_step H (by assumption) | (replace H := bind_some H; obtain ⟨_, _, H⟩ := H))); done) | (repeat (first | exact grd_p H | replace H := grd_k H | replace H := out_step H (by assumption)))))
        | ((with_reducible refine CallW.mk ?_); (repeat (first | replace H := grd_k H | replace H := out_step H (by assumption))); replace H := bind_some H; obtain ⟨y, hy, H⟩ := H; first | ((with_reducible have hz : slices_IndexFunc___impl_Slot_impl_Slot__i1 _ _ _ _ = some y := hy); clear hz; refine Exists.intro _ (Exists.intro _ ⟨slices_IndexFunc___impl_Slot_impl_Slot__i1.call hy ?_, rfl, rfl, ?_⟩)))
        | ((with_reducible refine fin_mk ?_); (repeat (first | replace H := grd_k H | replace H := out_step H (by assumption))); have H := Option.some.inj H; subst H))
  all_goals exact viewz _ _
def G32 : Env := G31.add 63 [] slices_ContainsFunc___impl_Slot_impl_Slot__i1.S
theorem G32_ok : EnvOk Try.prog G32 := G31_ok.add ent_63 fun ar h r h1 ⟨a0, a100, a101, a102, y, hy, e1, e2, e3, e4⟩ => by
  subst e3 e4; exact (slices_ContainsFunc___impl_Slot_impl_Slot__i1.spec a0 a100 a101 a102 y hy).le e1 e2
attribute [local irreducible] slices_ContainsFunc___impl_Slot_impl_Slot__i1

noncomputable def impl_IsRopeway_loop1 (a0 : Ropeway) (v22 : Int) : Option (Lp (Int) ((Unit) ⊕ (Unit))) :=
  (cond (decide (v22 < (a0.2.1.length : Int))) (grd (0 ≤ v22 ∧ v22 < (a0.2.1.length : Int)) ((impl_within ((a0.2.1.getD v22.toNat d_Slot).1) (0 : Int) (20 : Int)).bind fun y23 => (cond (!y23) ((some (.out (Sum.inl ())))) ((impl_within ((a0.2.1.getD v22.toNat d_Slot).2.2.1) (0 : Int) (8 : Int)).bind fun y24 => (cond (!y24) ((some (.out (Sum.inl ())))) (cond (decide (((a0.2.1.getD v22.toNat d_Slot).1) = (0 : Int))) (cond ((a0.2.1.getD v22.toNat d_Slot).2.1) ((some (.out (Sum.inl ())))) (cond (decide ((0 : Int) < ((a0.2.1.getD v22.toNat d_Slot).2.2.1))) ((some (.out (Sum.inl ())))) (some (.go (w64 (v22 + (1 : Int))))))) (cond ((a0.2.1.getD v22.toNat d_Slot).2.1) ((impl_Ropeway_isStation (a0.1, a0.2.1, a0.2.2.1, a0.2.2.2.1, a0.2.2.2.2.1, ()) v22).bind fun y25 => (cond (!y25) ((some (.out (Sum.inl ())))) (grd ((a0.2.1.length : Int) ≠ 0) (grd (0 ≤ (Int.tmod (w64 (v22 + (1 : Int))) (a0.2.1.length : Int)) ∧ (Int.tmod (w64 (v22 + (1 : Int))) (a0.2.1.length : Int)) < (a0.2.1.length : Int)) (cond (decide ((0 : Int) < ((a0.2.1.getD ((Int.tmod (w64 (v22 + (1 : Int))) (a0.2.1.length : Int)).toNat) d_Slot).1))) ((some (.out (Sum.inl ())))) (grd (0 ≤ (0 : Int) ∧ (0 : Int) ≤ v22 ∧ v22 ≤ (a0.2.1.length : Int)) ((slices_ContainsFunc___impl_Slot_impl_Slot__i1 (lsub a0.2.1 (0 : Int) v22) ((a0.2.1.getD v22.toNat d_Slot).1) ((a0.2.1.getD v22.toNat d_Slot).2.1) ((a0.2.1.getD v22.toNat d_Slot).2.2.1)).bind fun y26 => (cond y26 ((some (.out (Sum.inl ())))) (some (.go (w64 (v22 + (1 : Int))))))))))))) (grd ((a0.2.1.length : Int) ≠ 0) (grd (0 ≤ (Int.tmod (w64 (v22 + (1 : Int))) (a0.2.1.length : Int)) ∧ (Int.tmod (w64 (v22 + (1 : Int))) (a0.2.1.length : Int)) < (a0.2.1.length : Int)) (cond (decide ((0 : Int) < ((a0.2.1.getD ((Int.tmod (w64 (v22 + (1 : Int))) (a0.2.1.length : Int)).toNat) d_Slot).1))) ((some (.out (Sum.inl ())))) (grd (0 ≤ (0 : Int) ∧ (0 : Int) ≤ v22 ∧ v22 ≤ (a0.2.1.length : Int)) ((slices_ContainsFunc___impl_Slot_impl_Slot__i1 (lsub a0.2.1 (0 : Int) v22) ((a0.2.1.getD v22.toNat d_Slot).1) ((a0.2.1.getD v22.toNat d_Slot).2.1) ((a0.2.1.getD v22.toNat d_Slot).2.2.1)).bind fun y27 => (cond y27 ((some (.out (Sum.inl ())))) (some (.go (w64 (v22 + (1 : Int)))))))))))))))))) ((some (.out (Sum.inr ())))))
noncomputable def impl_IsRopeway (a0 : Ropeway) : Option (Bool) :=
  ((impl_within a0.1 (0 : Int) (3 : Int)).bind fun y1 => (cond (!y1) ((some false)) ((impl_within (a0.2.1.length : Int) (4 : Int) (10 : Int)).bind fun y2 => (cond (!y2) ((some false)) (grd ((2 : Int) ≠ 0) (cond (!decide ((Int.tmod (a0.2.1.length : Int) (2 : Int)) = (0 : Int))) ((some false)) ((impl_within a0.2.2.1 (0 : Int) (500 : Int)).bind fun y3 => (cond (!y3) ((some false)) ((impl_within a0.2.2.2.1 (0 : Int) (500 : Int)).bind fun y4 => (cond (!y4) ((some false)) ((impl_within a0.2.2.2.2.1 (0 : Int) (500 : Int)).bind fun y5 => (cond (!y5) ((some false)) ((iter (fun s => impl_IsRopeway_loop1 a0 s) (0 : Int)).bind (Sum.elim (fun _ => (some false)) (fun _ => (some true))))))))))))))))
def impl_IsRopeway.res (_ : Ropeway) (y : Bool) : AV := (.bl y)
def impl_IsRopeway.out (_ : Ropeway) (_ : Bool) : List (Option LB) := []
def impl_IsRopeway.S (ar : List AV) (h : List (Option LB)) (r : AV) (h1 : List (Option LB)) : Prop := ∃ a0 y, impl_IsRopeway a0 = some y ∧ leL ar [(.agg [(.v (.int .i64 a0.1)), (.tree ty_Slot a0.2.1), (.v (.int .i64 a0.2.2.1)), (.v (.int .i64 a0.2.2.2.1)), (.v (.int .i64 a0.2.2.2.2.1))])] ∧ leH h [] ∧ r = impl_IsRopeway.res a0 y ∧ h1 = impl_IsRopeway.out a0 y
theorem impl_IsRopeway.call {ar : List AV} {h : List (Option LB)} {a0 : Ropeway} {y : Bool} (H : impl_IsRopeway a0 = some y) (h0 : leLk ar [(.agg [(.v (.int .i64 a0.1)), (.tree ty_Slot a0.2.1), (.v (.int .i64 a0.2.2.1)), (.v (.int .i64 a0.2.2.2.1)), (.v (.int .i64 a0.2.2.2.2.1))])] (leHk h [])) : impl_IsRopeway.S ar h (impl_IsRopeway.res a0 y) (impl_IsRopeway.out a0 y) := ⟨a0, y, H, (args_ok h0).1, (args_ok h0).2, rfl, rfl⟩
set_option maxHeartbeats 100000000 in
set_option maxRecDepth 100000 in
theorem impl_IsRopeway.spec (a0 : Ropeway) (y : Bool) (H : impl_IsRopeway a0 = some y) : Spec Try.prog 51 [(.agg [(.v (.int .i64 a0.1)), (.tree ty_Slot a0.2.1), (.v (.int .i64 a0.2.2.1)), (.v (.int .i64 a0.2.2.2.1)), (.v (.int .i64 a0.2.2.2.2.1))])] [] (impl_IsRopeway.res a0 y) (impl_IsRopeway.out a0 y) := by
  refine spec_intro (G32_ok.at tok []) (ct := [(3, some [1, 3, 40, 54, 55, 56, 57, 65, 66, 67, 72, 73, 74, 75, 78, 79, 80, 81, 82, 83, 84, 85, 86, 87, 90, 91, 92, 93, 94, 95]), (8, some [1, 3, 4, 5, 42, 43, 44, 54, 55, 56, 57, 58, 65, 66, 67, 72, 73, 74, 75, 78, 79, 80, 81, 82, 83, 84, 85, 86, 87, 90, 91, 92, 93, 94, 95]), (13, some [1, 3, 42, 43, 44, 54, 55, 56, 57, 65, 66, 67, 72, 73, 74, 75, 78, 79, 80, 81, 82, 83, 84, 85, 86, 87, 90, 91, 92, 93, 94, 95, 96])]) Try.func51 rfl (by kernel_rfl) (by kernel_rfl) rfl ?_
  repeat' first
    | ((with_reducible refine eqg ?_); exact rfl)
    | ((with_reducible refine KOb.mk ?_); kernel_rfl)
    | ((with_reducible intro h); (repeat (first | replace H := grd_k H | replace H := out_step H (by assumption))); first | replace H := cond_t h H | replace H := cond_f h H | exact absurd h (by decide) | skip)
    | ((with_reducible refine Ob.mk ?_); first | (with_reducible rfl) | (first | ((repeat (first | (with_reducible exact grd_p H) | (replace H := grd_k H) | (replace H := out_step H (by assumption)))); done) | rfl | ((repeat (first | exact grd_p H | replace H := grd_k H | replace H := out_step H (by assumption))); done) | ((repeat (first | exact grd_p H | (have hp := grd_p H; exact hp) | replace H := grd_k H | replace H := out_step H (by assumption) | (replace H := bind_some H; obtain ⟨_, _, H⟩ := H))); done) | (repeat (first | exact grd_p H | replace H := grd_k H | replace H := out_step H (by assumption)))))
    | (with_reducible exact True.intro)
    | constructor
    | ((conv => whnf); first
        | ((with_reducible refine Ob.mk ?_); first | (with_reducible rfl) | (first | ((repeat (first | (with_reducible exact grd_p H) | (replace H := grd_k H) | (replace H := out_step H (by assumption)))); done) | rfl | ((repeat (first | exact grd_p H | replace H := grd_k H | replace H := out_step H (by assumption))); done) | ((repeat (first | exact grd_p H | (have hp := grd_p H; exact hp) | replace H := grd_k H | replace H := out_step H (by assumption) | (replace H := bind_some H; obtain ⟨_, _, H⟩ := H))); done) | (repeat (first | exact grd_p H | replace H := grd_k H | replace H := out_step H (by assumption)))))
        | ((with_reducible refine CallW.mk ?_); (repeat (first | replace H := grd_k H | replace H := out_step H (by assumption))); replace H := bind_some H; obtain ⟨y, hy, H⟩ := H; first | ((with_reducible have hz : impl_within _ _ _ = some y := hy); clear hz; refine Exists.intro _ (Exists.intro _ ⟨impl_within.call hy ?_, rfl, rfl, ?_⟩)) | ((with_reducible have hz : impl_Ropeway_isStation _ _ = some y := hy); clear hz; refine Exists.intro _ (Exists.intro _ ⟨impl_Ropeway_isStation.call hy ?_, rfl, rfl, ?_⟩)) | ((with_reducible have hz : slices_ContainsFunc___impl_Slot_impl_Slot__i1 _ _ _ _ = some y := hy); clear hz; refine Exists.intro _ (Exists.intro _ ⟨slices_ContainsFunc___impl_Slot_impl_Slot__i1.call hy ?_, rfl, rfl, ?_⟩)))
        | ((repeat (first | replace H := grd_k H | replace H := out_step H (by assumption))); refine loop_iter (G32_ok.at tok []) (ct := [(3, some [1, 3, 40, 54, 55, 56, 57, 65, 66, 67, 72, 73, 74, 75, 78, 79, 80, 81, 82, 83, 84, 85, 86, 87, 90, 91, 92, 93, 94, 95]), (8, some [1, 3, 4, 5, 42, 43, 44, 54, 55, 56, 57, 58, 65, 66, 67, 72, 73, 74, 75, 78, 79, 80, 81, 82, 83, 84, 85, 86, 87, 90, 91, 92, 93, 94, 95]), (13, some [1, 3, 42, 43, 44, 54, 55, 56, 57, 65, 66, 67, 72, 73, 74, 75, 78, 79, 80, 81, 82, 83, 84, 85, 86, 87, 90, 91, 92, 93, 94, 95, 96])]) (F := (fun s1 : Int => ⟨sl [(1, (.loc 0 0 0)), (3, (.v (.int .i64 (a0.2.1.length : Int)))), (42, (.tree ty_Slot a0.2.1)), (43, (.v (.int .i64 (a0.2.1.length : Int)))), (44, (.v (.int .i64 s1)))], [some (.box 36 [(.v (.int .i64 a0.1)), (.tree ty_Slot a0.2.1), (.v (.int .i64 a0.2.2.1)), (.v (.int .i64 a0.2.2.2.1)), (.v (.int .i64 a0.2.2.2.2.1))])]⟩)) (step := (fun s : Int => impl_IsRopeway_loop1 _ s)) _ H (by kernel_rfl) (sub_auto ?_) ?_; rotate_left; (intro s1 r v hr H); rotate_right)
        | ((repeat (first | replace H := grd_k H | replace H := out_step H (by assumption))); refine again_step H (by assumption) (sub_auto ?_))
        | ((with_reducible refine fin_mk ?_); (repeat (first | replace H := grd_k H | replace H := out_step H (by assumption))); have H := Option.some.inj H; subst H))
def G33 : Env := G32.add 51 [] impl_IsRopeway.S
theorem G33_ok : EnvOk Try.prog G33 := G32_ok.add ent_51 fun ar h r h1 ⟨a0, y, hy, e1, e2, e3, e4⟩ => by
  subst e3 e4; exact (impl_IsRopeway.spec a0 y hy).le e1 e2
attribute [local irreducible] impl_IsRopeway

noncomputable def impl_NewRopeway (a0 : Int) (a1 : Int) : Option ((Ropeway) ⊕ (Ropeway)) :=
  ((impl_within a0 (4 : Int) (10 : Int)).bind fun y1 => (cond (!y1) ((some (Sum.inl ((0 : Int), [], (0 : Int), (0 : Int), (0 : Int), ())))) (grd (0 ≤ a0 ∧ a0 ≤ a0 ∧ (24 : Int) * a0 ≤ 140737488355328 ∧ a0 ≤ 140737488355328) ((impl_IsRopeway ((0 : Int), (List.replicate a0.toNat ((0 : Int), false, (0 : Int), ())), a1, (0 : Int), (0 : Int), ())).bind fun y2 => (cond (!y2) ((some (Sum.inl ((0 : Int), [], (0 : Int), (0 : Int), (0 : Int), ())))) ((some (Sum.inr ((0 : Int), (List.replicate a0.toNat ((0 : Int), false, (0 : Int), ())), a1, (0 : Int), (0 : Int), ())))))))))
def impl_NewRopeway.res (_ : Int) (_ : Int) (y : (Ropeway) ⊕ (Ropeway)) : AV := match y with
  | (.inl y) => (.tup [(.agg [(.v (.int .i64 y.1)), (.v (.slice none 0 0)), (.v (.int .i64 y.2.2.1)), (.v (.int .i64 y.2.2.2.1)), (.v (.int .i64 y.2.2.2.2.1))]), (.v (.bool false))])
  | (.inr y) => (.tup [(.agg [(.v (.int .i64 y.1)), (.own 0), (.v (.int .i64 y.2.2.1)), (.v (.int .i64 y.2.2.2.1)), (.v (.int .i64 y.2.2.2.2.1))]), (.v (.bool true))])
def impl_NewRopeway.out (_ : Int) (_ : Int) (y : (Ropeway) ⊕ (Ropeway)) : List (Option LB) := match y with
  | (.inl y) => []
  | (.inr y) => [some (.arr 83 ty_Slot y.2.1)]
def impl_NewRopeway.S (ar : List AV) (h : List (Option LB)) (r : AV) (h1 : List (Option LB)) : Prop := ∃ a0 a1 y, impl_NewRopeway a0 a1 = some y ∧ leL ar [(.v (.int .i64 a0)), (.v (.int .i64 a1))] ∧ leH h [] ∧ r = impl_NewRopeway.res a0 a1 y ∧ h1 = impl_NewRopeway.out a0 a1 y
theorem impl_NewRopeway.call {ar : List AV} {h : List (Option LB)} {a0 : Int} {a1 : Int} {y : (Ropeway) ⊕ (Ropeway)} (H : impl_NewRopeway a0 a1 = some y) (h0 : leLk ar [(.v (.int .i64 a0)), (.v (.int .i64 a1))] (leHk h [])) : impl_NewRopeway.S ar h (impl_NewRopeway.res a0 a1 y) (impl_NewRopeway.out a0 a1 y) := ⟨a0, a1, y, H, (args_ok h0).1, (args_ok h0).2, rfl, rfl⟩
set_option maxHeartbeats 100000000 in
set_option maxRecDepth 100000 in
theorem impl_NewRopeway.spec (a0 : Int) (a1 : Int) (y : (Ropeway) ⊕ (Ropeway)) (H : impl_NewRopeway a0 a1 = some y) : Spec Try.prog 35 [(.v (.int .i64 a0)), (.v (.int .i64 a1))] [] (impl_NewRopeway.res a0 a1 y) (impl_NewRopeway.out a0 a1 y) := by
  have hlen : Nat.ble ([] : List (Option LB)).length (impl_NewRopeway.out a0 a1 y).length = true := by
    rcases y with y | y <;> rfl
  refine spec_intro (G33_ok.at tok []) (ct := [(5, some [4, 6, 17])]) Try.func35 rfl (by kernel_rfl) (by kernel_rfl) hlen ?_
  repeat' first
    | ((with_reducible refine eqg ?_); exact rfl)
    | ((with_reducible refine KOb.mk ?_); kernel_rfl)
    | ((with_reducible intro h); (repeat (first | replace H := grd_k H | replace H := out_step H (by assumption))); first | replace H := cond_t h H | replace H := cond_f h H | exact absurd h (by decide) | skip)
    | ((with_reducible refine Ob.mk ?_); first | (with_reducible rfl) | (first | ((repeat (first | (with_reducible exact grd_p H) | (replace H := grd_k H) | (replace H := out_step H (by assumption)))); done) | rfl | ((repeat (first | exact grd_p H | replace H := grd_k H | replace H := out_step H (by assumption))); done) | ((repeat (first | exact grd_p H | (have hp := grd_p H; exact hp) | replace H := grd_k H | replace H := out_step H (by assumption) | (replace H := bind_some H; obtain ⟨_, _, H⟩ := H))); done) | (repeat (first | exact grd_p H | replace H := grd_k H | replace H := out_step H (by assumption)))))
    | (with_reducible exact True.intro)
    | constructor
    | ((conv => whnf); first
        | ((with_reducible refine Ob.mk ?_); first | (with_reducible rfl) | (first | ((repeat (first | (with_reducible exact grd_p H) | (replace H := grd_k H) | (replace H := out_step H (by assumption)))); done) | rfl | ((repeat (first | exact grd_p H | replace H := grd_k H | replace H := out_step H (by assumption))); done) | ((repeat (first | exact grd_p H | (have hp := grd_p H; exact hp) | replace H := grd_k H | replace H := out_step H (by assumption) | (replace H := bind_some H; obtain ⟨_, _, H⟩ := H))); done) | (repeat (first | exact grd_p H | replace H := grd_k H | replace H := out_step H (by assumption)))))
        | ((with_reducible refine CallW.mk ?_); (repeat (first | replace H := grd_k H | replace H := out_step H (by assumption))); replace H := bind_some H; obtain ⟨y, hy, H⟩ := H; first | ((with_reducible have hz : impl_within _ _ _ = some y := hy); clear hz; refine Exists.intro _ (Exists.intro _ ⟨impl_within.call hy ?_, rfl, rfl, ?_⟩)) | ((with_reducible have hz : impl_IsRopeway _ = some y := hy); clear hz; refine Exists.intro _ (Exists.intro _ ⟨impl_IsRopeway.call hy ?_, rfl, rfl, ?_⟩)))
        | ((with_reducible refine fin_mk ?_); (repeat (first | replace H := grd_k H | replace H := out_step H (by assumption))); have H := Option.some.inj H; subst H))
def G34 : Env := G33.add 35 [] impl_NewRopeway.S
theorem G34_ok : EnvOk Try.prog G34 := G33_ok.add ent_35 fun ar h r h1 ⟨a0, a1, y, hy, e1, e2, e3, e4⟩ => by
  subst e3 e4; exact (impl_NewRopeway.spec a0 a1 y hy).le e1 e2
attribute [local irreducible] impl_NewRopeway

noncomputable def impl_NewConsole (a0 : Int) (a1 : Int) : Option ((Console) ⊕ (Console)) :=
  ((impl_NewRopeway a0 a1).bind (Sum.elim (fun y2 => (some (Sum.inl ((y2.1, [], y2.2.2.1, y2.2.2.2.1, y2.2.2.2.2.1, ()), ((ByteArray.mk #[]), (ByteArray.mk #[]), (0 : Int), ()), ())))) (fun y3 => (some (Sum.inr ((y3.1, y3.2.1, y3.2.2.1, y3.2.2.2.1, y3.2.2.2.2.1, ()), ((ByteArray.mk #[]), (ByteArray.mk #[]), (0 : Int), ()), ()))))))
def impl_NewConsole.res (_ : Int) (_ : Int) (y : (Console) ⊕ (Console)) : AV := match y with
  | (.inl y) => (.tup [(.agg [(.v (.int .i64 y.1.1)), (.v (.slice none 0 0)), (.v (.int .i64 y.1.2.2.1)), (.v (.int .i64 y.1.2.2.2.1)), (.v (.int .i64 y.1.2.2.2.2.1)), (.v (.string y.2.1.1)), (.v (.string y.2.1.2.1)), (.v (.int .i64 y.2.1.2.2.1))]), (.v (.bool false))])
  | (.inr y) => (.tup [(.agg [(.v (.int .i64 y.1.1)), (.own 0), (.v (.int .i64 y.1.2.2.1)), (.v (.int .i64 y.1.2.2.2.1)), (.v (.int .i64 y.1.2.2.2.2.1)), (.v (.string y.2.1.1)), (.v (.string y.2.1.2.1)), (.v (.int .i64 y.2.1.2.2.1))]), (.v (.bool true))])
def impl_NewConsole.out (_ : Int) (_ : Int) (y : (Console) ⊕ (Console)) : List (Option LB) := match y with
  | (.inl y) => []
  | (.inr y) => [some (.arr 83 ty_Slot y.1.2.1)]
def impl_NewConsole.S (ar : List AV) (h : List (Option LB)) (r : AV) (h1 : List (Option LB)) : Prop := ∃ a0 a1 y, impl_NewConsole a0 a1 = some y ∧ leL ar [(.v (.int .i64 a0)), (.v (.int .i64 a1))] ∧ leH h [] ∧ r = impl_NewConsole.res a0 a1 y ∧ h1 = impl_NewConsole.out a0 a1 y
theorem impl_NewConsole.call {ar : List AV} {h : List (Option LB)} {a0 : Int} {a1 : Int} {y : (Console) ⊕ (Console)} (H : impl_NewConsole a0 a1 = some y) (h0 : leLk ar [(.v (.int .i64 a0)), (.v (.int .i64 a1))] (leHk h [])) : impl_NewConsole.S ar h (impl_NewConsole.res a0 a1 y) (impl_NewConsole.out a0 a1 y) := ⟨a0, a1, y, H, (args_ok h0).1, (args_ok h0).2, rfl, rfl⟩
set_option maxHeartbeats 100000000 in
set_option maxRecDepth 100000 in
theorem impl_NewConsole.spec (a0 : Int) (a1 : Int) (y : (Console) ⊕ (Console)) (H : impl_NewConsole a0 a1 = some y) : Spec Try.prog 17 [(.v (.int .i64 a0)), (.v (.int .i64 a1))] [] (impl_NewConsole.res a0 a1 y) (impl_NewConsole.out a0 a1 y) := by
  have hlen : Nat.ble ([] : List (Option LB)).length (impl_NewConsole.out a0 a1 y).length = true := by
    rcases y with y | y <;> rfl
  refine spec_intro (G34_ok.at tok []) (ct := []) Try.func17 rfl (by kernel_rfl) (by kernel_rfl) hlen ?_
  repeat' first
    | ((with_reducible refine eqg ?_); exact rfl)
    | ((with_reducible refine KOb.mk ?_); kernel_rfl)
    | ((with_reducible intro h); (repeat (first | replace H := grd_k H | replace H := out_step H (by assumption))); first | replace H := cond_t h H | replace H := cond_f h H | exact absurd h (by decide) | skip)
    | ((with_reducible refine Ob.mk ?_); first | (with_reducible rfl) | (first | ((repeat (first | (with_reducible exact grd_p H) | (replace H := grd_k H) | (replace H := out_step H (by assumption)))); done) | rfl | ((repeat (first | exact grd_p H | replace H := grd_k H | replace H := out_step H (by assumption))); done) | ((repeat (first | exact grd_p H | (have hp := grd_p H; exact hp) | replace H := grd_k H | replace H := out_step H (by assumption) | (replace H := bind_some H; obtain ⟨_, _, H⟩ := H))); done) | (repeat (first | exact grd_p H | replace H := grd_k H | replace H := out_step H (by assumption)))))
    | (with_reducible exact True.intro)
    | constructor
    | ((conv => whnf); first
        | ((with_reducible refine Ob.mk ?_); first | (with_reducible rfl) | (first | ((repeat (first | (with_reducible exact grd_p H) | (replace H := grd_k H) | (replace H := out_step H (by assumption)))); done) | rfl | ((repeat (first | exact grd_p H | replace H := grd_k H | replace H := out_step H (by assumption))); done) | ((repeat (first | exact grd_p H | (have hp := grd_p H; exact hp) | replace H := grd_k H | replace H := out_step H (by assumption) | (replace H := bind_some H; obtain ⟨_, _, H⟩ := H))); done) | (repeat (first | exact grd_p H | replace H := grd_k H | replace H := out_step H (by assumption)))))
        | ((with_reducible refine CallW.mk ?_); (repeat (first | replace H := grd_k H | replace H := out_step H (by assumption))); replace H := bind_some H; obtain ⟨y, hy, H⟩ := H; first | ((with_reducible have hz : impl_NewRopeway _ _ = some y := hy); clear hz; rcases y with y | y <;> refine Exists.intro _ (Exists.intro _ ⟨impl_NewRopeway.call hy ?_, rfl, rfl, ?_⟩)))
        | ((with_reducible refine fin_mk ?_); (repeat (first | replace H := grd_k H | replace H := out_step H (by assumption))); have H := Option.some.inj H; subst H))
def G35 : Env := G34.add 17 [] impl_NewConsole.S
theorem G35_ok : EnvOk Try.prog G35 := G34_ok.add ent_17 fun ar h r h1 ⟨a0, a1, y, hy, e1, e2, e3, e4⟩ => by
  subst e3 e4; exact (impl_NewConsole.spec a0 a1 y hy).le e1 e2
attribute [local irreducible] impl_NewConsole

noncomputable def laws_eqSlot (a0 : Slot) (a1 : Slot) : Option (Bool) :=
  (cond (!decide (a0.1 = a1.1)) ((some false)) (cond (!(a0.2.1 == a1.2.1)) ((some false)) (cond (!decide (a0.2.2.1 = a1.2.2.1)) ((some false)) ((some true)))))
def laws_eqSlot.res (_ : Slot) (_ : Slot) (y : Bool) : AV := (.bl y)
def laws_eqSlot.out (_ : Slot) (_ : Slot) (_ : Bool) : List (Option LB) := []
def laws_eqSlot.S (ar : List AV) (h : List (Option LB)) (r : AV) (h1 : List (Option LB)) : Prop := ∃ a0 a1 y, laws_eqSlot a0 a1 = some y ∧ leL ar [(.agg [(.v (.int .i64 a0.1)), (.bl a0.2.1), (.v (.int .i64 a0.2.2.1))]), (.agg [(.v (.int .i64 a1.1)), (.bl a1.2.1), (.v (.int .i64 a1.2.2.1))])] ∧ leH h [] ∧ r = laws_eqSlot.res a0 a1 y ∧ h1 = laws_eqSlot.out a0 a1 y
theorem laws_eqSlot.call {ar : List AV} {h : List (Option LB)} {a0 : Slot} {a1 : Slot} {y : Bool} (H : laws_eqSlot a0 a1 = some y) (h0 : leLk ar [(.agg [(.v (.int .i64 a0.1)), (.bl a0.2.1), (.v (.int .i64 a0.2.2.1))]), (.agg [(.v (.int .i64 a1.1)), (.bl a1.2.1), (.v (.int .i64 a1.2.2.1))])] (leHk h [])) : laws_eqSlot.S ar h (laws_eqSlot.res a0 a1 y) (laws_eqSlot.out a0 a1 y) := ⟨a0, a1, y, H, (args_ok h0).1, (args_ok h0).2, rfl, rfl⟩
set_option maxHeartbeats 100000000 in
set_option maxRecDepth 100000 in
theorem laws_eqSlot.spec (a0 : Slot) (a1 : Slot) (y : Bool) (H : laws_eqSlot a0 a1 = some y) : Spec Try.prog 65 [(.agg [(.v (.int .i64 a0.1)), (.bl a0.2.1), (.v (.int .i64 a0.2.2.1))]), (.agg [(.v (.int .i64 a1.1)), (.bl a1.2.1), (.v (.int .i64 a1.2.2.1))])] [] (laws_eqSlot.res a0 a1 y) (laws_eqSlot.out a0 a1 y) := by
  refine spec_intro (G35_ok.at tok []) (ct := [(4, some [2, 3, 14])]) Try.func65 rfl (by kernel_rfl) (by kernel_rfl) rfl ?_
  repeat' first
    | ((with_reducible refine eqg ?_); exact rfl)
    | ((with_reducible refine KOb.mk ?_); kernel_rfl)
    | ((with_reducible intro h); (repeat (first | replace H := grd_k H | replace H := out_step H (by assumption))); first | replace H := cond_t h H | replace H := cond_f h H | exact absurd h (by decide) | skip)
    | ((with_reducible refine Ob.mk ?_); first | (with_reducible rfl) | (first | ((repeat (first | (with_reducible exact grd_p H) | (replace H := grd_k H) | (replace H := out_step H (by assumption)))); done) | rfl | ((repeat (first | exact grd_p H | replace H := grd_k H | replace H := out_step H (by assumption))); done) | ((repeat (first | exact grd_p H | (have hp := grd_p H; exact hp) | replace H := grd_k H | replace H := out_step H (by assumption) | (replace H := bind_some H; obtain ⟨_, _, H⟩ := H))); done) | (repeat (first | exact grd_p H | replace H := grd_k H | replace H := out_step H (by assumption)))))
    | (with_reducible exact True.intro)
    | constructor
    | ((conv => whnf); first
        | ((with_reducible refine Ob.mk ?_); first | (with_reducible rfl) | (first | ((repeat (first | (with_reducible exact grd_p H) | (replace H := grd_k H) | (replace H := out_step H (by assumption)))); done) | rfl | ((repeat (first | exact grd_p H | replace H := grd_k H | replace H := out_step H (by assumption))); done) | ((repeat (first | exact grd_p H | (have hp := grd_p H; exact hp) | replace H := grd_k H | replace H := out_step H (by assumption) | (replace H := bind_some H; obtain ⟨_, _, H⟩ := H))); done) | (repeat (first | exact grd_p H | replace H := grd_k H | replace H := out_step H (by assumption)))))
        | ((with_reducible refine fin_mk ?_); (repeat (first | replace H := grd_k H | replace H := out_step H (by assumption))); have H := Option.some.inj H; subst H))
def G36 : Env := G35.add 65 [] laws_eqSlot.S
theorem G36_ok : EnvOk Try.prog G36 := G35_ok.add ent_65 fun ar h r h1 ⟨a0, a1, y, hy, e1, e2, e3, e4⟩ => by
  subst e3 e4; exact (laws_eqSlot.spec a0 a1 y hy).le e1 e2
attribute [local irreducible] laws_eqSlot

noncomputable def laws_eqSlotS_loop1 (a0 : (List Slot)) (a1 : (List Slot)) (v4 : Int) : Option (Lp (Int) ((Unit) ⊕ (Unit))) :=
  (cond (decide (v4 < (a0.length : Int))) (grd (0 ≤ v4 ∧ v4 < (a0.length : Int)) (grd (0 ≤ v4 ∧ v4 < (a1.length : Int)) ((laws_eqSlot ((a0.getD v4.toNat d_Slot).1, (a0.getD v4.toNat d_Slot).2.1, (a0.getD v4.toNat d_Slot).2.2.1, ()) ((a1.getD v4.toNat d_Slot).1, (a1.getD v4.toNat d_Slot).2.1, (a1.getD v4.toNat d_Slot).2.2.1, ())).bind fun y5 => (cond (!y5) ((some (.out (Sum.inl ())))) (some (.go (w64 (v4 + (1 : Int))))))))) ((some (.out (Sum.inr ())))))
noncomputable def laws_eqSlotS (a0 : (List Slot)) (a1 : (List Slot)) : Option (Bool) :=
  (cond (!decide ((a0.length : Int) = (a1.length : Int))) ((some false)) ((iter (fun s => laws_eqSlotS_loop1 a0 a1 s) (0 : Int)).bind (Sum.elim (fun _ => (some false)) (fun _ => (some true)))))
def laws_eqSlotS.res (_ : (List Slot)) (_ : (List Slot)) (y : Bool) : AV := (.bl y)
def laws_eqSlotS.out (_ : (List Slot)) (_ : (List Slot)) (_ : Bool) : List (Option LB) := []
def laws_eqSlotS.S (ar : List AV) (h : List (Option LB)) (r : AV) (h1 : List (Option LB)) : Prop := ∃ a0 a1 y, laws_eqSlotS a0 a1 = some y ∧ leL ar [(.tree ty_Slot a0), (.tree ty_Slot a1)] ∧ leH h [] ∧ r = laws_eqSlotS.res a0 a1 y ∧ h1 = laws_eqSlotS.out a0 a1 y
theorem laws_eqSlotS.call {ar : List AV} {h : List (Option LB)} {a0 : (List Slot)} {a1 : (List Slot)} {y : Bool} (H : laws_eqSlotS a0 a1 = some y) (h0 : leLk ar [(.tree ty_Slot a0), (.tree ty_Slot a1)] (leHk h [])) : laws_eqSlotS.S ar h (laws_eqSlotS.res a0 a1 y) (laws_eqSlotS.out a0 a1 y) := ⟨a0, a1, y, H, (args_ok h0).1, (args_ok h0).2, rfl, rfl⟩
set_option maxHeartbeats 100000000 in
set_option maxRecDepth 100000 in
theorem laws_eqSlotS.spec (a0 : (List Slot)) (a1 : (List Slot)) (y : Bool) (H : laws_eqSlotS a0 a1 = some y) : Spec Try.prog 52 [(.tree ty_Slot a0), (.tree ty_Slot a1)] [] (laws_eqSlotS.res a0 a1 y) (laws_eqSlotS.out a0 a1 y) := by
  refine spec_intro (G36_ok.at tok []) (ct := [(7, some [0, 1, 5, 26])]) Try.func52 rfl (by kernel_rfl) (by kernel_rfl) rfl ?_
  repeat' first
    | ((with_reducible refine eqg ?_); exact rfl)
    | ((with_reducible refine KOb.mk ?_); kernel_rfl)
    | ((with_reducible intro h); (repeat (first | replace H := grd_k H | replace H := out_step H (by assumption))); first | replace H := cond_t h H | replace H := cond_f h H | exact absurd h (by decide) | skip)
    | ((with_reducible refine Ob.mk ?_); first | (with_reducible rfl) | (first | ((repeat (first | (with_reducible exact grd_p H) | (replace H := grd_k H) | (replace H := out_step H (by assumption)))); done) | rfl | ((repeat (first | exact grd_p H | replace H := grd_k H | replace H := out_step H (by assumption))); done) | ((repeat (first | exact grd_p H | (have hp := grd_p H; exact hp) | replace H := grd_k H | replace H := out_step H (by assumption) | (replace H := bind_some H; obtain ⟨_, _, H⟩ := H))); done) | (repeat (first | exact grd_p H | replace H := grd_k H | replace H := out_step H (by assumption)))))
    | (with_reducible exact True.intro)
    | constructor
    | ((conv => whnf); first
        | ((with_reducible refine Ob.mk ?_); first | (with_reducible rfl) | (first | ((repeat (first | (with_reducible exact grd_p H) | (replace H := grd_k H) | (replace H := out_step H (by assumption)))); done) | rfl | ((repeat (first | exact grd_p H | replace H := grd_k H | replace H := out_step H (by assumption))); done) | ((repeat (first | exact grd_p H | (have hp := grd_p H; exact hp) | replace H := grd_k H | replace H := out_step H (by assumption) | (replace H := bind_some H; obtain ⟨_, _, H⟩ := H))); done) | (repeat (first | exact grd_p H | replace H := grd_k H | replace H := out_step H (by assumption)))))
        | ((with_reducible refine CallW.mk ?_); (repeat (first | replace H := grd_k H | replace H := out_step H (by assumption))); replace H := bind_some H; obtain ⟨y, hy, H⟩ := H; first | ((with_reducible have hz : laws_eqSlot _ _ = some y := hy); clear hz; refine Exists.intro _ (Exists.intro _ ⟨laws_eqSlot.call hy ?_, rfl, rfl, ?_⟩)))
        | ((repeat (first | replace H := grd_k H | replace H := out_step H (by assumption))); refine loop_iter (G36_ok.at tok []) (ct := [(7, some [0, 1, 5, 26])]) (F := (fun s1 : Int => ⟨sl [(0, (.tree ty_Slot a0)), (1, (.tree ty_Slot a1)), (5, (.v (.int .i64 s1)))], []⟩)) (step := (fun s : Int => laws_eqSlotS_loop1 _ _ s)) _ H (by kernel_rfl) (sub_auto ?_) ?_; rotate_left; (intro s1 r v hr H); rotate_right)
        | ((repeat (first | replace H := grd_k H | replace H := out_step H (by assumption))); refine again_step H (by assumption) (sub_auto ?_))
        | ((with_reducible refine fin_mk ?_); (repeat (first | replace H := grd_k H | replace H := out_step H (by assumption))); have H := Option.some.inj H; subst H))
def G37 : Env := G36.add 52 [] laws_eqSlotS.S
theorem G37_ok : EnvOk Try.prog G37 := G36_ok.add ent_52 fun ar h r h1 ⟨a0, a1, y, hy, e1, e2, e3, e4⟩ => by
  subst e3 e4; exact (laws_eqSlotS.spec a0 a1 y hy).le e1 e2
attribute [local irreducible] laws_eqSlotS

noncomputable def laws_eqRopeway (a0 : Ropeway) (a1 : Ropeway) : Option (Bool) :=
  (cond (!decide (a0.1 = a1.1)) ((some false)) ((laws_eqSlotS a0.2.1 a1.2.1).bind fun y1 => (cond (!y1) ((some false)) (cond (!decide (a0.2.2.1 = a1.2.2.1)) ((some false)) (cond (!decide (a0.2.2.2.1 = a1.2.2.2.1)) ((some false)) (cond (!decide (a0.2.2.2.2.1 = a1.2.2.2.2.1)) ((some false)) ((some true))))))))
def laws_eqRopeway.res (_ : Ropeway) (_ : Ropeway) (y : Bool) : AV := (.bl y)
def laws_eqRopeway.out (_ : Ropeway) (_ : Ropeway) (_ : Bool) : List (Option LB) := []
def laws_eqRopeway.S (ar : List AV) (h : List (Option LB)) (r : AV) (h1 : List (Option LB)) : Prop := ∃ a0 a1 y, laws_eqRopeway a0 a1 = some y ∧ leL ar [(.agg [(.v (.int .i64 a0.1)), (.tree ty_Slot a0.2.1), (.v (.int .i64 a0.2.2.1)), (.v (.int .i64 a0.2.2.2.1)), (.v (.int .i64 a0.2.2.2.2.1))]), (.agg [(.v (.int .i64 a1.1)), (.tree ty_Slot a1.2.1), (.v (.int .i64 a1.2.2.1)), (.v (.int .i64 a1.2.2.2.1)), (.v (.int .i64 a1.2.2.2.2.1))])] ∧ leH h [] ∧ r = laws_eqRopeway.res a0 a1 y ∧ h1 = laws_eqRopeway.out a0 a1 y
theorem laws_eqRopeway.call {ar : List AV} {h : List (Option LB)} {a0 : Ropeway} {a1 : Ropeway} {y : Bool} (H : laws_eqRopeway a0 a1 = some y) (h0 : leLk ar [(.agg [(.v (.int .i64 a0.1)), (.tree ty_Slot a0.2.1), (.v (.int .i64 a0.2.2.1)), (.v (.int .i64 a0.2.2.2.1)), (.v (.int .i64 a0.2.2.2.2.1))]), (.agg [(.v (.int .i64 a1.1)), (.tree ty_Slot a1.2.1), (.v (.int .i64 a1.2.2.1)), (.v (.int .i64 a1.2.2.2.1)), (.v (.int .i64 a1.2.2.2.2.1))])] (leHk h [])) : laws_eqRopeway.S ar h (laws_eqRopeway.res a0 a1 y) (laws_eqRopeway.out a0 a1 y) := ⟨a0, a1, y, H, (args_ok h0).1, (args_ok h0).2, rfl, rfl⟩
set_option maxHeartbeats 100000000 in
set_option maxRecDepth 100000 in
theorem laws_eqRopeway.spec (a0 : Ropeway) (a1 : Ropeway) (y : Bool) (H : laws_eqRopeway a0 a1 = some y) : Spec Try.prog 36 [(.agg [(.v (.int .i64 a0.1)), (.tree ty_Slot a0.2.1), (.v (.int .i64 a0.2.2.1)), (.v (.int .i64 a0.2.2.2.1)), (.v (.int .i64 a0.2.2.2.2.1))]), (.agg [(.v (.int .i64 a1.1)), (.tree ty_Slot a1.2.1), (.v (.int .i64 a1.2.2.1)), (.v (.int .i64 a1.2.2.2.1)), (.v (.int .i64 a1.2.2.2.2.1))])] [] (laws_eqRopeway.res a0 a1 y) (laws_eqRopeway.out a0 a1 y) := by
  refine spec_intro (G37_ok.at tok []) (ct := [(4, some [2, 3, 15]), (10, some [30])]) Try.func36 rfl (by kernel_rfl) (by kernel_rfl) rfl ?_
  repeat' first
    | ((with_reducible refine eqg ?_); exact rfl)
    | ((with_reducible refine KOb.mk ?_); kernel_rfl)
    | ((with_reducible intro h); (repeat (first | replace H := grd_k H | replace H := out_step H (by assumption))); first | replace H := cond_t h H | replace H := cond_f h H | exact absurd h (by decide) | skip)
    | ((with_reducible refine Ob.mk ?_); first | (with_reducible rfl) | (first | ((repeat (first | (with_reducible exact grd_p H) | (replace H := grd_k H) | (replace H := out_step H (by assumption)))); done) | rfl | ((repeat (first | exact grd_p H | replace H := grd_k H | replace H := out_step H (by assumption))); done) | ((repeat (first | exact grd_p H | (have hp := grd_p H; exact hp) | replace H := grd_k H | replace H := out_step H (by assumption) | (replace H := bind_some H; obtain ⟨_, _, H⟩ := H))); done) | (repeat (first | exact grd_p H | replace H := grd_k H | replace H := out_step H (by assumption)))))
    | (with_reducible exact True.intro)
    | constructor
    | ((conv => whnf); first
        | ((with_reducible refine Ob.mk ?_); first | (with_reducible rfl) | (first | ((repeat (first | (with_reducible exact grd_p H) | (replace H := grd_k H) | (replace H := out_step H (by assumption)))); done) | rfl | ((repeat (first | exact grd_p H | replace H := grd_k H | replace H := out_step H (by assumption))); done) | ((repeat (first | exact grd_p H | (have hp := grd_p H; exact hp) | replace H := grd_k H | replace H := out_step H (by assumption) | (replace H := bind_some H; obtain ⟨_, _, H⟩ := H))); done) | (repeat (first | exact grd_p H | replace H := grd_k H | replace H := out_step H (by assumption)))))
        | ((with_reducible refine CallW.mk ?_); (repeat (first | replace H := grd_k H | replace H := out_step H (by assumption))); replace H := bind_some H; obtain ⟨y, hy, H⟩ := H; first | ((with_reducible have hz : laws_eqSlotS _ _ = some y := hy); clear hz; refine Exists.intro _ (Exists.intro _ ⟨laws_eqSlotS.call hy ?_, rfl, rfl, ?_⟩)))
        | ((with_reducible refine fin_mk ?_); (repeat (first | replace H := grd_k H | replace H := out_step H (by assumption))); have H := Option.some.inj H; subst H))
def G38 : Env := G37.add 36 [] laws_eqRopeway.S
theorem G38_ok : EnvOk Try.prog G38 := G37_ok.add ent_36 fun ar h r h1 ⟨a0, a1, y, hy, e1, e2, e3, e4⟩ => by
  subst e3 e4; exact (laws_eqRopeway.spec a0 a1 y hy).le e1 e2
attribute [local irreducible] laws_eqRopeway

noncomputable def laws_eqLog (a0 : Log) (a1 : Log) : Option (Bool) :=
  (cond (!decide (a0.1 = a1.1)) ((some false)) (cond (!decide (a0.2.1 = a1.2.1)) ((some false)) (cond (!decide (a0.2.2.1 = a1.2.2.1)) ((some false)) ((some true)))))
def laws_eqLog.res (_ : Log) (_ : Log) (y : Bool) : AV := (.bl y)
def laws_eqLog.out (_ : Log) (_ : Log) (_ : Bool) : List (Option LB) := []
def laws_eqLog.S (ar : List AV) (h : List (Option LB)) (r : AV) (h1 : List (Option LB)) : Prop := ∃ a0 a1 y, laws_eqLog a0 a1 = some y ∧ leL ar [(.agg [(.v (.string a0.1)), (.v (.string a0.2.1)), (.v (.int .i64 a0.2.2.1))]), (.agg [(.v (.string a1.1)), (.v (.string a1.2.1)), (.v (.int .i64 a1.2.2.1))])] ∧ leH h [] ∧ r = laws_eqLog.res a0 a1 y ∧ h1 = laws_eqLog.out a0 a1 y
theorem laws_eqLog.call {ar : List AV} {h : List (Option LB)} {a0 : Log} {a1 : Log} {y : Bool} (H : laws_eqLog a0 a1 = some y) (h0 : leLk ar [(.agg [(.v (.string a0.1)), (.v (.string a0.2.1)), (.v (.int .i64 a0.2.2.1))]), (.agg [(.v (.string a1.1)), (.v (.string a1.2.1)), (.v (.int .i64 a1.2.2.1))])] (leHk h [])) : laws_eqLog.S ar h (laws_eqLog.res a0 a1 y) (laws_eqLog.out a0 a1 y) := ⟨a0, a1, y, H, (args_ok h0).1, (args_ok h0).2, rfl, rfl⟩
set_option maxHeartbeats 100000000 in
set_option maxRecDepth 100000 in
theorem laws_eqLog.spec (a0 : Log) (a1 : Log) (y : Bool) (H : laws_eqLog a0 a1 = some y) : Spec Try.prog 37 [(.agg [(.v (.string a0.1)), (.v (.string a0.2.1)), (.v (.int .i64 a0.2.2.1))]), (.agg [(.v (.string a1.1)), (.v (.string a1.2.1)), (.v (.int .i64 a1.2.2.1))])] [] (laws_eqLog.res a0 a1 y) (laws_eqLog.out a0 a1 y) := by
  refine spec_intro (G38_ok.at tok []) (ct := [(4, some [2, 3, 14])]) Try.func37 rfl (by kernel_rfl) (by kernel_rfl) rfl ?_
  repeat' first
    | ((with_reducible refine eqg ?_); exact rfl)
    | ((with_reducible refine KOb.mk ?_); kernel_rfl)
    | ((with_reducible intro h); (repeat (first | replace H := grd_k H | replace H := out_step H (by assumption))); first | replace H := cond_t h H | replace H := cond_f h H | exact absurd h (by decide) | skip)
    | ((with_reducible refine Ob.mk ?_); first | (with_reducible rfl) | (first | ((repeat (first | (with_reducible exact grd_p H) | (replace H := grd_k H) | (replace H := out_step H (by assumption)))); done) | rfl | ((repeat (first | exact grd_p H | replace H := grd_k H | replace H := out_step H (by assumption))); done) | ((repeat (first | exact grd_p H | (have hp := grd_p H; exact hp) | replace H := grd_k H | replace H := out_step H (by assumption) | (replace H := bind_some H; obtain ⟨_, _, H⟩ := H))); done) | (repeat (first | exact grd_p H | replace H := grd_k H | replace H := out_step H (by assumption)))))
    | (with_reducible exact True.intro)
    | constructor
    | ((conv => whnf); first
        | ((with_reducible refine Ob.mk ?_); first | (with_reducible rfl) | (first | ((repeat (first | (with_reducible exact grd_p H) | (replace H := grd_k H) | (replace H := out_step H (by assumption)))); done) | rfl | ((repeat (first | exact grd_p H | replace H := grd_k H | replace H := out_step H (by assumption))); done) | ((repeat (first | exact grd_p H | (have hp := grd_p H; exact hp) | replace H := grd_k H | replace H := out_step H (by assumption) | (replace H := bind_some H; obtain ⟨_, _, H⟩ := H))); done) | (repeat (first | exact grd_p H | replace H := grd_k H | replace H := out_step H (by assumption)))))
        | ((with_reducible refine fin_mk ?_); (repeat (first | replace H := grd_k H | replace H := out_step H (by assumption))); have H := Option.some.inj H; subst H))
def G39 : Env := G38.add 37 [] laws_eqLog.S
theorem G39_ok : EnvOk Try.prog G39 := G38_ok.add ent_37 fun ar h r h1 ⟨a0, a1, y, hy, e1, e2, e3, e4⟩ => by
  subst e3 e4; exact (laws_eqLog.spec a0 a1 y hy).le e1 e2
attribute [local irreducible] laws_eqLog

noncomputable def laws_eqConsole (a0 : Console) (a1 : Console) : Option (Bool) :=
  ((laws_eqRopeway (a0.1.1, a0.1.2.1, a0.1.2.2.1, a0.1.2.2.2.1, a0.1.2.2.2.2.1, ()) (a1.1.1, a1.1.2.1, a1.1.2.2.1, a1.1.2.2.2.1, a1.1.2.2.2.2.1, ())).bind fun y1 => (cond (!y1) ((some false)) ((laws_eqLog (a0.2.1.1, a0.2.1.2.1, a0.2.1.2.2.1, ()) (a1.2.1.1, a1.2.1.2.1, a1.2.1.2.2.1, ())).bind fun y2 => (cond (!y2) ((some false)) ((some true))))))
def laws_eqConsole.res (_ : Console) (_ : Console) (y : Bool) : AV := (.bl y)
def laws_eqConsole.out (_ : Console) (_ : Console) (_ : Bool) : List (Option LB) := []
def laws_eqConsole.S (ar : List AV) (h : List (Option LB)) (r : AV) (h1 : List (Option LB)) : Prop := ∃ a0 a1 y, laws_eqConsole a0 a1 = some y ∧ leL ar [(.agg [(.v (.int .i64 a0.1.1)), (.tree ty_Slot a0.1.2.1), (.v (.int .i64 a0.1.2.2.1)), (.v (.int .i64 a0.1.2.2.2.1)), (.v (.int .i64 a0.1.2.2.2.2.1)), (.v (.string a0.2.1.1)), (.v (.string a0.2.1.2.1)), (.v (.int .i64 a0.2.1.2.2.1))]), (.agg [(.v (.int .i64 a1.1.1)), (.tree ty_Slot a1.1.2.1), (.v (.int .i64 a1.1.2.2.1)), (.v (.int .i64 a1.1.2.2.2.1)), (.v (.int .i64 a1.1.2.2.2.2.1)), (.v (.string a1.2.1.1)), (.v (.string a1.2.1.2.1)), (.v (.int .i64 a1.2.1.2.2.1))])] ∧ leH h [] ∧ r = laws_eqConsole.res a0 a1 y ∧ h1 = laws_eqConsole.out a0 a1 y
theorem laws_eqConsole.call {ar : List AV} {h : List (Option LB)} {a0 : Console} {a1 : Console} {y : Bool} (H : laws_eqConsole a0 a1 = some y) (h0 : leLk ar [(.agg [(.v (.int .i64 a0.1.1)), (.tree ty_Slot a0.1.2.1), (.v (.int .i64 a0.1.2.2.1)), (.v (.int .i64 a0.1.2.2.2.1)), (.v (.int .i64 a0.1.2.2.2.2.1)), (.v (.string a0.2.1.1)), (.v (.string a0.2.1.2.1)), (.v (.int .i64 a0.2.1.2.2.1))]), (.agg [(.v (.int .i64 a1.1.1)), (.tree ty_Slot a1.1.2.1), (.v (.int .i64 a1.1.2.2.1)), (.v (.int .i64 a1.1.2.2.2.1)), (.v (.int .i64 a1.1.2.2.2.2.1)), (.v (.string a1.2.1.1)), (.v (.string a1.2.1.2.1)), (.v (.int .i64 a1.2.1.2.2.1))])] (leHk h [])) : laws_eqConsole.S ar h (laws_eqConsole.res a0 a1 y) (laws_eqConsole.out a0 a1 y) := ⟨a0, a1, y, H, (args_ok h0).1, (args_ok h0).2, rfl, rfl⟩
set_option maxHeartbeats 100000000 in
set_option maxRecDepth 100000 in
theorem laws_eqConsole.spec (a0 : Console) (a1 : Console) (y : Bool) (H : laws_eqConsole a0 a1 = some y) : Spec Try.prog 18 [(.agg [(.v (.int .i64 a0.1.1)), (.tree ty_Slot a0.1.2.1), (.v (.int .i64 a0.1.2.2.1)), (.v (.int .i64 a0.1.2.2.2.1)), (.v (.int .i64 a0.1.2.2.2.2.1)), (.v (.string a0.2.1.1)), (.v (.string a0.2.1.2.1)), (.v (.int .i64 a0.2.1.2.2.1))]), (.agg [(.v (.int .i64 a1.1.1)), (.tree ty_Slot a1.1.2.1), (.v (.int .i64 a1.1.2.2.1)), (.v (.int .i64 a1.1.2.2.2.1)), (.v (.int .i64 a1.1.2.2.2.2.1)), (.v (.string a1.2.1.1)), (.v (.string a1.2.1.2.1)), (.v (.int .i64 a1.2.1.2.2.1))])] [] (laws_eqConsole.res a0 a1 y) (laws_eqConsole.out a0 a1 y) := by
  refine spec_intro (G39_ok.at tok []) (ct := [(4, some [16])]) Try.func18 rfl (by kernel_rfl) (by kernel_rfl) rfl ?_
  repeat' first
    | ((with_reducible refine eqg ?_); exact rfl)
    | ((with_reducible refine KOb.mk ?_); kernel_rfl)
    | ((with_reducible intro h); (repeat (first | replace H := grd_k H | replace H := out_step H (by assumption))); first | replace H := cond_t h H | replace H := cond_f h H | exact absurd h (by decide) | skip)
    | ((with_reducible refine Ob.mk ?_); first | (with_reducible rfl) | (first | ((repeat (first | (with_reducible exact grd_p H) | (replace H := grd_k H) | (replace H := out_step H (by assumption)))); done) | rfl | ((repeat (first | exact grd_p H | replace H := grd_k H | replace H := out_step H (by assumption))); done) | ((repeat (first | exact grd_p H | (have hp := grd_p H; exact hp) | replace H := grd_k H | replace H := out_step H (by assumption) | (replace H := bind_some H; obtain ⟨_, _, H⟩ := H))); done) | (repeat (first | exact grd_p H | replace H := grd_k H | replace H := out_step H (by assumption)))))
    | (with_reducible exact True.intro)
    | constructor
    | ((conv => whnf); first
        | ((with_reducible refine Ob.mk ?_); first | (with_reducible rfl) | (first | ((repeat (first | (with_reducible exact grd_p H) | (replace H := grd_k H) | (replace H := out_step H (by assumption)))); done) | rfl | ((repeat (first | exact grd_p H | replace H := grd_k H | replace H := out_step H (by assumption))); done) | ((repeat (first | exact grd_p H | (have hp := grd_p H; exact hp) | replace H := grd_k H | replace H := out_step H (by assumption) | (replace H := bind_some H; obtain ⟨_, _, H⟩ := H))); done) | (repeat (first | exact grd_p H | replace H := grd_k H | replace H := out_step H (by assumption)))))
        | ((with_reducible refine CallW.mk ?_); (repeat (first | replace H := grd_k H | replace H := out_step H (by assumption))); replace H := bind_some H; obtain ⟨y, hy, H⟩ := H; first | ((with_reducible have hz : laws_eqRopeway _ _ = some y := hy); clear hz; refine Exists.intro _ (Exists.intro _ ⟨laws_eqRopeway.call hy ?_, rfl, rfl, ?_⟩)) | ((with_reducible have hz : laws_eqLog _ _ = some y := hy); clear hz; refine Exists.intro _ (Exists.intro _ ⟨laws_eqLog.call hy ?_, rfl, rfl, ?_⟩)))
        | ((with_reducible refine fin_mk ?_); (repeat (first | replace H := grd_k H | replace H := out_step H (by assumption))); have H := Option.some.inj H; subst H))
def G40 : Env := G39.add 18 [] laws_eqConsole.S
theorem G40_ok : EnvOk Try.prog G40 := G39_ok.add ent_18 fun ar h r h1 ⟨a0, a1, y, hy, e1, e2, e3, e4⟩ => by
  subst e3 e4; exact (laws_eqConsole.spec a0 a1 y hy).le e1 e2
attribute [local irreducible] laws_eqConsole

end Go.Proofs.Yteckiilljhdkpaa
