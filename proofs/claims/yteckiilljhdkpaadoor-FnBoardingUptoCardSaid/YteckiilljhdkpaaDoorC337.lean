/-
  Contracts, printed by a program.
-/
import Derived.Test.YteckiilljhdkpaaDoorC336
namespace Go.Proofs.YteckiilljhdkpaaDoor
open Go.RowKit
attribute [local irreducible] Ob loopwp Sub Spec Fin Again CallW CutC KOb iter joinx outm

attribute [local irreducible] laws_rBig spec_l1Cur_next spec_l1Cur_pick spec_l1Cur_among spec_l1Cur_one spec_l1Cur_platform spec_l1Cur_of spec_l14Most spec_l1Cur_boardEvent spec_l1Cur_boardEvents spec_l1In spec_l14Good spec_l1Least spec_l14Entering spec_l14Event spec_l14Can spec_l14Step spec_QuickestGo spec_DrawRunPlatform impl_within impl_IsPlatform impl_boardCounts slices_Index___string_string_ slices_Contains___string_string_ impl_IsBoardEvent impl_Platform_step impl_RunPlatform spec_RunPlatform impl_StepPlatform spec_DrawStepPlatform spec_StepPlatform impl_PossibleKinds spec_PossibleKinds laws_rTexts laws_rHasText spec_DrawCountEvents

noncomputable def impl_CountEvents_1 (a0 : BoardEvent) : Option (Bool) :=
  ((impl_IsBoardEvent (a0.1, a0.2.1, ())).bind fun y1 => (some (!y1)))
def impl_CountEvents_1.res (_ : BoardEvent) (y : Bool) : AV := (.bl y)
def impl_CountEvents_1.out (_ : BoardEvent) (_ : Bool) : List (Option LB) := []
def impl_CountEvents_1.S (ar : List AV) (h : List (Option LB)) (r : AV) (h1 : List (Option LB)) : Prop := ∃ a0 y, impl_CountEvents_1 a0 = some y ∧ leL ar [(.agg [(.v (.string a0.1)), (.v (.int .i64 a0.2.1))])] ∧ leH h [] ∧ r = impl_CountEvents_1.res a0 y ∧ h1 = impl_CountEvents_1.out a0 y
theorem impl_CountEvents_1.call {ar : List AV} {h : List (Option LB)} {a0 : BoardEvent} {y : Bool} (H : impl_CountEvents_1 a0 = some y) (h0 : leLk ar [(.agg [(.v (.string a0.1)), (.v (.int .i64 a0.2.1))])] (leHk h [])) : impl_CountEvents_1.S ar h (impl_CountEvents_1.res a0 y) (impl_CountEvents_1.out a0 y) := ⟨a0, y, H, (args_ok h0).1, (args_ok h0).2, rfl, rfl⟩
set_option maxHeartbeats 100000000 in
set_option maxRecDepth 100000 in
theorem impl_CountEvents_1.spec (a0 : BoardEvent) (y : Bool) (H : impl_CountEvents_1 a0 = some y) : Spec Tryd.prog 85 [(.agg [(.v (.string a0.1)), (.v (.int .i64 a0.2.1))])] [] (impl_CountEvents_1.res a0 y) (impl_CountEvents_1.out a0 y) := by
  refine spec_intro (G36_ok.at tok []) (ct := []) Tryd.func85 rfl (by kernel_rfl) (by kernel_rfl) rfl ?_
  repeat' first
    | ((with_reducible refine eqg ?_); exact rfl)
    | ((with_reducible refine KOb.mk ?_); kernel_rfl)
    | ((with_reducible intro h); (repeat (first | replace H := grd_k H | replace H := out_step H (by assumption))); first | replace H := cond_t h H | replace H := cond_f h H | exact absurd h (by decide) | skip)
    | ((with_reducible refine Ob.mk ?_); first | (with_reducible rfl) | (first | ((repeat (first | (with_reducible exact grd_p H) | (replace H := grd_k H) | (replace H := out_step H (by assumption)))); done) | rfl | ((repeat (first | exact grd_p H | replace H := grd_k H | replace H := out_step H (by assumption))); done) | ((repeat (first | exact grd_p H | (have hp := grd_p H; exact hp) | replace H := grd_k H | replace H := out_step H (by assumption) | (replace H := bind_some H; obtain ⟨_, _, H⟩ := H))); done) | (repeat (first | exact grd_p H | replace H := grd_k H | replace H := out_step H (by assumption)))))
    | (with_reducible exact True.intro)
    | constructor
    | ((conv => whnf); first
        | ((with_reducible refine Ob.mk ?_); first | (with_reducible rfl) | (first | ((repeat (first | (with_reducible exact grd_p H) | (replace H := grd_k H) | (replace H := out_step H (by assumption)))); done) | rfl | ((repeat (first | exact grd_p H | replace H := grd_k H | replace H := out_step H (by assumption))); done) | ((repeat (first | exact grd_p H | (have hp := grd_p H; exact hp) | replace H := grd_k H | replace H := out_step H (by assumption) | (replace H := bind_some H; obtain ⟨_, _, H⟩ := H))); done) | (repeat (first | exact grd_p H | replace H := grd_k H | replace H := out_step H (by assumption)))))
        | ((with_reducible refine CallW.mk ?_); (repeat (first | replace H := grd_k H | replace H := out_step H (by assumption))); replace H := bind_some H; obtain ⟨y, hy, H⟩ := H; first | ((with_reducible have hz : impl_IsBoardEvent _ = some y := hy); clear hz; refine Exists.intro _ (Exists.intro _ ⟨impl_IsBoardEvent.call hy ?_, rfl, rfl, ?_⟩)))
        | ((with_reducible refine fin_mk ?_); (repeat (first | replace H := grd_k H | replace H := out_step H (by assumption))); have H := Option.some.inj H; subst H))
def G37 : Env := G36.add 85 [] impl_CountEvents_1.S
theorem G37_ok : EnvOk Tryd.prog G37 := G36_ok.add ent_85 fun ar h r h1 ⟨a0, y, hy, e1, e2, e3, e4⟩ => by
  subst e3 e4; exact (impl_CountEvents_1.spec a0 y hy).le e1 e2
attribute [local irreducible] impl_CountEvents_1

noncomputable def slices_IndexFunc___impl_BoardEvent_impl_BoardEvent__i1_loop1 (a0 : (List BoardEvent)) (v4 : Int) : Option (Lp (Int) ((Int) ⊕ (Unit))) :=
  (cond (decide (v4 < (a0.length : Int))) (grd (0 ≤ v4 ∧ v4 < (a0.length : Int)) ((impl_CountEvents_1 ((a0.getD v4.toNat d_BoardEvent).1, (a0.getD v4.toNat d_BoardEvent).2.1, ())).bind fun y5 => (cond y5 ((some (.out (Sum.inl v4)))) (some (.go (w64 (v4 + (1 : Int)))))))) ((some (.out (Sum.inr ())))))
noncomputable def slices_IndexFunc___impl_BoardEvent_impl_BoardEvent__i1 (a0 : (List BoardEvent)) : Option (Int) :=
  ((iter (fun s => slices_IndexFunc___impl_BoardEvent_impl_BoardEvent__i1_loop1 a0 s) (0 : Int)).bind (Sum.elim (fun r7 => (some r7)) (fun _ => (some ((-1) : Int)))))
def slices_IndexFunc___impl_BoardEvent_impl_BoardEvent__i1.res (_ : (List BoardEvent)) (y : Int) : AV := (.v (.int .i64 y))
def slices_IndexFunc___impl_BoardEvent_impl_BoardEvent__i1.out (_ : (List BoardEvent)) (_ : Int) : List (Option LB) := []
def slices_IndexFunc___impl_BoardEvent_impl_BoardEvent__i1.S (ar : List AV) (h : List (Option LB)) (r : AV) (h1 : List (Option LB)) : Prop := ∃ a0 y, slices_IndexFunc___impl_BoardEvent_impl_BoardEvent__i1 a0 = some y ∧ leL ar [(.tree ty_BoardEvent a0), (.fn 85 [])] ∧ leH h [] ∧ r = slices_IndexFunc___impl_BoardEvent_impl_BoardEvent__i1.res a0 y ∧ h1 = slices_IndexFunc___impl_BoardEvent_impl_BoardEvent__i1.out a0 y
theorem slices_IndexFunc___impl_BoardEvent_impl_BoardEvent__i1.call {ar : List AV} {h : List (Option LB)} {a0 : (List BoardEvent)} {y : Int} (H : slices_IndexFunc___impl_BoardEvent_impl_BoardEvent__i1 a0 = some y) (h0 : leLk ar [(.tree ty_BoardEvent a0), (.fn 85 [])] (leHk h [])) : slices_IndexFunc___impl_BoardEvent_impl_BoardEvent__i1.S ar h (slices_IndexFunc___impl_BoardEvent_impl_BoardEvent__i1.res a0 y) (slices_IndexFunc___impl_BoardEvent_impl_BoardEvent__i1.out a0 y) := ⟨a0, y, H, (args_ok h0).1, (args_ok h0).2, rfl, rfl⟩
set_option maxHeartbeats 100000000 in
set_option maxRecDepth 100000 in
theorem slices_IndexFunc___impl_BoardEvent_impl_BoardEvent__i1.spec (a0 : (List BoardEvent)) (y : Int) (H : slices_IndexFunc___impl_BoardEvent_impl_BoardEvent__i1 a0 = some y) : Spec Tryd.prog 99 [(.tree ty_BoardEvent a0), (.fn 85 [])] [] (slices_IndexFunc___impl_BoardEvent_impl_BoardEvent__i1.res a0 y) (slices_IndexFunc___impl_BoardEvent_impl_BoardEvent__i1.out a0 y) := by
  refine spec_intro (G37_ok.at tok []) (ct := []) Tryd.func99 rfl (by kernel_rfl) (by kernel_rfl) rfl ?_
  repeat' first
    | ((with_reducible refine eqg ?_); exact rfl)
    | ((with_reducible refine KOb.mk ?_); kernel_rfl)
    | ((with_reducible intro h); (repeat (first | replace H := grd_k H | replace H := out_step H (by assumption))); first | replace H := cond_t h H | replace H := cond_f h H | exact absurd h (by decide) | skip)
    | ((with_reducible refine Ob.mk ?_); first | (with_reducible rfl) | (first | ((repeat (first | (with_reducible exact grd_p H) | (replace H := grd_k H) | (replace H := out_step H (by assumption)))); done) | rfl | ((repeat (first | exact grd_p H | replace H := grd_k H | replace H := out_step H (by assumption))); done) | ((repeat (first | exact grd_p H | (have hp := grd_p H; exact hp) | replace H := grd_k H | replace H := out_step H (by assumption) | (replace H := bind_some H; obtain ⟨_, _, H⟩ := H))); done) | (repeat (first | exact grd_p H | replace H := grd_k H | replace H := out_step H (by assumption)))))
    | (with_reducible exact True.intro)
    | constructor
    | ((conv => whnf); first
        | ((with_reducible refine Ob.mk ?_); first | (with_reducible rfl) | (first | ((repeat (first | (with_reducible exact grd_p H) | (replace H := grd_k H) | (replace H := out_step H (by assumption)))); done) | rfl | ((repeat (first | exact grd_p H | replace H := grd_k H | replace H := out_step H (by assumption))); done) | ((repeat (first | exact grd_p H | (have hp := grd_p H; exact hp) | replace H := grd_k H | replace H := out_step H (by assumption) | (replace H := bind_some H; obtain ⟨_, _, H⟩ := H))); done) | (repeat (first | exact grd_p H | replace H := grd_k H | replace H := out_step H (by assumption)))))
        | ((with_reducible refine CallW.mk ?_); (repeat (first | replace H := grd_k H | replace H := out_step H (by assumption))); replace H := bind_some H; obtain ⟨y, hy, H⟩ := H; first | ((with_reducible have hz : impl_CountEvents_1 _ = some y := hy); clear hz; refine Exists.intro _ (Exists.intro _ ⟨impl_CountEvents_1.call hy ?_, rfl, rfl, ?_⟩)))
        | ((repeat (first | replace H := grd_k H | replace H := out_step H (by assumption))); refine loop_iter (G37_ok.at tok []) (ct := []) (F := (fun s1 : Int => ⟨sl [(0, (.tree ty_BoardEvent a0)), (1, (.fn 85 [])), (7, (.v (.int .i64 (a0.length : Int)))), (8, (.v (.int .i64 s1)))], []⟩)) (step := (fun s : Int => slices_IndexFunc___impl_BoardEvent_impl_BoardEvent__i1_loop1 _ s)) _ H (by kernel_rfl) (sub_auto ?_) ?_; rotate_left; (intro s1 r v hr H); rotate_right)
        | ((repeat (first | replace H := grd_k H | replace H := out_step H (by assumption))); refine again_step H (by assumption) (sub_auto ?_))
        | ((with_reducible refine fin_mk ?_); (repeat (first | replace H := grd_k H | replace H := out_step H (by assumption))); have H := Option.some.inj H; subst H))
  all_goals exact viewz _ _
def G38 : Env := G37.add 99 [] slices_IndexFunc___impl_BoardEvent_impl_BoardEvent__i1.S
theorem G38_ok : EnvOk Tryd.prog G38 := G37_ok.add ent_99 fun ar h r h1 ⟨a0, y, hy, e1, e2, e3, e4⟩ => by
  subst e3 e4; exact (slices_IndexFunc___impl_BoardEvent_impl_BoardEvent__i1.spec a0 y hy).le e1 e2
attribute [local irreducible] slices_IndexFunc___impl_BoardEvent_impl_BoardEvent__i1

noncomputable def slices_ContainsFunc___impl_BoardEvent_impl_BoardEvent__i1 (a0 : (List BoardEvent)) : Option (Bool) :=
  ((slices_IndexFunc___impl_BoardEvent_impl_BoardEvent__i1 a0).bind fun y1 => (some (decide ((0 : Int) ≤ y1))))
def slices_ContainsFunc___impl_BoardEvent_impl_BoardEvent__i1.res (_ : (List BoardEvent)) (y : Bool) : AV := (.bl y)
def slices_ContainsFunc___impl_BoardEvent_impl_BoardEvent__i1.out (_ : (List BoardEvent)) (_ : Bool) : List (Option LB) := []
def slices_ContainsFunc___impl_BoardEvent_impl_BoardEvent__i1.S (ar : List AV) (h : List (Option LB)) (r : AV) (h1 : List (Option LB)) : Prop := ∃ a0 y, slices_ContainsFunc___impl_BoardEvent_impl_BoardEvent__i1 a0 = some y ∧ leL ar [(.tree ty_BoardEvent a0), (.fn 85 [])] ∧ leH h [] ∧ r = slices_ContainsFunc___impl_BoardEvent_impl_BoardEvent__i1.res a0 y ∧ h1 = slices_ContainsFunc___impl_BoardEvent_impl_BoardEvent__i1.out a0 y
theorem slices_ContainsFunc___impl_BoardEvent_impl_BoardEvent__i1.call {ar : List AV} {h : List (Option LB)} {a0 : (List BoardEvent)} {y : Bool} (H : slices_ContainsFunc___impl_BoardEvent_impl_BoardEvent__i1 a0 = some y) (h0 : leLk ar [(.tree ty_BoardEvent a0), (.fn 85 [])] (leHk h [])) : slices_ContainsFunc___impl_BoardEvent_impl_BoardEvent__i1.S ar h (slices_ContainsFunc___impl_BoardEvent_impl_BoardEvent__i1.res a0 y) (slices_ContainsFunc___impl_BoardEvent_impl_BoardEvent__i1.out a0 y) := ⟨a0, y, H, (args_ok h0).1, (args_ok h0).2, rfl, rfl⟩
set_option maxHeartbeats 100000000 in
set_option maxRecDepth 100000 in
theorem slices_ContainsFunc___impl_BoardEvent_impl_BoardEvent__i1.spec (a0 : (List BoardEvent)) (y : Bool) (H : slices_ContainsFunc___impl_BoardEvent_impl_BoardEvent__i1 a0 = some y) : Spec Tryd.prog 84 [(.tree ty_BoardEvent a0), (.fn 85 [])] [] (slices_ContainsFunc___impl_BoardEvent_impl_BoardEvent__i1.res a0 y) (slices_ContainsFunc___impl_BoardEvent_impl_BoardEvent__i1.out a0 y) := by
  refine spec_intro (G38_ok.at tok []) (ct := []) Tryd.func84 rfl (by kernel_rfl) (by kernel_rfl) rfl ?_
  repeat' first
    | ((with_reducible refine eqg ?_); exact rfl)
    | ((with_reducible refine KOb.mk ?_); kernel_rfl)
    | ((with_reducible intro h); (repeat (first | replace H := grd_k H | replace H := out_step H (by assumption))); first | replace H := cond_t h H | replace H := cond_f h H | exact absurd h (by decide) | skip)
    | ((with_reducible refine Ob.mk ?_); first | (with_reducible rfl) | (first | ((repeat (first | (with_reducible exact grd_p H) | (replace H := grd_k H) | (replace H := out_step H (by assumption)))); done) | rfl | ((repeat (first | exact grd_p H | replace H := grd_k H | replace H := out_step H (by assumption))); done) | ((repeat (first | exact grd_p H | (have hp := grd_p H; exact hp) | replace H := grd_k H | replace H := out_step H (by assumption) | (replace H := bind_some H; obtain ⟨_, _, H⟩ := H))); done) | (repeat (first | exact grd_p H | replace H := grd_k H | replace H := out_step H (by assumption)))))
    | (with_reducible exact True.intro)
    | constructor
    | ((conv => whnf); first
        | ((with_reducible refine Ob.mk ?_); first | (with_reducible rfl) | (first | ((repeat (first | (with_reducible exact grd_p H) | (replace H := grd_k H) | (replace H := out_step H (by assumption)))); done) | rfl | ((repeat (first | exact grd_p H | replace H := grd_k H | replace H := out_step H (by assumption))); done) | ((repeat (first | exact grd_p H | (have hp := grd_p H; exact hp) | replace H := grd_k H | replace H := out_step H (by assumption) | (replace H := bind_some H; obtain ⟨_, _, H⟩ := H))); done) | (repeat (first | exact grd_p H | replace H := grd_k H | replace H := out_step H (by assumption)))))
        | ((with_reducible refine CallW.mk ?_); (repeat (first | replace H := grd_k H | replace H := out_step H (by assumption))); replace H := bind_some H; obtain ⟨y, hy, H⟩ := H; first | ((with_reducible have hz : slices_IndexFunc___impl_BoardEvent_impl_BoardEvent__i1 _ = some y := hy); clear hz; refine Exists.intro _ (Exists.intro _ ⟨slices_IndexFunc___impl_BoardEvent_impl_BoardEvent__i1.call hy ?_, rfl, rfl, ?_⟩)))
        | ((with_reducible refine fin_mk ?_); (repeat (first | replace H := grd_k H | replace H := out_step H (by assumption))); have H := Option.some.inj H; subst H))
  all_goals exact viewz _ _
def G39 : Env := G38.add 84 [] slices_ContainsFunc___impl_BoardEvent_impl_BoardEvent__i1.S
theorem G39_ok : EnvOk Tryd.prog G39 := G38_ok.add ent_84 fun ar h r h1 ⟨a0, y, hy, e1, e2, e3, e4⟩ => by
  subst e3 e4; exact (slices_ContainsFunc___impl_BoardEvent_impl_BoardEvent__i1.spec a0 y hy).le e1 e2
attribute [local irreducible] slices_ContainsFunc___impl_BoardEvent_impl_BoardEvent__i1

noncomputable def impl_CountEvents_loop1 (a0 : (List BoardEvent)) (a1 : ByteArray) (v6 : Int) (v7 : Int) (v8 : Int) : Option (Lp (Int × Int × Int) ((Int × Int))) :=
  (cond (decide (v8 < (a0.length : Int))) (grd (0 ≤ v8 ∧ v8 < (a0.length : Int)) (cond (decide (((a0.getD v8.toNat d_BoardEvent).1) = a1)) (some (.go ((w64 (v6 + (1 : Int))), (w64 (v7 + ((a0.getD v8.toNat d_BoardEvent).2.1))), (w64 (v8 + (1 : Int)))))) (some (.go (v6, v7, (w64 (v8 + (1 : Int)))))))) ((some (.out (v6, v7)))))
noncomputable def impl_CountEvents (a0 : (List BoardEvent)) (a1 : ByteArray) : Option (Int × Int × Bool) :=
  (cond (decide ((20 : Int) < (a0.length : Int))) ((some ((0 : Int), (0 : Int), false))) ((slices_ContainsFunc___impl_BoardEvent_impl_BoardEvent__i1 a0).bind fun y1 => (cond y1 ((some ((0 : Int), (0 : Int), false))) ((slices_Contains___string_string_ [(ByteArray.mk #[99, 111, 109, 101]), (ByteArray.mk #[111, 112, 101, 110]), (ByteArray.mk #[115, 104, 117, 116]), (ByteArray.mk #[101, 110, 116, 101, 114]), (ByteArray.mk #[108, 101, 97, 118, 101]), (ByteArray.mk #[97, 114, 114, 105, 118, 101]), (ByteArray.mk #[108, 101, 118, 101, 108]), (ByteArray.mk #[103, 111])] a1).bind fun y2 => (cond (!y2) ((some ((0 : Int), (0 : Int), false))) ((iter (fun s => impl_CountEvents_loop1 a0 a1 s.1 s.2.1 s.2.2) ((0 : Int), (0 : Int), (0 : Int))).bind (fun r9 => (some (r9.1, r9.2, true)))))))))
def impl_CountEvents.res (_ : (List BoardEvent)) (_ : ByteArray) (y : Int × Int × Bool) : AV := (.tup [(.v (.int .i64 y.1)), (.v (.int .i64 y.2.1)), (.bl y.2.2)])
def impl_CountEvents.out (_ : (List BoardEvent)) (_ : ByteArray) (_ : Int × Int × Bool) : List (Option LB) := []
def impl_CountEvents.S (ar : List AV) (h : List (Option LB)) (r : AV) (h1 : List (Option LB)) : Prop := ∃ a0 a1 y, impl_CountEvents a0 a1 = some y ∧ leL ar [(.tree ty_BoardEvent a0), (.v (.string a1))] ∧ leH h [] ∧ r = impl_CountEvents.res a0 a1 y ∧ h1 = impl_CountEvents.out a0 a1 y
theorem impl_CountEvents.call {ar : List AV} {h : List (Option LB)} {a0 : (List BoardEvent)} {a1 : ByteArray} {y : Int × Int × Bool} (H : impl_CountEvents a0 a1 = some y) (h0 : leLk ar [(.tree ty_BoardEvent a0), (.v (.string a1))] (leHk h [])) : impl_CountEvents.S ar h (impl_CountEvents.res a0 a1 y) (impl_CountEvents.out a0 a1 y) := ⟨a0, a1, y, H, (args_ok h0).1, (args_ok h0).2, rfl, rfl⟩
set_option maxHeartbeats 100000000 in
set_option maxRecDepth 100000 in
theorem impl_CountEvents.spec (a0 : (List BoardEvent)) (a1 : ByteArray) (y : Int × Int × Bool) (H : impl_CountEvents a0 a1 = some y) : Spec Tryd.prog 43 [(.tree ty_BoardEvent a0), (.v (.string a1))] [] (impl_CountEvents.res a0 a1 y) (impl_CountEvents.out a0 a1 y) := by
  refine spec_intro (G39_ok.at tok []) (ct := [(2, some [0, 1, 23]), (10, some [1, 7, 8, 24, 25, 26])]) Tryd.func43 rfl (by kernel_rfl) (by kernel_rfl) rfl ?_
  repeat' first
    | ((with_reducible refine eqg ?_); exact rfl)
    | ((with_reducible refine KOb.mk ?_); kernel_rfl)
    | ((with_reducible intro h); (repeat (first | replace H := grd_k H | replace H := out_step H (by assumption))); first | replace H := cond_t h H | replace H := cond_f h H | exact absurd h (by decide) | skip)
    | ((with_reducible refine Ob.mk ?_); first | (with_reducible rfl) | (first | ((repeat (first | (with_reducible exact grd_p H) | (replace H := grd_k H) | (replace H := out_step H (by assumption)))); done) | rfl | ((repeat (first | exact grd_p H | replace H := grd_k H | replace H := out_step H (by assumption))); done) | ((repeat (first | exact grd_p H | (have hp := grd_p H; exact hp) | replace H := grd_k H | replace H := out_step H (by assumption) | (replace H := bind_some H; obtain ⟨_, _, H⟩ := H))); done) | (repeat (first | exact grd_p H | replace H := grd_k H | replace H := out_step H (by assumption)))))
    | (with_reducible exact True.intro)
    | constructor
    | ((conv => whnf); first
        | ((with_reducible refine Ob.mk ?_); first | (with_reducible rfl) | (first | ((repeat (first | (with_reducible exact grd_p H) | (replace H := grd_k H) | (replace H := out_step H (by assumption)))); done) | rfl | ((repeat (first | exact grd_p H | replace H := grd_k H | replace H := out_step H (by assumption))); done) | ((repeat (first | exact grd_p H | (have hp := grd_p H; exact hp) | replace H := grd_k H | replace H := out_step H (by assumption) | (replace H := bind_some H; obtain ⟨_, _, H⟩ := H))); done) | (repeat (first | exact grd_p H | replace H := grd_k H | replace H := out_step H (by assumption)))))
        | ((with_reducible refine CallW.mk ?_); (repeat (first | replace H := grd_k H | replace H := out_step H (by assumption))); replace H := bind_some H; obtain ⟨y, hy, H⟩ := H; first | ((with_reducible have hz : slices_ContainsFunc___impl_BoardEvent_impl_BoardEvent__i1 _ = some y := hy); clear hz; refine Exists.intro _ (Exists.intro _ ⟨slices_ContainsFunc___impl_BoardEvent_impl_BoardEvent__i1.call hy ?_, rfl, rfl, ?_⟩)) | ((with_reducible have hz : slices_Contains___string_string_ _ _ = some y := hy); clear hz; refine Exists.intro _ (Exists.intro _ ⟨slices_Contains___string_string_.call hy ?_, rfl, rfl, ?_⟩)))
        | ((repeat (first | replace H := grd_k H | replace H := out_step H (by assumption))); refine loop_iter (G39_ok.at tok []) (ct := [(2, some [0, 1, 23]), (10, some [1, 7, 8, 24, 25, 26])]) (F := (fun s1 : Int × Int × Int => ⟨sl [(1, (.v (.string a1))), (7, (.v (.int .i64 s1.1))), (8, (.v (.int .i64 s1.2.1))), (24, (.tree ty_BoardEvent a0)), (25, (.v (.int .i64 (a0.length : Int)))), (26, (.v (.int .i64 s1.2.2)))], []⟩)) (step := (fun s : Int × Int × Int => impl_CountEvents_loop1 _ _ s.1 s.2.1 s.2.2)) _ H (by kernel_rfl) (sub_auto ?_) ?_; rotate_left; (intro s1 r v hr H); rotate_right)
        | ((repeat (first | replace H := grd_k H | replace H := out_step H (by assumption))); refine again_step H (by assumption) (sub_auto ?_))
        | ((with_reducible refine fin_mk ?_); (repeat (first | replace H := grd_k H | replace H := out_step H (by assumption))); have H := Option.some.inj H; subst H))
def G40 : Env := G39.add 43 [] impl_CountEvents.S
theorem G40_ok : EnvOk Tryd.prog G40 := G39_ok.add ent_43 fun ar h r h1 ⟨a0, a1, y, hy, e1, e2, e3, e4⟩ => by
  subst e3 e4; exact (impl_CountEvents.spec a0 a1 y hy).le e1 e2
attribute [local irreducible] impl_CountEvents

noncomputable def spec_CountEvents_loop1 (a0 : (List BoardEvent)) (a1 : ByteArray) (v7 : Int) (v8 : Int) (v9 : Int) : Option (Lp (Int × Int × Int) ((Unit) ⊕ (Int × Int))) :=
  (cond (decide (v9 < (a0.length : Int))) (grd (0 ≤ v9 ∧ v9 < (a0.length : Int)) ((spec_l14Event ((a0.getD v9.toNat d_BoardEvent).1, (a0.getD v9.toNat d_BoardEvent).2.1, ())).bind fun y10 => (cond (!y10) ((some (.out (Sum.inl ())))) (grd (0 ≤ v9 ∧ v9 < (a0.length : Int)) (cond (decide (((a0.getD v9.toNat d_BoardEvent).1) = a1)) (grd (0 ≤ v9 ∧ v9 < (a0.length : Int)) (some (.go ((w64 (v7 + (1 : Int))), (w64 (v8 + ((a0.getD v9.toNat d_BoardEvent).2.1))), (w64 (v9 + (1 : Int))))))) (some (.go (v7, v8, (w64 (v9 + (1 : Int))))))))))) ((some (.out (Sum.inr (v7, v8))))))
noncomputable def spec_CountEvents (a0 : (List BoardEvent)) (a1 : ByteArray) : Option (Int × Int × Bool) :=
  (cond (decide ((20 : Int) < (a0.length : Int))) ((some ((0 : Int), (0 : Int), false))) ((spec_l14Most a1).bind fun y1 => (cond (decide (y1 < (0 : Int))) ((some ((0 : Int), (0 : Int), false))) ((iter (fun s => spec_CountEvents_loop1 a0 a1 s.1 s.2.1 s.2.2) ((0 : Int), (0 : Int), (0 : Int))).bind (Sum.elim (fun _ => (some ((0 : Int), (0 : Int), false))) (fun r13 => (some (r13.1, r13.2, true))))))))
def spec_CountEvents.res (_ : (List BoardEvent)) (_ : ByteArray) (y : Int × Int × Bool) : AV := (.tup [(.v (.int .i64 y.1)), (.v (.int .i64 y.2.1)), (.bl y.2.2)])
def spec_CountEvents.out (_ : (List BoardEvent)) (_ : ByteArray) (_ : Int × Int × Bool) : List (Option LB) := []
def spec_CountEvents.S (ar : List AV) (h : List (Option LB)) (r : AV) (h1 : List (Option LB)) : Prop := ∃ a0 a1 y, spec_CountEvents a0 a1 = some y ∧ leL ar [(.tree ty_BoardEvent a0), (.v (.string a1))] ∧ leH h [] ∧ r = spec_CountEvents.res a0 a1 y ∧ h1 = spec_CountEvents.out a0 a1 y
theorem spec_CountEvents.call {ar : List AV} {h : List (Option LB)} {a0 : (List BoardEvent)} {a1 : ByteArray} {y : Int × Int × Bool} (H : spec_CountEvents a0 a1 = some y) (h0 : leLk ar [(.tree ty_BoardEvent a0), (.v (.string a1))] (leHk h [])) : spec_CountEvents.S ar h (spec_CountEvents.res a0 a1 y) (spec_CountEvents.out a0 a1 y) := ⟨a0, a1, y, H, (args_ok h0).1, (args_ok h0).2, rfl, rfl⟩
set_option maxHeartbeats 100000000 in
set_option maxRecDepth 100000 in
theorem spec_CountEvents.spec (a0 : (List BoardEvent)) (a1 : ByteArray) (y : Int × Int × Bool) (H : spec_CountEvents a0 a1 = some y) : Spec Tryd.prog 44 [(.tree ty_BoardEvent a0), (.v (.string a1))] [] (spec_CountEvents.res a0 a1 y) (spec_CountEvents.out a0 a1 y) := by
  refine spec_intro (G40_ok.at tok []) (ct := [(3, some [0, 1]), (10, some [0, 1, 7, 8, 9, 36])]) Tryd.func44 rfl (by kernel_rfl) (by kernel_rfl) rfl ?_
  repeat' first
    | ((with_reducible refine eqg ?_); exact rfl)
    | ((with_reducible refine KOb.mk ?_); kernel_rfl)
    | ((with_reducible intro h); (repeat (first | replace H := grd_k H | replace H := out_step H (by assumption))); first | replace H := cond_t h H | replace H := cond_f h H | exact absurd h (by decide) | skip)
    | ((with_reducible refine Ob.mk ?_); first | (with_reducible rfl) | (first | ((repeat (first | (with_reducible exact grd_p H) | (replace H := grd_k H) | (replace H := out_step H (by assumption)))); done) | rfl | ((repeat (first | exact grd_p H | replace H := grd_k H | replace H := out_step H (by assumption))); done) | ((repeat (first | exact grd_p H | (have hp := grd_p H; exact hp) | replace H := grd_k H | replace H := out_step H (by assumption) | (replace H := bind_some H; obtain ⟨_, _, H⟩ := H))); done) | (repeat (first | exact grd_p H | replace H := grd_k H | replace H := out_step H (by assumption)))))
    | (with_reducible exact True.intro)
    | constructor
    | ((conv => whnf); first
        | ((with_reducible refine Ob.mk ?_); first | (with_reducible rfl) | (first | ((repeat (first | (with_reducible exact grd_p H) | (replace H := grd_k H) | (replace H := out_step H (by assumption)))); done) | rfl | ((repeat (first | exact grd_p H | replace H := grd_k H | replace H := out_step H (by assumption))); done) | ((repeat (first | exact grd_p H | (have hp := grd_p H; exact hp) | replace H := grd_k H | replace H := out_step H (by assumption) | (replace H := bind_some H; obtain ⟨_, _, H⟩ := H))); done) | (repeat (first | exact grd_p H | replace H := grd_k H | replace H := out_step H (by assumption)))))
        | ((with_reducible refine CallW.mk ?_); (repeat (first | replace H := grd_k H | replace H := out_step H (by assumption))); replace H := bind_some H; obtain ⟨y, hy, H⟩ := H; first | ((with_reducible have hz : spec_l14Most _ = some y := hy); clear hz; refine Exists.intro _ (Exists.intro _ ⟨spec_l14Most.call hy ?_, rfl, rfl, ?_⟩)) | ((with_reducible have hz : spec_l14Event _ = some y := hy); clear hz; refine Exists.intro _ (Exists.intro _ ⟨spec_l14Event.call hy ?_, rfl, rfl, ?_⟩)))
        | ((repeat (first | replace H := grd_k H | replace H := out_step H (by assumption))); refine loop_iter (G40_ok.at tok []) (ct := [(3, some [0, 1]), (10, some [0, 1, 7, 8, 9, 36])]) (F := (fun s1 : Int × Int × Int => ⟨sl [(0, (.tree ty_BoardEvent a0)), (1, (.v (.string a1))), (7, (.v (.int .i64 s1.1))), (8, (.v (.int .i64 s1.2.1))), (9, (.v (.int .i64 s1.2.2)))], []⟩)) (step := (fun s : Int × Int × Int => spec_CountEvents_loop1 _ _ s.1 s.2.1 s.2.2)) _ H (by kernel_rfl) (sub_auto ?_) ?_; rotate_left; (intro s1 r v hr H); rotate_right)
        | ((repeat (first | replace H := grd_k H | replace H := out_step H (by assumption))); refine again_step H (by assumption) (sub_auto ?_))
        | ((with_reducible refine fin_mk ?_); (repeat (first | replace H := grd_k H | replace H := out_step H (by assumption))); have H := Option.some.inj H; subst H))
def G41 : Env := G40.add 44 [] spec_CountEvents.S
theorem G41_ok : EnvOk Tryd.prog G41 := G40_ok.add ent_44 fun ar h r h1 ⟨a0, a1, y, hy, e1, e2, e3, e4⟩ => by
  subst e3 e4; exact (spec_CountEvents.spec a0 a1 y hy).le e1 e2
attribute [local irreducible] spec_CountEvents

noncomputable def spec_IsBoardEvent (a0 : BoardEvent) : Option (Bool) :=
  ((spec_l14Event (a0.1, a0.2.1, ())).bind fun y1 => (some y1))
def spec_IsBoardEvent.res (_ : BoardEvent) (y : Bool) : AV := (.bl y)
def spec_IsBoardEvent.out (_ : BoardEvent) (_ : Bool) : List (Option LB) := []
def spec_IsBoardEvent.S (ar : List AV) (h : List (Option LB)) (r : AV) (h1 : List (Option LB)) : Prop := ∃ a0 y, spec_IsBoardEvent a0 = some y ∧ leL ar [(.agg [(.v (.string a0.1)), (.v (.int .i64 a0.2.1))])] ∧ leH h [] ∧ r = spec_IsBoardEvent.res a0 y ∧ h1 = spec_IsBoardEvent.out a0 y
theorem spec_IsBoardEvent.call {ar : List AV} {h : List (Option LB)} {a0 : BoardEvent} {y : Bool} (H : spec_IsBoardEvent a0 = some y) (h0 : leLk ar [(.agg [(.v (.string a0.1)), (.v (.int .i64 a0.2.1))])] (leHk h [])) : spec_IsBoardEvent.S ar h (spec_IsBoardEvent.res a0 y) (spec_IsBoardEvent.out a0 y) := ⟨a0, y, H, (args_ok h0).1, (args_ok h0).2, rfl, rfl⟩
set_option maxHeartbeats 100000000 in
set_option maxRecDepth 100000 in
theorem spec_IsBoardEvent.spec (a0 : BoardEvent) (y : Bool) (H : spec_IsBoardEvent a0 = some y) : Spec Tryd.prog 46 [(.agg [(.v (.string a0.1)), (.v (.int .i64 a0.2.1))])] [] (spec_IsBoardEvent.res a0 y) (spec_IsBoardEvent.out a0 y) := by
  refine spec_intro (G41_ok.at tok []) (ct := []) Tryd.func46 rfl (by kernel_rfl) (by kernel_rfl) rfl ?_
  repeat' first
    | ((with_reducible refine eqg ?_); exact rfl)
    | ((with_reducible refine KOb.mk ?_); kernel_rfl)
    | ((with_reducible intro h); (repeat (first | replace H := grd_k H | replace H := out_step H (by assumption))); first | replace H := cond_t h H | replace H := cond_f h H | exact absurd h (by decide) | skip)
    | ((with_reducible refine Ob.mk ?_); first | (with_reducible rfl) | (first | ((repeat (first | (with_reducible exact grd_p H) | (replace H := grd_k H) | (replace H := out_step H (by assumption)))); done) | rfl | ((repeat (first | exact grd_p H | replace H := grd_k H | replace H := out_step H (by assumption))); done) | ((repeat (first | exact grd_p H | (have hp := grd_p H; exact hp) | replace H := grd_k H | replace H := out_step H (by assumption) | (replace H := bind_some H; obtain ⟨_, _, H⟩ := H))); done) | (repeat (first | exact grd_p H | replace H := grd_k H | replace H := out_step H (by assumption)))))
    | (with_reducible exact True.intro)
    | constructor
    | ((conv => whnf); first
        | ((with_reducible refine Ob.mk ?_); first | (with_reducible rfl) | (first | ((repeat (first | (with_reducible exact grd_p H) | (replace H := grd_k H) | (replace H := out_step H (by assumption)))); done) | rfl | ((repeat (first | exact grd_p H | replace H := grd_k H | replace H := out_step H (by assumption))); done) | ((repeat (first | exact grd_p H | (have hp := grd_p H; exact hp) | replace H := grd_k H | replace H := out_step H (by assumption) | (replace H := bind_some H; obtain ⟨_, _, H⟩ := H))); done) | (repeat (first | exact grd_p H | replace H := grd_k H | replace H := out_step H (by assumption)))))
        | ((with_reducible refine CallW.mk ?_); (repeat (first | replace H := grd_k H | replace H := out_step H (by assumption))); replace H := bind_some H; obtain ⟨y, hy, H⟩ := H; first | ((with_reducible have hz : spec_l14Event _ = some y := hy); clear hz; refine Exists.intro _ (Exists.intro _ ⟨spec_l14Event.call hy ?_, rfl, rfl, ?_⟩)))
        | ((with_reducible refine fin_mk ?_); (repeat (first | replace H := grd_k H | replace H := out_step H (by assumption))); have H := Option.some.inj H; subst H))
def G42 : Env := G41.add 46 [] spec_IsBoardEvent.S
theorem G42_ok : EnvOk Tryd.prog G42 := G41_ok.add ent_46 fun ar h r h1 ⟨a0, y, hy, e1, e2, e3, e4⟩ => by
  subst e3 e4; exact (spec_IsBoardEvent.spec a0 y hy).le e1 e2
attribute [local irreducible] spec_IsBoardEvent

end Go.Proofs.YteckiilljhdkpaaDoor
