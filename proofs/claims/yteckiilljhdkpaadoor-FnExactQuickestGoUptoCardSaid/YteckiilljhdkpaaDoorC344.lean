/-
  Contracts, printed by a program.
-/
import Derived.Test.YteckiilljhdkpaaDoorC343
namespace Go.Proofs.YteckiilljhdkpaaDoor
open Go.RowKit
attribute [local irreducible] Ob loopwp Sub Spec Fin Again CallW CutC KOb iter joinx outm

attribute [local irreducible] laws_toPlatform spec_l1In spec_l14Good spec_l1Least spec_l14Entering spec_l14Most spec_l14Event spec_l14Can spec_l14Step spec_QuickestGo impl_within impl_IsPlatform impl_boardCounts slices_Index___string_string_ slices_Contains___string_string_ impl_IsBoardEvent impl_Platform_step impl_Platform_mostEntering impl_QuickestGo_1_i1 impl_QuickestGo laws_eqBoardEvent laws_eqBoardEventS laws_markText laws_markBoardEventS

noncomputable def laws_heldBoardEventS_loop1 (a0 : (List BoardEvent)) (v5 : Int) (v6 : Int) : Option (Lp (Int × Int) ((Unit) ⊕ (Int))) :=
  (cond (decide (v6 < (a0.length : Int))) (grd (0 ≤ v6 ∧ v6 < (a0.length : Int)) ((laws_markText v5).bind fun y7 => (cond (!decide (((a0.getD v6.toNat d_BoardEvent).1) = y7)) ((some (.out (Sum.inl ())))) (grd (0 ≤ v6 ∧ v6 < (a0.length : Int)) (cond (!decide (((a0.getD v6.toNat d_BoardEvent).2.1) = (w64 (v5 + (1 : Int))))) ((some (.out (Sum.inl ())))) (some (.go ((w64 ((w64 (v5 + (1 : Int))) + (1 : Int))), (w64 (v6 + (1 : Int))))))))))) ((some (.out (Sum.inr v5)))))
noncomputable def laws_heldBoardEventS (a0 : (List BoardEvent)) (a1 : Int) : Option (Int) :=
  ((iter (fun s => laws_heldBoardEventS_loop1 a0 s.1 s.2) (a1, (0 : Int))).bind (Sum.elim (fun _ => (some ((-1) : Int))) (fun r10 => (some r10))))
def laws_heldBoardEventS.res (_ : (List BoardEvent)) (_ : Int) (y : Int) : AV := (.v (.int .i64 y))
def laws_heldBoardEventS.out (_ : (List BoardEvent)) (_ : Int) (_ : Int) : List (Option LB) := []
def laws_heldBoardEventS.S (ar : List AV) (h : List (Option LB)) (r : AV) (h1 : List (Option LB)) : Prop := ∃ a0 a1 y, laws_heldBoardEventS a0 a1 = some y ∧ leL ar [(.tree ty_BoardEvent a0), (.v (.int .i64 a1))] ∧ leH h [] ∧ r = laws_heldBoardEventS.res a0 a1 y ∧ h1 = laws_heldBoardEventS.out a0 a1 y
theorem laws_heldBoardEventS.call {ar : List AV} {h : List (Option LB)} {a0 : (List BoardEvent)} {a1 : Int} {y : Int} (H : laws_heldBoardEventS a0 a1 = some y) (h0 : leLk ar [(.tree ty_BoardEvent a0), (.v (.int .i64 a1))] (leHk h [])) : laws_heldBoardEventS.S ar h (laws_heldBoardEventS.res a0 a1 y) (laws_heldBoardEventS.out a0 a1 y) := ⟨a0, a1, y, H, (args_ok h0).1, (args_ok h0).2, rfl, rfl⟩
set_option maxHeartbeats 100000000 in
set_option maxRecDepth 100000 in
theorem laws_heldBoardEventS.spec (a0 : (List BoardEvent)) (a1 : Int) (y : Int) (H : laws_heldBoardEventS a0 a1 = some y) : Spec Tryd.prog 50 [(.tree ty_BoardEvent a0), (.v (.int .i64 a1))] [] (laws_heldBoardEventS.res a0 a1 y) (laws_heldBoardEventS.out a0 a1 y) := by
  refine spec_intro (G24_ok.at tok []) (ct := [(7, some [0, 1, 5])]) Tryd.func50 rfl (by kernel_rfl) (by kernel_rfl) rfl ?_
  repeat' first
    | ((with_reducible refine eqg ?_); exact rfl)
    | ((with_reducible refine KOb.mk ?_); kernel_rfl)
    | ((with_reducible intro h); (repeat (first | replace H := grd_k H | replace H := out_step H (by assumption))); first | replace H := cond_t h H | replace H := cond_f h H | exact absurd h (by decide) | skip)
    | ((with_reducible refine Ob.mk ?_); first | (with_reducible rfl) | (first | ((repeat (first | (with_reducible exact grd_p H) | (replace H := grd_k H) | (replace H := out_step H (by assumption)))); done) | rfl | ((repeat (first | exact grd_p H | replace H := grd_k H | replace H := out_step H (by assumption))); done) | ((repeat (first | exact grd_p H | (have hp := grd_p H; exact hp) | replace H := grd_k H | replace H := out_step H (by assumption) | (replace H := bind_some H; obtain ⟨_, _, H⟩ := H))); done) | (repeat (first | exact grd_p H | replace H := grd_k H | replace H := out_step H (by assumption)))))
    | (with_reducible exact True.intro)
    | constructor
    | ((conv => whnf); first
        | ((with_reducible refine Ob.mk ?_); first | (with_reducible rfl) | (first | ((repeat (first | (with_reducible exact grd_p H) | (replace H := grd_k H) | (replace H := out_step H (by assumption)))); done) | rfl | ((repeat (first | exact grd_p H | replace H := grd_k H | replace H := out_step H (by assumption))); done) | ((repeat (first | exact grd_p H | (have hp := grd_p H; exact hp) | replace H := grd_k H | replace H := out_step H (by assumption) | (replace H := bind_some H; obtain ⟨_, _, H⟩ := H))); done) | (repeat (first | exact grd_p H | replace H := grd_k H | replace H := out_step H (by assumption)))))
        | ((with_reducible refine CallW.mk ?_); (repeat (first | replace H := grd_k H | replace H := out_step H (by assumption))); replace H := bind_some H; obtain ⟨y, hy, H⟩ := H; first | ((with_reducible have hz : laws_markText _ = some y := hy); clear hz; refine Exists.intro _ (Exists.intro _ ⟨laws_markText.call hy ?_, rfl, rfl, ?_⟩)))
        | ((repeat (first | replace H := grd_k H | replace H := out_step H (by assumption))); refine loop_iter (G24_ok.at tok []) (ct := [(7, some [0, 1, 5])]) (F := (fun s1 : Int × Int => ⟨sl [(0, (.tree ty_BoardEvent a0)), (1, (.v (.int .i64 s1.1))), (5, (.v (.int .i64 s1.2)))], []⟩)) (step := (fun s : Int × Int => laws_heldBoardEventS_loop1 _ s.1 s.2)) _ H (by kernel_rfl) (sub_auto ?_) ?_; rotate_left; (intro s1 r v hr H); rotate_right)
        | ((repeat (first | replace H := grd_k H | replace H := out_step H (by assumption))); refine again_step H (by assumption) (sub_auto ?_))
        | ((with_reducible refine fin_mk ?_); (repeat (first | replace H := grd_k H | replace H := out_step H (by assumption))); have H := Option.some.inj H; subst H))
def G25 : Env := G24.add 50 [] laws_heldBoardEventS.S
theorem G25_ok : EnvOk Tryd.prog G25 := G24_ok.add ent_50 fun ar h r h1 ⟨a0, a1, y, hy, e1, e2, e3, e4⟩ => by
  subst e3 e4; exact (laws_heldBoardEventS.spec a0 a1 y hy).le e1 e2
attribute [local irreducible] laws_heldBoardEventS

noncomputable def laws_markBoardEventS_i1_loop1   : Option (Lp (Unit) ((Unit))) :=
  (some (.out ()))
noncomputable def laws_markBoardEventS_i1 (a1 : Int) : Option (Int) :=
  ((iter (fun _ => laws_markBoardEventS_i1_loop1) ()).bind (fun _ => (some a1)))
def laws_markBoardEventS_i1.res (_ : Int) (y : Int) : AV := (.v (.int .i64 y))
def laws_markBoardEventS_i1.out (_ : Int) (_ : Int) : List (Option LB) := []
def laws_markBoardEventS_i1.S (ar : List AV) (h : List (Option LB)) (r : AV) (h1 : List (Option LB)) : Prop := ∃ a1 y, laws_markBoardEventS_i1 a1 = some y ∧ leL ar [(.v (.slice none 0 0)), (.v (.int .i64 a1))] ∧ leH h [] ∧ r = laws_markBoardEventS_i1.res a1 y ∧ h1 = laws_markBoardEventS_i1.out a1 y
theorem laws_markBoardEventS_i1.call {ar : List AV} {h : List (Option LB)} {a1 : Int} {y : Int} (H : laws_markBoardEventS_i1 a1 = some y) (h0 : leLk ar [(.v (.slice none 0 0)), (.v (.int .i64 a1))] (leHk h [])) : laws_markBoardEventS_i1.S ar h (laws_markBoardEventS_i1.res a1 y) (laws_markBoardEventS_i1.out a1 y) := ⟨a1, y, H, (args_ok h0).1, (args_ok h0).2, rfl, rfl⟩
set_option maxHeartbeats 100000000 in
set_option maxRecDepth 100000 in
theorem laws_markBoardEventS_i1.spec (a1 : Int) (y : Int) (H : laws_markBoardEventS_i1 a1 = some y) : Spec Tryd.prog 49 [(.v (.slice none 0 0)), (.v (.int .i64 a1))] [] (laws_markBoardEventS_i1.res a1 y) (laws_markBoardEventS_i1.out a1 y) := by
  refine spec_intro (G25_ok.at tok []) (ct := [(7, some [0, 1, 5])]) Tryd.func49 rfl (by kernel_rfl) (by kernel_rfl) rfl ?_
  repeat' first
    | ((with_reducible refine eqg ?_); exact rfl)
    | ((with_reducible refine KOb.mk ?_); kernel_rfl)
    | ((with_reducible intro h); (repeat (first | replace H := grd_k H | replace H := out_step H (by assumption))); first | replace H := cond_t h H | replace H := cond_f h H | exact absurd h (by decide) | skip)
    | ((with_reducible refine Ob.mk ?_); first | (with_reducible rfl) | (first | ((repeat (first | (with_reducible exact grd_p H) | (replace H := grd_k H) | (replace H := out_step H (by assumption)))); done) | rfl | ((repeat (first | exact grd_p H | replace H := grd_k H | replace H := out_step H (by assumption))); done) | ((repeat (first | exact grd_p H | (have hp := grd_p H; exact hp) | replace H := grd_k H | replace H := out_step H (by assumption) | (replace H := bind_some H; obtain ⟨_, _, H⟩ := H))); done) | (repeat (first | exact grd_p H | replace H := grd_k H | replace H := out_step H (by assumption)))))
    | (with_reducible exact True.intro)
    | constructor
    | ((conv => whnf); first
        | ((with_reducible refine Ob.mk ?_); first | (with_reducible rfl) | (first | ((repeat (first | (with_reducible exact grd_p H) | (replace H := grd_k H) | (replace H := out_step H (by assumption)))); done) | rfl | ((repeat (first | exact grd_p H | replace H := grd_k H | replace H := out_step H (by assumption))); done) | ((repeat (first | exact grd_p H | (have hp := grd_p H; exact hp) | replace H := grd_k H | replace H := out_step H (by assumption) | (replace H := bind_some H; obtain ⟨_, _, H⟩ := H))); done) | (repeat (first | exact grd_p H | replace H := grd_k H | replace H := out_step H (by assumption)))))
        | ((repeat (first | replace H := grd_k H | replace H := out_step H (by assumption))); refine loop_iter (G25_ok.at tok []) (ct := [(7, some [0, 1, 5])]) (F := (fun s1 : Unit => ⟨sl [(0, (.v (.slice none 0 0))), (1, (.v (.int .i64 a1))), (5, (.v (.int .i64 (0 : Int))))], []⟩)) (step := (fun s : Unit => laws_markBoardEventS_i1_loop1)) _ H (by kernel_rfl) (sub_auto ?_) ?_; rotate_left; (intro s1 r v hr H); rotate_right)
        | ((repeat (first | replace H := grd_k H | replace H := out_step H (by assumption))); refine again_step H (by assumption) (sub_auto ?_))
        | ((with_reducible refine fin_mk ?_); (repeat (first | replace H := grd_k H | replace H := out_step H (by assumption))); have H := Option.some.inj H; subst H))
def G26 : Env := G25.addOr 49 [true] laws_markBoardEventS_i1.S
theorem G26_ok : EnvOk Tryd.prog G26 := G25_ok.addOr ent_49 fun ar h r h1 ⟨a1, y, hy, e1, e2, e3, e4⟩ => by
  subst e3 e4; exact (laws_markBoardEventS_i1.spec a1 y hy).le e1 e2
attribute [local irreducible] laws_markBoardEventS_i1

noncomputable def laws_FnExactQuickestGo (a0 : Platform) : Option (Bool) :=
  ((laws_toPlatform (a0.1, a0.2.1, a0.2.2.1, a0.2.2.2.1, a0.2.2.2.2.1, a0.2.2.2.2.2.1, ())).bind fun y1 => ((spec_QuickestGo (y1.1, y1.2.1, y1.2.2.1, y1.2.2.2.1, y1.2.2.2.2.1, y1.2.2.2.2.2.1, ())).bind fun y2 => ((laws_toPlatform (a0.1, a0.2.1, a0.2.2.1, a0.2.2.2.1, a0.2.2.2.2.1, a0.2.2.2.2.2.1, ())).bind fun y3 => ((impl_QuickestGo (y3.1, y3.2.1, y3.2.2.1, y3.2.2.2.1, y3.2.2.2.2.1, y3.2.2.2.2.2.1, ())).bind (Sum.elim (fun _ => ((laws_eqBoardEventS [] y2.1).bind fun y6 => (cond (!y6) ((some false)) (cond (!(false == y2.2)) ((some false)) ((laws_markBoardEventS_i1 (1 : Int)).bind fun y7 => ((laws_heldBoardEventS [] (1 : Int)).bind fun y8 => (cond (decide (y8 < (0 : Int))) ((some false)) (cond (!decide (y8 = y7)) ((some false)) (((laws_toPlatform (a0.1, a0.2.1, a0.2.2.1, a0.2.2.2.1, a0.2.2.2.2.1, a0.2.2.2.2.2.1, ())).bind fun y9 => ((impl_QuickestGo (y9.1, y9.2.1, y9.2.2.1, y9.2.2.2.1, y9.2.2.2.2.1, y9.2.2.2.2.2.1, ())).bind (Sum.elim (fun _ => (some ((Tg.mk : Tg 1), y2.2, y7, [], false, y2.1))) (fun y12 => (some ((Tg.mk : Tg 1), y2.2, y7, y12, true, y2.1)))))).bind fun z13 => ((laws_eqBoardEventS z13.2.2.2.1 z13.2.2.2.2.2).bind fun y14 => (cond (!y14) ((some false)) (cond (!(z13.2.2.2.2.1 == z13.2.1)) ((some false)) ((laws_heldBoardEventS [] (1 : Int)).bind fun y15 => (cond (decide (y15 < (0 : Int))) ((some false)) (cond (!decide (y15 = z13.2.2.1)) ((some false)) ((some true))))))))))))))))) (fun y16 => ((laws_eqBoardEventS y16 y2.1).bind fun y17 => (cond (!y17) ((some false)) (cond (!(true == y2.2)) ((some false)) ((laws_markBoardEventS y16 (1 : Int)).bind fun y18 => ((laws_heldBoardEventS y18.2 (1 : Int)).bind fun y19 => (cond (decide (y19 < (0 : Int))) ((some false)) (cond (!decide (y19 = y18.1)) ((some false)) (((laws_toPlatform (a0.1, a0.2.1, a0.2.2.1, a0.2.2.2.1, a0.2.2.2.2.1, a0.2.2.2.2.2.1, ())).bind fun y20 => ((impl_QuickestGo (y20.1, y20.2.1, y20.2.2.1, y20.2.2.2.1, y20.2.2.2.2.1, y20.2.2.2.2.2.1, ())).bind (Sum.elim (fun _ => (some ((Tg.mk : Tg 2), y2.2, y18.1, [], false, y2.1, y18.2))) (fun y23 => (some ((Tg.mk : Tg 2), y2.2, y18.1, y23, true, y2.1, y18.2)))))).bind fun z24 => ((laws_eqBoardEventS z24.2.2.2.1 z24.2.2.2.2.2.1).bind fun y25 => (cond (!y25) ((some false)) (cond (!(z24.2.2.2.2.1 == z24.2.1)) ((some false)) ((laws_heldBoardEventS z24.2.2.2.2.2.2 (1 : Int)).bind fun y26 => (cond (decide (y26 < (0 : Int))) ((some false)) (cond (!decide (y26 = z24.2.2.1)) ((some false)) ((some true))))))))))))))))))))))
def laws_FnExactQuickestGo.res (_ : Platform) (y : Bool) : AV := (.bl y)
def laws_FnExactQuickestGo.out (_ : Platform) (_ : Bool) : List (Option LB) := []
def laws_FnExactQuickestGo.S (ar : List AV) (h : List (Option LB)) (r : AV) (h1 : List (Option LB)) : Prop := ∃ a0 y, laws_FnExactQuickestGo a0 = some y ∧ leL ar [(.agg [(.v (.int .i64 a0.1)), (.v (.int .i64 a0.2.1)), (.v (.int .i64 a0.2.2.1)), (.v (.int .i64 a0.2.2.2.1)), (.bl a0.2.2.2.2.1), (.v (.int .i64 a0.2.2.2.2.2.1))])] ∧ leH h [] ∧ r = laws_FnExactQuickestGo.res a0 y ∧ h1 = laws_FnExactQuickestGo.out a0 y
theorem laws_FnExactQuickestGo.call {ar : List AV} {h : List (Option LB)} {a0 : Platform} {y : Bool} (H : laws_FnExactQuickestGo a0 = some y) (h0 : leLk ar [(.agg [(.v (.int .i64 a0.1)), (.v (.int .i64 a0.2.1)), (.v (.int .i64 a0.2.2.1)), (.v (.int .i64 a0.2.2.2.1)), (.bl a0.2.2.2.2.1), (.v (.int .i64 a0.2.2.2.2.2.1))])] (leHk h [])) : laws_FnExactQuickestGo.S ar h (laws_FnExactQuickestGo.res a0 y) (laws_FnExactQuickestGo.out a0 y) := ⟨a0, y, H, (args_ok h0).1, (args_ok h0).2, rfl, rfl⟩
set_option maxHeartbeats 100000000 in
set_option maxRecDepth 100000 in
theorem laws_FnExactQuickestGo.spec (a0 : Platform) (y : Bool) (H : laws_FnExactQuickestGo a0 = some y) : Spec Tryd.prog 9 [(.agg [(.v (.int .i64 a0.1)), (.v (.int .i64 a0.2.1)), (.v (.int .i64 a0.2.2.1)), (.v (.int .i64 a0.2.2.2.1)), (.bl a0.2.2.2.2.1), (.v (.int .i64 a0.2.2.2.2.2.1))])] [] (laws_FnExactQuickestGo.res a0 y) (laws_FnExactQuickestGo.out a0 y) := by
  refine spec_intro (G26_ok.at tok []) (ct := [(14, none), (3, some [1, 3, 4, 5, 6, 28, 29, 30, 54, 55, 56]), (7, some [1, 3, 4, 5, 7, 54, 55, 56]), (18, some [7, 8])]) Tryd.func9 rfl (by kernel_rfl) (by kernel_rfl) rfl ?_
  repeat' first
    | ((with_reducible refine eqg ?_); exact rfl)
    | ((with_reducible refine KOb.mk ?_); kernel_rfl)
    | ((with_reducible intro h); (repeat (first | replace H := grd_k H | replace H := out_step H (by assumption))); first | replace H := cond_t h H | replace H := cond_f h H | exact absurd h (by decide) | skip)
    | ((with_reducible refine Ob.mk ?_); first | (with_reducible rfl) | (first | ((repeat (first | (with_reducible exact grd_p H) | (replace H := grd_k H) | (replace H := out_step H (by assumption)))); done) | rfl | ((repeat (first | exact grd_p H | replace H := grd_k H | replace H := out_step H (by assumption))); done) | ((repeat (first | exact grd_p H | (have hp := grd_p H; exact hp) | replace H := grd_k H | replace H := out_step H (by assumption) | (replace H := bind_some H; obtain ⟨_, _, H⟩ := H))); done) | (repeat (first | exact grd_p H | replace H := grd_k H | replace H := out_step H (by assumption)))))
    | (with_reducible exact True.intro)
    | constructor
    | ((conv => whnf); first
        | ((with_reducible refine Ob.mk ?_); first | (with_reducible rfl) | (first | ((repeat (first | (with_reducible exact grd_p H) | (replace H := grd_k H) | (replace H := out_step H (by assumption)))); done) | rfl | ((repeat (first | exact grd_p H | replace H := grd_k H | replace H := out_step H (by assumption))); done) | ((repeat (first | exact grd_p H | (have hp := grd_p H; exact hp) | replace H := grd_k H | replace H := out_step H (by assumption) | (replace H := bind_some H; obtain ⟨_, _, H⟩ := H))); done) | (repeat (first | exact grd_p H | replace H := grd_k H | replace H := out_step H (by assumption)))))
        | ((with_reducible refine CallW.mk ?_); (repeat (first | replace H := grd_k H | replace H := out_step H (by assumption))); replace H := bind_some H; obtain ⟨y, hy, H⟩ := H; first | ((with_reducible have hz : laws_toPlatform _ = some y := hy); clear hz; refine Exists.intro _ (Exists.intro _ ⟨laws_toPlatform.call hy ?_, rfl, rfl, ?_⟩)) | ((with_reducible have hz : spec_QuickestGo _ = some y := hy); clear hz; refine Exists.intro _ (Exists.intro _ ⟨spec_QuickestGo.call hy ?_, rfl, rfl, ?_⟩)) | ((with_reducible have hz : impl_QuickestGo _ = some y := hy); clear hz; rcases y with y | y <;> refine Exists.intro _ (Exists.intro _ ⟨impl_QuickestGo.call hy ?_, rfl, rfl, ?_⟩)) | ((with_reducible have hz : laws_eqBoardEventS _ _ = some y := hy); clear hz; refine Exists.intro _ (Exists.intro _ ⟨laws_eqBoardEventS.call hy ?_, rfl, rfl, ?_⟩)) | ((with_reducible have hz : laws_markBoardEventS_i1 _ = some y := hy); clear hz; refine Exists.intro _ (Exists.intro _ ⟨Or.inl (laws_markBoardEventS_i1.call hy ?_), rfl, rfl, ?_⟩)) | ((with_reducible have hz : laws_heldBoardEventS _ _ = some y := hy); clear hz; refine Exists.intro _ (Exists.intro _ ⟨laws_heldBoardEventS.call hy ?_, rfl, rfl, ?_⟩)) | ((with_reducible have hz : laws_markBoardEventS _ _ = some y := hy); clear hz; refine Exists.intro _ (Exists.intro _ ⟨Or.inr (laws_markBoardEventS.call hy ?_), rfl, rfl, ?_⟩)))
        | ((with_reducible refine cutAt (id := 14) ?_); (repeat (first | replace H := grd_k H | replace H := out_step H (by assumption))); first | (replace H := bind_some H; obtain ⟨z, hz, H⟩ := H; have hT : Tg 1 × Bool × Int × (List BoardEvent) × Bool × (List BoardEvent) := z; clear hT; refine CutC.mk (id := 14) ⟨sl [(3, (.own 0)), (4, (.bl z.2.1)), (5, (.v (.slice none 0 0))), (7, (.v (.int .i64 z.2.2.1))), (9, (.tree ty_BoardEvent z.2.2.2.1)), (10, (.bl z.2.2.2.2.1))], [some (.arr 52 ty_BoardEvent z.2.2.2.2.2)]⟩ ?_ ?_; (replace H := hz)) | (replace H := bind_some H; obtain ⟨z, hz, H⟩ := H; have hT : Tg 2 × Bool × Int × (List BoardEvent) × Bool × (List BoardEvent) × (List BoardEvent) := z; clear hT; refine CutC.mk (id := 14) ⟨sl [(3, (.own 0)), (4, (.bl z.2.1)), (5, (.own 1)), (7, (.v (.int .i64 z.2.2.1))), (9, (.tree ty_BoardEvent z.2.2.2.1)), (10, (.bl z.2.2.2.2.1))], [some (.arr 52 ty_BoardEvent z.2.2.2.2.2.1), some (.arr 52 ty_BoardEvent z.2.2.2.2.2.2)]⟩ ?_ ?_; (replace H := hz)))
        | ((repeat (first | replace H := grd_k H | replace H := out_step H (by assumption))); have H := Option.some.inj H; subst H; with_reducible refine sub_auto ?_)
        | ((with_reducible refine fin_mk ?_); (repeat (first | replace H := grd_k H | replace H := out_step H (by assumption))); have H := Option.some.inj H; subst H))
def G27 : Env := G26.add 9 [] laws_FnExactQuickestGo.S
theorem G27_ok : EnvOk Tryd.prog G27 := G26_ok.add ent_9 fun ar h r h1 ⟨a0, y, hy, e1, e2, e3, e4⟩ => by
  subst e3 e4; exact (laws_FnExactQuickestGo.spec a0 y hy).le e1 e2
attribute [local irreducible] laws_FnExactQuickestGo

end Go.Proofs.YteckiilljhdkpaaDoor
