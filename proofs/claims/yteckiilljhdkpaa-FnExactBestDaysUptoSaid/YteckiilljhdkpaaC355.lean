/-
  Contracts, printed by a program.
-/
import Derived.Test.YteckiilljhdkpaaC354
namespace Go.Proofs.Yteckiilljhdkpaa
open Go.RowKit
attribute [local irreducible] Ob loopwp Sub Spec Fin Again CallW CutC KOb iter joinx outm

attribute [local irreducible] laws_szDayRow laws_szDayRowS laws_toDayRow laws_toDayRowS spec_l1In spec_l2Word spec_l26One spec_l26Good spec_BestDays impl_within impl_isDay impl_isWord impl_IsDayRow impl_AreDayRows slices_Clone___impl_DayRow_impl_DayRow_ impl_BestDays_1 cmp_isNaN_int_ cmp_Compare_int_ impl_BestDays_2 slices_IndexFunc___impl_DayRow_impl_DayRow__i1 slices_DeleteFunc___impl_DayRow_impl_DayRow__i1 slices_insertionSortCmpFunc_impl_DayRow__i1 slices_symMergeCmpFunc_impl_DayRow__i1 slices_stableCmpFunc_impl_DayRow__i1 slices_SortStableFunc___impl_DayRow_impl_DayRow__i1 impl_BestDays laws_eqIntS laws_eqDayRow laws_eqDayRowS laws_markText laws_markDayRowS laws_markIntS

noncomputable def laws_heldIntS_loop1 (a0 : (List Int)) (v3 : Int) (v4 : Int) : Option (Lp (Int × Int) ((Unit) ⊕ (Int))) :=
  (cond (decide (v4 < (a0.length : Int))) (grd (0 ≤ v4 ∧ v4 < (a0.length : Int)) (cond (!decide ((a0.getD v4.toNat 0) = v3)) ((some (.out (Sum.inl ())))) (some (.go ((w64 (v3 + (1 : Int))), (w64 (v4 + (1 : Int)))))))) ((some (.out (Sum.inr v3)))))
noncomputable def laws_heldIntS (a0 : (List Int)) (a1 : Int) : Option (Int) :=
  ((iter (fun s => laws_heldIntS_loop1 a0 s.1 s.2) (a1, (0 : Int))).bind (Sum.elim (fun _ => (some ((-1) : Int))) (fun r7 => (some r7))))
def laws_heldIntS.res (_ : (List Int)) (_ : Int) (y : Int) : AV := (.v (.int .i64 y))
def laws_heldIntS.out (_ : (List Int)) (_ : Int) (_ : Int) : List (Option LB) := []
def laws_heldIntS.S (ar : List AV) (h : List (Option LB)) (r : AV) (h1 : List (Option LB)) : Prop := ∃ a0 a1 y, laws_heldIntS a0 a1 = some y ∧ leL ar [(.tree (.int .i64) a0), (.v (.int .i64 a1))] ∧ leH h [] ∧ r = laws_heldIntS.res a0 a1 y ∧ h1 = laws_heldIntS.out a0 a1 y
theorem laws_heldIntS.call {ar : List AV} {h : List (Option LB)} {a0 : (List Int)} {a1 : Int} {y : Int} (H : laws_heldIntS a0 a1 = some y) (h0 : leLk ar [(.tree (.int .i64) a0), (.v (.int .i64 a1))] (leHk h [])) : laws_heldIntS.S ar h (laws_heldIntS.res a0 a1 y) (laws_heldIntS.out a0 a1 y) := ⟨a0, a1, y, H, (args_ok h0).1, (args_ok h0).2, rfl, rfl⟩
set_option maxHeartbeats 100000000 in
set_option maxRecDepth 100000 in
theorem laws_heldIntS.spec (a0 : (List Int)) (a1 : Int) (y : Int) (H : laws_heldIntS a0 a1 = some y) : Spec Try.prog 15 [(.tree (.int .i64) a0), (.v (.int .i64 a1))] [] (laws_heldIntS.res a0 a1 y) (laws_heldIntS.out a0 a1 y) := by
  refine spec_intro (G32_ok.at tok []) (ct := [(3, some [0, 1, 5])]) Try.func15 rfl (by kernel_rfl) (by kernel_rfl) rfl ?_
  repeat' first
    | ((with_reducible refine eqg ?_); exact rfl)
    | ((with_reducible refine KOb.mk ?_); kernel_rfl)
    | ((with_reducible intro h); (repeat (first | replace H := grd_k H | replace H := out_step H (by assumption))); first | replace H := cond_t h H | replace H := cond_f h H | exact absurd h (by decide) | skip)
    | ((with_reducible refine Ob.mk ?_); first | (with_reducible rfl) | (first | ((repeat (first | (with_reducible exact grd_p H) | (replace H := grd_k H) | (replace H := out_step H (by assumption)))); done) | rfl | ((repeat (first | exact grd_p H | replace H := grd_k H | replace H := out_step H (by assumption))); done) | ((repeat (first | exact grd_p H | (have hp := grd_p H; exact hp) | replace H := grd_k H | replace H := out_step H (by assumption) | (replace H := bind_some H; obtain ⟨_, _, H⟩ := H))); done) | (repeat (first | exact grd_p H | replace H := grd_k H | replace H := out_step H (by assumption)))))
    | (with_reducible exact True.intro)
    | constructor
    | ((conv => whnf); first
        | ((with_reducible refine Ob.mk ?_); first | (with_reducible rfl) | (first | ((repeat (first | (with_reducible exact grd_p H) | (replace H := grd_k H) | (replace H := out_step H (by assumption)))); done) | rfl | ((repeat (first | exact grd_p H | replace H := grd_k H | replace H := out_step H (by assumption))); done) | ((repeat (first | exact grd_p H | (have hp := grd_p H; exact hp) | replace H := grd_k H | replace H := out_step H (by assumption) | (replace H := bind_some H; obtain ⟨_, _, H⟩ := H))); done) | (repeat (first | exact grd_p H | replace H := grd_k H | replace H := out_step H (by assumption)))))
        | ((repeat (first | replace H := grd_k H | replace H := out_step H (by assumption))); refine loop_iter (G32_ok.at tok []) (ct := [(3, some [0, 1, 5])]) (F := (fun s1 : Int × Int => ⟨sl [(0, (.tree (.int .i64) a0)), (1, (.v (.int .i64 s1.1))), (5, (.v (.int .i64 s1.2)))], []⟩)) (step := (fun s : Int × Int => laws_heldIntS_loop1 _ s.1 s.2)) _ H (by kernel_rfl) (sub_auto ?_) ?_; rotate_left; (intro s1 r v hr H); rotate_right)
        | ((repeat (first | replace H := grd_k H | replace H := out_step H (by assumption))); refine again_step H (by assumption) (sub_auto ?_))
        | ((with_reducible refine fin_mk ?_); (repeat (first | replace H := grd_k H | replace H := out_step H (by assumption))); have H := Option.some.inj H; subst H))
def G33 : Env := G32.add 15 [] laws_heldIntS.S
theorem G33_ok : EnvOk Try.prog G33 := G32_ok.add ent_15 fun ar h r h1 ⟨a0, a1, y, hy, e1, e2, e3, e4⟩ => by
  subst e3 e4; exact (laws_heldIntS.spec a0 a1 y hy).le e1 e2
attribute [local irreducible] laws_heldIntS

noncomputable def laws_markIntS_i1_loop1   : Option (Lp (Unit) ((Unit))) :=
  (some (.out ()))
noncomputable def laws_markIntS_i1 (a1 : Int) : Option (Int) :=
  ((iter (fun _ => laws_markIntS_i1_loop1) ()).bind (fun _ => (some a1)))
def laws_markIntS_i1.res (_ : Int) (y : Int) : AV := (.v (.int .i64 y))
def laws_markIntS_i1.out (_ : Int) (_ : Int) : List (Option LB) := []
def laws_markIntS_i1.S (ar : List AV) (h : List (Option LB)) (r : AV) (h1 : List (Option LB)) : Prop := ∃ a1 y, laws_markIntS_i1 a1 = some y ∧ leL ar [(.v (.slice none 0 0)), (.v (.int .i64 a1))] ∧ leH h [] ∧ r = laws_markIntS_i1.res a1 y ∧ h1 = laws_markIntS_i1.out a1 y
theorem laws_markIntS_i1.call {ar : List AV} {h : List (Option LB)} {a1 : Int} {y : Int} (H : laws_markIntS_i1 a1 = some y) (h0 : leLk ar [(.v (.slice none 0 0)), (.v (.int .i64 a1))] (leHk h [])) : laws_markIntS_i1.S ar h (laws_markIntS_i1.res a1 y) (laws_markIntS_i1.out a1 y) := ⟨a1, y, H, (args_ok h0).1, (args_ok h0).2, rfl, rfl⟩
set_option maxHeartbeats 100000000 in
set_option maxRecDepth 100000 in
theorem laws_markIntS_i1.spec (a1 : Int) (y : Int) (H : laws_markIntS_i1 a1 = some y) : Spec Try.prog 14 [(.v (.slice none 0 0)), (.v (.int .i64 a1))] [] (laws_markIntS_i1.res a1 y) (laws_markIntS_i1.out a1 y) := by
  refine spec_intro (G33_ok.at tok []) (ct := []) Try.func14 rfl (by kernel_rfl) (by kernel_rfl) rfl ?_
  repeat' first
    | ((with_reducible refine eqg ?_); exact rfl)
    | ((with_reducible refine KOb.mk ?_); kernel_rfl)
    | ((with_reducible intro h); (repeat (first | replace H := grd_k H | replace H := out_step H (by assumption))); first | replace H := cond_t h H | replace H := cond_f h H | exact absurd h (by decide) | skip)
    | ((with_reducible refine Ob.mk ?_); first | (with_reducible rfl) | (first | ((repeat (first | (with_reducible exact grd_p H) | (replace H := grd_k H) | (replace H := out_step H (by assumption)))); done) | rfl | ((repeat (first | exact grd_p H | replace H := grd_k H | replace H := out_step H (by assumption))); done) | ((repeat (first | exact grd_p H | (have hp := grd_p H; exact hp) | replace H := grd_k H | replace H := out_step H (by assumption) | (replace H := bind_some H; obtain ⟨_, _, H⟩ := H))); done) | (repeat (first | exact grd_p H | replace H := grd_k H | replace H := out_step H (by assumption)))))
    | (with_reducible exact True.intro)
    | constructor
    | ((conv => whnf); first
        | ((with_reducible refine Ob.mk ?_); first | (with_reducible rfl) | (first | ((repeat (first | (with_reducible exact grd_p H) | (replace H := grd_k H) | (replace H := out_step H (by assumption)))); done) | rfl | ((repeat (first | exact grd_p H | replace H := grd_k H | replace H := out_step H (by assumption))); done) | ((repeat (first | exact grd_p H | (have hp := grd_p H; exact hp) | replace H := grd_k H | replace H := out_step H (by assumption) | (replace H := bind_some H; obtain ⟨_, _, H⟩ := H))); done) | (repeat (first | exact grd_p H | replace H := grd_k H | replace H := out_step H (by assumption)))))
        | ((repeat (first | replace H := grd_k H | replace H := out_step H (by assumption))); refine loop_iter (G33_ok.at tok []) (ct := []) (F := (fun s1 : Unit => ⟨sl [(0, (.v (.slice none 0 0))), (1, (.v (.int .i64 a1))), (5, (.v (.int .i64 (0 : Int))))], []⟩)) (step := (fun s : Unit => laws_markIntS_i1_loop1)) _ H (by kernel_rfl) (sub_auto ?_) ?_; rotate_left; (intro s1 r v hr H); rotate_right)
        | ((repeat (first | replace H := grd_k H | replace H := out_step H (by assumption))); refine again_step H (by assumption) (sub_auto ?_))
        | ((with_reducible refine fin_mk ?_); (repeat (first | replace H := grd_k H | replace H := out_step H (by assumption))); have H := Option.some.inj H; subst H))
def G34 : Env := G33.addOr 14 [true] laws_markIntS_i1.S
theorem G34_ok : EnvOk Try.prog G34 := G33_ok.addOr ent_14 fun ar h r h1 ⟨a1, y, hy, e1, e2, e3, e4⟩ => by
  subst e3 e4; exact (laws_markIntS_i1.spec a1 y hy).le e1 e2
attribute [local irreducible] laws_markIntS_i1

noncomputable def laws_FnExactBestDays (a0 : (List DayRow)) (a1 : Int) : Option (Bool) :=
  ((laws_szDayRowS a0 (1048576 : Int)).bind fun y1 => (cond (decide (y1 < (0 : Int))) ((some true)) ((laws_toDayRowS a0).bind fun y2 => ((spec_BestDays y2 a1).bind fun y3 => ((laws_toDayRowS a0).bind fun y4 => ((impl_BestDays y4 a1).bind (Sum.elim (fun y6 => ((laws_eqIntS [] y3.1).bind fun y7 => (cond (!y7) ((some false)) (cond (!(false == y3.2)) ((some false)) ((laws_toDayRowS a0).bind fun y8 => ((laws_eqDayRowS y6 y8).bind fun y9 => (cond (!y9) ((some false)) ((laws_markDayRowS y6 (1 : Int)).bind fun y10 => (cond (decide (y10.1 < (0 : Int))) ((some false)) ((laws_eqIntS [] y3.1).bind fun y11 => (cond (!y11) ((some false)) (cond (!(false == y3.2)) ((some false)) ((laws_markIntS_i1 (1 : Int)).bind fun y12 => ((laws_heldIntS [] (1 : Int)).bind fun y13 => (cond (decide (y13 < (0 : Int))) ((some false)) (cond (!decide (y13 = y12)) ((some false)) (((laws_toDayRowS a0).bind fun y14 => ((impl_BestDays y14 a1).bind (Sum.elim (fun _ => (some ((Tg.mk : Tg 1), y3.2, y12, [], false, y3.1))) (fun y17 => (some ((Tg.mk : Tg 1), y3.2, y12, y17.1, true, y3.1)))))).bind fun z18 => ((laws_eqIntS z18.2.2.2.1 z18.2.2.2.2.2).bind fun y19 => (cond (!y19) ((some false)) (cond (!(z18.2.2.2.2.1 == z18.2.1)) ((some false)) ((laws_heldIntS [] (1 : Int)).bind fun y20 => (cond (decide (y20 < (0 : Int))) ((some false)) (cond (!decide (y20 = z18.2.2.1)) ((some false)) ((some true))))))))))))))))))))))))) (fun y21 => ((laws_eqIntS y21.1 y3.1).bind fun y22 => (cond (!y22) ((some false)) (cond (!(true == y3.2)) ((some false)) ((laws_toDayRowS a0).bind fun y23 => ((laws_eqDayRowS y21.2 y23).bind fun y24 => (cond (!y24) ((some false)) ((laws_markDayRowS y21.2 (1 : Int)).bind fun y25 => (cond (decide (y25.1 < (0 : Int))) ((some false)) ((laws_eqIntS y21.1 y3.1).bind fun y26 => (cond (!y26) ((some false)) (cond (!(true == y3.2)) ((some false)) ((laws_markIntS y21.1 (1 : Int)).bind fun y27 => ((laws_heldIntS y27.2 (1 : Int)).bind fun y28 => (cond (decide (y28 < (0 : Int))) ((some false)) (cond (!decide (y28 = y27.1)) ((some false)) (((laws_toDayRowS a0).bind fun y29 => ((impl_BestDays y29 a1).bind (Sum.elim (fun _ => (some ((Tg.mk : Tg 2), y3.2, y27.1, [], false, y3.1, y27.2))) (fun y32 => (some ((Tg.mk : Tg 2), y3.2, y27.1, y32.1, true, y3.1, y27.2)))))).bind fun z33 => ((laws_eqIntS z33.2.2.2.1 z33.2.2.2.2.2.1).bind fun y34 => (cond (!y34) ((some false)) (cond (!(z33.2.2.2.2.1 == z33.2.1)) ((some false)) ((laws_heldIntS z33.2.2.2.2.2.2 (1 : Int)).bind fun y35 => (cond (decide (y35 < (0 : Int))) ((some false)) (cond (!decide (y35 = z33.2.2.1)) ((some false)) ((some true))))))))))))))))))))))))))))))))
def laws_FnExactBestDays.res (_ : (List DayRow)) (_ : Int) (y : Bool) : AV := (.bl y)
def laws_FnExactBestDays.out (_ : (List DayRow)) (_ : Int) (_ : Bool) : List (Option LB) := []
def laws_FnExactBestDays.S (ar : List AV) (h : List (Option LB)) (r : AV) (h1 : List (Option LB)) : Prop := ∃ a0 a1 y, laws_FnExactBestDays a0 a1 = some y ∧ leL ar [(.tree ty_DayRow a0), (.v (.int .i64 a1))] ∧ leH h [] ∧ r = laws_FnExactBestDays.res a0 a1 y ∧ h1 = laws_FnExactBestDays.out a0 a1 y
theorem laws_FnExactBestDays.call {ar : List AV} {h : List (Option LB)} {a0 : (List DayRow)} {a1 : Int} {y : Bool} (H : laws_FnExactBestDays a0 a1 = some y) (h0 : leLk ar [(.tree ty_DayRow a0), (.v (.int .i64 a1))] (leHk h [])) : laws_FnExactBestDays.S ar h (laws_FnExactBestDays.res a0 a1 y) (laws_FnExactBestDays.out a0 a1 y) := ⟨a0, a1, y, H, (args_ok h0).1, (args_ok h0).2, rfl, rfl⟩
set_option maxHeartbeats 100000000 in
set_option maxRecDepth 100000 in
theorem laws_FnExactBestDays.spec (a0 : (List DayRow)) (a1 : Int) (y : Bool) (H : laws_FnExactBestDays a0 a1 = some y) : Spec Try.prog 5 [(.tree ty_DayRow a0), (.v (.int .i64 a1))] [] (laws_FnExactBestDays.res a0 a1 y) (laws_FnExactBestDays.out a0 a1 y) := by
  refine spec_intro (G34_ok.at tok []) (ct := [(25, none), (6, some [0, 1, 6, 7, 41, 42, 43, 56, 57, 58, 59, 62, 63, 64, 89, 90, 91]), (9, some [0, 1, 6, 7, 8, 9, 10, 44, 56, 57, 58, 59, 62, 63, 64, 89, 90, 91]), (15, some [0, 1, 6, 7, 9, 65, 89, 90, 91]), (22, some [0, 1, 6, 7, 9, 12, 13, 89, 90, 91]), (29, some [12, 13])]) Try.func5 rfl (by kernel_rfl) (by kernel_rfl) rfl ?_
  repeat' first
    | ((with_reducible refine eqg ?_); exact rfl)
    | ((with_reducible refine KOb.mk ?_); kernel_rfl)
    | ((with_reducible intro h); (repeat (first | replace H := grd_k H | replace H := out_step H (by assumption))); first | replace H := cond_t h H | replace H := cond_f h H | exact absurd h (by decide) | skip)
    | ((with_reducible refine Ob.mk ?_); first | (with_reducible rfl) | (first | ((repeat (first | (with_reducible exact grd_p H) | (replace H := grd_k H) | (replace H := out_step H (by assumption)))); done) | rfl | ((repeat (first | exact grd_p H | replace H := grd_k H | replace H := out_step H (by assumption))); done) | ((repeat (first | exact grd_p H | (have hp := grd_p H; exact hp) | replace H := grd_k H | replace H := out_step H (by assumption) | (replace H := bind_some H; obtain ⟨_, _, H⟩ := H))); done) | (repeat (first | exact grd_p H | replace H := grd_k H | replace H := out_step H (by assumption)))))
    | (with_reducible exact True.intro)
    | constructor
    | ((conv => whnf); first
        | ((with_reducible refine Ob.mk ?_); first | (with_reducible rfl) | (first | ((repeat (first | (with_reducible exact grd_p H) | (replace H := grd_k H) | (replace H := out_step H (by assumption)))); done) | rfl | ((repeat (first | exact grd_p H | replace H := grd_k H | replace H := out_step H (by assumption))); done) | ((repeat (first | exact grd_p H | (have hp := grd_p H; exact hp) | replace H := grd_k H | replace H := out_step H (by assumption) | (replace H := bind_some H; obtain ⟨_, _, H⟩ := H))); done) | (repeat (first | exact grd_p H | replace H := grd_k H | replace H := out_step H (by assumption)))))
        | ((with_reducible refine CallW.mk ?_); (repeat (first | replace H := grd_k H | replace H := out_step H (by assumption))); replace H := bind_some H; obtain ⟨y, hy, H⟩ := H; first | ((with_reducible have hz : laws_szDayRowS _ _ = some y := hy); clear hz; refine Exists.intro _ (Exists.intro _ ⟨laws_szDayRowS.call hy ?_, rfl, rfl, ?_⟩)) | ((with_reducible have hz : laws_toDayRowS _ = some y := hy); clear hz; refine Exists.intro _ (Exists.intro _ ⟨laws_toDayRowS.call hy ?_, rfl, rfl, ?_⟩)) | ((with_reducible have hz : spec_BestDays _ _ = some y := hy); clear hz; refine Exists.intro _ (Exists.intro _ ⟨spec_BestDays.call hy ?_, rfl, rfl, ?_⟩)) | ((with_reducible have hz : impl_BestDays _ _ = some y := hy); clear hz; rcases y with y | y <;> refine Exists.intro _ (Exists.intro _ ⟨impl_BestDays.call hy ?_, rfl, rfl, ?_⟩)) | ((with_reducible have hz : laws_eqIntS _ _ = some y := hy); clear hz; refine Exists.intro _ (Exists.intro _ ⟨laws_eqIntS.call hy ?_, rfl, rfl, ?_⟩)) | ((with_reducible have hz : laws_eqDayRowS _ _ = some y := hy); clear hz; refine Exists.intro _ (Exists.intro _ ⟨laws_eqDayRowS.call hy ?_, rfl, rfl, ?_⟩)) | ((with_reducible have hz : laws_markDayRowS _ _ = some y := hy); clear hz; refine Exists.intro _ (Exists.intro _ ⟨laws_markDayRowS.call hy ?_, rfl, rfl, ?_⟩)) | ((with_reducible have hz : laws_markIntS_i1 _ = some y := hy); clear hz; refine Exists.intro _ (Exists.intro _ ⟨Or.inl (laws_markIntS_i1.call hy ?_), rfl, rfl, ?_⟩)) | ((with_reducible have hz : laws_heldIntS _ _ = some y := hy); clear hz; refine Exists.intro _ (Exists.intro _ ⟨laws_heldIntS.call hy ?_, rfl, rfl, ?_⟩)) | ((with_reducible have hz : laws_markIntS _ _ = some y := hy); clear hz; refine Exists.intro _ (Exists.intro _ ⟨Or.inr (laws_markIntS.call hy ?_), rfl, rfl, ?_⟩)))
        | ((with_reducible refine cutAt (id := 25) ?_); (repeat (first | replace H := grd_k H | replace H := out_step H (by assumption))); first | (replace H := bind_some H; obtain ⟨z, hz, H⟩ := H; have hT : Tg 1 × Bool × Int × (List Int) × Bool × (List Int) := z; clear hT; refine CutC.mk (id := 25) ⟨sl [(6, (.own 0)), (7, (.bl z.2.1)), (9, (.v (.slice none 0 0))), (12, (.v (.int .i64 z.2.2.1))), (14, (.tree (.int .i64) z.2.2.2.1)), (15, (.bl z.2.2.2.2.1))], [some (.arr 3 (.int .i64) z.2.2.2.2.2)]⟩ ?_ ?_; (replace H := hz)) | (replace H := bind_some H; obtain ⟨z, hz, H⟩ := H; have hT : Tg 2 × Bool × Int × (List Int) × Bool × (List Int) × (List Int) := z; clear hT; refine CutC.mk (id := 25) ⟨sl [(6, (.own 0)), (7, (.bl z.2.1)), (9, (.own 1)), (12, (.v (.int .i64 z.2.2.1))), (14, (.tree (.int .i64) z.2.2.2.1)), (15, (.bl z.2.2.2.2.1))], [some (.arr 3 (.int .i64) z.2.2.2.2.2.1), some (.arr 3 (.int .i64) z.2.2.2.2.2.2)]⟩ ?_ ?_; (replace H := hz)))
        | ((repeat (first | replace H := grd_k H | replace H := out_step H (by assumption))); have H := Option.some.inj H; subst H; with_reducible refine sub_auto ?_)
        | ((with_reducible refine fin_mk ?_); (repeat (first | replace H := grd_k H | replace H := out_step H (by assumption))); have H := Option.some.inj H; subst H))
def G35 : Env := G34.add 5 [] laws_FnExactBestDays.S
theorem G35_ok : EnvOk Try.prog G35 := G34_ok.add ent_5 fun ar h r h1 ⟨a0, a1, y, hy, e1, e2, e3, e4⟩ => by
  subst e3 e4; exact (laws_FnExactBestDays.spec a0 a1 y hy).le e1 e2
attribute [local irreducible] laws_FnExactBestDays

end Go.Proofs.Yteckiilljhdkpaa
