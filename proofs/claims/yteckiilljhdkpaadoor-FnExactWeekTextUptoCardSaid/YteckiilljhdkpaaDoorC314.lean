/-
  Contracts, printed by a program.
-/
import Derived.Test.YteckiilljhdkpaaDoorC313
namespace Go.Proofs.YteckiilljhdkpaaDoor
open Go.RowKit
attribute [local irreducible] Ob loopwp Sub Spec Fin Again CallW CutC KOb iter joinx outm

attribute [local irreducible] laws_szDayRow laws_toDayRow spec_l1In spec_l2Word spec_l26One spec_l1Num spec_l1Num_f spec_l26Line spec_DayLine impl_within impl_isDay impl_isWord impl_IsDayRow strconv_Itoa impl_dayLine impl_DayLine laws_FnExactDayLine laws_szDayRowS laws_toDayRowS spec_l26Good spec_WeekText impl_AreDayRows impl_sums impl_WeekText laws_eqDayRow

noncomputable def laws_eqDayRowS_loop1 (a0 : (List DayRow)) (a1 : (List DayRow)) (v4 : Int) : Option (Lp (Int) ((Unit) ⊕ (Unit))) :=
  (cond (decide (v4 < (a0.length : Int))) (grd (0 ≤ v4 ∧ v4 < (a0.length : Int)) (grd (0 ≤ v4 ∧ v4 < (a1.length : Int)) ((laws_eqDayRow ((a0.getD v4.toNat d_DayRow).1, (a0.getD v4.toNat d_DayRow).2.1, (a0.getD v4.toNat d_DayRow).2.2.1, (a0.getD v4.toNat d_DayRow).2.2.2.1, (a0.getD v4.toNat d_DayRow).2.2.2.2.1, (a0.getD v4.toNat d_DayRow).2.2.2.2.2.1, ()) ((a1.getD v4.toNat d_DayRow).1, (a1.getD v4.toNat d_DayRow).2.1, (a1.getD v4.toNat d_DayRow).2.2.1, (a1.getD v4.toNat d_DayRow).2.2.2.1, (a1.getD v4.toNat d_DayRow).2.2.2.2.1, (a1.getD v4.toNat d_DayRow).2.2.2.2.2.1, ())).bind fun y5 => (cond (!y5) ((some (.out (Sum.inl ())))) (some (.go (w64 (v4 + (1 : Int))))))))) ((some (.out (Sum.inr ())))))
noncomputable def laws_eqDayRowS (a0 : (List DayRow)) (a1 : (List DayRow)) : Option (Bool) :=
  (cond (!decide ((a0.length : Int) = (a1.length : Int))) ((some false)) ((iter (fun s => laws_eqDayRowS_loop1 a0 a1 s) (0 : Int)).bind (Sum.elim (fun _ => (some false)) (fun _ => (some true)))))
def laws_eqDayRowS.res (_ : (List DayRow)) (_ : (List DayRow)) (y : Bool) : AV := (.bl y)
def laws_eqDayRowS.out (_ : (List DayRow)) (_ : (List DayRow)) (_ : Bool) : List (Option LB) := []
def laws_eqDayRowS.S (ar : List AV) (h : List (Option LB)) (r : AV) (h1 : List (Option LB)) : Prop := ∃ a0 a1 y, laws_eqDayRowS a0 a1 = some y ∧ leL ar [(.tree ty_DayRow a0), (.tree ty_DayRow a1)] ∧ leH h [] ∧ r = laws_eqDayRowS.res a0 a1 y ∧ h1 = laws_eqDayRowS.out a0 a1 y
theorem laws_eqDayRowS.call {ar : List AV} {h : List (Option LB)} {a0 : (List DayRow)} {a1 : (List DayRow)} {y : Bool} (H : laws_eqDayRowS a0 a1 = some y) (h0 : leLk ar [(.tree ty_DayRow a0), (.tree ty_DayRow a1)] (leHk h [])) : laws_eqDayRowS.S ar h (laws_eqDayRowS.res a0 a1 y) (laws_eqDayRowS.out a0 a1 y) := ⟨a0, a1, y, H, (args_ok h0).1, (args_ok h0).2, rfl, rfl⟩
set_option maxHeartbeats 100000000 in
set_option maxRecDepth 100000 in
theorem laws_eqDayRowS.spec (a0 : (List DayRow)) (a1 : (List DayRow)) (y : Bool) (H : laws_eqDayRowS a0 a1 = some y) : Spec Tryd.prog 19 [(.tree ty_DayRow a0), (.tree ty_DayRow a1)] [] (laws_eqDayRowS.res a0 a1 y) (laws_eqDayRowS.out a0 a1 y) := by
  refine spec_intro (G24_ok.at tok []) (ct := [(7, some [0, 1, 5, 26])]) Tryd.func19 rfl (by kernel_rfl) (by kernel_rfl) rfl ?_
  repeat' first
    | ((with_reducible refine eqg ?_); exact rfl)
    | ((with_reducible refine KOb.mk ?_); kernel_rfl)
    | ((with_reducible intro h); (repeat (first | replace H := grd_k H | replace H := out_step H (by assumption))); first | replace H := cond_t h H | replace H := cond_f h H | exact absurd h (by decide) | skip)
    | ((with_reducible refine Ob.mk ?_); first | (with_reducible rfl) | (first | ((repeat (first | (with_reducible exact grd_p H) | (replace H := grd_k H) | (replace H := out_step H (by assumption)))); done) | rfl | ((repeat (first | exact grd_p H | replace H := grd_k H | replace H := out_step H (by assumption))); done) | ((repeat (first | exact grd_p H | (have hp := grd_p H; exact hp) | replace H := grd_k H | replace H := out_step H (by assumption) | (replace H := bind_some H; obtain ⟨_, _, H⟩ := H))); done) | (repeat (first | exact grd_p H | replace H := grd_k H | replace H := out_step H (by assumption)))))
    | (with_reducible exact True.intro)
    | constructor
    | ((conv => whnf); first
        | ((with_reducible refine Ob.mk ?_); first | (with_reducible rfl) | (first | ((repeat (first | (with_reducible exact grd_p H) | (replace H := grd_k H) | (replace H := out_step H (by assumption)))); done) | rfl | ((repeat (first | exact grd_p H | replace H := grd_k H | replace H := out_step H (by assumption))); done) | ((repeat (first | exact grd_p H | (have hp := grd_p H; exact hp) | replace H := grd_k H | replace H := out_step H (by assumption) | (replace H := bind_some H; obtain ⟨_, _, H⟩ := H))); done) | (repeat (first | exact grd_p H | replace H := grd_k H | replace H := out_step H (by assumption)))))
        | ((with_reducible refine CallW.mk ?_); (repeat (first | replace H := grd_k H | replace H := out_step H (by assumption))); replace H := bind_some H; obtain ⟨y, hy, H⟩ := H; first | ((with_reducible have hz : laws_eqDayRow _ _ = some y := hy); clear hz; refine Exists.intro _ (Exists.intro _ ⟨laws_eqDayRow.call hy ?_, rfl, rfl, ?_⟩)))
        | ((repeat (first | replace H := grd_k H | replace H := out_step H (by assumption))); refine loop_iter (G24_ok.at tok []) (ct := [(7, some [0, 1, 5, 26])]) (F := (fun s1 : Int => ⟨sl [(0, (.tree ty_DayRow a0)), (1, (.tree ty_DayRow a1)), (5, (.v (.int .i64 s1)))], []⟩)) (step := (fun s : Int => laws_eqDayRowS_loop1 _ _ s)) _ H (by kernel_rfl) (sub_auto ?_) ?_; rotate_left; (intro s1 r v hr H); rotate_right)
        | ((repeat (first | replace H := grd_k H | replace H := out_step H (by assumption))); refine again_step H (by assumption) (sub_auto ?_))
        | ((with_reducible refine fin_mk ?_); (repeat (first | replace H := grd_k H | replace H := out_step H (by assumption))); have H := Option.some.inj H; subst H))
def G25 : Env := G24.add 19 [] laws_eqDayRowS.S
theorem G25_ok : EnvOk Tryd.prog G25 := G24_ok.add ent_19 fun ar h r h1 ⟨a0, a1, y, hy, e1, e2, e3, e4⟩ => by
  subst e3 e4; exact (laws_eqDayRowS.spec a0 a1 y hy).le e1 e2
attribute [local irreducible] laws_eqDayRowS

noncomputable def laws_FnExactWeekText (a0 : (List DayRow)) : Option (Bool) :=
  ((laws_szDayRowS a0 (1048576 : Int)).bind fun y1 => (cond (decide (y1 < (0 : Int))) ((some true)) ((laws_toDayRowS a0).bind fun y2 => ((spec_WeekText y2).bind fun y3 => ((laws_toDayRowS a0).bind fun y4 => ((impl_WeekText y4).bind fun y5 => (cond (!decide (y5.1 = y3.1)) ((some false)) (cond (!(y5.2 == y3.2)) ((some false)) ((laws_toDayRowS a0).bind fun y6 => ((laws_eqDayRowS y4 y6).bind fun y7 => (cond (!y7) ((some false)) ((some true)))))))))))))
def laws_FnExactWeekText.res (_ : (List DayRow)) (y : Bool) : AV := (.bl y)
def laws_FnExactWeekText.out (_ : (List DayRow)) (_ : Bool) : List (Option LB) := []
def laws_FnExactWeekText.S (ar : List AV) (h : List (Option LB)) (r : AV) (h1 : List (Option LB)) : Prop := ∃ a0 y, laws_FnExactWeekText a0 = some y ∧ leL ar [(.tree ty_DayRow a0)] ∧ leH h [] ∧ r = laws_FnExactWeekText.res a0 y ∧ h1 = laws_FnExactWeekText.out a0 y
theorem laws_FnExactWeekText.call {ar : List AV} {h : List (Option LB)} {a0 : (List DayRow)} {y : Bool} (H : laws_FnExactWeekText a0 = some y) (h0 : leLk ar [(.tree ty_DayRow a0)] (leHk h [])) : laws_FnExactWeekText.S ar h (laws_FnExactWeekText.res a0 y) (laws_FnExactWeekText.out a0 y) := ⟨a0, y, H, (args_ok h0).1, (args_ok h0).2, rfl, rfl⟩
set_option maxHeartbeats 100000000 in
set_option maxRecDepth 100000 in
theorem laws_FnExactWeekText.spec (a0 : (List DayRow)) (y : Bool) (H : laws_FnExactWeekText a0 = some y) : Spec Tryd.prog 4 [(.tree ty_DayRow a0)] [] (laws_FnExactWeekText.res a0 y) (laws_FnExactWeekText.out a0 y) := by
  refine spec_intro (G25_ok.at tok []) (ct := [(6, some [0, 4, 5, 31, 32, 33]), (9, some [0, 6, 34])]) Tryd.func4 rfl (by kernel_rfl) (by kernel_rfl) rfl ?_
  repeat' first
    | ((with_reducible refine eqg ?_); exact rfl)
    | ((with_reducible refine KOb.mk ?_); kernel_rfl)
    | ((with_reducible intro h); (repeat (first | replace H := grd_k H | replace H := out_step H (by assumption))); first | replace H := cond_t h H | replace H := cond_f h H | exact absurd h (by decide) | skip)
    | ((with_reducible refine Ob.mk ?_); first | (with_reducible rfl) | (first | ((repeat (first | (with_reducible exact grd_p H) | (replace H := grd_k H) | (replace H := out_step H (by assumption)))); done) | rfl | ((repeat (first | exact grd_p H | replace H := grd_k H | replace H := out_step H (by assumption))); done) | ((repeat (first | exact grd_p H | (have hp := grd_p H; exact hp) | replace H := grd_k H | replace H := out_step H (by assumption) | (replace H := bind_some H; obtain ⟨_, _, H⟩ := H))); done) | (repeat (first | exact grd_p H | replace H := grd_k H | replace H := out_step H (by assumption)))))
    | (with_reducible exact True.intro)
    | constructor
    | ((conv => whnf); first
        | ((with_reducible refine Ob.mk ?_); first | (with_reducible rfl) | (first | ((repeat (first | (with_reducible exact grd_p H) | (replace H := grd_k H) | (replace H := out_step H (by assumption)))); done) | rfl | ((repeat (first | exact grd_p H | replace H := grd_k H | replace H := out_step H (by assumption))); done) | ((repeat (first | exact grd_p H | (have hp := grd_p H; exact hp) | replace H := grd_k H | replace H := out_step H (by assumption) | (replace H := bind_some H; obtain ⟨_, _, H⟩ := H))); done) | (repeat (first | exact grd_p H | replace H := grd_k H | replace H := out_step H (by assumption)))))
        | ((with_reducible refine CallW.mk ?_); (repeat (first | replace H := grd_k H | replace H := out_step H (by assumption))); replace H := bind_some H; obtain ⟨y, hy, H⟩ := H; first | ((with_reducible have hz : laws_szDayRowS _ _ = some y := hy); clear hz; refine Exists.intro _ (Exists.intro _ ⟨laws_szDayRowS.call hy ?_, rfl, rfl, ?_⟩)) | ((with_reducible have hz : laws_toDayRowS _ = some y := hy); clear hz; refine Exists.intro _ (Exists.intro _ ⟨laws_toDayRowS.call hy ?_, rfl, rfl, ?_⟩)) | ((with_reducible have hz : spec_WeekText _ = some y := hy); clear hz; refine Exists.intro _ (Exists.intro _ ⟨spec_WeekText.call hy ?_, rfl, rfl, ?_⟩)) | ((with_reducible have hz : impl_WeekText _ = some y := hy); clear hz; refine Exists.intro _ (Exists.intro _ ⟨impl_WeekText.call hy ?_, rfl, rfl, ?_⟩)) | ((with_reducible have hz : laws_eqDayRowS _ _ = some y := hy); clear hz; refine Exists.intro _ (Exists.intro _ ⟨laws_eqDayRowS.call hy ?_, rfl, rfl, ?_⟩)))
        | ((with_reducible refine fin_mk ?_); (repeat (first | replace H := grd_k H | replace H := out_step H (by assumption))); have H := Option.some.inj H; subst H))
def G26 : Env := G25.add 4 [] laws_FnExactWeekText.S
theorem G26_ok : EnvOk Tryd.prog G26 := G25_ok.add ent_4 fun ar h r h1 ⟨a0, y, hy, e1, e2, e3, e4⟩ => by
  subst e3 e4; exact (laws_FnExactWeekText.spec a0 y hy).le e1 e2
attribute [local irreducible] laws_FnExactWeekText

end Go.Proofs.YteckiilljhdkpaaDoor
