/-
  Contracts, printed by a program.
-/
import Derived.Test.YtppiaacfnoifkaaDoorC904
namespace Go.Proofs.YtppiaacfnoifkaaDoor
open Go.RowKit
attribute [local irreducible] Ob loopwp Sub Spec Fin Again CallW CutC KOb iter joinx outm

attribute [local irreducible] spec_l1Split spec_l1In spec_l1Num spec_l1Num_f spec_l1Read spec_l2Word spec_l26One spec_l26Line spec_ParseDayLine strings_Cut internal_stringslite_HasPrefix internal_stringslite_TrimPrefix strings_TrimPrefix impl_ParseInt strings_Split internal_stringslite_HasSuffix internal_stringslite_TrimSuffix strings_TrimSuffix impl_within impl_isDay impl_isWord impl_IsDayRow strconv_Itoa impl_dayLine impl_ParseDayLine

noncomputable def laws_eqDayRow (a0 : DayRow) (a1 : DayRow) : Option (Bool) :=
  (cond (!decide (a0.1 = a1.1)) ((some false)) (cond (!decide (a0.2.1 = a1.2.1)) ((some false)) (cond (!decide (a0.2.2.1 = a1.2.2.1)) ((some false)) (cond (!decide (a0.2.2.2.1 = a1.2.2.2.1)) ((some false)) (cond (!decide (a0.2.2.2.2.1 = a1.2.2.2.2.1)) ((some false)) (cond (!decide (a0.2.2.2.2.2.1 = a1.2.2.2.2.2.1)) ((some false)) ((some true))))))))
def laws_eqDayRow.res (_ : DayRow) (_ : DayRow) (y : Bool) : AV := (.bl y)
def laws_eqDayRow.out (_ : DayRow) (_ : DayRow) (_ : Bool) : List (Option LB) := []
def laws_eqDayRow.S (ar : List AV) (h : List (Option LB)) (r : AV) (h1 : List (Option LB)) : Prop := ∃ a0 a1 y, laws_eqDayRow a0 a1 = some y ∧ leL ar [(.agg [(.v (.int .i64 a0.1)), (.v (.int .i64 a0.2.1)), (.v (.int .i64 a0.2.2.1)), (.v (.int .i64 a0.2.2.2.1)), (.v (.int .i64 a0.2.2.2.2.1)), (.v (.string a0.2.2.2.2.2.1))]), (.agg [(.v (.int .i64 a1.1)), (.v (.int .i64 a1.2.1)), (.v (.int .i64 a1.2.2.1)), (.v (.int .i64 a1.2.2.2.1)), (.v (.int .i64 a1.2.2.2.2.1)), (.v (.string a1.2.2.2.2.2.1))])] ∧ leH h [] ∧ r = laws_eqDayRow.res a0 a1 y ∧ h1 = laws_eqDayRow.out a0 a1 y
theorem laws_eqDayRow.call {ar : List AV} {h : List (Option LB)} {a0 : DayRow} {a1 : DayRow} {y : Bool} (H : laws_eqDayRow a0 a1 = some y) (h0 : leLk ar [(.agg [(.v (.int .i64 a0.1)), (.v (.int .i64 a0.2.1)), (.v (.int .i64 a0.2.2.1)), (.v (.int .i64 a0.2.2.2.1)), (.v (.int .i64 a0.2.2.2.2.1)), (.v (.string a0.2.2.2.2.2.1))]), (.agg [(.v (.int .i64 a1.1)), (.v (.int .i64 a1.2.1)), (.v (.int .i64 a1.2.2.1)), (.v (.int .i64 a1.2.2.2.1)), (.v (.int .i64 a1.2.2.2.2.1)), (.v (.string a1.2.2.2.2.2.1))])] (leHk h [])) : laws_eqDayRow.S ar h (laws_eqDayRow.res a0 a1 y) (laws_eqDayRow.out a0 a1 y) := ⟨a0, a1, y, H, (args_ok h0).1, (args_ok h0).2, rfl, rfl⟩
set_option maxHeartbeats 100000000 in
set_option maxRecDepth 100000 in
theorem laws_eqDayRow.spec (a0 : DayRow) (a1 : DayRow) (y : Bool) (H : laws_eqDayRow a0 a1 = some y) : Spec Tryd.prog 35 [(.agg [(.v (.int .i64 a0.1)), (.v (.int .i64 a0.2.1)), (.v (.int .i64 a0.2.2.1)), (.v (.int .i64 a0.2.2.2.1)), (.v (.int .i64 a0.2.2.2.2.1)), (.v (.string a0.2.2.2.2.2.1))]), (.agg [(.v (.int .i64 a1.1)), (.v (.int .i64 a1.2.1)), (.v (.int .i64 a1.2.2.1)), (.v (.int .i64 a1.2.2.2.1)), (.v (.int .i64 a1.2.2.2.2.1)), (.v (.string a1.2.2.2.2.2.1))])] [] (laws_eqDayRow.res a0 a1 y) (laws_eqDayRow.out a0 a1 y) := by
  refine spec_intro (G24_ok.at tok []) (ct := [(4, some [2, 3, 14]), (10, some [2, 3, 29])]) Tryd.func35 rfl (by kernel_rfl) (by kernel_rfl) rfl ?_
  repeat' first
    | ((with_reducible refine eqg ?_); exact rfl)
    | ((with_reducible refine KOb.mk ?_); kernel_rfl)
    | ((with_reducible intro h); (repeat (first | replace H := grd_k H | replace H := out_step H (by assumption))); first | replace H := cond_t h H | replace H := cond_f h H | exact absurd h (by decide) | skip)
    | ((with_reducible refine Ob.mk ?_); first | (with_reducible rfl) | (first | ((repeat (first | (with_reducible exact grd_p H) | (replace H := grd_k H) | (replace H := out_step H (by assumption)))); done) | rfl | ((repeat (first | exact grd_p H | replace H := grd_k H | replace H := out_step H (by assumption))); done) | ((repeat (first | exact grd_p H | (have hp := grd_p H; exact hp) | replace H := grd_k H | replace H := out_step H (by assumption) | (replace H := bind_some H; obtain ⟨_, _, H⟩ := H))); done) | (repeat (first | exact grd_p H | replace H := grd_k H | replace H := out_step H (by assumption)))))
    | (with_reducible exact True.intro)
    | ((conv => whnf); first
        | (with_reducible refine And.intro ?_ ?_)
        | (with_reducible exact True.intro)
        | ((with_reducible refine Ob.mk ?_); first | (with_reducible rfl) | (first | ((repeat (first | (with_reducible exact grd_p H) | (replace H := grd_k H) | (replace H := out_step H (by assumption)))); done) | rfl | ((repeat (first | exact grd_p H | replace H := grd_k H | replace H := out_step H (by assumption))); done) | ((repeat (first | exact grd_p H | (have hp := grd_p H; exact hp) | replace H := grd_k H | replace H := out_step H (by assumption) | (replace H := bind_some H; obtain ⟨_, _, H⟩ := H))); done) | (repeat (first | exact grd_p H | replace H := grd_k H | replace H := out_step H (by assumption)))))
        | ((with_reducible refine fin_mk ?_); (repeat (first | replace H := grd_k H | replace H := out_step H (by assumption))); have H := Option.some.inj H; subst H))
    | constructor
def G25 : Env := G24.add 35 [] laws_eqDayRow.S
theorem G25_ok : EnvOk Tryd.prog G25 := G24_ok.add ent_35 fun ar h r h1 ⟨a0, a1, y, hy, e1, e2, e3, e4⟩ => by
  subst e3 e4; exact (laws_eqDayRow.spec a0 a1 y hy).le e1 e2
attribute [local irreducible] laws_eqDayRow

noncomputable def laws_FnExactParseDayLine (a0 : ByteArray) : Option (Bool) :=
  (cond (decide ((1048576 : Int) < (a0.size : Int))) ((some true)) ((spec_ParseDayLine a0).bind fun y1 => ((impl_ParseDayLine a0).bind fun y2 => ((laws_eqDayRow (y2.1.1, y2.1.2.1, y2.1.2.2.1, y2.1.2.2.2.1, y2.1.2.2.2.2.1, y2.1.2.2.2.2.2.1, ()) (y1.1.1, y1.1.2.1, y1.1.2.2.1, y1.1.2.2.2.1, y1.1.2.2.2.2.1, y1.1.2.2.2.2.2.1, ())).bind fun y3 => (cond (!y3) ((some false)) (cond (!(y2.2 == y1.2)) ((some false)) ((some true))))))))
def laws_FnExactParseDayLine.res (_ : ByteArray) (y : Bool) : AV := (.bl y)
def laws_FnExactParseDayLine.out (_ : ByteArray) (_ : Bool) : List (Option LB) := []
def laws_FnExactParseDayLine.S (ar : List AV) (h : List (Option LB)) (r : AV) (h1 : List (Option LB)) : Prop := ∃ a0 y, laws_FnExactParseDayLine a0 = some y ∧ leL ar [(.v (.string a0))] ∧ leH h [] ∧ r = laws_FnExactParseDayLine.res a0 y ∧ h1 = laws_FnExactParseDayLine.out a0 y
theorem laws_FnExactParseDayLine.call {ar : List AV} {h : List (Option LB)} {a0 : ByteArray} {y : Bool} (H : laws_FnExactParseDayLine a0 = some y) (h0 : leLk ar [(.v (.string a0))] (leHk h [])) : laws_FnExactParseDayLine.S ar h (laws_FnExactParseDayLine.res a0 y) (laws_FnExactParseDayLine.out a0 y) := ⟨a0, y, H, (args_ok h0).1, (args_ok h0).2, rfl, rfl⟩
set_option maxHeartbeats 100000000 in
set_option maxRecDepth 100000 in
theorem laws_FnExactParseDayLine.spec (a0 : ByteArray) (y : Bool) (H : laws_FnExactParseDayLine a0 = some y) : Spec Tryd.prog 6 [(.v (.string a0))] [] (laws_FnExactParseDayLine.res a0 y) (laws_FnExactParseDayLine.out a0 y) := by
  refine spec_intro (G25_ok.at tok []) (ct := [(5, some [3, 4, 5, 6, 25, 26, 27])]) Tryd.func6 rfl (by kernel_rfl) (by kernel_rfl) rfl ?_
  repeat' first
    | ((with_reducible refine eqg ?_); exact rfl)
    | ((with_reducible refine KOb.mk ?_); kernel_rfl)
    | ((with_reducible intro h); (repeat (first | replace H := grd_k H | replace H := out_step H (by assumption))); first | replace H := cond_t h H | replace H := cond_f h H | exact absurd h (by decide) | skip)
    | ((with_reducible refine Ob.mk ?_); first | (with_reducible rfl) | (first | ((repeat (first | (with_reducible exact grd_p H) | (replace H := grd_k H) | (replace H := out_step H (by assumption)))); done) | rfl | ((repeat (first | exact grd_p H | replace H := grd_k H | replace H := out_step H (by assumption))); done) | ((repeat (first | exact grd_p H | (have hp := grd_p H; exact hp) | replace H := grd_k H | replace H := out_step H (by assumption) | (replace H := bind_some H; obtain ⟨_, _, H⟩ := H))); done) | (repeat (first | exact grd_p H | replace H := grd_k H | replace H := out_step H (by assumption)))))
    | (with_reducible exact True.intro)
    | ((conv => whnf); first
        | (with_reducible refine And.intro ?_ ?_)
        | (with_reducible exact True.intro)
        | ((with_reducible refine Ob.mk ?_); first | (with_reducible rfl) | (first | ((repeat (first | (with_reducible exact grd_p H) | (replace H := grd_k H) | (replace H := out_step H (by assumption)))); done) | rfl | ((repeat (first | exact grd_p H | replace H := grd_k H | replace H := out_step H (by assumption))); done) | ((repeat (first | exact grd_p H | (have hp := grd_p H; exact hp) | replace H := grd_k H | replace H := out_step H (by assumption) | (replace H := bind_some H; obtain ⟨_, _, H⟩ := H))); done) | (repeat (first | exact grd_p H | replace H := grd_k H | replace H := out_step H (by assumption)))))
        | ((with_reducible refine CallW.mk ?_); (repeat (first | replace H := grd_k H | replace H := out_step H (by assumption))); replace H := bind_some H; obtain ⟨y, hy, H⟩ := H; first | ((with_reducible have hz : spec_ParseDayLine _ = some y := hy); clear hz; refine Exists.intro _ (Exists.intro _ ⟨spec_ParseDayLine.call hy ?_, rfl, rfl, ?_⟩)) | ((with_reducible have hz : impl_ParseDayLine _ = some y := hy); clear hz; refine Exists.intro _ (Exists.intro _ ⟨impl_ParseDayLine.call hy ?_, rfl, rfl, ?_⟩)) | ((with_reducible have hz : laws_eqDayRow _ _ = some y := hy); clear hz; refine Exists.intro _ (Exists.intro _ ⟨laws_eqDayRow.call hy ?_, rfl, rfl, ?_⟩)))
        | ((with_reducible refine fin_mk ?_); (repeat (first | replace H := grd_k H | replace H := out_step H (by assumption))); have H := Option.some.inj H; subst H))
    | constructor
def G26 : Env := G25.add 6 [] laws_FnExactParseDayLine.S
theorem G26_ok : EnvOk Tryd.prog G26 := G25_ok.add ent_6 fun ar h r h1 ⟨a0, y, hy, e1, e2, e3, e4⟩ => by
  subst e3 e4; exact (laws_FnExactParseDayLine.spec a0 y hy).le e1 e2
attribute [local irreducible] laws_FnExactParseDayLine

end Go.Proofs.YtppiaacfnoifkaaDoor
