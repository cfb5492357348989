/-
  Contracts, printed by a program.
-/
import Derived.Test.YtjpnifmbgemibaaDoorC813
namespace Go.Proofs.YtjpnifmbgemibaaDoor
open Go.RowKit
attribute [local irreducible] Ob loopwp Sub Spec Fin Again CallW CutC KOb iter joinx outm

attribute [local irreducible] laws_rBig spec_l1Cur_next spec_l1Cur_pick spec_l1Cur_among spec_l1Cur_one spec_l1Cur_of spec_l1Cur_dayRow spec_DrawIsDayRow spec_DrawDayLine impl_within impl_isDay impl_isWord impl_IsDayRow strconv_Itoa impl_dayLine impl_DayLine spec_l1In spec_l2Word spec_l26One spec_l1Num spec_l1Num_f spec_l26Line

noncomputable def spec_DayLine (a0 : DayRow) : Option (ByteArray × Bool) :=
  ((spec_l26One (a0.1, a0.2.1, a0.2.2.1, a0.2.2.2.1, a0.2.2.2.2.1, a0.2.2.2.2.2.1, ())).bind fun y1 => (cond (!y1) ((some ((ByteArray.mk #[]), false))) ((spec_l26Line (a0.1, a0.2.1, a0.2.2.1, a0.2.2.2.1, a0.2.2.2.2.1, a0.2.2.2.2.2.1, ())).bind fun y2 => (some (y2, true)))))
def spec_DayLine.res (_ : DayRow) (y : ByteArray × Bool) : AV := (.tup [(.v (.string y.1)), (.bl y.2)])
def spec_DayLine.out (_ : DayRow) (_ : ByteArray × Bool) : List (Option LB) := []
def spec_DayLine.S (ar : List AV) (h : List (Option LB)) (r : AV) (h1 : List (Option LB)) : Prop := ∃ a0 y, spec_DayLine a0 = some y ∧ leL ar [(.agg [(.v (.int .i64 a0.1)), (.v (.int .i64 a0.2.1)), (.v (.int .i64 a0.2.2.1)), (.v (.int .i64 a0.2.2.2.1)), (.v (.int .i64 a0.2.2.2.2.1)), (.v (.string a0.2.2.2.2.2.1))])] ∧ leH h [] ∧ r = spec_DayLine.res a0 y ∧ h1 = spec_DayLine.out a0 y
theorem spec_DayLine.call {ar : List AV} {h : List (Option LB)} {a0 : DayRow} {y : ByteArray × Bool} (H : spec_DayLine a0 = some y) (h0 : leLk ar [(.agg [(.v (.int .i64 a0.1)), (.v (.int .i64 a0.2.1)), (.v (.int .i64 a0.2.2.1)), (.v (.int .i64 a0.2.2.2.1)), (.v (.int .i64 a0.2.2.2.2.1)), (.v (.string a0.2.2.2.2.2.1))])] (leHk h [])) : spec_DayLine.S ar h (spec_DayLine.res a0 y) (spec_DayLine.out a0 y) := ⟨a0, y, H, (args_ok h0).1, (args_ok h0).2, rfl, rfl⟩
set_option maxHeartbeats 100000000 in
set_option maxRecDepth 100000 in
theorem spec_DayLine.spec (a0 : DayRow) (y : ByteArray × Bool) (H : spec_DayLine a0 = some y) : Spec Tryd.prog 7 [(.agg [(.v (.int .i64 a0.1)), (.v (.int .i64 a0.2.1)), (.v (.int .i64 a0.2.2.1)), (.v (.int .i64 a0.2.2.2.1)), (.v (.int .i64 a0.2.2.2.2.1)), (.v (.string a0.2.2.2.2.2.1))])] [] (spec_DayLine.res a0 y) (spec_DayLine.out a0 y) := by
  refine spec_intro (G21_ok.at tok []) (ct := []) Tryd.func7 rfl (by kernel_rfl) (by kernel_rfl) rfl ?_
  repeat' first
    | ((with_reducible refine eqg ?_); exact rfl)
    | ((with_reducible refine KOb.mk ?_); kernel_rfl)
    | ((with_reducible intro h); (repeat (first | replace H := grd_k H | replace H := out_step H (by assumption))); first | replace H := cond_t h H | replace H := cond_f h H | exact absurd h (by decide) | skip)
    | ((with_reducible refine Ob.mk ?_); first | (with_reducible rfl) | (first | ((repeat (first | (with_reducible exact grd_p H) | (replace H := grd_k H) | (replace H := out_step H (by assumption)))); done) | rfl | ((repeat (first | exact grd_p H | replace H := grd_k H | replace H := out_step H (by assumption))); done) | ((repeat (first | exact grd_p H | (have hp := grd_p H; exact hp) | replace H := grd_k H | replace H := out_step H (by assumption) | (replace H := bind_some H; obtain ⟨_, _, H⟩ := H))); done) | (repeat (first | exact grd_p H | replace H := grd_k H | replace H := out_step H (by assumption)))))
    | (with_reducible exact True.intro)
    | ((conv => whnf); first
        | (with_reducible refine And.intro ?_ ?_)
        | (with_reducible exact True.intro)
        | ((with_reducible refine Ob.mk ?_); first | (with_reducible rfl) | (first | ((repeat (first | (with_reducible exact grd_p H) | (replace H := grd_k H) | (replace H := out_step H (by assumption)))); done) | rfl | ((repeat (first | exact grd_p H | replace H := grd_k H | replace H := out_step H (by assumption))); done) | ((repeat (first | exact grd_p H | (have hp := grd_p H; exact hp) | replace H := grd_k H | replace H := out_step H (by assumption) | (replace H := bind_some H; obtain ⟨_, _, H⟩ := H))); done) | (repeat (first | exact grd_p H | replace H := grd_k H | replace H := out_step H (by assumption)))))
        | ((with_reducible refine CallW.mk ?_); (repeat (first | replace H := grd_k H | replace H := out_step H (by assumption))); replace H := bind_some H; obtain ⟨y, hy, H⟩ := H; first | ((with_reducible have hz : spec_l26One _ = some y := hy); clear hz; refine Exists.intro _ (Exists.intro _ ⟨spec_l26One.call hy ?_, rfl, rfl, ?_⟩)) | ((with_reducible have hz : spec_l26Line _ = some y := hy); clear hz; refine Exists.intro _ (Exists.intro _ ⟨spec_l26Line.call hy ?_, rfl, rfl, ?_⟩)))
        | ((with_reducible refine fin_mk ?_); (repeat (first | replace H := grd_k H | replace H := out_step H (by assumption))); have H := Option.some.inj H; subst H))
    | constructor
def G22 : Env := G21.add 7 [] spec_DayLine.S
theorem G22_ok : EnvOk Tryd.prog G22 := G21_ok.add ent_7 fun ar h r h1 ⟨a0, y, hy, e1, e2, e3, e4⟩ => by
  subst e3 e4; exact (spec_DayLine.spec a0 y hy).le e1 e2
attribute [local irreducible] spec_DayLine

noncomputable def strings_Cut (a0 : ByteArray) (a1 : ByteArray) : Option (ByteArray × ByteArray × Bool) :=
  (grd (a0.size < 4294967281) ((some ((cutA a0 a1), (cutB a0 a1), (cutF a0 a1)))))
def strings_Cut.res (_ : ByteArray) (_ : ByteArray) (y : ByteArray × ByteArray × Bool) : AV := (.tup [(.v (.string y.1)), (.v (.string y.2.1)), (.bl y.2.2)])
def strings_Cut.out (_ : ByteArray) (_ : ByteArray) (_ : ByteArray × ByteArray × Bool) : List (Option LB) := []
def strings_Cut.S (ar : List AV) (h : List (Option LB)) (r : AV) (h1 : List (Option LB)) : Prop := ∃ a0 a1 y, strings_Cut a0 a1 = some y ∧ leL ar [(.v (.string a0)), (.v (.string a1))] ∧ leH h [] ∧ r = strings_Cut.res a0 a1 y ∧ h1 = strings_Cut.out a0 a1 y
theorem strings_Cut.call {ar : List AV} {h : List (Option LB)} {a0 : ByteArray} {a1 : ByteArray} {y : ByteArray × ByteArray × Bool} (H : strings_Cut a0 a1 = some y) (h0 : leLk ar [(.v (.string a0)), (.v (.string a1))] (leHk h [])) : strings_Cut.S ar h (strings_Cut.res a0 a1 y) (strings_Cut.out a0 a1 y) := ⟨a0, a1, y, H, (args_ok h0).1, (args_ok h0).2, rfl, rfl⟩
theorem strings_Cut.spec (a0 : ByteArray) (a1 : ByteArray) (y : ByteArray × ByteArray × Bool) (H : strings_Cut a0 a1 = some y) : Spec Tryd.prog 27 [(.v (.string a0)), (.v (.string a1))] [] (strings_Cut.res a0 a1 y) (strings_Cut.out a0 a1 y) := by
  have hg := grd_p H
  have H := Option.some.inj (grd_k H)
  subst H
  exact ext_strings_Cut a0 a1 hg
def G23 : Env := G22.add 27 [] strings_Cut.S
theorem G23_ok : EnvOk Tryd.prog G23 := G22_ok.add ent_27 fun ar h r h1 ⟨a0, a1, y, hy, e1, e2, e3, e4⟩ => by
  subst e3 e4; exact (strings_Cut.spec a0 a1 y hy).le e1 e2
attribute [local irreducible] strings_Cut

noncomputable def internal_stringslite_HasPrefix (a0 : ByteArray) (a1 : ByteArray) : Option (Bool) :=
  (cond (decide ((a1.size : Int) ≤ (a0.size : Int))) (grd (0 ≤ (0 : Int) ∧ (0 : Int) ≤ (a1.size : Int) ∧ (a1.size : Int) ≤ (a0.size : Int)) ((some (decide ((bsub a0 (0 : Int) (a1.size : Int)) = a1))))) ((some false)))
def internal_stringslite_HasPrefix.res (_ : ByteArray) (_ : ByteArray) (y : Bool) : AV := (.bl y)
def internal_stringslite_HasPrefix.out (_ : ByteArray) (_ : ByteArray) (_ : Bool) : List (Option LB) := []
def internal_stringslite_HasPrefix.S (ar : List AV) (h : List (Option LB)) (r : AV) (h1 : List (Option LB)) : Prop := ∃ a0 a1 y, internal_stringslite_HasPrefix a0 a1 = some y ∧ leL ar [(.v (.string a0)), (.v (.string a1))] ∧ leH h [] ∧ r = internal_stringslite_HasPrefix.res a0 a1 y ∧ h1 = internal_stringslite_HasPrefix.out a0 a1 y
theorem internal_stringslite_HasPrefix.call {ar : List AV} {h : List (Option LB)} {a0 : ByteArray} {a1 : ByteArray} {y : Bool} (H : internal_stringslite_HasPrefix a0 a1 = some y) (h0 : leLk ar [(.v (.string a0)), (.v (.string a1))] (leHk h [])) : internal_stringslite_HasPrefix.S ar h (internal_stringslite_HasPrefix.res a0 a1 y) (internal_stringslite_HasPrefix.out a0 a1 y) := ⟨a0, a1, y, H, (args_ok h0).1, (args_ok h0).2, rfl, rfl⟩
set_option maxHeartbeats 100000000 in
set_option maxRecDepth 100000 in
theorem internal_stringslite_HasPrefix.spec (a0 : ByteArray) (a1 : ByteArray) (y : Bool) (H : internal_stringslite_HasPrefix a0 a1 = some y) : Spec Tryd.prog 58 [(.v (.string a0)), (.v (.string a1))] [] (internal_stringslite_HasPrefix.res a0 a1 y) (internal_stringslite_HasPrefix.out a0 a1 y) := by
  refine spec_intro (G23_ok.at tok []) (ct := []) Tryd.func58 rfl (by kernel_rfl) (by kernel_rfl) rfl ?_
  repeat' first
    | ((with_reducible refine eqg ?_); exact rfl)
    | ((with_reducible refine KOb.mk ?_); kernel_rfl)
    | ((with_reducible intro h); (repeat (first | replace H := grd_k H | replace H := out_step H (by assumption))); first | replace H := cond_t h H | replace H := cond_f h H | exact absurd h (by decide) | skip)
    | ((with_reducible refine Ob.mk ?_); first | (with_reducible rfl) | (first | ((repeat (first | (with_reducible exact grd_p H) | (replace H := grd_k H) | (replace H := out_step H (by assumption)))); done) | rfl | ((repeat (first | exact grd_p H | replace H := grd_k H | replace H := out_step H (by assumption))); done) | ((repeat (first | exact grd_p H | (have hp := grd_p H; exact hp) | replace H := grd_k H | replace H := out_step H (by assumption) | (replace H := bind_some H; obtain ⟨_, _, H⟩ := H))); done) | (repeat (first | exact grd_p H | replace H := grd_k H | replace H := out_step H (by assumption)))))
    | (with_reducible exact True.intro)
    | ((conv => whnf); first
        | (with_reducible refine And.intro ?_ ?_)
        | (with_reducible exact True.intro)
        | ((with_reducible refine Ob.mk ?_); first | (with_reducible rfl) | (first | ((repeat (first | (with_reducible exact grd_p H) | (replace H := grd_k H) | (replace H := out_step H (by assumption)))); done) | rfl | ((repeat (first | exact grd_p H | replace H := grd_k H | replace H := out_step H (by assumption))); done) | ((repeat (first | exact grd_p H | (have hp := grd_p H; exact hp) | replace H := grd_k H | replace H := out_step H (by assumption) | (replace H := bind_some H; obtain ⟨_, _, H⟩ := H))); done) | (repeat (first | exact grd_p H | replace H := grd_k H | replace H := out_step H (by assumption)))))
        | ((with_reducible refine fin_mk ?_); (repeat (first | replace H := grd_k H | replace H := out_step H (by assumption))); have H := Option.some.inj H; subst H))
    | constructor
def G24 : Env := G23.add 58 [] internal_stringslite_HasPrefix.S
theorem G24_ok : EnvOk Tryd.prog G24 := G23_ok.add ent_58 fun ar h r h1 ⟨a0, a1, y, hy, e1, e2, e3, e4⟩ => by
  subst e3 e4; exact (internal_stringslite_HasPrefix.spec a0 a1 y hy).le e1 e2
attribute [local irreducible] internal_stringslite_HasPrefix

noncomputable def internal_stringslite_TrimPrefix (a0 : ByteArray) (a1 : ByteArray) : Option (ByteArray) :=
  ((internal_stringslite_HasPrefix a0 a1).bind fun y1 => (cond y1 (grd (0 ≤ (a1.size : Int) ∧ (a1.size : Int) ≤ (a0.size : Int) ∧ (a0.size : Int) ≤ (a0.size : Int)) ((some (bsub a0 (a1.size : Int) (a0.size : Int))))) ((some a0))))
def internal_stringslite_TrimPrefix.res (_ : ByteArray) (_ : ByteArray) (y : ByteArray) : AV := (.v (.string y))
def internal_stringslite_TrimPrefix.out (_ : ByteArray) (_ : ByteArray) (_ : ByteArray) : List (Option LB) := []
def internal_stringslite_TrimPrefix.S (ar : List AV) (h : List (Option LB)) (r : AV) (h1 : List (Option LB)) : Prop := ∃ a0 a1 y, internal_stringslite_TrimPrefix a0 a1 = some y ∧ leL ar [(.v (.string a0)), (.v (.string a1))] ∧ leH h [] ∧ r = internal_stringslite_TrimPrefix.res a0 a1 y ∧ h1 = internal_stringslite_TrimPrefix.out a0 a1 y
theorem internal_stringslite_TrimPrefix.call {ar : List AV} {h : List (Option LB)} {a0 : ByteArray} {a1 : ByteArray} {y : ByteArray} (H : internal_stringslite_TrimPrefix a0 a1 = some y) (h0 : leLk ar [(.v (.string a0)), (.v (.string a1))] (leHk h [])) : internal_stringslite_TrimPrefix.S ar h (internal_stringslite_TrimPrefix.res a0 a1 y) (internal_stringslite_TrimPrefix.out a0 a1 y) := ⟨a0, a1, y, H, (args_ok h0).1, (args_ok h0).2, rfl, rfl⟩
set_option maxHeartbeats 100000000 in
set_option maxRecDepth 100000 in
theorem internal_stringslite_TrimPrefix.spec (a0 : ByteArray) (a1 : ByteArray) (y : ByteArray) (H : internal_stringslite_TrimPrefix a0 a1 = some y) : Spec Tryd.prog 48 [(.v (.string a0)), (.v (.string a1))] [] (internal_stringslite_TrimPrefix.res a0 a1 y) (internal_stringslite_TrimPrefix.out a0 a1 y) := by
  refine spec_intro (G24_ok.at tok []) (ct := []) Tryd.func48 rfl (by kernel_rfl) (by kernel_rfl) rfl ?_
  repeat' first
    | ((with_reducible refine eqg ?_); exact rfl)
    | ((with_reducible refine KOb.mk ?_); kernel_rfl)
    | ((with_reducible intro h); (repeat (first | replace H := grd_k H | replace H := out_step H (by assumption))); first | replace H := cond_t h H | replace H := cond_f h H | exact absurd h (by decide) | skip)
    | ((with_reducible refine Ob.mk ?_); first | (with_reducible rfl) | (first | ((repeat (first | (with_reducible exact grd_p H) | (replace H := grd_k H) | (replace H := out_step H (by assumption)))); done) | rfl | ((repeat (first | exact grd_p H | replace H := grd_k H | replace H := out_step H (by assumption))); done) | ((repeat (first | exact grd_p H | (have hp := grd_p H; exact hp) | replace H := grd_k H | replace H := out_step H (by assumption) | (replace H := bind_some H; obtain ⟨_, _, H⟩ := H))); done) | (repeat (first | exact grd_p H | replace H := grd_k H | replace H := out_step H (by assumption)))))
    | (with_reducible exact True.intro)
    | ((conv => whnf); first
        | (with_reducible refine And.intro ?_ ?_)
        | (with_reducible exact True.intro)
        | ((with_reducible refine Ob.mk ?_); first | (with_reducible rfl) | (first | ((repeat (first | (with_reducible exact grd_p H) | (replace H := grd_k H) | (replace H := out_step H (by assumption)))); done) | rfl | ((repeat (first | exact grd_p H | replace H := grd_k H | replace H := out_step H (by assumption))); done) | ((repeat (first | exact grd_p H | (have hp := grd_p H; exact hp) | replace H := grd_k H | replace H := out_step H (by assumption) | (replace H := bind_some H; obtain ⟨_, _, H⟩ := H))); done) | (repeat (first | exact grd_p H | replace H := grd_k H | replace H := out_step H (by assumption)))))
        | ((with_reducible refine CallW.mk ?_); (repeat (first | replace H := grd_k H | replace H := out_step H (by assumption))); replace H := bind_some H; obtain ⟨y, hy, H⟩ := H; first | ((with_reducible have hz : internal_stringslite_HasPrefix _ _ = some y := hy); clear hz; refine Exists.intro _ (Exists.intro _ ⟨internal_stringslite_HasPrefix.call hy ?_, rfl, rfl, ?_⟩)))
        | ((with_reducible refine fin_mk ?_); (repeat (first | replace H := grd_k H | replace H := out_step H (by assumption))); have H := Option.some.inj H; subst H))
    | constructor
def G25 : Env := G24.add 48 [] internal_stringslite_TrimPrefix.S
theorem G25_ok : EnvOk Tryd.prog G25 := G24_ok.add ent_48 fun ar h r h1 ⟨a0, a1, y, hy, e1, e2, e3, e4⟩ => by
  subst e3 e4; exact (internal_stringslite_TrimPrefix.spec a0 a1 y hy).le e1 e2
attribute [local irreducible] internal_stringslite_TrimPrefix

noncomputable def strings_TrimPrefix (a0 : ByteArray) (a1 : ByteArray) : Option (ByteArray) :=
  ((internal_stringslite_TrimPrefix a0 a1).bind fun y1 => (some y1))
def strings_TrimPrefix.res (_ : ByteArray) (_ : ByteArray) (y : ByteArray) : AV := (.v (.string y))
def strings_TrimPrefix.out (_ : ByteArray) (_ : ByteArray) (_ : ByteArray) : List (Option LB) := []
def strings_TrimPrefix.S (ar : List AV) (h : List (Option LB)) (r : AV) (h1 : List (Option LB)) : Prop := ∃ a0 a1 y, strings_TrimPrefix a0 a1 = some y ∧ leL ar [(.v (.string a0)), (.v (.string a1))] ∧ leH h [] ∧ r = strings_TrimPrefix.res a0 a1 y ∧ h1 = strings_TrimPrefix.out a0 a1 y
theorem strings_TrimPrefix.call {ar : List AV} {h : List (Option LB)} {a0 : ByteArray} {a1 : ByteArray} {y : ByteArray} (H : strings_TrimPrefix a0 a1 = some y) (h0 : leLk ar [(.v (.string a0)), (.v (.string a1))] (leHk h [])) : strings_TrimPrefix.S ar h (strings_TrimPrefix.res a0 a1 y) (strings_TrimPrefix.out a0 a1 y) := ⟨a0, a1, y, H, (args_ok h0).1, (args_ok h0).2, rfl, rfl⟩
set_option maxHeartbeats 100000000 in
set_option maxRecDepth 100000 in
theorem strings_TrimPrefix.spec (a0 : ByteArray) (a1 : ByteArray) (y : ByteArray) (H : strings_TrimPrefix a0 a1 = some y) : Spec Tryd.prog 29 [(.v (.string a0)), (.v (.string a1))] [] (strings_TrimPrefix.res a0 a1 y) (strings_TrimPrefix.out a0 a1 y) := by
  refine spec_intro (G25_ok.at tok []) (ct := []) Tryd.func29 rfl (by kernel_rfl) (by kernel_rfl) rfl ?_
  repeat' first
    | ((with_reducible refine eqg ?_); exact rfl)
    | ((with_reducible refine KOb.mk ?_); kernel_rfl)
    | ((with_reducible intro h); (repeat (first | replace H := grd_k H | replace H := out_step H (by assumption))); first | replace H := cond_t h H | replace H := cond_f h H | exact absurd h (by decide) | skip)
    | ((with_reducible refine Ob.mk ?_); first | (with_reducible rfl) | (first | ((repeat (first | (with_reducible exact grd_p H) | (replace H := grd_k H) | (replace H := out_step H (by assumption)))); done) | rfl | ((repeat (first | exact grd_p H | replace H := grd_k H | replace H := out_step H (by assumption))); done) | ((repeat (first | exact grd_p H | (have hp := grd_p H; exact hp) | replace H := grd_k H | replace H := out_step H (by assumption) | (replace H := bind_some H; obtain ⟨_, _, H⟩ := H))); done) | (repeat (first | exact grd_p H | replace H := grd_k H | replace H := out_step H (by assumption)))))
    | (with_reducible exact True.intro)
    | ((conv => whnf); first
        | (with_reducible refine And.intro ?_ ?_)
        | (with_reducible exact True.intro)
        | ((with_reducible refine Ob.mk ?_); first | (with_reducible rfl) | (first | ((repeat (first | (with_reducible exact grd_p H) | (replace H := grd_k H) | (replace H := out_step H (by assumption)))); done) | rfl | ((repeat (first | exact grd_p H | replace H := grd_k H | replace H := out_step H (by assumption))); done) | ((repeat (first | exact grd_p H | (have hp := grd_p H; exact hp) | replace H := grd_k H | replace H := out_step H (by assumption) | (replace H := bind_some H; obtain ⟨_, _, H⟩ := H))); done) | (repeat (first | exact grd_p H | replace H := grd_k H | replace H := out_step H (by assumption)))))
        | ((with_reducible refine CallW.mk ?_); (repeat (first | replace H := grd_k H | replace H := out_step H (by assumption))); replace H := bind_some H; obtain ⟨y, hy, H⟩ := H; first | ((with_reducible have hz : internal_stringslite_TrimPrefix _ _ = some y := hy); clear hz; refine Exists.intro _ (Exists.intro _ ⟨internal_stringslite_TrimPrefix.call hy ?_, rfl, rfl, ?_⟩)))
        | ((with_reducible refine fin_mk ?_); (repeat (first | replace H := grd_k H | replace H := out_step H (by assumption))); have H := Option.some.inj H; subst H))
    | constructor
def G26 : Env := G25.add 29 [] strings_TrimPrefix.S
theorem G26_ok : EnvOk Tryd.prog G26 := G25_ok.add ent_29 fun ar h r h1 ⟨a0, a1, y, hy, e1, e2, e3, e4⟩ => by
  subst e3 e4; exact (strings_TrimPrefix.spec a0 a1 y hy).le e1 e2
attribute [local irreducible] strings_TrimPrefix

noncomputable def impl_ParseInt (a0 : ByteArray) : Option (Int × Bool) :=
  (some (((parseI a0).1), ((parseI a0).2)))
def impl_ParseInt.res (_ : ByteArray) (y : Int × Bool) : AV := (.tup [(.v (.int .i64 y.1)), (.bl y.2)])
def impl_ParseInt.out (_ : ByteArray) (_ : Int × Bool) : List (Option LB) := []
def impl_ParseInt.S (ar : List AV) (h : List (Option LB)) (r : AV) (h1 : List (Option LB)) : Prop := ∃ a0 y, impl_ParseInt a0 = some y ∧ leL ar [(.v (.string a0))] ∧ leH h [] ∧ r = impl_ParseInt.res a0 y ∧ h1 = impl_ParseInt.out a0 y
theorem impl_ParseInt.call {ar : List AV} {h : List (Option LB)} {a0 : ByteArray} {y : Int × Bool} (H : impl_ParseInt a0 = some y) (h0 : leLk ar [(.v (.string a0))] (leHk h [])) : impl_ParseInt.S ar h (impl_ParseInt.res a0 y) (impl_ParseInt.out a0 y) := ⟨a0, y, H, (args_ok h0).1, (args_ok h0).2, rfl, rfl⟩
theorem impl_ParseInt.spec (a0 : ByteArray) (y : Int × Bool) (H : impl_ParseInt a0 = some y) : Spec Tryd.prog 28 [(.v (.string a0))] [] (impl_ParseInt.res a0 y) (impl_ParseInt.out a0 y) := by
  have H := Option.some.inj H
  subst H
  exact ext_impl_ParseInt a0
def G27 : Env := G26.add 28 [] impl_ParseInt.S
theorem G27_ok : EnvOk Tryd.prog G27 := G26_ok.add ent_28 fun ar h r h1 ⟨a0, y, hy, e1, e2, e3, e4⟩ => by
  subst e3 e4; exact (impl_ParseInt.spec a0 y hy).le e1 e2
attribute [local irreducible] impl_ParseInt

noncomputable def strings_Split (a0 : ByteArray) (a1 : ByteArray) : Option ((List ByteArray)) :=
  (grd (a0.size < 4294967281 ∧ 1 ≤ a1.size) ((some (splitB a0 a1))))
def strings_Split.res (_ : ByteArray) (_ : ByteArray) (_ : (List ByteArray)) : AV := (.own 0)
def strings_Split.out (_ : ByteArray) (_ : ByteArray) (y : (List ByteArray)) : List (Option LB) := [some (.arr 9 .str y)]
def strings_Split.S (ar : List AV) (h : List (Option LB)) (r : AV) (h1 : List (Option LB)) : Prop := ∃ a0 a1 y, strings_Split a0 a1 = some y ∧ leL ar [(.v (.string a0)), (.v (.string a1))] ∧ leH h [] ∧ r = strings_Split.res a0 a1 y ∧ h1 = strings_Split.out a0 a1 y
theorem strings_Split.call {ar : List AV} {h : List (Option LB)} {a0 : ByteArray} {a1 : ByteArray} {y : (List ByteArray)} (H : strings_Split a0 a1 = some y) (h0 : leLk ar [(.v (.string a0)), (.v (.string a1))] (leHk h [])) : strings_Split.S ar h (strings_Split.res a0 a1 y) (strings_Split.out a0 a1 y) := ⟨a0, a1, y, H, (args_ok h0).1, (args_ok h0).2, rfl, rfl⟩
theorem strings_Split.spec (a0 : ByteArray) (a1 : ByteArray) (y : (List ByteArray)) (H : strings_Split a0 a1 = some y) : Spec Tryd.prog 30 [(.v (.string a0)), (.v (.string a1))] [] (strings_Split.res a0 a1 y) (strings_Split.out a0 a1 y) := by
  have hg := grd_p H
  have H := Option.some.inj (grd_k H)
  subst H
  exact ext_strings_Split a0 a1 hg
def G28 : Env := G27.add 30 [] strings_Split.S
theorem G28_ok : EnvOk Tryd.prog G28 := G27_ok.add ent_30 fun ar h r h1 ⟨a0, a1, y, hy, e1, e2, e3, e4⟩ => by
  subst e3 e4; exact (strings_Split.spec a0 a1 y hy).le e1 e2
attribute [local irreducible] strings_Split

end Go.Proofs.YtjpnifmbgemibaaDoor
