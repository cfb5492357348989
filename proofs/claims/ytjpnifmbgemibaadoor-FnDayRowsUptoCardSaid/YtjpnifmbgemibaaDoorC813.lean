/-
  Contracts, printed by a program.
-/
import Derived.Test.YtjpnifmbgemibaaDoorC812
namespace Go.Proofs.YtjpnifmbgemibaaDoor
open Go.RowKit
attribute [local irreducible] Ob loopwp Sub Spec Fin Again CallW CutC KOb iter joinx outm

attribute [local irreducible] laws_rBig spec_l1Cur_next spec_l1Cur_pick spec_l1Cur_among spec_l1Cur_one spec_l1Cur_of spec_l1Cur_dayRow spec_DrawIsDayRow spec_DrawDayLine impl_within impl_isDay impl_isWord impl_IsDayRow strconv_Itoa

noncomputable def impl_dayLine (a0 : DayRow) : Option (ByteArray) :=
  ((strconv_Itoa a0.1).bind fun y1 => (grd ((ByteArray.mk #[100, 97, 121, 32]).size + y1.size ≤ 9223372036854775807) (grd (((ByteArray.mk #[100, 97, 121, 32]) ++ y1).size + (ByteArray.mk #[58, 32]).size ≤ 9223372036854775807) (cond (decide (a0.2.2.2.1 = (0 : Int))) (grd ((((ByteArray.mk #[100, 97, 121, 32]) ++ y1) ++ (ByteArray.mk #[58, 32])).size + (ByteArray.mk #[99, 108, 111, 115, 101, 100]).size ≤ 9223372036854775807) ((some ((((ByteArray.mk #[100, 97, 121, 32]) ++ y1) ++ (ByteArray.mk #[58, 32])) ++ (ByteArray.mk #[99, 108, 111, 115, 101, 100]))))) ((strconv_Itoa a0.2.1).bind fun y2 => (grd (y2.size + (ByteArray.mk #[32, 117, 112, 44, 32]).size ≤ 9223372036854775807) ((strconv_Itoa a0.2.2.1).bind fun y3 => (grd ((y2 ++ (ByteArray.mk #[32, 117, 112, 44, 32])).size + y3.size ≤ 9223372036854775807) (grd (((y2 ++ (ByteArray.mk #[32, 117, 112, 44, 32])) ++ y3).size + (ByteArray.mk #[32, 100, 111, 119, 110, 44, 32]).size ≤ 9223372036854775807) ((strconv_Itoa a0.2.2.2.1).bind fun y4 => (grd ((((y2 ++ (ByteArray.mk #[32, 117, 112, 44, 32])) ++ y3) ++ (ByteArray.mk #[32, 100, 111, 119, 110, 44, 32])).size + y4.size ≤ 9223372036854775807) (grd (((((y2 ++ (ByteArray.mk #[32, 117, 112, 44, 32])) ++ y3) ++ (ByteArray.mk #[32, 100, 111, 119, 110, 44, 32])) ++ y4).size + (ByteArray.mk #[32, 104]).size ≤ 9223372036854775807) (grd ((((ByteArray.mk #[100, 97, 121, 32]) ++ y1) ++ (ByteArray.mk #[58, 32])).size + (((((y2 ++ (ByteArray.mk #[32, 117, 112, 44, 32])) ++ y3) ++ (ByteArray.mk #[32, 100, 111, 119, 110, 44, 32])) ++ y4) ++ (ByteArray.mk #[32, 104])).size ≤ 9223372036854775807) (cond (decide (a0.2.2.2.2.1 = (1 : Int))) (grd ((ByteArray.mk #[44, 32, 49, 32, 115, 116, 111, 112, 32, 40]).size + a0.2.2.2.2.2.1.size ≤ 9223372036854775807) (grd (((ByteArray.mk #[44, 32, 49, 32, 115, 116, 111, 112, 32, 40]) ++ a0.2.2.2.2.2.1).size + (ByteArray.mk #[41]).size ≤ 9223372036854775807) (grd (((((ByteArray.mk #[100, 97, 121, 32]) ++ y1) ++ (ByteArray.mk #[58, 32])) ++ (((((y2 ++ (ByteArray.mk #[32, 117, 112, 44, 32])) ++ y3) ++ (ByteArray.mk #[32, 100, 111, 119, 110, 44, 32])) ++ y4) ++ (ByteArray.mk #[32, 104]))).size + (((ByteArray.mk #[44, 32, 49, 32, 115, 116, 111, 112, 32, 40]) ++ a0.2.2.2.2.2.1) ++ (ByteArray.mk #[41])).size ≤ 9223372036854775807) ((some (((((ByteArray.mk #[100, 97, 121, 32]) ++ y1) ++ (ByteArray.mk #[58, 32])) ++ (((((y2 ++ (ByteArray.mk #[32, 117, 112, 44, 32])) ++ y3) ++ (ByteArray.mk #[32, 100, 111, 119, 110, 44, 32])) ++ y4) ++ (ByteArray.mk #[32, 104]))) ++ (((ByteArray.mk #[44, 32, 49, 32, 115, 116, 111, 112, 32, 40]) ++ a0.2.2.2.2.2.1) ++ (ByteArray.mk #[41])))))))) (cond (decide ((1 : Int) < a0.2.2.2.2.1)) ((strconv_Itoa a0.2.2.2.2.1).bind fun y5 => (grd ((ByteArray.mk #[44, 32]).size + y5.size ≤ 9223372036854775807) (grd (((ByteArray.mk #[44, 32]) ++ y5).size + (ByteArray.mk #[32, 115, 116, 111, 112, 115, 32, 40]).size ≤ 9223372036854775807) (grd ((((ByteArray.mk #[44, 32]) ++ y5) ++ (ByteArray.mk #[32, 115, 116, 111, 112, 115, 32, 40])).size + a0.2.2.2.2.2.1.size ≤ 9223372036854775807) (grd (((((ByteArray.mk #[44, 32]) ++ y5) ++ (ByteArray.mk #[32, 115, 116, 111, 112, 115, 32, 40])) ++ a0.2.2.2.2.2.1).size + (ByteArray.mk #[41]).size ≤ 9223372036854775807) (grd (((((ByteArray.mk #[100, 97, 121, 32]) ++ y1) ++ (ByteArray.mk #[58, 32])) ++ (((((y2 ++ (ByteArray.mk #[32, 117, 112, 44, 32])) ++ y3) ++ (ByteArray.mk #[32, 100, 111, 119, 110, 44, 32])) ++ y4) ++ (ByteArray.mk #[32, 104]))).size + (((((ByteArray.mk #[44, 32]) ++ y5) ++ (ByteArray.mk #[32, 115, 116, 111, 112, 115, 32, 40])) ++ a0.2.2.2.2.2.1) ++ (ByteArray.mk #[41])).size ≤ 9223372036854775807) ((some (((((ByteArray.mk #[100, 97, 121, 32]) ++ y1) ++ (ByteArray.mk #[58, 32])) ++ (((((y2 ++ (ByteArray.mk #[32, 117, 112, 44, 32])) ++ y3) ++ (ByteArray.mk #[32, 100, 111, 119, 110, 44, 32])) ++ y4) ++ (ByteArray.mk #[32, 104]))) ++ (((((ByteArray.mk #[44, 32]) ++ y5) ++ (ByteArray.mk #[32, 115, 116, 111, 112, 115, 32, 40])) ++ a0.2.2.2.2.2.1) ++ (ByteArray.mk #[41]))))))))))) ((some ((((ByteArray.mk #[100, 97, 121, 32]) ++ y1) ++ (ByteArray.mk #[58, 32])) ++ (((((y2 ++ (ByteArray.mk #[32, 117, 112, 44, 32])) ++ y3) ++ (ByteArray.mk #[32, 100, 111, 119, 110, 44, 32])) ++ y4) ++ (ByteArray.mk #[32, 104]))))))))))))))))))))
def impl_dayLine.res (_ : DayRow) (y : ByteArray) : AV := (.v (.string y))
def impl_dayLine.out (_ : DayRow) (_ : ByteArray) : List (Option LB) := []
def impl_dayLine.S (ar : List AV) (h : List (Option LB)) (r : AV) (h1 : List (Option LB)) : Prop := ∃ a0 y, impl_dayLine a0 = some y ∧ leL ar [(.agg [(.v (.int .i64 a0.1)), (.v (.int .i64 a0.2.1)), (.v (.int .i64 a0.2.2.1)), (.v (.int .i64 a0.2.2.2.1)), (.v (.int .i64 a0.2.2.2.2.1)), (.v (.string a0.2.2.2.2.2.1))])] ∧ leH h [] ∧ r = impl_dayLine.res a0 y ∧ h1 = impl_dayLine.out a0 y
theorem impl_dayLine.call {ar : List AV} {h : List (Option LB)} {a0 : DayRow} {y : ByteArray} (H : impl_dayLine a0 = some y) (h0 : leLk ar [(.agg [(.v (.int .i64 a0.1)), (.v (.int .i64 a0.2.1)), (.v (.int .i64 a0.2.2.1)), (.v (.int .i64 a0.2.2.2.1)), (.v (.int .i64 a0.2.2.2.2.1)), (.v (.string a0.2.2.2.2.2.1))])] (leHk h [])) : impl_dayLine.S ar h (impl_dayLine.res a0 y) (impl_dayLine.out a0 y) := ⟨a0, y, H, (args_ok h0).1, (args_ok h0).2, rfl, rfl⟩
set_option maxHeartbeats 100000000 in
set_option maxRecDepth 100000 in
theorem impl_dayLine.spec (a0 : DayRow) (y : ByteArray) (H : impl_dayLine a0 = some y) : Spec Tryd.prog 21 [(.agg [(.v (.int .i64 a0.1)), (.v (.int .i64 a0.2.1)), (.v (.int .i64 a0.2.2.1)), (.v (.int .i64 a0.2.2.2.1)), (.v (.int .i64 a0.2.2.2.2.1)), (.v (.string a0.2.2.2.2.2.1))])] [] (impl_dayLine.res a0 y) (impl_dayLine.out a0 y) := by
  refine spec_intro (G14_ok.at tok []) (ct := [(4, some [1, 3]), (5, some [1, 3]), (9, some [3])]) Tryd.func21 rfl (by kernel_rfl) (by kernel_rfl) rfl ?_
  repeat' first
    | ((with_reducible refine eqg ?_); exact rfl)
    | ((with_reducible refine KOb.mk ?_); kernel_rfl)
    | ((with_reducible intro h); (repeat (first | replace H := grd_k H | replace H := out_step H (by assumption))); first | replace H := cond_t h H | replace H := cond_f h H | exact absurd h (by decide) | skip)
    | ((with_reducible refine Ob.mk ?_); first | (with_reducible rfl) | (first | ((repeat (first | (with_reducible exact grd_p H) | (replace H := grd_k H) | (replace H := out_step H (by assumption)))); done) | rfl | ((repeat (first | exact grd_p H | replace H := grd_k H | replace H := out_step H (by assumption))); done) | ((repeat (first | exact grd_p H | (have hp := grd_p H; exact hp) | replace H := grd_k H | replace H := out_step H (by assumption) | (replace H := bind_some H; obtain ⟨_, _, H⟩ := H))); done) | (repeat (first | exact grd_p H | replace H := grd_k H | replace H := out_step H (by assumption)))))
    | (with_reducible exact True.intro)
    | ((conv => whnf); first
        | (with_reducible refine And.intro ?_ ?_)
        | (with_reducible exact True.intro)
        | ((with_reducible refine Ob.mk ?_); first | (with_reducible rfl) | (first | ((repeat (first | (with_reducible exact grd_p H) | (replace H := grd_k H) | (replace H := out_step H (by assumption)))); done) | rfl | ((repeat (first | exact grd_p H | replace H := grd_k H | replace H := out_step H (by assumption))); done) | ((repeat (first | exact grd_p H | (have hp := grd_p H; exact hp) | replace H := grd_k H | replace H := out_step H (by assumption) | (replace H := bind_some H; obtain ⟨_, _, H⟩ := H))); done) | (repeat (first | exact grd_p H | replace H := grd_k H | replace H := out_step H (by assumption)))))
        | ((with_reducible refine CallW.mk ?_); (repeat (first | replace H := grd_k H | replace H := out_step H (by assumption))); replace H := bind_some H; obtain ⟨y, hy, H⟩ := H; first | ((with_reducible have hz : strconv_Itoa _ = some y := hy); clear hz; refine Exists.intro _ (Exists.intro _ ⟨strconv_Itoa.call hy ?_, rfl, rfl, ?_⟩)))
        | ((with_reducible refine fin_mk ?_); (repeat (first | replace H := grd_k H | replace H := out_step H (by assumption))); have H := Option.some.inj H; subst H))
    | constructor
def G15 : Env := G14.add 21 [] impl_dayLine.S
theorem G15_ok : EnvOk Tryd.prog G15 := G14_ok.add ent_21 fun ar h r h1 ⟨a0, y, hy, e1, e2, e3, e4⟩ => by
  subst e3 e4; exact (impl_dayLine.spec a0 y hy).le e1 e2
attribute [local irreducible] impl_dayLine

noncomputable def impl_DayLine (a0 : DayRow) : Option (ByteArray × Bool) :=
  ((impl_IsDayRow (a0.1, a0.2.1, a0.2.2.1, a0.2.2.2.1, a0.2.2.2.2.1, a0.2.2.2.2.2.1, ())).bind fun y1 => (cond (!y1) ((some ((ByteArray.mk #[]), false))) ((impl_dayLine (a0.1, a0.2.1, a0.2.2.1, a0.2.2.2.1, a0.2.2.2.2.1, a0.2.2.2.2.2.1, ())).bind fun y2 => (some (y2, true)))))
def impl_DayLine.res (_ : DayRow) (y : ByteArray × Bool) : AV := (.tup [(.v (.string y.1)), (.bl y.2)])
def impl_DayLine.out (_ : DayRow) (_ : ByteArray × Bool) : List (Option LB) := []
def impl_DayLine.S (ar : List AV) (h : List (Option LB)) (r : AV) (h1 : List (Option LB)) : Prop := ∃ a0 y, impl_DayLine a0 = some y ∧ leL ar [(.agg [(.v (.int .i64 a0.1)), (.v (.int .i64 a0.2.1)), (.v (.int .i64 a0.2.2.1)), (.v (.int .i64 a0.2.2.2.1)), (.v (.int .i64 a0.2.2.2.2.1)), (.v (.string a0.2.2.2.2.2.1))])] ∧ leH h [] ∧ r = impl_DayLine.res a0 y ∧ h1 = impl_DayLine.out a0 y
theorem impl_DayLine.call {ar : List AV} {h : List (Option LB)} {a0 : DayRow} {y : ByteArray × Bool} (H : impl_DayLine a0 = some y) (h0 : leLk ar [(.agg [(.v (.int .i64 a0.1)), (.v (.int .i64 a0.2.1)), (.v (.int .i64 a0.2.2.1)), (.v (.int .i64 a0.2.2.2.1)), (.v (.int .i64 a0.2.2.2.2.1)), (.v (.string a0.2.2.2.2.2.1))])] (leHk h [])) : impl_DayLine.S ar h (impl_DayLine.res a0 y) (impl_DayLine.out a0 y) := ⟨a0, y, H, (args_ok h0).1, (args_ok h0).2, rfl, rfl⟩
set_option maxHeartbeats 100000000 in
set_option maxRecDepth 100000 in
theorem impl_DayLine.spec (a0 : DayRow) (y : ByteArray × Bool) (H : impl_DayLine a0 = some y) : Spec Tryd.prog 6 [(.agg [(.v (.int .i64 a0.1)), (.v (.int .i64 a0.2.1)), (.v (.int .i64 a0.2.2.1)), (.v (.int .i64 a0.2.2.2.1)), (.v (.int .i64 a0.2.2.2.2.1)), (.v (.string a0.2.2.2.2.2.1))])] [] (impl_DayLine.res a0 y) (impl_DayLine.out a0 y) := by
  refine spec_intro (G15_ok.at tok []) (ct := []) Tryd.func6 rfl (by kernel_rfl) (by kernel_rfl) rfl ?_
  repeat' first
    | ((with_reducible refine eqg ?_); exact rfl)
    | ((with_reducible refine KOb.mk ?_); kernel_rfl)
    | ((with_reducible intro h); (repeat (first | replace H := grd_k H | replace H := out_step H (by assumption))); first | replace H := cond_t h H | replace H := cond_f h H | exact absurd h (by decide) | skip)
    | ((with_reducible refine Ob.mk ?_); first | (with_reducible rfl) | (first | ((repeat (first | (with_reducible exact grd_p H) | (replace H := grd_k H) | (replace H := out_step H (by assumption)))); done) | rfl | ((repeat (first | exact grd_p H | replace H := grd_k H | replace H := out_step H (by assumption))); done) | ((repeat (first | exact grd_p H | (have hp := grd_p H; exact hp) | replace H := grd_k H | replace H := out_step H (by assumption) | (replace H := bind_some H; obtain ⟨_, _, H⟩ := H))); done) | (repeat (first | exact grd_p H | replace H := grd_k H | replace H := out_step H (by assumption)))))
    | (with_reducible exact True.intro)
    | ((conv => whnf); first
        | (with_reducible refine And.intro ?_ ?_)
        | (with_reducible exact True.intro)
        | ((with_reducible refine Ob.mk ?_); first | (with_reducible rfl) | (first | ((repeat (first | (with_reducible exact grd_p H) | (replace H := grd_k H) | (replace H := out_step H (by assumption)))); done) | rfl | ((repeat (first | exact grd_p H | replace H := grd_k H | replace H := out_step H (by assumption))); done) | ((repeat (first | exact grd_p H | (have hp := grd_p H; exact hp) | replace H := grd_k H | replace H := out_step H (by assumption) | (replace H := bind_some H; obtain ⟨_, _, H⟩ := H))); done) | (repeat (first | exact grd_p H | replace H := grd_k H | replace H := out_step H (by assumption)))))
        | ((with_reducible refine CallW.mk ?_); (repeat (first | replace H := grd_k H | replace H := out_step H (by assumption))); replace H := bind_some H; obtain ⟨y, hy, H⟩ := H; first | ((with_reducible have hz : impl_IsDayRow _ = some y := hy); clear hz; refine Exists.intro _ (Exists.intro _ ⟨impl_IsDayRow.call hy ?_, rfl, rfl, ?_⟩)) | ((with_reducible have hz : impl_dayLine _ = some y := hy); clear hz; refine Exists.intro _ (Exists.intro _ ⟨impl_dayLine.call hy ?_, rfl, rfl, ?_⟩)))
        | ((with_reducible refine fin_mk ?_); (repeat (first | replace H := grd_k H | replace H := out_step H (by assumption))); have H := Option.some.inj H; subst H))
    | constructor
def G16 : Env := G15.add 6 [] impl_DayLine.S
theorem G16_ok : EnvOk Tryd.prog G16 := G15_ok.add ent_6 fun ar h r h1 ⟨a0, y, hy, e1, e2, e3, e4⟩ => by
  subst e3 e4; exact (impl_DayLine.spec a0 y hy).le e1 e2
attribute [local irreducible] impl_DayLine

noncomputable def spec_l1In (a0 : Int) (a1 : Int) (a2 : Int) : Option (Bool) :=
  (cond (decide (a1 ≤ a0)) ((some (decide (a0 ≤ a2)))) ((some false)))
def spec_l1In.res (_ : Int) (_ : Int) (_ : Int) (y : Bool) : AV := (.bl y)
def spec_l1In.out (_ : Int) (_ : Int) (_ : Int) (_ : Bool) : List (Option LB) := []
def spec_l1In.S (ar : List AV) (h : List (Option LB)) (r : AV) (h1 : List (Option LB)) : Prop := ∃ a0 a1 a2 y, spec_l1In a0 a1 a2 = some y ∧ leL ar [(.v (.int .i64 a0)), (.v (.int .i64 a1)), (.v (.int .i64 a2))] ∧ leH h [] ∧ r = spec_l1In.res a0 a1 a2 y ∧ h1 = spec_l1In.out a0 a1 a2 y
theorem spec_l1In.call {ar : List AV} {h : List (Option LB)} {a0 : Int} {a1 : Int} {a2 : Int} {y : Bool} (H : spec_l1In a0 a1 a2 = some y) (h0 : leLk ar [(.v (.int .i64 a0)), (.v (.int .i64 a1)), (.v (.int .i64 a2))] (leHk h [])) : spec_l1In.S ar h (spec_l1In.res a0 a1 a2 y) (spec_l1In.out a0 a1 a2 y) := ⟨a0, a1, a2, y, H, (args_ok h0).1, (args_ok h0).2, rfl, rfl⟩
set_option maxHeartbeats 100000000 in
set_option maxRecDepth 100000 in
theorem spec_l1In.spec (a0 : Int) (a1 : Int) (a2 : Int) (y : Bool) (H : spec_l1In a0 a1 a2 = some y) : Spec Tryd.prog 44 [(.v (.int .i64 a0)), (.v (.int .i64 a1)), (.v (.int .i64 a2))] [] (spec_l1In.res a0 a1 a2 y) (spec_l1In.out a0 a1 a2 y) := by
  refine spec_intro (G16_ok.at tok []) (ct := []) Tryd.func44 rfl (by kernel_rfl) (by kernel_rfl) rfl ?_
  repeat' first
    | ((with_reducible refine eqg ?_); exact rfl)
    | ((with_reducible refine KOb.mk ?_); kernel_rfl)
    | ((with_reducible intro h); (repeat (first | replace H := grd_k H | replace H := out_step H (by assumption))); first | replace H := cond_t h H | replace H := cond_f h H | exact absurd h (by decide) | skip)
    | ((with_reducible refine Ob.mk ?_); first | (with_reducible rfl) | (first | ((repeat (first | (with_reducible exact grd_p H) | (replace H := grd_k H) | (replace H := out_step H (by assumption)))); done) | rfl | ((repeat (first | exact grd_p H | replace H := grd_k H | replace H := out_step H (by assumption))); done) | ((repeat (first | exact grd_p H | (have hp := grd_p H; exact hp) | replace H := grd_k H | replace H := out_step H (by assumption) | (replace H := bind_some H; obtain ⟨_, _, H⟩ := H))); done) | (repeat (first | exact grd_p H | replace H := grd_k H | replace H := out_step H (by assumption)))))
    | (with_reducible exact True.intro)
    | ((conv => whnf); first
        | (with_reducible refine And.intro ?_ ?_)
        | (with_reducible exact True.intro)
        | ((with_reducible refine Ob.mk ?_); first | (with_reducible rfl) | (first | ((repeat (first | (with_reducible exact grd_p H) | (replace H := grd_k H) | (replace H := out_step H (by assumption)))); done) | rfl | ((repeat (first | exact grd_p H | replace H := grd_k H | replace H := out_step H (by assumption))); done) | ((repeat (first | exact grd_p H | (have hp := grd_p H; exact hp) | replace H := grd_k H | replace H := out_step H (by assumption) | (replace H := bind_some H; obtain ⟨_, _, H⟩ := H))); done) | (repeat (first | exact grd_p H | replace H := grd_k H | replace H := out_step H (by assumption)))))
        | ((with_reducible refine fin_mk ?_); (repeat (first | replace H := grd_k H | replace H := out_step H (by assumption))); have H := Option.some.inj H; subst H))
    | constructor
def G17 : Env := G16.add 44 [] spec_l1In.S
theorem G17_ok : EnvOk Tryd.prog G17 := G16_ok.add ent_44 fun ar h r h1 ⟨a0, a1, a2, y, hy, e1, e2, e3, e4⟩ => by
  subst e3 e4; exact (spec_l1In.spec a0 a1 a2 y hy).le e1 e2
attribute [local irreducible] spec_l1In

noncomputable def spec_l2Word_loop1 (a0 : ByteArray) (v2 : Int) : Option (Lp (Int) ((Unit) ⊕ (Unit))) :=
  (cond (decide (v2 < (a0.size : Int))) (grd (0 ≤ v2 ∧ v2 < (a0.size : Int)) (cond (decide ((bAt a0 v2) < (97 : Int))) ((some (.out (Sum.inl ())))) (grd (0 ≤ v2 ∧ v2 < (a0.size : Int)) (cond (decide ((122 : Int) < (bAt a0 v2))) ((some (.out (Sum.inl ())))) (some (.go (w64 (v2 + (1 : Int))))))))) ((some (.out (Sum.inr ())))))
noncomputable def spec_l2Word (a0 : ByteArray) : Option (Bool) :=
  ((iter (fun s => spec_l2Word_loop1 a0 s) (0 : Int)).bind (Sum.elim (fun _ => (some false)) (fun _ => ((spec_l1In (a0.size : Int) (1 : Int) (10 : Int)).bind fun y6 => (some y6)))))
def spec_l2Word.res (_ : ByteArray) (y : Bool) : AV := (.bl y)
def spec_l2Word.out (_ : ByteArray) (_ : Bool) : List (Option LB) := []
def spec_l2Word.S (ar : List AV) (h : List (Option LB)) (r : AV) (h1 : List (Option LB)) : Prop := ∃ a0 y, spec_l2Word a0 = some y ∧ leL ar [(.v (.string a0))] ∧ leH h [] ∧ r = spec_l2Word.res a0 y ∧ h1 = spec_l2Word.out a0 y
theorem spec_l2Word.call {ar : List AV} {h : List (Option LB)} {a0 : ByteArray} {y : Bool} (H : spec_l2Word a0 = some y) (h0 : leLk ar [(.v (.string a0))] (leHk h [])) : spec_l2Word.S ar h (spec_l2Word.res a0 y) (spec_l2Word.out a0 y) := ⟨a0, y, H, (args_ok h0).1, (args_ok h0).2, rfl, rfl⟩
set_option maxHeartbeats 100000000 in
set_option maxRecDepth 100000 in
theorem spec_l2Word.spec (a0 : ByteArray) (y : Bool) (H : spec_l2Word a0 = some y) : Spec Tryd.prog 45 [(.v (.string a0))] [] (spec_l2Word.res a0 y) (spec_l2Word.out a0 y) := by
  refine spec_intro (G17_ok.at tok []) (ct := [(5, some [0, 3, 15, 16, 17, 18, 19])]) Tryd.func45 rfl (by kernel_rfl) (by kernel_rfl) rfl ?_
  repeat' first
    | ((with_reducible refine eqg ?_); exact rfl)
    | ((with_reducible refine KOb.mk ?_); kernel_rfl)
    | ((with_reducible intro h); (repeat (first | replace H := grd_k H | replace H := out_step H (by assumption))); first | replace H := cond_t h H | replace H := cond_f h H | exact absurd h (by decide) | skip)
    | ((with_reducible refine Ob.mk ?_); first | (with_reducible rfl) | (first | ((repeat (first | (with_reducible exact grd_p H) | (replace H := grd_k H) | (replace H := out_step H (by assumption)))); done) | rfl | ((repeat (first | exact grd_p H | replace H := grd_k H | replace H := out_step H (by assumption))); done) | ((repeat (first | exact grd_p H | (have hp := grd_p H; exact hp) | replace H := grd_k H | replace H := out_step H (by assumption) | (replace H := bind_some H; obtain ⟨_, _, H⟩ := H))); done) | (repeat (first | exact grd_p H | replace H := grd_k H | replace H := out_step H (by assumption)))))
    | (with_reducible exact True.intro)
    | ((conv => whnf); first
        | (with_reducible refine And.intro ?_ ?_)
        | (with_reducible exact True.intro)
        | ((with_reducible refine Ob.mk ?_); first | (with_reducible rfl) | (first | ((repeat (first | (with_reducible exact grd_p H) | (replace H := grd_k H) | (replace H := out_step H (by assumption)))); done) | rfl | ((repeat (first | exact grd_p H | replace H := grd_k H | replace H := out_step H (by assumption))); done) | ((repeat (first | exact grd_p H | (have hp := grd_p H; exact hp) | replace H := grd_k H | replace H := out_step H (by assumption) | (replace H := bind_some H; obtain ⟨_, _, H⟩ := H))); done) | (repeat (first | exact grd_p H | replace H := grd_k H | replace H := out_step H (by assumption)))))
        | ((with_reducible refine CallW.mk ?_); (repeat (first | replace H := grd_k H | replace H := out_step H (by assumption))); replace H := bind_some H; obtain ⟨y, hy, H⟩ := H; first | ((with_reducible have hz : spec_l1In _ _ _ = some y := hy); clear hz; refine Exists.intro _ (Exists.intro _ ⟨spec_l1In.call hy ?_, rfl, rfl, ?_⟩)))
        | ((repeat (first | replace H := grd_k H | replace H := out_step H (by assumption))); refine loop_iter (G17_ok.at tok []) (ct := [(5, some [0, 3, 15, 16, 17, 18, 19])]) (F := (fun s1 : Int => ⟨sl [(0, (.v (.string a0))), (3, (.v (.int .i64 s1)))], []⟩)) (step := (fun s : Int => spec_l2Word_loop1 _ s)) _ H (by kernel_rfl) (sub_auto ?_) ?_; rotate_left; (intro s1 r v hr H); rotate_right)
        | ((repeat (first | replace H := grd_k H | replace H := out_step H (by assumption))); refine again_step H (by assumption) (sub_auto ?_))
        | ((with_reducible refine fin_mk ?_); (repeat (first | replace H := grd_k H | replace H := out_step H (by assumption))); have H := Option.some.inj H; subst H))
    | constructor
def G18 : Env := G17.add 45 [] spec_l2Word.S
theorem G18_ok : EnvOk Tryd.prog G18 := G17_ok.add ent_45 fun ar h r h1 ⟨a0, y, hy, e1, e2, e3, e4⟩ => by
  subst e3 e4; exact (spec_l2Word.spec a0 y hy).le e1 e2
attribute [local irreducible] spec_l2Word

noncomputable def spec_l26One (a0 : DayRow) : Option (Bool) :=
  ((spec_l1In a0.1 (0 : Int) (999 : Int)).bind fun y1 => (cond (!y1) ((some false)) ((spec_l1In a0.2.1 (0 : Int) (99999 : Int)).bind fun y2 => (cond (!y2) ((some false)) ((spec_l1In a0.2.2.1 (0 : Int) (99999 : Int)).bind fun y3 => (cond (!y3) ((some false)) ((spec_l1In a0.2.2.2.1 (0 : Int) (24 : Int)).bind fun y4 => (cond (!y4) ((some false)) ((spec_l1In a0.2.2.2.2.1 (0 : Int) (99 : Int)).bind fun y5 => (cond (!y5) ((some false)) (joinx (cond (decide (a0.2.2.2.1 = (0 : Int))) (cond (decide ((0 : Int) < a0.2.1)) (outm ((some false))) (cond (decide ((0 : Int) < a0.2.2.1)) (outm ((some false))) (cond (decide ((0 : Int) < a0.2.2.2.2.1)) (outm ((some false))) ((some (.go ())))))) ((some (.go ())))) (fun (_ : Unit) => (cond (decide (a0.2.2.2.2.1 = (0 : Int))) (cond (decide (a0.2.2.2.2.2.1 = (ByteArray.mk #[]))) ((some true)) (cond (decide ((0 : Int) < a0.2.2.2.2.1)) ((spec_l2Word a0.2.2.2.2.2.1).bind fun y7 => (some y7)) ((some false)))) (cond (decide ((0 : Int) < a0.2.2.2.2.1)) ((spec_l2Word a0.2.2.2.2.2.1).bind fun y8 => (some y8)) ((some false))))))))))))))))
def spec_l26One.res (_ : DayRow) (y : Bool) : AV := (.bl y)
def spec_l26One.out (_ : DayRow) (_ : Bool) : List (Option LB) := []
def spec_l26One.S (ar : List AV) (h : List (Option LB)) (r : AV) (h1 : List (Option LB)) : Prop := ∃ a0 y, spec_l26One a0 = some y ∧ leL ar [(.agg [(.v (.int .i64 a0.1)), (.v (.int .i64 a0.2.1)), (.v (.int .i64 a0.2.2.1)), (.v (.int .i64 a0.2.2.2.1)), (.v (.int .i64 a0.2.2.2.2.1)), (.v (.string a0.2.2.2.2.2.1))])] ∧ leH h [] ∧ r = spec_l26One.res a0 y ∧ h1 = spec_l26One.out a0 y
theorem spec_l26One.call {ar : List AV} {h : List (Option LB)} {a0 : DayRow} {y : Bool} (H : spec_l26One a0 = some y) (h0 : leLk ar [(.agg [(.v (.int .i64 a0.1)), (.v (.int .i64 a0.2.1)), (.v (.int .i64 a0.2.2.1)), (.v (.int .i64 a0.2.2.2.1)), (.v (.int .i64 a0.2.2.2.2.1)), (.v (.string a0.2.2.2.2.2.1))])] (leHk h [])) : spec_l26One.S ar h (spec_l26One.res a0 y) (spec_l26One.out a0 y) := ⟨a0, y, H, (args_ok h0).1, (args_ok h0).2, rfl, rfl⟩
set_option maxHeartbeats 100000000 in
set_option maxRecDepth 100000 in
theorem spec_l26One.spec (a0 : DayRow) (y : Bool) (H : spec_l26One a0 = some y) : Spec Tryd.prog 22 [(.agg [(.v (.int .i64 a0.1)), (.v (.int .i64 a0.2.1)), (.v (.int .i64 a0.2.2.1)), (.v (.int .i64 a0.2.2.2.1)), (.v (.int .i64 a0.2.2.2.2.1)), (.v (.string a0.2.2.2.2.2.1))])] [] (spec_l26One.res a0 y) (spec_l26One.out a0 y) := by
  refine spec_intro (G18_ok.at tok []) (ct := [(5, none), (2, some [1, 30, 35, 36, 37, 38, 39, 40, 41, 42, 43, 44, 45, 46, 47, 53, 54, 55, 58, 59, 60, 61, 62, 63, 64, 65]), (4, some [1, 48, 53, 54, 55, 58, 59, 60, 61, 62, 63, 64, 65])]) Tryd.func22 rfl (by kernel_rfl) (by kernel_rfl) rfl ?_
  repeat' first
    | (with_reducible exact (outm_no H).elim)
    | ((replace H := out_step H (by assumption)); exact (outm_no H).elim)
    | ((with_reducible refine eqg ?_); exact rfl)
    | ((with_reducible refine KOb.mk ?_); kernel_rfl)
    | ((with_reducible intro h); (repeat (first | replace H := grd_k H | replace H := out_step H (by assumption) | replace H := outm_out H)); first | replace H := cond_t h H | replace H := cond_f h H | exact absurd h (by decide) | skip)
    | ((with_reducible refine Ob.mk ?_); first | (with_reducible rfl) | (first | ((repeat (first | (with_reducible exact grd_p H) | (replace H := grd_k H) | (replace H := out_step H (by assumption)) | replace H := outm_out H)); done) | rfl | ((repeat (first | exact grd_p H | replace H := grd_k H | replace H := out_step H (by assumption) | replace H := outm_out H)); done) | ((repeat (first | exact grd_p H | (have hp := grd_p H; exact hp) | replace H := grd_k H | replace H := out_step H (by assumption) | replace H := outm_out H | (replace H := bind_some H; obtain ⟨_, _, H⟩ := H))); done) | (repeat (first | exact grd_p H | replace H := grd_k H | replace H := out_step H (by assumption) | replace H := outm_out H))))
    | (with_reducible exact True.intro)
    | ((conv => whnf); first
        | (with_reducible refine And.intro ?_ ?_)
        | (with_reducible exact True.intro)
        | ((with_reducible refine Ob.mk ?_); first | (with_reducible rfl) | (first | ((repeat (first | (with_reducible exact grd_p H) | (replace H := grd_k H) | (replace H := out_step H (by assumption)) | replace H := outm_out H)); done) | rfl | ((repeat (first | exact grd_p H | replace H := grd_k H | replace H := out_step H (by assumption) | replace H := outm_out H)); done) | ((repeat (first | exact grd_p H | (have hp := grd_p H; exact hp) | replace H := grd_k H | replace H := out_step H (by assumption) | replace H := outm_out H | (replace H := bind_some H; obtain ⟨_, _, H⟩ := H))); done) | (repeat (first | exact grd_p H | replace H := grd_k H | replace H := out_step H (by assumption) | replace H := outm_out H))))
        | ((with_reducible refine CallW.mk ?_); (repeat (first | replace H := grd_k H | replace H := out_step H (by assumption) | replace H := outm_out H)); replace H := bind_some H; obtain ⟨y, hy, H⟩ := H; first | ((with_reducible have hz : spec_l1In _ _ _ = some y := hy); clear hz; refine Exists.intro _ (Exists.intro _ ⟨spec_l1In.call hy ?_, rfl, rfl, ?_⟩)) | ((with_reducible have hz : spec_l2Word _ = some y := hy); clear hz; refine Exists.intro _ (Exists.intro _ ⟨spec_l2Word.call hy ?_, rfl, rfl, ?_⟩)))
        | ((with_reducible refine cutAt (id := 5) ?_); (repeat (first | replace H := grd_k H | replace H := out_step H (by assumption) | replace H := outm_out H)); first | (replace H := joinx_some H; rcases H with ⟨z, hz, H⟩ | H; rotate_left; (with_reducible refine CutC.no ?_); rotate_right; (refine CutC.mk (id := 5) ⟨sl [(1, (.loc 0 0 0))], [some (.box 25 [(.v (.int .i64 a0.1)), (.v (.int .i64 a0.2.1)), (.v (.int .i64 a0.2.2.1)), (.v (.int .i64 a0.2.2.2.1)), (.v (.int .i64 a0.2.2.2.2.1)), (.v (.string a0.2.2.2.2.2.1))])]⟩ ?_ ?_; (replace H := hz))))
        | ((repeat (first | replace H := grd_k H | replace H := out_step H (by assumption) | replace H := outm_out H)); have H := Option.some.inj H; subst H; with_reducible refine sub_auto ?_)
        | ((repeat (first | replace H := grd_k H | replace H := out_step H (by assumption) | replace H := outm_out H)); have H := go_inj H; subst H; with_reducible refine sub_auto ?_)
        | ((repeat (first | replace H := grd_k H | replace H := out_step H (by assumption) | replace H := outm_out H)); exact (go_out H).elim)
        | ((with_reducible refine fin_mk ?_); (repeat (first | replace H := grd_k H | replace H := out_step H (by assumption) | replace H := outm_out H)); have H := Option.some.inj H; subst H))
    | constructor
def G19 : Env := G18.add 22 [] spec_l26One.S
theorem G19_ok : EnvOk Tryd.prog G19 := G18_ok.add ent_22 fun ar h r h1 ⟨a0, y, hy, e1, e2, e3, e4⟩ => by
  subst e3 e4; exact (spec_l26One.spec a0 y hy).le e1 e2
attribute [local irreducible] spec_l26One

noncomputable def spec_l1Num_f : Nat → Int → Option (ByteArray)
  | 0, _ => none
  | k + 1, a0 => (cond (decide (a0 < (0 : Int))) ((spec_l1Num_f k (w64 (0 - a0))).bind fun y1 => (grd ((ByteArray.mk #[45]).size + y1.size ≤ 9223372036854775807) ((some ((ByteArray.mk #[45]) ++ y1))))) (cond (decide (a0 < (10 : Int))) (grd (0 ≤ a0 ∧ a0 ≤ (w64 (a0 + (1 : Int))) ∧ (w64 (a0 + (1 : Int))) ≤ ((ByteArray.mk #[48, 49, 50, 51, 52, 53, 54, 55, 56, 57]).size : Int)) ((some (bsub (ByteArray.mk #[48, 49, 50, 51, 52, 53, 54, 55, 56, 57]) a0 (w64 (a0 + (1 : Int))))))) (grd ((10 : Int) ≠ 0) ((spec_l1Num_f k (w64 (Int.tdiv a0 (10 : Int)))).bind fun y2 => (grd ((10 : Int) ≠ 0) (grd ((10 : Int) ≠ 0) (grd (0 ≤ (Int.tmod a0 (10 : Int)) ∧ (Int.tmod a0 (10 : Int)) ≤ (w64 ((Int.tmod a0 (10 : Int)) + (1 : Int))) ∧ (w64 ((Int.tmod a0 (10 : Int)) + (1 : Int))) ≤ ((ByteArray.mk #[48, 49, 50, 51, 52, 53, 54, 55, 56, 57]).size : Int)) (grd (y2.size + (bsub (ByteArray.mk #[48, 49, 50, 51, 52, 53, 54, 55, 56, 57]) (Int.tmod a0 (10 : Int)) (w64 ((Int.tmod a0 (10 : Int)) + (1 : Int)))).size ≤ 9223372036854775807) ((some (y2 ++ (bsub (ByteArray.mk #[48, 49, 50, 51, 52, 53, 54, 55, 56, 57]) (Int.tmod a0 (10 : Int)) (w64 ((Int.tmod a0 (10 : Int)) + (1 : Int)))))))))))))))
theorem spec_l1Num_f_succ (k : Nat) (a0 : Int) : spec_l1Num_f (k + 1) a0 = (cond (decide (a0 < (0 : Int))) ((spec_l1Num_f k (w64 (0 - a0))).bind fun y1 => (grd ((ByteArray.mk #[45]).size + y1.size ≤ 9223372036854775807) ((some ((ByteArray.mk #[45]) ++ y1))))) (cond (decide (a0 < (10 : Int))) (grd (0 ≤ a0 ∧ a0 ≤ (w64 (a0 + (1 : Int))) ∧ (w64 (a0 + (1 : Int))) ≤ ((ByteArray.mk #[48, 49, 50, 51, 52, 53, 54, 55, 56, 57]).size : Int)) ((some (bsub (ByteArray.mk #[48, 49, 50, 51, 52, 53, 54, 55, 56, 57]) a0 (w64 (a0 + (1 : Int))))))) (grd ((10 : Int) ≠ 0) ((spec_l1Num_f k (w64 (Int.tdiv a0 (10 : Int)))).bind fun y2 => (grd ((10 : Int) ≠ 0) (grd ((10 : Int) ≠ 0) (grd (0 ≤ (Int.tmod a0 (10 : Int)) ∧ (Int.tmod a0 (10 : Int)) ≤ (w64 ((Int.tmod a0 (10 : Int)) + (1 : Int))) ∧ (w64 ((Int.tmod a0 (10 : Int)) + (1 : Int))) ≤ ((ByteArray.mk #[48, 49, 50, 51, 52, 53, 54, 55, 56, 57]).size : Int)) (grd (y2.size + (bsub (ByteArray.mk #[48, 49, 50, 51, 52, 53, 54, 55, 56, 57]) (Int.tmod a0 (10 : Int)) (w64 ((Int.tmod a0 (10 : Int)) + (1 : Int)))).size ≤ 9223372036854775807) ((some (y2 ++ (bsub (ByteArray.mk #[48, 49, 50, 51, 52, 53, 54, 55, 56, 57]) (Int.tmod a0 (10 : Int)) (w64 ((Int.tmod a0 (10 : Int)) + (1 : Int))))))))))))))) := rfl
attribute [local irreducible] spec_l1Num_f
noncomputable def spec_l1Num (a0 : Int) : Option (ByteArray) := spec_l1Num_f 64 a0
def spec_l1Num.res (_ : Int) (y : ByteArray) : AV := (.v (.string y))
def spec_l1Num.out (_ : Int) (_ : ByteArray) : List (Option LB) := []
def spec_l1Num.S (ar : List AV) (h : List (Option LB)) (r : AV) (h1 : List (Option LB)) : Prop := ∃ a0 y, spec_l1Num a0 = some y ∧ leL ar [(.v (.int .i64 a0))] ∧ leH h [] ∧ r = spec_l1Num.res a0 y ∧ h1 = spec_l1Num.out a0 y
theorem spec_l1Num.call {ar : List AV} {h : List (Option LB)} {a0 : Int} {y : ByteArray} (H : spec_l1Num a0 = some y) (h0 : leLk ar [(.v (.int .i64 a0))] (leHk h [])) : spec_l1Num.S ar h (spec_l1Num.res a0 y) (spec_l1Num.out a0 y) := ⟨a0, y, H, (args_ok h0).1, (args_ok h0).2, rfl, rfl⟩
def spec_l1Num_f.S (k : Nat) (ar : List AV) (h : List (Option LB)) (r : AV) (h1 : List (Option LB)) : Prop := ∃ a0 y, spec_l1Num_f k a0 = some y ∧ leL ar [(.v (.int .i64 a0))] ∧ leH h [] ∧ r = spec_l1Num.res a0 y ∧ h1 = spec_l1Num.out a0 y
theorem spec_l1Num_f.call {k : Nat} {ar : List AV} {h : List (Option LB)} {a0 : Int} {y : ByteArray} (H : spec_l1Num_f k a0 = some y) (h0 : leLk ar [(.v (.int .i64 a0))] (leHk h [])) : spec_l1Num_f.S k ar h (spec_l1Num.res a0 y) (spec_l1Num.out a0 y) := ⟨a0, y, H, (args_ok h0).1, (args_ok h0).2, rfl, rfl⟩
set_option maxHeartbeats 100000000 in
set_option maxRecDepth 100000 in
theorem spec_l1Num_f.spec (k : Nat) : ∀ (a0 : Int) (y : ByteArray) (_ : spec_l1Num_f k a0 = some y), Spec Tryd.prog 42 [(.v (.int .i64 a0))] [] (spec_l1Num.res a0 y) (spec_l1Num.out a0 y) := by
  induction k with
  | zero => intro a0 y H; unfold spec_l1Num_f at H; cases H
  | succ k IH =>
  intro a0 y H
  have H := (spec_l1Num_f_succ k a0).symm.trans H
  have hG : EnvOk Tryd.prog (G19.add 42 [] (spec_l1Num_f.S k)) := G19_ok.add ent_42 fun ar h r h1 ⟨a0, y, hy, e1, e2, e3, e4⟩ => by
    subst e3 e4; exact (IH a0 y hy).le e1 e2
  clear IH
  refine spec_intro (hG.at tok []) (ct := [(5, some [0])]) Tryd.func42 rfl (by kernel_rfl) (by kernel_rfl) rfl ?_
  repeat' first
    | ((with_reducible refine eqg ?_); exact rfl)
    | ((with_reducible refine KOb.mk ?_); kernel_rfl)
    | ((with_reducible intro h); (repeat (first | replace H := grd_k H | replace H := out_step H (by assumption))); first | replace H := cond_t h H | replace H := cond_f h H | exact absurd h (by decide) | skip)
    | ((with_reducible refine Ob.mk ?_); first | (with_reducible rfl) | (first | ((repeat (first | (with_reducible exact grd_p H) | (replace H := grd_k H) | (replace H := out_step H (by assumption)))); done) | rfl | ((repeat (first | exact grd_p H | replace H := grd_k H | replace H := out_step H (by assumption))); done) | ((repeat (first | exact grd_p H | (have hp := grd_p H; exact hp) | replace H := grd_k H | replace H := out_step H (by assumption) | (replace H := bind_some H; obtain ⟨_, _, H⟩ := H))); done) | (repeat (first | exact grd_p H | replace H := grd_k H | replace H := out_step H (by assumption)))))
    | (with_reducible exact True.intro)
    | ((conv => whnf); first
        | (with_reducible refine And.intro ?_ ?_)
        | (with_reducible exact True.intro)
        | ((with_reducible refine Ob.mk ?_); first | (with_reducible rfl) | (first | ((repeat (first | (with_reducible exact grd_p H) | (replace H := grd_k H) | (replace H := out_step H (by assumption)))); done) | rfl | ((repeat (first | exact grd_p H | replace H := grd_k H | replace H := out_step H (by assumption))); done) | ((repeat (first | exact grd_p H | (have hp := grd_p H; exact hp) | replace H := grd_k H | replace H := out_step H (by assumption) | (replace H := bind_some H; obtain ⟨_, _, H⟩ := H))); done) | (repeat (first | exact grd_p H | replace H := grd_k H | replace H := out_step H (by assumption)))))
        | ((with_reducible refine CallW.mk ?_); (repeat (first | replace H := grd_k H | replace H := out_step H (by assumption))); replace H := bind_some H; obtain ⟨y, hy, H⟩ := H; first | ((with_reducible have hz : spec_l1Num_f k _ = some y := hy); clear hz; refine Exists.intro _ (Exists.intro _ ⟨spec_l1Num_f.call hy ?_, rfl, rfl, ?_⟩)))
        | ((with_reducible refine fin_mk ?_); (repeat (first | replace H := grd_k H | replace H := out_step H (by assumption))); have H := Option.some.inj H; subst H))
    | constructor
theorem spec_l1Num.spec (a0 : Int) (y : ByteArray) (H : spec_l1Num a0 = some y) : Spec Tryd.prog 42 [(.v (.int .i64 a0))] [] (spec_l1Num.res a0 y) (spec_l1Num.out a0 y) := spec_l1Num_f.spec 64 a0 y H
def G20 : Env := G19.add 42 [] spec_l1Num.S
theorem G20_ok : EnvOk Tryd.prog G20 := G19_ok.add ent_42 fun ar h r h1 ⟨a0, y, hy, e1, e2, e3, e4⟩ => by
  subst e3 e4; exact (spec_l1Num.spec a0 y hy).le e1 e2
attribute [local irreducible] spec_l1Num

noncomputable def spec_l26Line (a0 : DayRow) : Option (ByteArray) :=
  ((spec_l1Num a0.1).bind fun y1 => (grd ((ByteArray.mk #[100, 97, 121, 32]).size + y1.size ≤ 9223372036854775807) (grd (((ByteArray.mk #[100, 97, 121, 32]) ++ y1).size + (ByteArray.mk #[58, 32]).size ≤ 9223372036854775807) (cond (decide (a0.2.2.2.1 = (0 : Int))) (grd ((((ByteArray.mk #[100, 97, 121, 32]) ++ y1) ++ (ByteArray.mk #[58, 32])).size + (ByteArray.mk #[99, 108, 111, 115, 101, 100]).size ≤ 9223372036854775807) ((some ((((ByteArray.mk #[100, 97, 121, 32]) ++ y1) ++ (ByteArray.mk #[58, 32])) ++ (ByteArray.mk #[99, 108, 111, 115, 101, 100]))))) ((spec_l1Num a0.2.1).bind fun y2 => (grd ((((ByteArray.mk #[100, 97, 121, 32]) ++ y1) ++ (ByteArray.mk #[58, 32])).size + y2.size ≤ 9223372036854775807) (grd (((((ByteArray.mk #[100, 97, 121, 32]) ++ y1) ++ (ByteArray.mk #[58, 32])) ++ y2).size + (ByteArray.mk #[32, 117, 112, 44, 32]).size ≤ 9223372036854775807) ((spec_l1Num a0.2.2.1).bind fun y3 => (grd ((((((ByteArray.mk #[100, 97, 121, 32]) ++ y1) ++ (ByteArray.mk #[58, 32])) ++ y2) ++ (ByteArray.mk #[32, 117, 112, 44, 32])).size + y3.size ≤ 9223372036854775807) (grd (((((((ByteArray.mk #[100, 97, 121, 32]) ++ y1) ++ (ByteArray.mk #[58, 32])) ++ y2) ++ (ByteArray.mk #[32, 117, 112, 44, 32])) ++ y3).size + (ByteArray.mk #[32, 100, 111, 119, 110, 44, 32]).size ≤ 9223372036854775807) ((spec_l1Num a0.2.2.2.1).bind fun y4 => (grd ((((((((ByteArray.mk #[100, 97, 121, 32]) ++ y1) ++ (ByteArray.mk #[58, 32])) ++ y2) ++ (ByteArray.mk #[32, 117, 112, 44, 32])) ++ y3) ++ (ByteArray.mk #[32, 100, 111, 119, 110, 44, 32])).size + y4.size ≤ 9223372036854775807) (grd (((((((((ByteArray.mk #[100, 97, 121, 32]) ++ y1) ++ (ByteArray.mk #[58, 32])) ++ y2) ++ (ByteArray.mk #[32, 117, 112, 44, 32])) ++ y3) ++ (ByteArray.mk #[32, 100, 111, 119, 110, 44, 32])) ++ y4).size + (ByteArray.mk #[32, 104]).size ≤ 9223372036854775807) (cond (decide (a0.2.2.2.2.1 = (0 : Int))) ((some (((((((((ByteArray.mk #[100, 97, 121, 32]) ++ y1) ++ (ByteArray.mk #[58, 32])) ++ y2) ++ (ByteArray.mk #[32, 117, 112, 44, 32])) ++ y3) ++ (ByteArray.mk #[32, 100, 111, 119, 110, 44, 32])) ++ y4) ++ (ByteArray.mk #[32, 104])))) (cond (decide (a0.2.2.2.2.1 = (1 : Int))) (grd ((((((((((ByteArray.mk #[100, 97, 121, 32]) ++ y1) ++ (ByteArray.mk #[58, 32])) ++ y2) ++ (ByteArray.mk #[32, 117, 112, 44, 32])) ++ y3) ++ (ByteArray.mk #[32, 100, 111, 119, 110, 44, 32])) ++ y4) ++ (ByteArray.mk #[32, 104])).size + (ByteArray.mk #[44, 32, 49, 32, 115, 116, 111, 112, 32, 40]).size ≤ 9223372036854775807) (grd (((((((((((ByteArray.mk #[100, 97, 121, 32]) ++ y1) ++ (ByteArray.mk #[58, 32])) ++ y2) ++ (ByteArray.mk #[32, 117, 112, 44, 32])) ++ y3) ++ (ByteArray.mk #[32, 100, 111, 119, 110, 44, 32])) ++ y4) ++ (ByteArray.mk #[32, 104])) ++ (ByteArray.mk #[44, 32, 49, 32, 115, 116, 111, 112, 32, 40])).size + a0.2.2.2.2.2.1.size ≤ 9223372036854775807) (grd ((((((((((((ByteArray.mk #[100, 97, 121, 32]) ++ y1) ++ (ByteArray.mk #[58, 32])) ++ y2) ++ (ByteArray.mk #[32, 117, 112, 44, 32])) ++ y3) ++ (ByteArray.mk #[32, 100, 111, 119, 110, 44, 32])) ++ y4) ++ (ByteArray.mk #[32, 104])) ++ (ByteArray.mk #[44, 32, 49, 32, 115, 116, 111, 112, 32, 40])) ++ a0.2.2.2.2.2.1).size + (ByteArray.mk #[41]).size ≤ 9223372036854775807) ((some ((((((((((((ByteArray.mk #[100, 97, 121, 32]) ++ y1) ++ (ByteArray.mk #[58, 32])) ++ y2) ++ (ByteArray.mk #[32, 117, 112, 44, 32])) ++ y3) ++ (ByteArray.mk #[32, 100, 111, 119, 110, 44, 32])) ++ y4) ++ (ByteArray.mk #[32, 104])) ++ (ByteArray.mk #[44, 32, 49, 32, 115, 116, 111, 112, 32, 40])) ++ a0.2.2.2.2.2.1) ++ (ByteArray.mk #[41]))))))) (grd ((((((((((ByteArray.mk #[100, 97, 121, 32]) ++ y1) ++ (ByteArray.mk #[58, 32])) ++ y2) ++ (ByteArray.mk #[32, 117, 112, 44, 32])) ++ y3) ++ (ByteArray.mk #[32, 100, 111, 119, 110, 44, 32])) ++ y4) ++ (ByteArray.mk #[32, 104])).size + (ByteArray.mk #[44, 32]).size ≤ 9223372036854775807) ((spec_l1Num a0.2.2.2.2.1).bind fun y5 => (grd (((((((((((ByteArray.mk #[100, 97, 121, 32]) ++ y1) ++ (ByteArray.mk #[58, 32])) ++ y2) ++ (ByteArray.mk #[32, 117, 112, 44, 32])) ++ y3) ++ (ByteArray.mk #[32, 100, 111, 119, 110, 44, 32])) ++ y4) ++ (ByteArray.mk #[32, 104])) ++ (ByteArray.mk #[44, 32])).size + y5.size ≤ 9223372036854775807) (grd ((((((((((((ByteArray.mk #[100, 97, 121, 32]) ++ y1) ++ (ByteArray.mk #[58, 32])) ++ y2) ++ (ByteArray.mk #[32, 117, 112, 44, 32])) ++ y3) ++ (ByteArray.mk #[32, 100, 111, 119, 110, 44, 32])) ++ y4) ++ (ByteArray.mk #[32, 104])) ++ (ByteArray.mk #[44, 32])) ++ y5).size + (ByteArray.mk #[32, 115, 116, 111, 112, 115, 32, 40]).size ≤ 9223372036854775807) (grd (((((((((((((ByteArray.mk #[100, 97, 121, 32]) ++ y1) ++ (ByteArray.mk #[58, 32])) ++ y2) ++ (ByteArray.mk #[32, 117, 112, 44, 32])) ++ y3) ++ (ByteArray.mk #[32, 100, 111, 119, 110, 44, 32])) ++ y4) ++ (ByteArray.mk #[32, 104])) ++ (ByteArray.mk #[44, 32])) ++ y5) ++ (ByteArray.mk #[32, 115, 116, 111, 112, 115, 32, 40])).size + a0.2.2.2.2.2.1.size ≤ 9223372036854775807) (grd ((((((((((((((ByteArray.mk #[100, 97, 121, 32]) ++ y1) ++ (ByteArray.mk #[58, 32])) ++ y2) ++ (ByteArray.mk #[32, 117, 112, 44, 32])) ++ y3) ++ (ByteArray.mk #[32, 100, 111, 119, 110, 44, 32])) ++ y4) ++ (ByteArray.mk #[32, 104])) ++ (ByteArray.mk #[44, 32])) ++ y5) ++ (ByteArray.mk #[32, 115, 116, 111, 112, 115, 32, 40])) ++ a0.2.2.2.2.2.1).size + (ByteArray.mk #[41]).size ≤ 9223372036854775807) ((some ((((((((((((((ByteArray.mk #[100, 97, 121, 32]) ++ y1) ++ (ByteArray.mk #[58, 32])) ++ y2) ++ (ByteArray.mk #[32, 117, 112, 44, 32])) ++ y3) ++ (ByteArray.mk #[32, 100, 111, 119, 110, 44, 32])) ++ y4) ++ (ByteArray.mk #[32, 104])) ++ (ByteArray.mk #[44, 32])) ++ y5) ++ (ByteArray.mk #[32, 115, 116, 111, 112, 115, 32, 40])) ++ a0.2.2.2.2.2.1) ++ (ByteArray.mk #[41])))))))))))))))))))))))))
def spec_l26Line.res (_ : DayRow) (y : ByteArray) : AV := (.v (.string y))
def spec_l26Line.out (_ : DayRow) (_ : ByteArray) : List (Option LB) := []
def spec_l26Line.S (ar : List AV) (h : List (Option LB)) (r : AV) (h1 : List (Option LB)) : Prop := ∃ a0 y, spec_l26Line a0 = some y ∧ leL ar [(.agg [(.v (.int .i64 a0.1)), (.v (.int .i64 a0.2.1)), (.v (.int .i64 a0.2.2.1)), (.v (.int .i64 a0.2.2.2.1)), (.v (.int .i64 a0.2.2.2.2.1)), (.v (.string a0.2.2.2.2.2.1))])] ∧ leH h [] ∧ r = spec_l26Line.res a0 y ∧ h1 = spec_l26Line.out a0 y
theorem spec_l26Line.call {ar : List AV} {h : List (Option LB)} {a0 : DayRow} {y : ByteArray} (H : spec_l26Line a0 = some y) (h0 : leLk ar [(.agg [(.v (.int .i64 a0.1)), (.v (.int .i64 a0.2.1)), (.v (.int .i64 a0.2.2.1)), (.v (.int .i64 a0.2.2.2.1)), (.v (.int .i64 a0.2.2.2.2.1)), (.v (.string a0.2.2.2.2.2.1))])] (leHk h [])) : spec_l26Line.S ar h (spec_l26Line.res a0 y) (spec_l26Line.out a0 y) := ⟨a0, y, H, (args_ok h0).1, (args_ok h0).2, rfl, rfl⟩
set_option maxHeartbeats 100000000 in
set_option maxRecDepth 100000 in
theorem spec_l26Line.spec (a0 : DayRow) (y : ByteArray) (H : spec_l26Line a0 = some y) : Spec Tryd.prog 23 [(.agg [(.v (.int .i64 a0.1)), (.v (.int .i64 a0.2.1)), (.v (.int .i64 a0.2.2.1)), (.v (.int .i64 a0.2.2.2.1)), (.v (.int .i64 a0.2.2.2.2.1)), (.v (.string a0.2.2.2.2.2.1))])] [] (spec_l26Line.res a0 y) (spec_l26Line.out a0 y) := by
  refine spec_intro (G20_ok.at tok []) (ct := [(4, some [1, 3]), (5, some [1, 3])]) Tryd.func23 rfl (by kernel_rfl) (by kernel_rfl) rfl ?_
  repeat' first
    | ((with_reducible refine eqg ?_); exact rfl)
    | ((with_reducible refine KOb.mk ?_); kernel_rfl)
    | ((with_reducible intro h); (repeat (first | replace H := grd_k H | replace H := out_step H (by assumption))); first | replace H := cond_t h H | replace H := cond_f h H | exact absurd h (by decide) | skip)
    | ((with_reducible refine Ob.mk ?_); first | (with_reducible rfl) | (first | ((repeat (first | (with_reducible exact grd_p H) | (replace H := grd_k H) | (replace H := out_step H (by assumption)))); done) | rfl | ((repeat (first | exact grd_p H | replace H := grd_k H | replace H := out_step H (by assumption))); done) | ((repeat (first | exact grd_p H | (have hp := grd_p H; exact hp) | replace H := grd_k H | replace H := out_step H (by assumption) | (replace H := bind_some H; obtain ⟨_, _, H⟩ := H))); done) | (repeat (first | exact grd_p H | replace H := grd_k H | replace H := out_step H (by assumption)))))
    | (with_reducible exact True.intro)
    | ((conv => whnf); first
        | (with_reducible refine And.intro ?_ ?_)
        | (with_reducible exact True.intro)
        | ((with_reducible refine Ob.mk ?_); first | (with_reducible rfl) | (first | ((repeat (first | (with_reducible exact grd_p H) | (replace H := grd_k H) | (replace H := out_step H (by assumption)))); done) | rfl | ((repeat (first | exact grd_p H | replace H := grd_k H | replace H := out_step H (by assumption))); done) | ((repeat (first | exact grd_p H | (have hp := grd_p H; exact hp) | replace H := grd_k H | replace H := out_step H (by assumption) | (replace H := bind_some H; obtain ⟨_, _, H⟩ := H))); done) | (repeat (first | exact grd_p H | replace H := grd_k H | replace H := out_step H (by assumption)))))
        | ((with_reducible refine CallW.mk ?_); (repeat (first | replace H := grd_k H | replace H := out_step H (by assumption))); replace H := bind_some H; obtain ⟨y, hy, H⟩ := H; first | ((with_reducible have hz : spec_l1Num _ = some y := hy); clear hz; refine Exists.intro _ (Exists.intro _ ⟨spec_l1Num.call hy ?_, rfl, rfl, ?_⟩)))
        | ((with_reducible refine fin_mk ?_); (repeat (first | replace H := grd_k H | replace H := out_step H (by assumption))); have H := Option.some.inj H; subst H))
    | constructor
def G21 : Env := G20.add 23 [] spec_l26Line.S
theorem G21_ok : EnvOk Tryd.prog G21 := G20_ok.add ent_23 fun ar h r h1 ⟨a0, y, hy, e1, e2, e3, e4⟩ => by
  subst e3 e4; exact (spec_l26Line.spec a0 y hy).le e1 e2
attribute [local irreducible] spec_l26Line

end Go.Proofs.YtjpnifmbgemibaaDoor
