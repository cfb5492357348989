/-
  Contracts, printed by a program.
-/
import Derived.Test.YtjpnifmbgemibaaDoorC814
namespace Go.Proofs.YtjpnifmbgemibaaDoor
open Go.RowKit
attribute [local irreducible] Ob loopwp Sub Spec Fin Again CallW CutC KOb iter joinx outm

attribute [local irreducible] laws_rBig spec_l1Cur_next spec_l1Cur_pick spec_l1Cur_among spec_l1Cur_one spec_l1Cur_of spec_l1Cur_dayRow spec_DrawIsDayRow spec_DrawDayLine impl_within impl_isDay impl_isWord impl_IsDayRow strconv_Itoa impl_dayLine impl_DayLine spec_l1In spec_l2Word spec_l26One spec_l1Num spec_l1Num_f spec_l26Line spec_DayLine strings_Cut internal_stringslite_HasPrefix internal_stringslite_TrimPrefix strings_TrimPrefix impl_ParseInt strings_Split

noncomputable def internal_stringslite_HasSuffix (a0 : ByteArray) (a1 : ByteArray) : Option (Bool) :=
  (cond (decide ((a1.size : Int) ≤ (a0.size : Int))) (grd (0 ≤ (w64 ((a0.size : Int) - (a1.size : Int))) ∧ (w64 ((a0.size : Int) - (a1.size : Int))) ≤ (a0.size : Int) ∧ (a0.size : Int) ≤ (a0.size : Int)) ((some (decide ((bsub a0 (w64 ((a0.size : Int) - (a1.size : Int))) (a0.size : Int)) = a1))))) ((some false)))
def internal_stringslite_HasSuffix.res (_ : ByteArray) (_ : ByteArray) (y : Bool) : AV := (.bl y)
def internal_stringslite_HasSuffix.out (_ : ByteArray) (_ : ByteArray) (_ : Bool) : List (Option LB) := []
def internal_stringslite_HasSuffix.S (ar : List AV) (h : List (Option LB)) (r : AV) (h1 : List (Option LB)) : Prop := ∃ a0 a1 y, internal_stringslite_HasSuffix a0 a1 = some y ∧ leL ar [(.v (.string a0)), (.v (.string a1))] ∧ leH h [] ∧ r = internal_stringslite_HasSuffix.res a0 a1 y ∧ h1 = internal_stringslite_HasSuffix.out a0 a1 y
theorem internal_stringslite_HasSuffix.call {ar : List AV} {h : List (Option LB)} {a0 : ByteArray} {a1 : ByteArray} {y : Bool} (H : internal_stringslite_HasSuffix a0 a1 = some y) (h0 : leLk ar [(.v (.string a0)), (.v (.string a1))] (leHk h [])) : internal_stringslite_HasSuffix.S ar h (internal_stringslite_HasSuffix.res a0 a1 y) (internal_stringslite_HasSuffix.out a0 a1 y) := ⟨a0, a1, y, H, (args_ok h0).1, (args_ok h0).2, rfl, rfl⟩
set_option maxHeartbeats 100000000 in
set_option maxRecDepth 100000 in
theorem internal_stringslite_HasSuffix.spec (a0 : ByteArray) (a1 : ByteArray) (y : Bool) (H : internal_stringslite_HasSuffix a0 a1 = some y) : Spec Tryd.prog 62 [(.v (.string a0)), (.v (.string a1))] [] (internal_stringslite_HasSuffix.res a0 a1 y) (internal_stringslite_HasSuffix.out a0 a1 y) := by
  refine spec_intro (G28_ok.at tok []) (ct := []) Tryd.func62 rfl (by kernel_rfl) (by kernel_rfl) rfl ?_
  repeat' first
    | ((with_reducible refine eqg ?_); exact rfl)
    | ((with_reducible refine KOb.mk ?_); kernel_rfl)
    | ((with_reducible intro h); (repeat (first | replace H := grd_k H | replace H := out_step H (by assumption))); first | replace H := cond_t h H | replace H := cond_f h H | exact absurd h (by decide) | skip)
    | ((with_reducible refine Ob.mk ?_); first | (with_reducible rfl) | (first | ((repeat (first | (with_reducible exact grd_p H) | (replace H := grd_k H) | (replace H := out_step H (by assumption)))); done) | rfl | ((repeat (first | exact grd_p H | replace H := grd_k H | replace H := out_step H (by assumption))); done) | ((repeat (first | exact grd_p H | (have hp := grd_p H; exact hp) | replace H := grd_k H | replace H := out_step H (by assumption) | (replace H := bind_some H; obtain ⟨_, _, H⟩ := H))); done) | (repeat (first | exact grd_p H | replace H := grd_k H | replace H := out_step H (by assumption)))))
    | (with_reducible exact True.intro)
    | ((conv => whnf); first
        | (with_reducible refine And.intro ?_ ?_)
        | (with_reducible exact True.intro)
        | ((with_reducible refine Ob.mk ?_); first | (with_reducible rfl) | (first | ((repeat (first | (with_reducible exact grd_p H) | (replace H := grd_k H) | (replace H := out_step H (by assumption)))); done) | rfl | ((repeat (first | exact grd_p H | replace H := grd_k H | replace H := out_step H (by assumption))); done) | ((repeat (first | exact grd_p H | (have hp := grd_p H; exact hp) | replace H := grd_k H | replace H := out_step H (by assumption) | (replace H := bind_some H; obtain ⟨_, _, H⟩ := H))); done) | (repeat (first | exact grd_p H | replace H := grd_k H | replace H := out_step H (by assumption)))))
        | ((with_reducible refine fin_mk ?_); (repeat (first | replace H := grd_k H | replace H := out_step H (by assumption))); have H := Option.some.inj H; subst H))
    | constructor
def G29 : Env := G28.add 62 [] internal_stringslite_HasSuffix.S
theorem G29_ok : EnvOk Tryd.prog G29 := G28_ok.add ent_62 fun ar h r h1 ⟨a0, a1, y, hy, e1, e2, e3, e4⟩ => by
  subst e3 e4; exact (internal_stringslite_HasSuffix.spec a0 a1 y hy).le e1 e2
attribute [local irreducible] internal_stringslite_HasSuffix

noncomputable def internal_stringslite_TrimSuffix (a0 : ByteArray) (a1 : ByteArray) : Option (ByteArray) :=
  ((internal_stringslite_HasSuffix a0 a1).bind fun y1 => (cond y1 (grd (0 ≤ (0 : Int) ∧ (0 : Int) ≤ (w64 ((a0.size : Int) - (a1.size : Int))) ∧ (w64 ((a0.size : Int) - (a1.size : Int))) ≤ (a0.size : Int)) ((some (bsub a0 (0 : Int) (w64 ((a0.size : Int) - (a1.size : Int))))))) ((some a0))))
def internal_stringslite_TrimSuffix.res (_ : ByteArray) (_ : ByteArray) (y : ByteArray) : AV := (.v (.string y))
def internal_stringslite_TrimSuffix.out (_ : ByteArray) (_ : ByteArray) (_ : ByteArray) : List (Option LB) := []
def internal_stringslite_TrimSuffix.S (ar : List AV) (h : List (Option LB)) (r : AV) (h1 : List (Option LB)) : Prop := ∃ a0 a1 y, internal_stringslite_TrimSuffix a0 a1 = some y ∧ leL ar [(.v (.string a0)), (.v (.string a1))] ∧ leH h [] ∧ r = internal_stringslite_TrimSuffix.res a0 a1 y ∧ h1 = internal_stringslite_TrimSuffix.out a0 a1 y
theorem internal_stringslite_TrimSuffix.call {ar : List AV} {h : List (Option LB)} {a0 : ByteArray} {a1 : ByteArray} {y : ByteArray} (H : internal_stringslite_TrimSuffix a0 a1 = some y) (h0 : leLk ar [(.v (.string a0)), (.v (.string a1))] (leHk h [])) : internal_stringslite_TrimSuffix.S ar h (internal_stringslite_TrimSuffix.res a0 a1 y) (internal_stringslite_TrimSuffix.out a0 a1 y) := ⟨a0, a1, y, H, (args_ok h0).1, (args_ok h0).2, rfl, rfl⟩
set_option maxHeartbeats 100000000 in
set_option maxRecDepth 100000 in
theorem internal_stringslite_TrimSuffix.spec (a0 : ByteArray) (a1 : ByteArray) (y : ByteArray) (H : internal_stringslite_TrimSuffix a0 a1 = some y) : Spec Tryd.prog 50 [(.v (.string a0)), (.v (.string a1))] [] (internal_stringslite_TrimSuffix.res a0 a1 y) (internal_stringslite_TrimSuffix.out a0 a1 y) := by
  refine spec_intro (G29_ok.at tok []) (ct := []) Tryd.func50 rfl (by kernel_rfl) (by kernel_rfl) rfl ?_
  repeat' first
    | ((with_reducible refine eqg ?_); exact rfl)
    | ((with_reducible refine KOb.mk ?_); kernel_rfl)
    | ((with_reducible intro h); (repeat (first | replace H := grd_k H | replace H := out_step H (by assumption))); first | replace H := cond_t h H | replace H := cond_f h H | exact absurd h (by decide) | skip)
    | ((with_reducible refine Ob.mk ?_); first | (with_reducible rfl) | (first | ((repeat (first | (with_reducible exact grd_p H) | (replace H := grd_k H) | (replace H := out_step H (by assumption)))); done) | rfl | ((repeat (first | exact grd_p H | replace H := grd_k H | replace H := out_step H (by assumption))); done) | ((repeat (first | exact grd_p H | (have hp := grd_p H; exact hp) | replace H := grd_k H | replace H := out_step H (by assumption) | (replace H := bind_some H; obtain ⟨_, _, H⟩ := H))); done) | (repeat (first | exact grd_p H | replace H := grd_k H | replace H := out_step H (by assumption)))))
    | (with_reducible exact True.intro)
    | ((conv => whnf); first
        | (with_reducible refine And.intro ?_ ?_)
        | (with_reducible exact True.intro)
        | ((with_reducible refine Ob.mk ?_); first | (with_reducible rfl) | (first | ((repeat (first | (with_reducible exact grd_p H) | (replace H := grd_k H) | (replace H := out_step H (by assumption)))); done) | rfl | ((repeat (first | exact grd_p H | replace H := grd_k H | replace H := out_step H (by assumption))); done) | ((repeat (first | exact grd_p H | (have hp := grd_p H; exact hp) | replace H := grd_k H | replace H := out_step H (by assumption) | (replace H := bind_some H; obtain ⟨_, _, H⟩ := H))); done) | (repeat (first | exact grd_p H | replace H := grd_k H | replace H := out_step H (by assumption)))))
        | ((with_reducible refine CallW.mk ?_); (repeat (first | replace H := grd_k H | replace H := out_step H (by assumption))); replace H := bind_some H; obtain ⟨y, hy, H⟩ := H; first | ((with_reducible have hz : internal_stringslite_HasSuffix _ _ = some y := hy); clear hz; refine Exists.intro _ (Exists.intro _ ⟨internal_stringslite_HasSuffix.call hy ?_, rfl, rfl, ?_⟩)))
        | ((with_reducible refine fin_mk ?_); (repeat (first | replace H := grd_k H | replace H := out_step H (by assumption))); have H := Option.some.inj H; subst H))
    | constructor
def G30 : Env := G29.add 50 [] internal_stringslite_TrimSuffix.S
theorem G30_ok : EnvOk Tryd.prog G30 := G29_ok.add ent_50 fun ar h r h1 ⟨a0, a1, y, hy, e1, e2, e3, e4⟩ => by
  subst e3 e4; exact (internal_stringslite_TrimSuffix.spec a0 a1 y hy).le e1 e2
attribute [local irreducible] internal_stringslite_TrimSuffix

noncomputable def strings_TrimSuffix (a0 : ByteArray) (a1 : ByteArray) : Option (ByteArray) :=
  ((internal_stringslite_TrimSuffix a0 a1).bind fun y1 => (some y1))
def strings_TrimSuffix.res (_ : ByteArray) (_ : ByteArray) (y : ByteArray) : AV := (.v (.string y))
def strings_TrimSuffix.out (_ : ByteArray) (_ : ByteArray) (_ : ByteArray) : List (Option LB) := []
def strings_TrimSuffix.S (ar : List AV) (h : List (Option LB)) (r : AV) (h1 : List (Option LB)) : Prop := ∃ a0 a1 y, strings_TrimSuffix a0 a1 = some y ∧ leL ar [(.v (.string a0)), (.v (.string a1))] ∧ leH h [] ∧ r = strings_TrimSuffix.res a0 a1 y ∧ h1 = strings_TrimSuffix.out a0 a1 y
theorem strings_TrimSuffix.call {ar : List AV} {h : List (Option LB)} {a0 : ByteArray} {a1 : ByteArray} {y : ByteArray} (H : strings_TrimSuffix a0 a1 = some y) (h0 : leLk ar [(.v (.string a0)), (.v (.string a1))] (leHk h [])) : strings_TrimSuffix.S ar h (strings_TrimSuffix.res a0 a1 y) (strings_TrimSuffix.out a0 a1 y) := ⟨a0, a1, y, H, (args_ok h0).1, (args_ok h0).2, rfl, rfl⟩
set_option maxHeartbeats 100000000 in
set_option maxRecDepth 100000 in
theorem strings_TrimSuffix.spec (a0 : ByteArray) (a1 : ByteArray) (y : ByteArray) (H : strings_TrimSuffix a0 a1 = some y) : Spec Tryd.prog 31 [(.v (.string a0)), (.v (.string a1))] [] (strings_TrimSuffix.res a0 a1 y) (strings_TrimSuffix.out a0 a1 y) := by
  refine spec_intro (G30_ok.at tok []) (ct := []) Tryd.func31 rfl (by kernel_rfl) (by kernel_rfl) rfl ?_
  repeat' first
    | ((with_reducible refine eqg ?_); exact rfl)
    | ((with_reducible refine KOb.mk ?_); kernel_rfl)
    | ((with_reducible intro h); (repeat (first | replace H := grd_k H | replace H := out_step H (by assumption))); first | replace H := cond_t h H | replace H := cond_f h H | exact absurd h (by decide) | skip)
    | ((with_reducible refine Ob.mk ?_); first | (with_reducible rfl) | (first | ((repeat (first | (with_reducible exact grd_p H) | (replace H := grd_k H) | (replace H := out_step H (by assumption)))); done) | rfl | ((repeat (first | exact grd_p H | replace H := grd_k H | replace H := out_step H (by assumption))); done) | ((repeat (first | exact grd_p H | (have hp := grd_p H; exact hp) | replace H := grd_k H | replace H := out_step H (by assumption) | (replace H := bind_some H; obtain ⟨_, _, H⟩ := H))); done) | (repeat (first | exact grd_p H | replace H := grd_k H | replace H := out_step H (by assumption)))))
    | (with_reducible exact True.intro)
    | ((conv => whnf); first
        | (with_reducible refine And.intro ?_ ?_)
        | (with_reducible exact True.intro)
        | ((with_reducible refine Ob.mk ?_); first | (with_reducible rfl) | (first | ((repeat (first | (with_reducible exact grd_p H) | (replace H := grd_k H) | (replace H := out_step H (by assumption)))); done) | rfl | ((repeat (first | exact grd_p H | replace H := grd_k H | replace H := out_step H (by assumption))); done) | ((repeat (first | exact grd_p H | (have hp := grd_p H; exact hp) | replace H := grd_k H | replace H := out_step H (by assumption) | (replace H := bind_some H; obtain ⟨_, _, H⟩ := H))); done) | (repeat (first | exact grd_p H | replace H := grd_k H | replace H := out_step H (by assumption)))))
        | ((with_reducible refine CallW.mk ?_); (repeat (first | replace H := grd_k H | replace H := out_step H (by assumption))); replace H := bind_some H; obtain ⟨y, hy, H⟩ := H; first | ((with_reducible have hz : internal_stringslite_TrimSuffix _ _ = some y := hy); clear hz; refine Exists.intro _ (Exists.intro _ ⟨internal_stringslite_TrimSuffix.call hy ?_, rfl, rfl, ?_⟩)))
        | ((with_reducible refine fin_mk ?_); (repeat (first | replace H := grd_k H | replace H := out_step H (by assumption))); have H := Option.some.inj H; subst H))
    | constructor
def G31 : Env := G30.add 31 [] strings_TrimSuffix.S
theorem G31_ok : EnvOk Tryd.prog G31 := G30_ok.add ent_31 fun ar h r h1 ⟨a0, a1, y, hy, e1, e2, e3, e4⟩ => by
  subst e3 e4; exact (strings_TrimSuffix.spec a0 a1 y hy).le e1 e2
attribute [local irreducible] strings_TrimSuffix

noncomputable def impl_ParseDayLine (a0 : ByteArray) : Option (DayRow × Bool) :=
  ((strings_Cut a0 (ByteArray.mk #[58, 32])).bind fun y1 => ((strings_TrimPrefix y1.1 (ByteArray.mk #[100, 97, 121, 32])).bind fun y2 => ((impl_ParseInt y2).bind fun y3 => (((strings_Split y1.2.1 (ByteArray.mk #[44, 32])).bind fun y4 => (cond (decide ((3 : Int) ≤ (y4.length : Int))) (grd (0 ≤ (0 : Int) ∧ (0 : Int) < (y4.length : Int)) ((strings_TrimSuffix (y4.getD ((0 : Int).toNat) (ByteArray.mk #[])) (ByteArray.mk #[32, 117, 112])).bind fun y5 => ((impl_ParseInt y5).bind fun y6 => (grd (0 ≤ (1 : Int) ∧ (1 : Int) < (y4.length : Int)) ((strings_TrimSuffix (y4.getD ((1 : Int).toNat) (ByteArray.mk #[])) (ByteArray.mk #[32, 100, 111, 119, 110])).bind fun y7 => ((impl_ParseInt y7).bind fun y8 => (grd (0 ≤ (2 : Int) ∧ (2 : Int) < (y4.length : Int)) ((strings_TrimSuffix (y4.getD ((2 : Int).toNat) (ByteArray.mk #[])) (ByteArray.mk #[32, 104])).bind fun y9 => ((impl_ParseInt y9).bind fun y10 => (cond (decide ((3 : Int) < (y4.length : Int))) (grd (0 ≤ (3 : Int) ∧ (3 : Int) < (y4.length : Int)) ((strings_Cut (y4.getD ((3 : Int).toNat) (ByteArray.mk #[])) (ByteArray.mk #[32, 40])).bind fun y11 => ((strings_Cut y11.1 (ByteArray.mk #[32])).bind fun y12 => ((impl_ParseInt y12.1).bind fun y13 => ((strings_TrimSuffix y11.2.1 (ByteArray.mk #[41])).bind fun y14 => (some (y3.1, y6.1, y8.1, y10.1, y13.1, y14))))))) ((some (y3.1, y6.1, y8.1, y10.1, (0 : Int), (ByteArray.mk #[])))))))))))))) ((some (y3.1, (0 : Int), (0 : Int), (0 : Int), (0 : Int), (ByteArray.mk #[])))))).bind fun z15 => ((impl_IsDayRow (z15.1, z15.2.1, z15.2.2.1, z15.2.2.2.1, z15.2.2.2.2.1, z15.2.2.2.2.2, ())).bind fun y16 => (cond (!y16) ((some (((0 : Int), (0 : Int), (0 : Int), (0 : Int), (0 : Int), (ByteArray.mk #[]), ()), false))) ((impl_dayLine (z15.1, z15.2.1, z15.2.2.1, z15.2.2.2.1, z15.2.2.2.2.1, z15.2.2.2.2.2, ())).bind fun y17 => (cond (!decide (y17 = a0)) ((some (((0 : Int), (0 : Int), (0 : Int), (0 : Int), (0 : Int), (ByteArray.mk #[]), ()), false))) ((some ((z15.1, z15.2.1, z15.2.2.1, z15.2.2.2.1, z15.2.2.2.2.1, z15.2.2.2.2.2, ()), true)))))))))))
def impl_ParseDayLine.res (_ : ByteArray) (y : DayRow × Bool) : AV := (.tup [(.agg [(.v (.int .i64 y.1.1)), (.v (.int .i64 y.1.2.1)), (.v (.int .i64 y.1.2.2.1)), (.v (.int .i64 y.1.2.2.2.1)), (.v (.int .i64 y.1.2.2.2.2.1)), (.v (.string y.1.2.2.2.2.2.1))]), (.bl y.2)])
def impl_ParseDayLine.out (_ : ByteArray) (_ : DayRow × Bool) : List (Option LB) := []
def impl_ParseDayLine.S (ar : List AV) (h : List (Option LB)) (r : AV) (h1 : List (Option LB)) : Prop := ∃ a0 y, impl_ParseDayLine a0 = some y ∧ leL ar [(.v (.string a0))] ∧ leH h [] ∧ r = impl_ParseDayLine.res a0 y ∧ h1 = impl_ParseDayLine.out a0 y
theorem impl_ParseDayLine.call {ar : List AV} {h : List (Option LB)} {a0 : ByteArray} {y : DayRow × Bool} (H : impl_ParseDayLine a0 = some y) (h0 : leLk ar [(.v (.string a0))] (leHk h [])) : impl_ParseDayLine.S ar h (impl_ParseDayLine.res a0 y) (impl_ParseDayLine.out a0 y) := ⟨a0, y, H, (args_ok h0).1, (args_ok h0).2, rfl, rfl⟩
set_option maxHeartbeats 100000000 in
set_option maxRecDepth 100000 in
theorem impl_ParseDayLine.spec (a0 : ByteArray) (y : DayRow × Bool) (H : impl_ParseDayLine a0 = some y) : Spec Tryd.prog 9 [(.v (.string a0))] [] (impl_ParseDayLine.res a0 y) (impl_ParseDayLine.out a0 y) := by
  refine spec_intro (G31_ok.at tok []) (ct := [(14, none), (4, some [0, 2, 5, 7, 91, 92, 93, 94]), (7, some [0, 2, 7, 8, 91, 92, 93, 94]), (9, some [0, 2, 7, 8, 91, 92, 93, 94]), (11, some [0, 2, 7, 9, 10, 91, 92, 93, 94]), (13, some [0, 2, 7, 10, 91, 92, 93, 94])]) Tryd.func9 rfl (by kernel_rfl) (by kernel_rfl) rfl ?_
  repeat' first
    | ((with_reducible refine eqg ?_); exact rfl)
    | ((with_reducible refine KOb.mk ?_); kernel_rfl)
    | ((with_reducible intro h); (repeat (first | replace H := grd_k H | replace H := out_step H (by assumption))); first | replace H := cond_t h H | replace H := cond_f h H | exact absurd h (by decide) | skip)
    | ((with_reducible refine Ob.mk ?_); first | (with_reducible rfl) | (first | ((repeat (first | (with_reducible exact grd_p H) | (replace H := grd_k H) | (replace H := out_step H (by assumption)))); done) | rfl | ((repeat (first | exact grd_p H | replace H := grd_k H | replace H := out_step H (by assumption))); done) | ((repeat (first | exact grd_p H | (have hp := grd_p H; exact hp) | replace H := grd_k H | replace H := out_step H (by assumption) | (replace H := bind_some H; obtain ⟨_, _, H⟩ := H))); done) | (repeat (first | exact grd_p H | replace H := grd_k H | replace H := out_step H (by assumption)))))
    | (with_reducible exact True.intro)
    | ((conv => whnf); first
        | (with_reducible refine And.intro ?_ ?_)
        | (with_reducible exact True.intro)
        | ((with_reducible refine Ob.mk ?_); first | (with_reducible rfl) | (first | ((repeat (first | (with_reducible exact grd_p H) | (replace H := grd_k H) | (replace H := out_step H (by assumption)))); done) | rfl | ((repeat (first | exact grd_p H | replace H := grd_k H | replace H := out_step H (by assumption))); done) | ((repeat (first | exact grd_p H | (have hp := grd_p H; exact hp) | replace H := grd_k H | replace H := out_step H (by assumption) | (replace H := bind_some H; obtain ⟨_, _, H⟩ := H))); done) | (repeat (first | exact grd_p H | replace H := grd_k H | replace H := out_step H (by assumption)))))
        | ((with_reducible refine CallW.mk ?_); (repeat (first | replace H := grd_k H | replace H := out_step H (by assumption))); replace H := bind_some H; obtain ⟨y, hy, H⟩ := H; first | ((with_reducible have hz : strings_Cut _ _ = some y := hy); clear hz; refine Exists.intro _ (Exists.intro _ ⟨strings_Cut.call hy ?_, rfl, rfl, ?_⟩)) | ((with_reducible have hz : strings_TrimPrefix _ _ = some y := hy); clear hz; refine Exists.intro _ (Exists.intro _ ⟨strings_TrimPrefix.call hy ?_, rfl, rfl, ?_⟩)) | ((with_reducible have hz : impl_ParseInt _ = some y := hy); clear hz; refine Exists.intro _ (Exists.intro _ ⟨impl_ParseInt.call hy ?_, rfl, rfl, ?_⟩)) | ((with_reducible have hz : strings_Split _ _ = some y := hy); clear hz; refine Exists.intro _ (Exists.intro _ ⟨strings_Split.call hy ?_, rfl, rfl, ?_⟩)) | ((with_reducible have hz : strings_TrimSuffix _ _ = some y := hy); clear hz; refine Exists.intro _ (Exists.intro _ ⟨strings_TrimSuffix.call hy ?_, rfl, rfl, ?_⟩)) | ((with_reducible have hz : impl_IsDayRow _ = some y := hy); clear hz; refine Exists.intro _ (Exists.intro _ ⟨impl_IsDayRow.call hy ?_, rfl, rfl, ?_⟩)) | ((with_reducible have hz : impl_dayLine _ = some y := hy); clear hz; refine Exists.intro _ (Exists.intro _ ⟨impl_dayLine.call hy ?_, rfl, rfl, ?_⟩)))
        | ((with_reducible refine cutAt (id := 14) ?_); (repeat (first | replace H := grd_k H | replace H := out_step H (by assumption))); first | (replace H := bind_some H; obtain ⟨z, hz, H⟩ := H; refine CutC.mk (id := 14) ⟨sl [(0, (.v (.string a0))), (2, (.loc 0 0 0)), (7, (.loc 1 0 0))], [some (.box 25 [(.v (.int .i64 (0 : Int))), (.v (.int .i64 (0 : Int))), (.v (.int .i64 (0 : Int))), (.v (.int .i64 (0 : Int))), (.v (.int .i64 (0 : Int))), (.v (.string (ByteArray.mk #[])))]), some (.box 25 [(.v (.int .i64 z.1)), (.v (.int .i64 z.2.1)), (.v (.int .i64 z.2.2.1)), (.v (.int .i64 z.2.2.2.1)), (.v (.int .i64 z.2.2.2.2.1)), (.v (.string z.2.2.2.2.2))])]⟩ ?_ ?_; (replace H := hz)))
        | ((repeat (first | replace H := grd_k H | replace H := out_step H (by assumption))); have H := Option.some.inj H; subst H; with_reducible refine sub_auto ?_)
        | ((with_reducible refine fin_mk ?_); (repeat (first | replace H := grd_k H | replace H := out_step H (by assumption))); have H := Option.some.inj H; subst H))
    | constructor
def G32 : Env := G31.add 9 [] impl_ParseDayLine.S
theorem G32_ok : EnvOk Tryd.prog G32 := G31_ok.add ent_9 fun ar h r h1 ⟨a0, y, hy, e1, e2, e3, e4⟩ => by
  subst e3 e4; exact (impl_ParseDayLine.spec a0 y hy).le e1 e2
attribute [local irreducible] impl_ParseDayLine

noncomputable def spec_l1Cur_spoilt (a0 : l1Cur) (a1 : ByteArray) (a2 : ByteArray) : Option (ByteArray × l1Cur) :=
  (cond (decide (a1 = (ByteArray.mk #[]))) (grd (0 ≤ (0 : Int) ∧ (0 : Int) ≤ (1 : Int) ∧ (1 : Int) ≤ (a2.size : Int)) ((some ((bsub a2 (0 : Int) (1 : Int)), (a0.1, a0.2.1, a0.2.2.1, ()))))) ((spec_l1Cur_pick (a0.1, a0.2.1, a0.2.2.1, ()) (a1.size : Int)).bind fun y1 => ((spec_l1Cur_pick (y1.2.1, y1.2.2.1, y1.2.2.2.1, ()) (a2.size : Int)).bind fun y2 => (grd (0 ≤ y2.1 ∧ y2.1 ≤ (a2.size : Int) ∧ (a2.size : Int) ≤ (a2.size : Int)) (grd (0 ≤ (0 : Int) ∧ (0 : Int) ≤ (1 : Int) ∧ (1 : Int) ≤ ((bsub a2 y2.1 (a2.size : Int)).size : Int)) ((spec_l1Cur_pick (y2.2.1, y2.2.2.1, y2.2.2.2.1, ()) (3 : Int)).bind fun y3 => (cond (decide (y3.1 = (0 : Int))) (grd (0 ≤ (0 : Int) ∧ (0 : Int) ≤ y1.1 ∧ y1.1 ≤ (a1.size : Int)) (grd ((bsub a1 (0 : Int) y1.1).size + (bsub (bsub a2 y2.1 (a2.size : Int)) (0 : Int) (1 : Int)).size ≤ 9223372036854775807) (grd (0 ≤ y1.1 ∧ y1.1 ≤ (a1.size : Int) ∧ (a1.size : Int) ≤ (a1.size : Int)) (grd (((bsub a1 (0 : Int) y1.1) ++ (bsub (bsub a2 y2.1 (a2.size : Int)) (0 : Int) (1 : Int))).size + (bsub a1 y1.1 (a1.size : Int)).size ≤ 9223372036854775807) ((some ((((bsub a1 (0 : Int) y1.1) ++ (bsub (bsub a2 y2.1 (a2.size : Int)) (0 : Int) (1 : Int))) ++ (bsub a1 y1.1 (a1.size : Int))), (y3.2.1, y3.2.2.1, y3.2.2.2.1, ())))))))) (cond (decide (y3.1 = (1 : Int))) (grd (0 ≤ (0 : Int) ∧ (0 : Int) ≤ y1.1 ∧ y1.1 ≤ (a1.size : Int)) (grd ((bsub a1 (0 : Int) y1.1).size + (bsub (bsub a2 y2.1 (a2.size : Int)) (0 : Int) (1 : Int)).size ≤ 9223372036854775807) (grd (0 ≤ (w64 (y1.1 + (1 : Int))) ∧ (w64 (y1.1 + (1 : Int))) ≤ (a1.size : Int) ∧ (a1.size : Int) ≤ (a1.size : Int)) (grd (((bsub a1 (0 : Int) y1.1) ++ (bsub (bsub a2 y2.1 (a2.size : Int)) (0 : Int) (1 : Int))).size + (bsub a1 (w64 (y1.1 + (1 : Int))) (a1.size : Int)).size ≤ 9223372036854775807) ((some ((((bsub a1 (0 : Int) y1.1) ++ (bsub (bsub a2 y2.1 (a2.size : Int)) (0 : Int) (1 : Int))) ++ (bsub a1 (w64 (y1.1 + (1 : Int))) (a1.size : Int))), (y3.2.1, y3.2.2.1, y3.2.2.2.1, ())))))))) (grd (0 ≤ (0 : Int) ∧ (0 : Int) ≤ y1.1 ∧ y1.1 ≤ (a1.size : Int)) (grd (0 ≤ (w64 (y1.1 + (1 : Int))) ∧ (w64 (y1.1 + (1 : Int))) ≤ (a1.size : Int) ∧ (a1.size : Int) ≤ (a1.size : Int)) (grd ((bsub a1 (0 : Int) y1.1).size + (bsub a1 (w64 (y1.1 + (1 : Int))) (a1.size : Int)).size ≤ 9223372036854775807) ((some (((bsub a1 (0 : Int) y1.1) ++ (bsub a1 (w64 (y1.1 + (1 : Int))) (a1.size : Int))), (y3.2.1, y3.2.2.1, y3.2.2.2.1, ())))))))))))))))
def spec_l1Cur_spoilt.res (_ : l1Cur) (_ : ByteArray) (_ : ByteArray) (y : ByteArray × l1Cur) : AV := (.v (.string y.1))
def spec_l1Cur_spoilt.out (_ : l1Cur) (_ : ByteArray) (_ : ByteArray) (y : ByteArray × l1Cur) : List (Option LB) := [some (.box 56 [(.tree (.int .u8) y.2.1), (.v (.int .i64 y.2.2.1)), (.v (.int .u64 y.2.2.2.1))])]
def spec_l1Cur_spoilt.S (ar : List AV) (h : List (Option LB)) (r : AV) (h1 : List (Option LB)) : Prop := ∃ a0 a1 a2 y, spec_l1Cur_spoilt a0 a1 a2 = some y ∧ leL ar [(.loc 0 0 0), (.v (.string a1)), (.v (.string a2))] ∧ leH h [some (.box 56 [(.tree (.int .u8) a0.1), (.v (.int .i64 a0.2.1)), (.v (.int .u64 a0.2.2.1))])] ∧ r = spec_l1Cur_spoilt.res a0 a1 a2 y ∧ h1 = spec_l1Cur_spoilt.out a0 a1 a2 y
theorem spec_l1Cur_spoilt.call {ar : List AV} {h : List (Option LB)} {a0 : l1Cur} {a1 : ByteArray} {a2 : ByteArray} {y : ByteArray × l1Cur} (H : spec_l1Cur_spoilt a0 a1 a2 = some y) (h0 : leLk ar [(.loc 0 0 0), (.v (.string a1)), (.v (.string a2))] (leHk h [some (.box 56 [(.tree (.int .u8) a0.1), (.v (.int .i64 a0.2.1)), (.v (.int .u64 a0.2.2.1))])])) : spec_l1Cur_spoilt.S ar h (spec_l1Cur_spoilt.res a0 a1 a2 y) (spec_l1Cur_spoilt.out a0 a1 a2 y) := ⟨a0, a1, a2, y, H, (args_ok h0).1, (args_ok h0).2, rfl, rfl⟩
set_option maxHeartbeats 100000000 in
set_option maxRecDepth 100000 in
theorem spec_l1Cur_spoilt.spec (a0 : l1Cur) (a1 : ByteArray) (a2 : ByteArray) (y : ByteArray × l1Cur) (H : spec_l1Cur_spoilt a0 a1 a2 = some y) : Spec Tryd.prog 35 [(.loc 0 0 0), (.v (.string a1)), (.v (.string a2))] [some (.box 56 [(.tree (.int .u8) a0.1), (.v (.int .i64 a0.2.1)), (.v (.int .u64 a0.2.2.1))])] (spec_l1Cur_spoilt.res a0 a1 a2 y) (spec_l1Cur_spoilt.out a0 a1 a2 y) := by
  refine spec_intro (G32_ok.at tok []) (ct := [(5, some [0, 1, 7, 8]), (10, some [1, 7])]) Tryd.func35 rfl (by kernel_rfl) (by kernel_rfl) rfl ?_
  repeat' first
    | ((with_reducible refine eqg ?_); exact rfl)
    | ((with_reducible refine KOb.mk ?_); kernel_rfl)
    | ((with_reducible intro h); (repeat (first | replace H := grd_k H | replace H := out_step H (by assumption))); first | replace H := cond_t h H | replace H := cond_f h H | exact absurd h (by decide) | skip)
    | ((with_reducible refine Ob.mk ?_); first | (with_reducible rfl) | (first | ((repeat (first | (with_reducible exact grd_p H) | (replace H := grd_k H) | (replace H := out_step H (by assumption)))); done) | rfl | ((repeat (first | exact grd_p H | replace H := grd_k H | replace H := out_step H (by assumption))); done) | ((repeat (first | exact grd_p H | (have hp := grd_p H; exact hp) | replace H := grd_k H | replace H := out_step H (by assumption) | (replace H := bind_some H; obtain ⟨_, _, H⟩ := H))); done) | (repeat (first | exact grd_p H | replace H := grd_k H | replace H := out_step H (by assumption)))))
    | (with_reducible exact True.intro)
    | ((conv => whnf); first
        | (with_reducible refine And.intro ?_ ?_)
        | (with_reducible exact True.intro)
        | ((with_reducible refine Ob.mk ?_); first | (with_reducible rfl) | (first | ((repeat (first | (with_reducible exact grd_p H) | (replace H := grd_k H) | (replace H := out_step H (by assumption)))); done) | rfl | ((repeat (first | exact grd_p H | replace H := grd_k H | replace H := out_step H (by assumption))); done) | ((repeat (first | exact grd_p H | (have hp := grd_p H; exact hp) | replace H := grd_k H | replace H := out_step H (by assumption) | (replace H := bind_some H; obtain ⟨_, _, H⟩ := H))); done) | (repeat (first | exact grd_p H | replace H := grd_k H | replace H := out_step H (by assumption)))))
        | ((with_reducible refine CallW.mk ?_); (repeat (first | replace H := grd_k H | replace H := out_step H (by assumption))); replace H := bind_some H; obtain ⟨y, hy, H⟩ := H; first | ((with_reducible have hz : spec_l1Cur_pick _ _ = some y := hy); clear hz; refine Exists.intro _ (Exists.intro _ ⟨spec_l1Cur_pick.call hy ?_, rfl, rfl, ?_⟩)))
        | ((with_reducible refine fin_mk ?_); (repeat (first | replace H := grd_k H | replace H := out_step H (by assumption))); have H := Option.some.inj H; subst H))
    | constructor
def G33 : Env := G32.add 35 [true] spec_l1Cur_spoilt.S
theorem G33_ok : EnvOk Tryd.prog G33 := G32_ok.add ent_35 fun ar h r h1 ⟨a0, a1, a2, y, hy, e1, e2, e3, e4⟩ => by
  subst e3 e4; exact (spec_l1Cur_spoilt.spec a0 a1 a2 y hy).le e1 e2
attribute [local irreducible] spec_l1Cur_spoilt

noncomputable def spec_DrawParseDayLine (a0 : (List Int)) : Option (ByteArray) :=
  ((spec_l1Cur_among (a0, (0 : Int), (0 : Int), ()) [(0 : Int), (42 : Int), (999 : Int)]).bind fun y1 => ((spec_l1Cur_dayRow (y1.2.1, y1.2.2.1, y1.2.2.2.1, ()) y1.1).bind fun y2 => ((spec_DayLine (y2.1.1, y2.1.2.1, y2.1.2.2.1, y2.1.2.2.2.1, y2.1.2.2.2.2.1, y2.1.2.2.2.2.2.1, ())).bind fun y3 => ((spec_l1Cur_one (y2.2.1, y2.2.2.1, y2.2.2.2.1, ()) (4 : Int)).bind fun y4 => (cond y4.1 ((spec_l1Cur_spoilt (y4.2.1, y4.2.2.1, y4.2.2.2.1, ()) y3.1 (ByteArray.mk #[48, 32, 58, 44, 115, 49])).bind fun y5 => (some y5.1)) ((some y3.1)))))))
def spec_DrawParseDayLine.res (_ : (List Int)) (y : ByteArray) : AV := (.v (.string y))
def spec_DrawParseDayLine.out (_ : (List Int)) (_ : ByteArray) : List (Option LB) := []
def spec_DrawParseDayLine.S (ar : List AV) (h : List (Option LB)) (r : AV) (h1 : List (Option LB)) : Prop := ∃ a0 y, spec_DrawParseDayLine a0 = some y ∧ leL ar [(.tree (.int .u8) a0)] ∧ leH h [] ∧ r = spec_DrawParseDayLine.res a0 y ∧ h1 = spec_DrawParseDayLine.out a0 y
theorem spec_DrawParseDayLine.call {ar : List AV} {h : List (Option LB)} {a0 : (List Int)} {y : ByteArray} (H : spec_DrawParseDayLine a0 = some y) (h0 : leLk ar [(.tree (.int .u8) a0)] (leHk h [])) : spec_DrawParseDayLine.S ar h (spec_DrawParseDayLine.res a0 y) (spec_DrawParseDayLine.out a0 y) := ⟨a0, y, H, (args_ok h0).1, (args_ok h0).2, rfl, rfl⟩
set_option maxHeartbeats 100000000 in
set_option maxRecDepth 100000 in
theorem spec_DrawParseDayLine.spec (a0 : (List Int)) (y : ByteArray) (H : spec_DrawParseDayLine a0 = some y) : Spec Tryd.prog 10 [(.tree (.int .u8) a0)] [] (spec_DrawParseDayLine.res a0 y) (spec_DrawParseDayLine.out a0 y) := by
  refine spec_intro (G33_ok.at tok []) (ct := [(3, some [3, 4])]) Tryd.func10 rfl (by kernel_rfl) (by kernel_rfl) rfl ?_
  repeat' first
    | ((with_reducible refine eqg ?_); exact rfl)
    | ((with_reducible refine KOb.mk ?_); kernel_rfl)
    | ((with_reducible intro h); (repeat (first | replace H := grd_k H | replace H := out_step H (by assumption))); first | replace H := cond_t h H | replace H := cond_f h H | exact absurd h (by decide) | skip)
    | ((with_reducible refine Ob.mk ?_); first | (with_reducible rfl) | (first | ((repeat (first | (with_reducible exact grd_p H) | (replace H := grd_k H) | (replace H := out_step H (by assumption)))); done) | rfl | ((repeat (first | exact grd_p H | replace H := grd_k H | replace H := out_step H (by assumption))); done) | ((repeat (first | exact grd_p H | (have hp := grd_p H; exact hp) | replace H := grd_k H | replace H := out_step H (by assumption) | (replace H := bind_some H; obtain ⟨_, _, H⟩ := H))); done) | (repeat (first | exact grd_p H | replace H := grd_k H | replace H := out_step H (by assumption)))))
    | (with_reducible exact True.intro)
    | ((conv => whnf); first
        | (with_reducible refine And.intro ?_ ?_)
        | (with_reducible exact True.intro)
        | ((with_reducible refine Ob.mk ?_); first | (with_reducible rfl) | (first | ((repeat (first | (with_reducible exact grd_p H) | (replace H := grd_k H) | (replace H := out_step H (by assumption)))); done) | rfl | ((repeat (first | exact grd_p H | replace H := grd_k H | replace H := out_step H (by assumption))); done) | ((repeat (first | exact grd_p H | (have hp := grd_p H; exact hp) | replace H := grd_k H | replace H := out_step H (by assumption) | (replace H := bind_some H; obtain ⟨_, _, H⟩ := H))); done) | (repeat (first | exact grd_p H | replace H := grd_k H | replace H := out_step H (by assumption)))))
        | ((with_reducible refine CallW.mk ?_); (repeat (first | replace H := grd_k H | replace H := out_step H (by assumption))); replace H := bind_some H; obtain ⟨y, hy, H⟩ := H; first | ((with_reducible have hz : spec_l1Cur_among _ _ = some y := hy); clear hz; refine Exists.intro _ (Exists.intro _ ⟨spec_l1Cur_among.call hy ?_, rfl, rfl, ?_⟩)) | ((with_reducible have hz : spec_l1Cur_dayRow _ _ = some y := hy); clear hz; refine Exists.intro _ (Exists.intro _ ⟨spec_l1Cur_dayRow.call hy ?_, rfl, rfl, ?_⟩)) | ((with_reducible have hz : spec_DayLine _ = some y := hy); clear hz; refine Exists.intro _ (Exists.intro _ ⟨spec_DayLine.call hy ?_, rfl, rfl, ?_⟩)) | ((with_reducible have hz : spec_l1Cur_one _ _ = some y := hy); clear hz; refine Exists.intro _ (Exists.intro _ ⟨spec_l1Cur_one.call hy ?_, rfl, rfl, ?_⟩)) | ((with_reducible have hz : spec_l1Cur_spoilt _ _ _ = some y := hy); clear hz; refine Exists.intro _ (Exists.intro _ ⟨spec_l1Cur_spoilt.call hy ?_, rfl, rfl, ?_⟩)))
        | ((with_reducible refine fin_mk ?_); (repeat (first | replace H := grd_k H | replace H := out_step H (by assumption))); have H := Option.some.inj H; subst H))
    | constructor
def G34 : Env := G33.add 10 [] spec_DrawParseDayLine.S
theorem G34_ok : EnvOk Tryd.prog G34 := G33_ok.add ent_10 fun ar h r h1 ⟨a0, y, hy, e1, e2, e3, e4⟩ => by
  subst e3 e4; exact (spec_DrawParseDayLine.spec a0 y hy).le e1 e2
attribute [local irreducible] spec_DrawParseDayLine

noncomputable def spec_l1Split_loop1 (a0 : ByteArray) (a1 : Int) (v4 : Int) (v5 : Int) (v6 : (List ByteArray)) : Option (Lp (Int × Int × (List ByteArray)) ((Int × (List ByteArray)))) :=
  (cond (decide (v5 < (a0.size : Int))) (grd (0 ≤ v5 ∧ v5 < (a0.size : Int)) (cond (decide ((bAt a0 v5) = a1)) (grd (0 ≤ v4 ∧ v4 ≤ v5 ∧ v5 ≤ (a0.size : Int)) (grd (v6.length + [(bsub a0 v4 v5)].length ≤ 140737488355328 / 16 ∧ v6.length + [(bsub a0 v4 v5)].length ≤ 140737488355328) (some (.go ((w64 (v5 + (1 : Int))), (w64 (v5 + (1 : Int))), (v6 ++ [(bsub a0 v4 v5)])))))) (some (.go (v4, (w64 (v5 + (1 : Int))), v6))))) ((some (.out (v4, v6)))))
noncomputable def spec_l1Split (a0 : ByteArray) (a1 : Int) : Option ((List ByteArray)) :=
  ((iter (fun s => spec_l1Split_loop1 a0 a1 s.1 s.2.1 s.2.2) ((0 : Int), (0 : Int), ([] : List ByteArray))).bind (fun r7 => (grd (0 ≤ r7.1 ∧ r7.1 ≤ (a0.size : Int) ∧ (a0.size : Int) ≤ (a0.size : Int)) (grd (r7.2.length + [(bsub a0 r7.1 (a0.size : Int))].length ≤ 140737488355328 / 16 ∧ r7.2.length + [(bsub a0 r7.1 (a0.size : Int))].length ≤ 140737488355328) ((some (r7.2 ++ [(bsub a0 r7.1 (a0.size : Int))])))))))
def spec_l1Split.res (_ : ByteArray) (_ : Int) (_ : (List ByteArray)) : AV := (.own 0)
def spec_l1Split.out (_ : ByteArray) (_ : Int) (y : (List ByteArray)) : List (Option LB) := [some (.arr 9 .str y)]
def spec_l1Split.S (ar : List AV) (h : List (Option LB)) (r : AV) (h1 : List (Option LB)) : Prop := ∃ a0 a1 y, spec_l1Split a0 a1 = some y ∧ leL ar [(.v (.string a0)), (.v (.int .u8 a1))] ∧ leH h [] ∧ r = spec_l1Split.res a0 a1 y ∧ h1 = spec_l1Split.out a0 a1 y
theorem spec_l1Split.call {ar : List AV} {h : List (Option LB)} {a0 : ByteArray} {a1 : Int} {y : (List ByteArray)} (H : spec_l1Split a0 a1 = some y) (h0 : leLk ar [(.v (.string a0)), (.v (.int .u8 a1))] (leHk h [])) : spec_l1Split.S ar h (spec_l1Split.res a0 a1 y) (spec_l1Split.out a0 a1 y) := ⟨a0, a1, y, H, (args_ok h0).1, (args_ok h0).2, rfl, rfl⟩
set_option maxHeartbeats 100000000 in
set_option maxRecDepth 100000 in
theorem spec_l1Split.spec (a0 : ByteArray) (a1 : Int) (y : (List ByteArray)) (H : spec_l1Split a0 a1 = some y) : Spec Tryd.prog 36 [(.v (.string a0)), (.v (.int .u8 a1))] [] (spec_l1Split.res a0 a1 y) (spec_l1Split.out a0 a1 y) := by
  refine spec_intro (G34_ok.at tok []) (ct := [(8, some [0, 1, 5, 7])]) Tryd.func36 rfl (by kernel_rfl) (by kernel_rfl) rfl ?_
  repeat' first
    | ((with_reducible refine eqg ?_); exact rfl)
    | ((with_reducible refine KOb.mk ?_); kernel_rfl)
    | ((with_reducible intro h); (repeat (first | replace H := grd_k H | replace H := out_step H (by assumption))); first | replace H := cond_t h H | replace H := cond_f h H | exact absurd h (by decide) | skip)
    | ((with_reducible refine Ob.mk ?_); first | (with_reducible rfl) | (first | ((repeat (first | (with_reducible exact grd_p H) | (replace H := grd_k H) | (replace H := out_step H (by assumption)))); done) | rfl | ((repeat (first | exact grd_p H | replace H := grd_k H | replace H := out_step H (by assumption))); done) | ((repeat (first | exact grd_p H | (have hp := grd_p H; exact hp) | replace H := grd_k H | replace H := out_step H (by assumption) | (replace H := bind_some H; obtain ⟨_, _, H⟩ := H))); done) | (repeat (first | exact grd_p H | replace H := grd_k H | replace H := out_step H (by assumption)))))
    | (with_reducible exact True.intro)
    | ((conv => whnf); first
        | (with_reducible refine And.intro ?_ ?_)
        | (with_reducible exact True.intro)
        | ((with_reducible refine Ob.mk ?_); first | (with_reducible rfl) | (first | ((repeat (first | (with_reducible exact grd_p H) | (replace H := grd_k H) | (replace H := out_step H (by assumption)))); done) | rfl | ((repeat (first | exact grd_p H | replace H := grd_k H | replace H := out_step H (by assumption))); done) | ((repeat (first | exact grd_p H | (have hp := grd_p H; exact hp) | replace H := grd_k H | replace H := out_step H (by assumption) | (replace H := bind_some H; obtain ⟨_, _, H⟩ := H))); done) | (repeat (first | exact grd_p H | replace H := grd_k H | replace H := out_step H (by assumption)))))
        | ((repeat (first | replace H := grd_k H | replace H := out_step H (by assumption))); refine loop_iter (G34_ok.at tok []) (ct := [(8, some [0, 1, 5, 7])]) (F := (fun s1 : Int × Int × (List ByteArray) => ⟨sl [(0, (.v (.string a0))), (1, (.v (.int .u8 a1))), (5, (.own 0)), (6, (.v (.int .i64 s1.1))), (7, (.v (.int .i64 s1.2.1)))], [some (.arr 9 .str s1.2.2)]⟩)) (step := (fun s : Int × Int × (List ByteArray) => spec_l1Split_loop1 _ _ s.1 s.2.1 s.2.2)) _ H (by kernel_rfl) (sub_auto ?_) ?_; rotate_left; (intro s1 r v hr H); rotate_right)
        | ((repeat (first | replace H := grd_k H | replace H := out_step H (by assumption))); refine again_step H (by assumption) (sub_auto ?_))
        | ((with_reducible refine fin_mk ?_); (repeat (first | replace H := grd_k H | replace H := out_step H (by assumption))); have H := Option.some.inj H; subst H))
    | constructor
def G35 : Env := G34.add 36 [] spec_l1Split.S
theorem G35_ok : EnvOk Tryd.prog G35 := G34_ok.add ent_36 fun ar h r h1 ⟨a0, a1, y, hy, e1, e2, e3, e4⟩ => by
  subst e3 e4; exact (spec_l1Split.spec a0 a1 y hy).le e1 e2
attribute [local irreducible] spec_l1Split

end Go.Proofs.YtjpnifmbgemibaaDoor
