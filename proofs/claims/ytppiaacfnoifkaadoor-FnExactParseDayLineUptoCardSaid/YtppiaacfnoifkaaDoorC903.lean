/-
  Contracts, printed by a program.
-/
import Derived.Test.YtppiaacfnoifkaaDoorC902
namespace Go.Proofs.YtppiaacfnoifkaaDoor
open Go.RowKit
attribute [local irreducible] Ob loopwp Sub Spec Fin Again CallW CutC KOb iter joinx outm

attribute [local irreducible] spec_l1Split spec_l1In spec_l1Num spec_l1Num_f spec_l1Read spec_l2Word spec_l26One spec_l26Line spec_ParseDayLine strings_Cut internal_stringslite_HasPrefix internal_stringslite_TrimPrefix strings_TrimPrefix

noncomputable def impl_ParseInt (a0 : ByteArray) : Option (Int × Bool) :=
  (some (((parseI a0).1), ((parseI a0).2)))
def impl_ParseInt.res (_ : ByteArray) (y : Int × Bool) : AV := (.tup [(.v (.int .i64 y.1)), (.bl y.2)])
def impl_ParseInt.out (_ : ByteArray) (_ : Int × Bool) : List (Option LB) := []
def impl_ParseInt.S (ar : List AV) (h : List (Option LB)) (r : AV) (h1 : List (Option LB)) : Prop := ∃ a0 y, impl_ParseInt a0 = some y ∧ leL ar [(.v (.string a0))] ∧ leH h [] ∧ r = impl_ParseInt.res a0 y ∧ h1 = impl_ParseInt.out a0 y
theorem impl_ParseInt.call {ar : List AV} {h : List (Option LB)} {a0 : ByteArray} {y : Int × Bool} (H : impl_ParseInt a0 = some y) (h0 : leLk ar [(.v (.string a0))] (leHk h [])) : impl_ParseInt.S ar h (impl_ParseInt.res a0 y) (impl_ParseInt.out a0 y) := ⟨a0, y, H, (args_ok h0).1, (args_ok h0).2, rfl, rfl⟩
theorem impl_ParseInt.spec (a0 : ByteArray) (y : Int × Bool) (H : impl_ParseInt a0 = some y) : Spec Tryd.prog 85 [(.v (.string a0))] [] (impl_ParseInt.res a0 y) (impl_ParseInt.out a0 y) := by
  have H := Option.some.inj H
  subst H
  exact ext_impl_ParseInt a0
def G13 : Env := G12.add 85 [] impl_ParseInt.S
theorem G13_ok : EnvOk Tryd.prog G13 := G12_ok.add ent_85 fun ar h r h1 ⟨a0, y, hy, e1, e2, e3, e4⟩ => by
  subst e3 e4; exact (impl_ParseInt.spec a0 y hy).le e1 e2
attribute [local irreducible] impl_ParseInt

noncomputable def strings_Split (a0 : ByteArray) (a1 : ByteArray) : Option ((List ByteArray)) :=
  (grd (a0.size < 4294967281 ∧ 1 ≤ a1.size) ((some (splitB a0 a1))))
def strings_Split.res (_ : ByteArray) (_ : ByteArray) (_ : (List ByteArray)) : AV := (.own 0)
def strings_Split.out (_ : ByteArray) (_ : ByteArray) (y : (List ByteArray)) : List (Option LB) := [some (.arr 9 .str y)]
def strings_Split.S (ar : List AV) (h : List (Option LB)) (r : AV) (h1 : List (Option LB)) : Prop := ∃ a0 a1 y, strings_Split a0 a1 = some y ∧ leL ar [(.v (.string a0)), (.v (.string a1))] ∧ leH h [] ∧ r = strings_Split.res a0 a1 y ∧ h1 = strings_Split.out a0 a1 y
theorem strings_Split.call {ar : List AV} {h : List (Option LB)} {a0 : ByteArray} {a1 : ByteArray} {y : (List ByteArray)} (H : strings_Split a0 a1 = some y) (h0 : leLk ar [(.v (.string a0)), (.v (.string a1))] (leHk h [])) : strings_Split.S ar h (strings_Split.res a0 a1 y) (strings_Split.out a0 a1 y) := ⟨a0, a1, y, H, (args_ok h0).1, (args_ok h0).2, rfl, rfl⟩
theorem strings_Split.spec (a0 : ByteArray) (a1 : ByteArray) (y : (List ByteArray)) (H : strings_Split a0 a1 = some y) : Spec Tryd.prog 87 [(.v (.string a0)), (.v (.string a1))] [] (strings_Split.res a0 a1 y) (strings_Split.out a0 a1 y) := by
  have hg := grd_p H
  have H := Option.some.inj (grd_k H)
  subst H
  exact ext_strings_Split a0 a1 hg
def G14 : Env := G13.add 87 [] strings_Split.S
theorem G14_ok : EnvOk Tryd.prog G14 := G13_ok.add ent_87 fun ar h r h1 ⟨a0, a1, y, hy, e1, e2, e3, e4⟩ => by
  subst e3 e4; exact (strings_Split.spec a0 a1 y hy).le e1 e2
attribute [local irreducible] strings_Split

noncomputable def internal_stringslite_HasSuffix (a0 : ByteArray) (a1 : ByteArray) : Option (Bool) :=
  (cond (decide ((a1.size : Int) ≤ (a0.size : Int))) (grd (0 ≤ (w64 ((a0.size : Int) - (a1.size : Int))) ∧ (w64 ((a0.size : Int) - (a1.size : Int))) ≤ (a0.size : Int) ∧ (a0.size : Int) ≤ (a0.size : Int)) ((some (decide ((bsub a0 (w64 ((a0.size : Int) - (a1.size : Int))) (a0.size : Int)) = a1))))) ((some false)))
def internal_stringslite_HasSuffix.res (_ : ByteArray) (_ : ByteArray) (y : Bool) : AV := (.bl y)
def internal_stringslite_HasSuffix.out (_ : ByteArray) (_ : ByteArray) (_ : Bool) : List (Option LB) := []
def internal_stringslite_HasSuffix.S (ar : List AV) (h : List (Option LB)) (r : AV) (h1 : List (Option LB)) : Prop := ∃ a0 a1 y, internal_stringslite_HasSuffix a0 a1 = some y ∧ leL ar [(.v (.string a0)), (.v (.string a1))] ∧ leH h [] ∧ r = internal_stringslite_HasSuffix.res a0 a1 y ∧ h1 = internal_stringslite_HasSuffix.out a0 a1 y
theorem internal_stringslite_HasSuffix.call {ar : List AV} {h : List (Option LB)} {a0 : ByteArray} {a1 : ByteArray} {y : Bool} (H : internal_stringslite_HasSuffix a0 a1 = some y) (h0 : leLk ar [(.v (.string a0)), (.v (.string a1))] (leHk h [])) : internal_stringslite_HasSuffix.S ar h (internal_stringslite_HasSuffix.res a0 a1 y) (internal_stringslite_HasSuffix.out a0 a1 y) := ⟨a0, a1, y, H, (args_ok h0).1, (args_ok h0).2, rfl, rfl⟩
set_option maxHeartbeats 100000000 in
set_option maxRecDepth 100000 in
theorem internal_stringslite_HasSuffix.spec (a0 : ByteArray) (a1 : ByteArray) (y : Bool) (H : internal_stringslite_HasSuffix a0 a1 = some y) : Spec Tryd.prog 144 [(.v (.string a0)), (.v (.string a1))] [] (internal_stringslite_HasSuffix.res a0 a1 y) (internal_stringslite_HasSuffix.out a0 a1 y) := by
  refine spec_intro (G14_ok.at tok []) (ct := []) Tryd.func144 rfl (by kernel_rfl) (by kernel_rfl) rfl ?_
  repeat' first
    | ((with_reducible refine eqg ?_); exact rfl)
    | ((with_reducible refine KOb.mk ?_); kernel_rfl)
    | ((with_reducible intro h); (repeat (first | replace H := grd_k H | replace H := out_step H (by assumption))); first | replace H := cond_t h H | replace H := cond_f h H | exact absurd h (by decide) | skip)
    | ((with_reducible refine Ob.mk ?_); first | (with_reducible rfl) | (first | ((repeat (first | (with_reducible exact grd_p H) | (replace H := grd_k H) | (replace H := out_step H (by assumption)))); done) | rfl | ((repeat (first | exact grd_p H | replace H := grd_k H | replace H := out_step H (by assumption))); done) | ((repeat (first | exact grd_p H | (have hp := grd_p H; exact hp) | replace H := grd_k H | replace H := out_step H (by assumption) | (replace H := bind_some H; obtain ⟨_, _, H⟩ := H))); done) | (repeat (first | exact grd_p H | replace H := grd_k H | replace H := out_step H (by assumption)))))
    | (with_reducible exact True.intro)
    | ((conv => whnf); first
        | (with_reducible refine And.intro ?_ ?_)
        | (with_reducible exact True.intro)
        | ((with_reducible refine Ob.mk ?_); first | (with_reducible rfl) | (first | ((repeat (first | (with_reducible exact grd_p H) | (replace H := grd_k H) | (replace H := out_step H (by assumption)))); done) | rfl | ((repeat (first | exact grd_p H | replace H := grd_k H | replace H := out_step H (by assumption))); done) | ((repeat (first | exact grd_p H | (have hp := grd_p H; exact hp) | replace H := grd_k H | replace H := out_step H (by assumption) | (replace H := bind_some H; obtain ⟨_, _, H⟩ := H))); done) | (repeat (first | exact grd_p H | replace H := grd_k H | replace H := out_step H (by assumption)))))
        | ((with_reducible refine fin_mk ?_); (repeat (first | replace H := grd_k H | replace H := out_step H (by assumption))); have H := Option.some.inj H; subst H))
    | constructor
def G15 : Env := G14.add 144 [] internal_stringslite_HasSuffix.S
theorem G15_ok : EnvOk Tryd.prog G15 := G14_ok.add ent_144 fun ar h r h1 ⟨a0, a1, y, hy, e1, e2, e3, e4⟩ => by
  subst e3 e4; exact (internal_stringslite_HasSuffix.spec a0 a1 y hy).le e1 e2
attribute [local irreducible] internal_stringslite_HasSuffix

noncomputable def internal_stringslite_TrimSuffix (a0 : ByteArray) (a1 : ByteArray) : Option (ByteArray) :=
  ((internal_stringslite_HasSuffix a0 a1).bind fun y1 => (cond y1 (grd (0 ≤ (0 : Int) ∧ (0 : Int) ≤ (w64 ((a0.size : Int) - (a1.size : Int))) ∧ (w64 ((a0.size : Int) - (a1.size : Int))) ≤ (a0.size : Int)) ((some (bsub a0 (0 : Int) (w64 ((a0.size : Int) - (a1.size : Int))))))) ((some a0))))
def internal_stringslite_TrimSuffix.res (_ : ByteArray) (_ : ByteArray) (y : ByteArray) : AV := (.v (.string y))
def internal_stringslite_TrimSuffix.out (_ : ByteArray) (_ : ByteArray) (_ : ByteArray) : List (Option LB) := []
def internal_stringslite_TrimSuffix.S (ar : List AV) (h : List (Option LB)) (r : AV) (h1 : List (Option LB)) : Prop := ∃ a0 a1 y, internal_stringslite_TrimSuffix a0 a1 = some y ∧ leL ar [(.v (.string a0)), (.v (.string a1))] ∧ leH h [] ∧ r = internal_stringslite_TrimSuffix.res a0 a1 y ∧ h1 = internal_stringslite_TrimSuffix.out a0 a1 y
theorem internal_stringslite_TrimSuffix.call {ar : List AV} {h : List (Option LB)} {a0 : ByteArray} {a1 : ByteArray} {y : ByteArray} (H : internal_stringslite_TrimSuffix a0 a1 = some y) (h0 : leLk ar [(.v (.string a0)), (.v (.string a1))] (leHk h [])) : internal_stringslite_TrimSuffix.S ar h (internal_stringslite_TrimSuffix.res a0 a1 y) (internal_stringslite_TrimSuffix.out a0 a1 y) := ⟨a0, a1, y, H, (args_ok h0).1, (args_ok h0).2, rfl, rfl⟩
set_option maxHeartbeats 100000000 in
set_option maxRecDepth 100000 in
theorem internal_stringslite_TrimSuffix.spec (a0 : ByteArray) (a1 : ByteArray) (y : ByteArray) (H : internal_stringslite_TrimSuffix a0 a1 = some y) : Spec Tryd.prog 114 [(.v (.string a0)), (.v (.string a1))] [] (internal_stringslite_TrimSuffix.res a0 a1 y) (internal_stringslite_TrimSuffix.out a0 a1 y) := by
  refine spec_intro (G15_ok.at tok []) (ct := []) Tryd.func114 rfl (by kernel_rfl) (by kernel_rfl) rfl ?_
  repeat' first
    | ((with_reducible refine eqg ?_); exact rfl)
    | ((with_reducible refine KOb.mk ?_); kernel_rfl)
    | ((with_reducible intro h); (repeat (first | replace H := grd_k H | replace H := out_step H (by assumption))); first | replace H := cond_t h H | replace H := cond_f h H | exact absurd h (by decide) | skip)
    | ((with_reducible refine Ob.mk ?_); first | (with_reducible rfl) | (first | ((repeat (first | (with_reducible exact grd_p H) | (replace H := grd_k H) | (replace H := out_step H (by assumption)))); done) | rfl | ((repeat (first | exact grd_p H | replace H := grd_k H | replace H := out_step H (by assumption))); done) | ((repeat (first | exact grd_p H | (have hp := grd_p H; exact hp) | replace H := grd_k H | replace H := out_step H (by assumption) | (replace H := bind_some H; obtain ⟨_, _, H⟩ := H))); done) | (repeat (first | exact grd_p H | replace H := grd_k H | replace H := out_step H (by assumption)))))
    | (with_reducible exact True.intro)
    | ((conv => whnf); first
        | (with_reducible refine And.intro ?_ ?_)
        | (with_reducible exact True.intro)
        | ((with_reducible refine Ob.mk ?_); first | (with_reducible rfl) | (first | ((repeat (first | (with_reducible exact grd_p H) | (replace H := grd_k H) | (replace H := out_step H (by assumption)))); done) | rfl | ((repeat (first | exact grd_p H | replace H := grd_k H | replace H := out_step H (by assumption))); done) | ((repeat (first | exact grd_p H | (have hp := grd_p H; exact hp) | replace H := grd_k H | replace H := out_step H (by assumption) | (replace H := bind_some H; obtain ⟨_, _, H⟩ := H))); done) | (repeat (first | exact grd_p H | replace H := grd_k H | replace H := out_step H (by assumption)))))
        | ((with_reducible refine CallW.mk ?_); (repeat (first | replace H := grd_k H | replace H := out_step H (by assumption))); replace H := bind_some H; obtain ⟨y, hy, H⟩ := H; first | ((with_reducible have hz : internal_stringslite_HasSuffix _ _ = some y := hy); clear hz; refine Exists.intro _ (Exists.intro _ ⟨internal_stringslite_HasSuffix.call hy ?_, rfl, rfl, ?_⟩)))
        | ((with_reducible refine fin_mk ?_); (repeat (first | replace H := grd_k H | replace H := out_step H (by assumption))); have H := Option.some.inj H; subst H))
    | constructor
def G16 : Env := G15.add 114 [] internal_stringslite_TrimSuffix.S
theorem G16_ok : EnvOk Tryd.prog G16 := G15_ok.add ent_114 fun ar h r h1 ⟨a0, a1, y, hy, e1, e2, e3, e4⟩ => by
  subst e3 e4; exact (internal_stringslite_TrimSuffix.spec a0 a1 y hy).le e1 e2
attribute [local irreducible] internal_stringslite_TrimSuffix

noncomputable def strings_TrimSuffix (a0 : ByteArray) (a1 : ByteArray) : Option (ByteArray) :=
  ((internal_stringslite_TrimSuffix a0 a1).bind fun y1 => (some y1))
def strings_TrimSuffix.res (_ : ByteArray) (_ : ByteArray) (y : ByteArray) : AV := (.v (.string y))
def strings_TrimSuffix.out (_ : ByteArray) (_ : ByteArray) (_ : ByteArray) : List (Option LB) := []
def strings_TrimSuffix.S (ar : List AV) (h : List (Option LB)) (r : AV) (h1 : List (Option LB)) : Prop := ∃ a0 a1 y, strings_TrimSuffix a0 a1 = some y ∧ leL ar [(.v (.string a0)), (.v (.string a1))] ∧ leH h [] ∧ r = strings_TrimSuffix.res a0 a1 y ∧ h1 = strings_TrimSuffix.out a0 a1 y
theorem strings_TrimSuffix.call {ar : List AV} {h : List (Option LB)} {a0 : ByteArray} {a1 : ByteArray} {y : ByteArray} (H : strings_TrimSuffix a0 a1 = some y) (h0 : leLk ar [(.v (.string a0)), (.v (.string a1))] (leHk h [])) : strings_TrimSuffix.S ar h (strings_TrimSuffix.res a0 a1 y) (strings_TrimSuffix.out a0 a1 y) := ⟨a0, a1, y, H, (args_ok h0).1, (args_ok h0).2, rfl, rfl⟩
set_option maxHeartbeats 100000000 in
set_option maxRecDepth 100000 in
theorem strings_TrimSuffix.spec (a0 : ByteArray) (a1 : ByteArray) (y : ByteArray) (H : strings_TrimSuffix a0 a1 = some y) : Spec Tryd.prog 88 [(.v (.string a0)), (.v (.string a1))] [] (strings_TrimSuffix.res a0 a1 y) (strings_TrimSuffix.out a0 a1 y) := by
  refine spec_intro (G16_ok.at tok []) (ct := []) Tryd.func88 rfl (by kernel_rfl) (by kernel_rfl) rfl ?_
  repeat' first
    | ((with_reducible refine eqg ?_); exact rfl)
    | ((with_reducible refine KOb.mk ?_); kernel_rfl)
    | ((with_reducible intro h); (repeat (first | replace H := grd_k H | replace H := out_step H (by assumption))); first | replace H := cond_t h H | replace H := cond_f h H | exact absurd h (by decide) | skip)
    | ((with_reducible refine Ob.mk ?_); first | (with_reducible rfl) | (first | ((repeat (first | (with_reducible exact grd_p H) | (replace H := grd_k H) | (replace H := out_step H (by assumption)))); done) | rfl | ((repeat (first | exact grd_p H | replace H := grd_k H | replace H := out_step H (by assumption))); done) | ((repeat (first | exact grd_p H | (have hp := grd_p H; exact hp) | replace H := grd_k H | replace H := out_step H (by assumption) | (replace H := bind_some H; obtain ⟨_, _, H⟩ := H))); done) | (repeat (first | exact grd_p H | replace H := grd_k H | replace H := out_step H (by assumption)))))
    | (with_reducible exact True.intro)
    | ((conv => whnf); first
        | (with_reducible refine And.intro ?_ ?_)
        | (with_reducible exact True.intro)
        | ((with_reducible refine Ob.mk ?_); first | (with_reducible rfl) | (first | ((repeat (first | (with_reducible exact grd_p H) | (replace H := grd_k H) | (replace H := out_step H (by assumption)))); done) | rfl | ((repeat (first | exact grd_p H | replace H := grd_k H | replace H := out_step H (by assumption))); done) | ((repeat (first | exact grd_p H | (have hp := grd_p H; exact hp) | replace H := grd_k H | replace H := out_step H (by assumption) | (replace H := bind_some H; obtain ⟨_, _, H⟩ := H))); done) | (repeat (first | exact grd_p H | replace H := grd_k H | replace H := out_step H (by assumption)))))
        | ((with_reducible refine CallW.mk ?_); (repeat (first | replace H := grd_k H | replace H := out_step H (by assumption))); replace H := bind_some H; obtain ⟨y, hy, H⟩ := H; first | ((with_reducible have hz : internal_stringslite_TrimSuffix _ _ = some y := hy); clear hz; refine Exists.intro _ (Exists.intro _ ⟨internal_stringslite_TrimSuffix.call hy ?_, rfl, rfl, ?_⟩)))
        | ((with_reducible refine fin_mk ?_); (repeat (first | replace H := grd_k H | replace H := out_step H (by assumption))); have H := Option.some.inj H; subst H))
    | constructor
def G17 : Env := G16.add 88 [] strings_TrimSuffix.S
theorem G17_ok : EnvOk Tryd.prog G17 := G16_ok.add ent_88 fun ar h r h1 ⟨a0, a1, y, hy, e1, e2, e3, e4⟩ => by
  subst e3 e4; exact (strings_TrimSuffix.spec a0 a1 y hy).le e1 e2
attribute [local irreducible] strings_TrimSuffix

noncomputable def impl_within (a0 : Int) (a1 : Int) (a2 : Int) : Option (Bool) :=
  (cond (decide (a1 ≤ a0)) ((some (decide (a0 ≤ a2)))) ((some false)))
def impl_within.res (_ : Int) (_ : Int) (_ : Int) (y : Bool) : AV := (.bl y)
def impl_within.out (_ : Int) (_ : Int) (_ : Int) (_ : Bool) : List (Option LB) := []
def impl_within.S (ar : List AV) (h : List (Option LB)) (r : AV) (h1 : List (Option LB)) : Prop := ∃ a0 a1 a2 y, impl_within a0 a1 a2 = some y ∧ leL ar [(.v (.int .i64 a0)), (.v (.int .i64 a1)), (.v (.int .i64 a2))] ∧ leH h [] ∧ r = impl_within.res a0 a1 a2 y ∧ h1 = impl_within.out a0 a1 a2 y
theorem impl_within.call {ar : List AV} {h : List (Option LB)} {a0 : Int} {a1 : Int} {a2 : Int} {y : Bool} (H : impl_within a0 a1 a2 = some y) (h0 : leLk ar [(.v (.int .i64 a0)), (.v (.int .i64 a1)), (.v (.int .i64 a2))] (leHk h [])) : impl_within.S ar h (impl_within.res a0 a1 a2 y) (impl_within.out a0 a1 a2 y) := ⟨a0, a1, a2, y, H, (args_ok h0).1, (args_ok h0).2, rfl, rfl⟩
set_option maxHeartbeats 100000000 in
set_option maxRecDepth 100000 in
theorem impl_within.spec (a0 : Int) (a1 : Int) (a2 : Int) (y : Bool) (H : impl_within a0 a1 a2 = some y) : Spec Tryd.prog 50 [(.v (.int .i64 a0)), (.v (.int .i64 a1)), (.v (.int .i64 a2))] [] (impl_within.res a0 a1 a2 y) (impl_within.out a0 a1 a2 y) := by
  refine spec_intro (G17_ok.at tok []) (ct := []) Tryd.func50 rfl (by kernel_rfl) (by kernel_rfl) rfl ?_
  repeat' first
    | ((with_reducible refine eqg ?_); exact rfl)
    | ((with_reducible refine KOb.mk ?_); kernel_rfl)
    | ((with_reducible intro h); (repeat (first | replace H := grd_k H | replace H := out_step H (by assumption))); first | replace H := cond_t h H | replace H := cond_f h H | exact absurd h (by decide) | skip)
    | ((with_reducible refine Ob.mk ?_); first | (with_reducible rfl) | (first | ((repeat (first | (with_reducible exact grd_p H) | (replace H := grd_k H) | (replace H := out_step H (by assumption)))); done) | rfl | ((repeat (first | exact grd_p H | replace H := grd_k H | replace H := out_step H (by assumption))); done) | ((repeat (first | exact grd_p H | (have hp := grd_p H; exact hp) | replace H := grd_k H | replace H := out_step H (by assumption) | (replace H := bind_some H; obtain ⟨_, _, H⟩ := H))); done) | (repeat (first | exact grd_p H | replace H := grd_k H | replace H := out_step H (by assumption)))))
    | (with_reducible exact True.intro)
    | ((conv => whnf); first
        | (with_reducible refine And.intro ?_ ?_)
        | (with_reducible exact True.intro)
        | ((with_reducible refine Ob.mk ?_); first | (with_reducible rfl) | (first | ((repeat (first | (with_reducible exact grd_p H) | (replace H := grd_k H) | (replace H := out_step H (by assumption)))); done) | rfl | ((repeat (first | exact grd_p H | replace H := grd_k H | replace H := out_step H (by assumption))); done) | ((repeat (first | exact grd_p H | (have hp := grd_p H; exact hp) | replace H := grd_k H | replace H := out_step H (by assumption) | (replace H := bind_some H; obtain ⟨_, _, H⟩ := H))); done) | (repeat (first | exact grd_p H | replace H := grd_k H | replace H := out_step H (by assumption)))))
        | ((with_reducible refine fin_mk ?_); (repeat (first | replace H := grd_k H | replace H := out_step H (by assumption))); have H := Option.some.inj H; subst H))
    | constructor
def G18 : Env := G17.add 50 [] impl_within.S
theorem G18_ok : EnvOk Tryd.prog G18 := G17_ok.add ent_50 fun ar h r h1 ⟨a0, a1, a2, y, hy, e1, e2, e3, e4⟩ => by
  subst e3 e4; exact (impl_within.spec a0 a1 a2 y hy).le e1 e2
attribute [local irreducible] impl_within

end Go.Proofs.YtppiaacfnoifkaaDoor
