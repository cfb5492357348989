/-
  Contracts, printed by a program.
-/
import Derived.Test.YtpfdhaldjeedfaaDoorC202
namespace Go.Proofs.YtpfdhaldjeedfaaDoor
open Go.RowKit
attribute [local irreducible] Ob loopwp Sub Spec Fin Again CallW CutC KOb iter joinx outm

attribute [local irreducible] laws_szLogRecord laws_toLogRecord spec_l1In spec_l27Plain spec_l1Stands spec_l27Good spec_l1Num spec_l1Num_f spec_l1Sum spec_l1Seal spec_l27Line spec_EncodeRecord impl_within

noncomputable def strings_ContainsAny (a0 : ByteArray) (a1 : ByteArray) : Option (Bool) :=
  (grd (a0.size < 4294967281 ∧ a1.size < 4294967281 ∧ asciiB a0 = true ∧ asciiB a1 = true) ((some (anyOf a0 a1))))
def strings_ContainsAny.res (_ : ByteArray) (_ : ByteArray) (y : Bool) : AV := (.bl y)
def strings_ContainsAny.out (_ : ByteArray) (_ : ByteArray) (_ : Bool) : List (Option LB) := []
def strings_ContainsAny.S (ar : List AV) (h : List (Option LB)) (r : AV) (h1 : List (Option LB)) : Prop := ∃ a0 a1 y, strings_ContainsAny a0 a1 = some y ∧ leL ar [(.v (.string a0)), (.v (.string a1))] ∧ leH h [] ∧ r = strings_ContainsAny.res a0 a1 y ∧ h1 = strings_ContainsAny.out a0 a1 y
theorem strings_ContainsAny.call {ar : List AV} {h : List (Option LB)} {a0 : ByteArray} {a1 : ByteArray} {y : Bool} (H : strings_ContainsAny a0 a1 = some y) (h0 : leLk ar [(.v (.string a0)), (.v (.string a1))] (leHk h [])) : strings_ContainsAny.S ar h (strings_ContainsAny.res a0 a1 y) (strings_ContainsAny.out a0 a1 y) := ⟨a0, a1, y, H, (args_ok h0).1, (args_ok h0).2, rfl, rfl⟩
theorem strings_ContainsAny.spec (a0 : ByteArray) (a1 : ByteArray) (y : Bool) (H : strings_ContainsAny a0 a1 = some y) : Spec Tryd.prog 73 [(.v (.string a0)), (.v (.string a1))] [] (strings_ContainsAny.res a0 a1 y) (strings_ContainsAny.out a0 a1 y) := by
  have hg := grd_p H
  have H := Option.some.inj (grd_k H)
  subst H
  exact ext_strings_ContainsAny a0 a1 hg
def G13 : Env := G12.add 73 [] strings_ContainsAny.S
theorem G13_ok : EnvOk Tryd.prog G13 := G12_ok.add ent_73 fun ar h r h1 ⟨a0, a1, y, hy, e1, e2, e3, e4⟩ => by
  subst e3 e4; exact (strings_ContainsAny.spec a0 a1 y hy).le e1 e2
attribute [local irreducible] strings_ContainsAny

noncomputable def impl_isPlain_loop1 (a0 : ByteArray) (v2 : Int) : Option (Lp (Int) ((Unit) ⊕ (Unit))) :=
  (cond (decide (v2 < (a0.size : Int))) (grd (0 ≤ v2 ∧ v2 < (a0.size : Int)) (cond (decide ((bAt a0 v2) < (32 : Int))) ((some (.out (Sum.inl ())))) (grd (0 ≤ v2 ∧ v2 < (a0.size : Int)) (cond (decide ((126 : Int) < (bAt a0 v2))) ((some (.out (Sum.inl ())))) (some (.go (w64 (v2 + (1 : Int))))))))) ((some (.out (Sum.inr ())))))
noncomputable def impl_isPlain (a0 : ByteArray) (a1 : ByteArray) : Option (Bool) :=
  ((iter (fun s => impl_isPlain_loop1 a0 s) (0 : Int)).bind (Sum.elim (fun _ => (some false)) (fun _ => ((strings_ContainsAny a0 a1).bind fun y6 => (some (!y6))))))
def impl_isPlain.res (_ : ByteArray) (_ : ByteArray) (y : Bool) : AV := (.bl y)
def impl_isPlain.out (_ : ByteArray) (_ : ByteArray) (_ : Bool) : List (Option LB) := []
def impl_isPlain.S (ar : List AV) (h : List (Option LB)) (r : AV) (h1 : List (Option LB)) : Prop := ∃ a0 a1 y, impl_isPlain a0 a1 = some y ∧ leL ar [(.v (.string a0)), (.v (.string a1))] ∧ leH h [] ∧ r = impl_isPlain.res a0 a1 y ∧ h1 = impl_isPlain.out a0 a1 y
theorem impl_isPlain.call {ar : List AV} {h : List (Option LB)} {a0 : ByteArray} {a1 : ByteArray} {y : Bool} (H : impl_isPlain a0 a1 = some y) (h0 : leLk ar [(.v (.string a0)), (.v (.string a1))] (leHk h [])) : impl_isPlain.S ar h (impl_isPlain.res a0 a1 y) (impl_isPlain.out a0 a1 y) := ⟨a0, a1, y, H, (args_ok h0).1, (args_ok h0).2, rfl, rfl⟩
set_option maxHeartbeats 100000000 in
set_option maxRecDepth 100000 in
theorem impl_isPlain.spec (a0 : ByteArray) (a1 : ByteArray) (y : Bool) (H : impl_isPlain a0 a1 = some y) : Spec Tryd.prog 57 [(.v (.string a0)), (.v (.string a1))] [] (impl_isPlain.res a0 a1 y) (impl_isPlain.out a0 a1 y) := by
  refine spec_intro (G13_ok.at tok []) (ct := [(6, some [0, 1, 7, 8, 16, 17, 18, 19])]) Tryd.func57 rfl (by kernel_rfl) (by kernel_rfl) rfl ?_
  repeat' first
    | ((with_reducible refine eqg ?_); exact rfl)
    | ((with_reducible refine KOb.mk ?_); kernel_rfl)
    | ((with_reducible intro h); (repeat (first | replace H := grd_k H | replace H := out_step H (by assumption))); first | replace H := cond_t h H | replace H := cond_f h H | exact absurd h (by decide) | skip)
    | ((with_reducible refine Ob.mk ?_); first | rfl | (repeat (first | exact grd_p H | (have hp := grd_p H; exact hp) | replace H := grd_k H | replace H := out_step H (by assumption) | (replace H := bind_some H; obtain ⟨_, _, H⟩ := H))))
    | (with_reducible exact True.intro)
    | constructor
    | ((conv => whnf); first
        | ((with_reducible refine Ob.mk ?_); first | rfl | (repeat (first | exact grd_p H | (have hp := grd_p H; exact hp) | replace H := grd_k H | replace H := out_step H (by assumption) | (replace H := bind_some H; obtain ⟨_, _, H⟩ := H))))
        | ((with_reducible refine CallW.mk ?_); (repeat (first | replace H := grd_k H | replace H := out_step H (by assumption))); replace H := bind_some H; obtain ⟨y, hy, H⟩ := H; first | ((with_reducible have hz : strings_ContainsAny _ _ = some y := hy); clear hz; refine Exists.intro _ (Exists.intro _ ⟨strings_ContainsAny.call hy ?_, rfl, rfl, ?_⟩)))
        | ((repeat (first | replace H := grd_k H | replace H := out_step H (by assumption))); refine loop_iter (G13_ok.at tok []) (ct := [(6, some [0, 1, 7, 8, 16, 17, 18, 19])]) (F := (fun s1 : Int => ⟨sl [(0, (.v (.string a0))), (1, (.v (.string a1))), (7, (.v (.int .i64 (a0.size : Int)))), (8, (.v (.int .i64 s1)))], []⟩)) (step := (fun s : Int => impl_isPlain_loop1 _ s)) _ H (by kernel_rfl) (sub_auto ?_) ?_; rotate_left; (intro s1 r v hr H); rotate_right)
        | ((repeat (first | replace H := grd_k H | replace H := out_step H (by assumption))); refine again_step H (by assumption) (sub_auto ?_))
        | ((with_reducible refine fin_mk ?_); (repeat (first | replace H := grd_k H | replace H := out_step H (by assumption))); have H := Option.some.inj H; subst H))
def G14 : Env := G13.add 57 [] impl_isPlain.S
theorem G14_ok : EnvOk Tryd.prog G14 := G13_ok.add ent_57 fun ar h r h1 ⟨a0, a1, y, hy, e1, e2, e3, e4⟩ => by
  subst e3 e4; exact (impl_isPlain.spec a0 a1 y hy).le e1 e2
attribute [local irreducible] impl_isPlain

noncomputable def impl_IsValidRecord (a0 : LogRecord) : Option (Bool) :=
  ((impl_within (a0.1.size : Int) (1 : Int) (160 : Int)).bind fun y1 => (cond y1 (cond (decide ((a0.2.1.size : Int) ≤ (200 : Int))) ((impl_isPlain a0.1 (ByteArray.mk #[35, 64])).bind fun y2 => (cond y2 ((impl_isPlain a0.2.1 (ByteArray.mk #[35])).bind fun y3 => (some y3)) ((some false)))) ((some false))) ((some false))))
def impl_IsValidRecord.res (_ : LogRecord) (y : Bool) : AV := (.bl y)
def impl_IsValidRecord.out (_ : LogRecord) (_ : Bool) : List (Option LB) := []
def impl_IsValidRecord.S (ar : List AV) (h : List (Option LB)) (r : AV) (h1 : List (Option LB)) : Prop := ∃ a0 y, impl_IsValidRecord a0 = some y ∧ leL ar [(.agg [(.v (.string a0.1)), (.v (.string a0.2.1))])] ∧ leH h [] ∧ r = impl_IsValidRecord.res a0 y ∧ h1 = impl_IsValidRecord.out a0 y
theorem impl_IsValidRecord.call {ar : List AV} {h : List (Option LB)} {a0 : LogRecord} {y : Bool} (H : impl_IsValidRecord a0 = some y) (h0 : leLk ar [(.agg [(.v (.string a0.1)), (.v (.string a0.2.1))])] (leHk h [])) : impl_IsValidRecord.S ar h (impl_IsValidRecord.res a0 y) (impl_IsValidRecord.out a0 y) := ⟨a0, y, H, (args_ok h0).1, (args_ok h0).2, rfl, rfl⟩
set_option maxHeartbeats 100000000 in
set_option maxRecDepth 100000 in
theorem impl_IsValidRecord.spec (a0 : LogRecord) (y : Bool) (H : impl_IsValidRecord a0 = some y) : Spec Tryd.prog 37 [(.agg [(.v (.string a0.1)), (.v (.string a0.2.1))])] [] (impl_IsValidRecord.res a0 y) (impl_IsValidRecord.out a0 y) := by
  refine spec_intro (G14_ok.at tok []) (ct := []) Tryd.func37 rfl (by kernel_rfl) (by kernel_rfl) rfl ?_
  repeat' first
    | ((with_reducible refine eqg ?_); exact rfl)
    | ((with_reducible refine KOb.mk ?_); kernel_rfl)
    | ((with_reducible intro h); (repeat (first | replace H := grd_k H | replace H := out_step H (by assumption))); first | replace H := cond_t h H | replace H := cond_f h H | exact absurd h (by decide) | skip)
    | ((with_reducible refine Ob.mk ?_); first | rfl | (repeat (first | exact grd_p H | (have hp := grd_p H; exact hp) | replace H := grd_k H | replace H := out_step H (by assumption) | (replace H := bind_some H; obtain ⟨_, _, H⟩ := H))))
    | (with_reducible exact True.intro)
    | constructor
    | ((conv => whnf); first
        | ((with_reducible refine Ob.mk ?_); first | rfl | (repeat (first | exact grd_p H | (have hp := grd_p H; exact hp) | replace H := grd_k H | replace H := out_step H (by assumption) | (replace H := bind_some H; obtain ⟨_, _, H⟩ := H))))
        | ((with_reducible refine CallW.mk ?_); (repeat (first | replace H := grd_k H | replace H := out_step H (by assumption))); replace H := bind_some H; obtain ⟨y, hy, H⟩ := H; first | ((with_reducible have hz : impl_within _ _ _ = some y := hy); clear hz; refine Exists.intro _ (Exists.intro _ ⟨impl_within.call hy ?_, rfl, rfl, ?_⟩)) | ((with_reducible have hz : impl_isPlain _ _ = some y := hy); clear hz; refine Exists.intro _ (Exists.intro _ ⟨impl_isPlain.call hy ?_, rfl, rfl, ?_⟩)))
        | ((with_reducible refine fin_mk ?_); (repeat (first | replace H := grd_k H | replace H := out_step H (by assumption))); have H := Option.some.inj H; subst H))
def G15 : Env := G14.add 37 [] impl_IsValidRecord.S
theorem G15_ok : EnvOk Tryd.prog G15 := G14_ok.add ent_37 fun ar h r h1 ⟨a0, y, hy, e1, e2, e3, e4⟩ => by
  subst e3 e4; exact (impl_IsValidRecord.spec a0 y hy).le e1 e2
attribute [local irreducible] impl_IsValidRecord

noncomputable def strconv_Itoa (a0 : Int) : Option (ByteArray) :=
  (grd (-9223372036854775808 ≤ a0 ∧ a0 ≤ 9223372036854775807) ((some (itoaB a0))))
def strconv_Itoa.res (_ : Int) (y : ByteArray) : AV := (.v (.string y))
def strconv_Itoa.out (_ : Int) (_ : ByteArray) : List (Option LB) := []
def strconv_Itoa.S (ar : List AV) (h : List (Option LB)) (r : AV) (h1 : List (Option LB)) : Prop := ∃ a0 y, strconv_Itoa a0 = some y ∧ leL ar [(.v (.int .i64 a0))] ∧ leH h [] ∧ r = strconv_Itoa.res a0 y ∧ h1 = strconv_Itoa.out a0 y
theorem strconv_Itoa.call {ar : List AV} {h : List (Option LB)} {a0 : Int} {y : ByteArray} (H : strconv_Itoa a0 = some y) (h0 : leLk ar [(.v (.int .i64 a0))] (leHk h [])) : strconv_Itoa.S ar h (strconv_Itoa.res a0 y) (strconv_Itoa.out a0 y) := ⟨a0, y, H, (args_ok h0).1, (args_ok h0).2, rfl, rfl⟩
theorem strconv_Itoa.spec (a0 : Int) (y : ByteArray) (H : strconv_Itoa a0 = some y) : Spec Tryd.prog 66 [(.v (.int .i64 a0))] [] (strconv_Itoa.res a0 y) (strconv_Itoa.out a0 y) := by
  have hg := grd_p H
  have H := Option.some.inj (grd_k H)
  subst H
  exact ext_strconv_Itoa a0 hg
def G16 : Env := G15.add 66 [] strconv_Itoa.S
theorem G16_ok : EnvOk Tryd.prog G16 := G15_ok.add ent_66 fun ar h r h1 ⟨a0, y, hy, e1, e2, e3, e4⟩ => by
  subst e3 e4; exact (strconv_Itoa.spec a0 y hy).le e1 e2
attribute [local irreducible] strconv_Itoa

noncomputable def strings_Contains (a0 : ByteArray) (a1 : ByteArray) : Option (Bool) :=
  (grd (a0.size < 4294967281) ((some (Lib.contains a0.data.toList a1.data.toList))))
def strings_Contains.res (_ : ByteArray) (_ : ByteArray) (y : Bool) : AV := (.bl y)
def strings_Contains.out (_ : ByteArray) (_ : ByteArray) (_ : Bool) : List (Option LB) := []
def strings_Contains.S (ar : List AV) (h : List (Option LB)) (r : AV) (h1 : List (Option LB)) : Prop := ∃ a0 a1 y, strings_Contains a0 a1 = some y ∧ leL ar [(.v (.string a0)), (.v (.string a1))] ∧ leH h [] ∧ r = strings_Contains.res a0 a1 y ∧ h1 = strings_Contains.out a0 a1 y
theorem strings_Contains.call {ar : List AV} {h : List (Option LB)} {a0 : ByteArray} {a1 : ByteArray} {y : Bool} (H : strings_Contains a0 a1 = some y) (h0 : leLk ar [(.v (.string a0)), (.v (.string a1))] (leHk h [])) : strings_Contains.S ar h (strings_Contains.res a0 a1 y) (strings_Contains.out a0 a1 y) := ⟨a0, a1, y, H, (args_ok h0).1, (args_ok h0).2, rfl, rfl⟩
theorem strings_Contains.spec (a0 : ByteArray) (a1 : ByteArray) (y : Bool) (H : strings_Contains a0 a1 = some y) : Spec Tryd.prog 75 [(.v (.string a0)), (.v (.string a1))] [] (strings_Contains.res a0 a1 y) (strings_Contains.out a0 a1 y) := by
  have hg := grd_p H
  have H := Option.some.inj (grd_k H)
  subst H
  exact ext_strings_Contains a0 a1 hg
def G17 : Env := G16.add 75 [] strings_Contains.S
theorem G17_ok : EnvOk Tryd.prog G17 := G16_ok.add ent_75 fun ar h r h1 ⟨a0, a1, y, hy, e1, e2, e3, e4⟩ => by
  subst e3 e4; exact (strings_Contains.spec a0 a1 y hy).le e1 e2
attribute [local irreducible] strings_Contains

noncomputable def impl_checksum_loop1 (a0 : ByteArray) (v3 : Int) (v4 : Int) : Option (Lp (Int × Int) ((Int))) :=
  (cond (decide (v4 < (a0.size : Int))) (grd (0 ≤ v4 ∧ v4 < (a0.size : Int)) (grd ((999979 : Int) ≠ 0) (some (.go ((Int.tmod (w64 ((w64 ((w64 ((41 : Int) * v3)) + (w64 (bAt a0 v4)))) + (1 : Int))) (999979 : Int)), (w64 (v4 + (1 : Int)))))))) ((some (.out v3))))
noncomputable def impl_checksum (a0 : ByteArray) : Option (Int) :=
  ((iter (fun s => impl_checksum_loop1 a0 s.1 s.2) ((7 : Int), (0 : Int))).bind (fun r5 => (some r5)))
def impl_checksum.res (_ : ByteArray) (y : Int) : AV := (.v (.int .i64 y))
def impl_checksum.out (_ : ByteArray) (_ : Int) : List (Option LB) := []
def impl_checksum.S (ar : List AV) (h : List (Option LB)) (r : AV) (h1 : List (Option LB)) : Prop := ∃ a0 y, impl_checksum a0 = some y ∧ leL ar [(.v (.string a0))] ∧ leH h [] ∧ r = impl_checksum.res a0 y ∧ h1 = impl_checksum.out a0 y
theorem impl_checksum.call {ar : List AV} {h : List (Option LB)} {a0 : ByteArray} {y : Int} (H : impl_checksum a0 = some y) (h0 : leLk ar [(.v (.string a0))] (leHk h [])) : impl_checksum.S ar h (impl_checksum.res a0 y) (impl_checksum.out a0 y) := ⟨a0, y, H, (args_ok h0).1, (args_ok h0).2, rfl, rfl⟩
set_option maxHeartbeats 100000000 in
set_option maxRecDepth 100000 in
theorem impl_checksum.spec (a0 : ByteArray) (y : Int) (H : impl_checksum a0 = some y) : Spec Tryd.prog 76 [(.v (.string a0))] [] (impl_checksum.res a0 y) (impl_checksum.out a0 y) := by
  refine spec_intro (G17_ok.at tok []) (ct := []) Tryd.func76 rfl (by kernel_rfl) (by kernel_rfl) rfl ?_
  repeat' first
    | ((with_reducible refine eqg ?_); exact rfl)
    | ((with_reducible refine KOb.mk ?_); kernel_rfl)
    | ((with_reducible intro h); (repeat (first | replace H := grd_k H | replace H := out_step H (by assumption))); first | replace H := cond_t h H | replace H := cond_f h H | exact absurd h (by decide) | skip)
    | ((with_reducible refine Ob.mk ?_); first | rfl | (repeat (first | exact grd_p H | (have hp := grd_p H; exact hp) | replace H := grd_k H | replace H := out_step H (by assumption) | (replace H := bind_some H; obtain ⟨_, _, H⟩ := H))))
    | (with_reducible exact True.intro)
    | constructor
    | ((conv => whnf); first
        | ((with_reducible refine Ob.mk ?_); first | rfl | (repeat (first | exact grd_p H | (have hp := grd_p H; exact hp) | replace H := grd_k H | replace H := out_step H (by assumption) | (replace H := bind_some H; obtain ⟨_, _, H⟩ := H))))
        | ((repeat (first | replace H := grd_k H | replace H := out_step H (by assumption))); refine loop_iter (G17_ok.at tok []) (ct := []) (F := (fun s1 : Int × Int => ⟨sl [(0, (.v (.string a0))), (3, (.v (.int .i64 s1.1))), (6, (.v (.int .i64 (a0.size : Int)))), (7, (.v (.int .i64 s1.2)))], []⟩)) (step := (fun s : Int × Int => impl_checksum_loop1 _ s.1 s.2)) _ H (by kernel_rfl) (sub_auto ?_) ?_; rotate_left; (intro s1 r v hr H); rotate_right)
        | ((repeat (first | replace H := grd_k H | replace H := out_step H (by assumption))); refine again_step H (by assumption) (sub_auto ?_))
        | ((with_reducible refine fin_mk ?_); (repeat (first | replace H := grd_k H | replace H := out_step H (by assumption))); have H := Option.some.inj H; subst H))
def G18 : Env := G17.add 76 [] impl_checksum.S
theorem G18_ok : EnvOk Tryd.prog G18 := G17_ok.add ent_76 fun ar h r h1 ⟨a0, y, hy, e1, e2, e3, e4⟩ => by
  subst e3 e4; exact (impl_checksum.spec a0 y hy).le e1 e2
attribute [local irreducible] impl_checksum

end Go.Proofs.YtpfdhaldjeedfaaDoor
