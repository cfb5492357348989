/-
  Contracts, printed by a program.
-/
import Derived.Test.YtppiaacfnoifkaaDoorC634
namespace Go.Proofs.YtppiaacfnoifkaaDoor
open Go.RowKit
attribute [local irreducible] Ob loopwp Sub Spec Fin Again CallW CutC KOb iter joinx outm

attribute [local irreducible] laws_szLog laws_toLog spec_l1Split spec_l1Num spec_l1Num_f spec_l1In spec_l27Plain spec_l1Stands spec_l27Good spec_l1Sum spec_l1Seal spec_l27Line spec_l27Read spec_l27Open spec_l27Log spec_CrashLog strings_Cut strings_Contains impl_checksum strconv_Itoa impl_AppendChecksum impl_VerifyChecksum internal_stringslite_HasPrefix internal_stringslite_CutPrefix strings_CutPrefix

noncomputable def impl_within (a0 : Int) (a1 : Int) (a2 : Int) : Option (Bool) :=
  (cond (decide (a1 ≤ a0)) ((some (decide (a0 ≤ a2)))) ((some false)))
def impl_within.res (_ : Int) (_ : Int) (_ : Int) (y : Bool) : AV := (.bl y)
def impl_within.out (_ : Int) (_ : Int) (_ : Int) (_ : Bool) : List (Option LB) := []
def impl_within.S (ar : List AV) (h : List (Option LB)) (r : AV) (h1 : List (Option LB)) : Prop := ∃ a0 a1 a2 y, impl_within a0 a1 a2 = some y ∧ leL ar [(.v (.int .i64 a0)), (.v (.int .i64 a1)), (.v (.int .i64 a2))] ∧ leH h [] ∧ r = impl_within.res a0 a1 a2 y ∧ h1 = impl_within.out a0 a1 a2 y
theorem impl_within.call {ar : List AV} {h : List (Option LB)} {a0 : Int} {a1 : Int} {a2 : Int} {y : Bool} (H : impl_within a0 a1 a2 = some y) (h0 : leLk ar [(.v (.int .i64 a0)), (.v (.int .i64 a1)), (.v (.int .i64 a2))] (leHk h [])) : impl_within.S ar h (impl_within.res a0 a1 a2 y) (impl_within.out a0 a1 a2 y) := ⟨a0, a1, a2, y, H, (args_ok h0).1, (args_ok h0).2, rfl, rfl⟩
set_option maxHeartbeats 100000000 in
set_option maxRecDepth 100000 in
theorem impl_within.spec (a0 : Int) (a1 : Int) (a2 : Int) (y : Bool) (H : impl_within a0 a1 a2 = some y) : Spec Tryd.prog 50 [(.v (.int .i64 a0)), (.v (.int .i64 a1)), (.v (.int .i64 a2))] [] (impl_within.res a0 a1 a2 y) (impl_within.out a0 a1 a2 y) := by
  refine spec_intro (G24_ok.at tok []) (ct := []) Tryd.func50 rfl (by kernel_rfl) (by kernel_rfl) rfl ?_
  repeat' first
    | ((with_reducible refine eqg ?_); exact rfl)
    | ((with_reducible refine KOb.mk ?_); kernel_rfl)
    | ((with_reducible intro h); (repeat (first | replace H := grd_k H | replace H := out_step H (by assumption))); first | replace H := cond_t h H | replace H := cond_f h H | exact absurd h (by decide) | skip)
    | ((with_reducible refine Ob.mk ?_); first | (with_reducible rfl) | (first | ((repeat (first | (with_reducible exact grd_p H) | (replace H := grd_k H) | (replace H := out_step H (by assumption)))); done) | rfl | ((repeat (first | exact grd_p H | replace H := grd_k H | replace H := out_step H (by assumption))); done) | ((repeat (first | exact grd_p H | (have hp := grd_p H; exact hp) | replace H := grd_k H | replace H := out_step H (by assumption) | (replace H := bind_some H; obtain ⟨_, _, H⟩ := H))); done) | (repeat (first | exact grd_p H | replace H := grd_k H | replace H := out_step H (by assumption)))))
    | (with_reducible exact True.intro)
    | ((conv => whnf); first
        | (with_reducible refine And.intro ?_ ?_)
        | (with_reducible exact True.intro)
        | ((with_reducible refine Ob.mk ?_); first | (with_reducible rfl) | (first | ((repeat (first | (with_reducible exact grd_p H) | (replace H := grd_k H) | (replace H := out_step H (by assumption)))); done) | rfl | ((repeat (first | exact grd_p H | replace H := grd_k H | replace H := out_step H (by assumption))); done) | ((repeat (first | exact grd_p H | (have hp := grd_p H; exact hp) | replace H := grd_k H | replace H := out_step H (by assumption) | (replace H := bind_some H; obtain ⟨_, _, H⟩ := H))); done) | (repeat (first | exact grd_p H | replace H := grd_k H | replace H := out_step H (by assumption)))))
        | ((with_reducible refine fin_mk ?_); (repeat (first | replace H := grd_k H | replace H := out_step H (by assumption))); have H := Option.some.inj H; subst H))
    | constructor
def G25 : Env := G24.add 50 [] impl_within.S
theorem G25_ok : EnvOk Tryd.prog G25 := G24_ok.add ent_50 fun ar h r h1 ⟨a0, a1, a2, y, hy, e1, e2, e3, e4⟩ => by
  subst e3 e4; exact (impl_within.spec a0 a1 a2 y hy).le e1 e2
attribute [local irreducible] impl_within

noncomputable def strings_ContainsAny (a0 : ByteArray) (a1 : ByteArray) : Option (Bool) :=
  (grd (a0.size < 4294967281 ∧ a1.size < 4294967281 ∧ asciiB a0 = true ∧ asciiB a1 = true) ((some (anyOf a0 a1))))
def strings_ContainsAny.res (_ : ByteArray) (_ : ByteArray) (y : Bool) : AV := (.bl y)
def strings_ContainsAny.out (_ : ByteArray) (_ : ByteArray) (_ : Bool) : List (Option LB) := []
def strings_ContainsAny.S (ar : List AV) (h : List (Option LB)) (r : AV) (h1 : List (Option LB)) : Prop := ∃ a0 a1 y, strings_ContainsAny a0 a1 = some y ∧ leL ar [(.v (.string a0)), (.v (.string a1))] ∧ leH h [] ∧ r = strings_ContainsAny.res a0 a1 y ∧ h1 = strings_ContainsAny.out a0 a1 y
theorem strings_ContainsAny.call {ar : List AV} {h : List (Option LB)} {a0 : ByteArray} {a1 : ByteArray} {y : Bool} (H : strings_ContainsAny a0 a1 = some y) (h0 : leLk ar [(.v (.string a0)), (.v (.string a1))] (leHk h [])) : strings_ContainsAny.S ar h (strings_ContainsAny.res a0 a1 y) (strings_ContainsAny.out a0 a1 y) := ⟨a0, a1, y, H, (args_ok h0).1, (args_ok h0).2, rfl, rfl⟩
theorem strings_ContainsAny.spec (a0 : ByteArray) (a1 : ByteArray) (y : Bool) (H : strings_ContainsAny a0 a1 = some y) : Spec Tryd.prog 175 [(.v (.string a0)), (.v (.string a1))] [] (strings_ContainsAny.res a0 a1 y) (strings_ContainsAny.out a0 a1 y) := by
  have hg := grd_p H
  have H := Option.some.inj (grd_k H)
  subst H
  exact ext_strings_ContainsAny a0 a1 hg
def G26 : Env := G25.add 175 [] strings_ContainsAny.S
theorem G26_ok : EnvOk Tryd.prog G26 := G25_ok.add ent_175 fun ar h r h1 ⟨a0, a1, y, hy, e1, e2, e3, e4⟩ => by
  subst e3 e4; exact (strings_ContainsAny.spec a0 a1 y hy).le e1 e2
attribute [local irreducible] strings_ContainsAny

noncomputable def impl_isPlain_loop1 (a0 : ByteArray) (v2 : Int) : Option (Lp (Int) ((Unit) ⊕ (Unit))) :=
  (cond (decide (v2 < (a0.size : Int))) (grd (0 ≤ v2 ∧ v2 < (a0.size : Int)) (cond (decide ((bAt a0 v2) < (32 : Int))) ((some (.out (Sum.inl ())))) (grd (0 ≤ v2 ∧ v2 < (a0.size : Int)) (cond (decide ((126 : Int) < (bAt a0 v2))) ((some (.out (Sum.inl ())))) (some (.go (w64 (v2 + (1 : Int))))))))) ((some (.out (Sum.inr ())))))
noncomputable def impl_isPlain (a0 : ByteArray) (a1 : ByteArray) : Option (Bool) :=
  ((iter (fun s => impl_isPlain_loop1 a0 s) (0 : Int)).bind (Sum.elim (fun _ => (some false)) (fun _ => ((strings_ContainsAny a0 a1).bind fun y6 => (some (!y6))))))
def impl_isPlain.res (_ : ByteArray) (_ : ByteArray) (y : Bool) : AV := (.bl y)
def impl_isPlain.out (_ : ByteArray) (_ : ByteArray) (_ : Bool) : List (Option LB) := []
def impl_isPlain.S (ar : List AV) (h : List (Option LB)) (r : AV) (h1 : List (Option LB)) : Prop := ∃ a0 a1 y, impl_isPlain a0 a1 = some y ∧ leL ar [(.v (.string a0)), (.v (.string a1))] ∧ leH h [] ∧ r = impl_isPlain.res a0 a1 y ∧ h1 = impl_isPlain.out a0 a1 y
theorem impl_isPlain.call {ar : List AV} {h : List (Option LB)} {a0 : ByteArray} {a1 : ByteArray} {y : Bool} (H : impl_isPlain a0 a1 = some y) (h0 : leLk ar [(.v (.string a0)), (.v (.string a1))] (leHk h [])) : impl_isPlain.S ar h (impl_isPlain.res a0 a1 y) (impl_isPlain.out a0 a1 y) := ⟨a0, a1, y, H, (args_ok h0).1, (args_ok h0).2, rfl, rfl⟩
set_option maxHeartbeats 100000000 in
set_option maxRecDepth 100000 in
theorem impl_isPlain.spec (a0 : ByteArray) (a1 : ByteArray) (y : Bool) (H : impl_isPlain a0 a1 = some y) : Spec Tryd.prog 147 [(.v (.string a0)), (.v (.string a1))] [] (impl_isPlain.res a0 a1 y) (impl_isPlain.out a0 a1 y) := by
  refine spec_intro (G26_ok.at tok []) (ct := [(6, some [0, 1, 7, 8, 16, 17, 18, 19])]) Tryd.func147 rfl (by kernel_rfl) (by kernel_rfl) rfl ?_
  repeat' first
    | ((with_reducible refine eqg ?_); exact rfl)
    | ((with_reducible refine KOb.mk ?_); kernel_rfl)
    | ((with_reducible intro h); (repeat (first | replace H := grd_k H | replace H := out_step H (by assumption))); first | replace H := cond_t h H | replace H := cond_f h H | exact absurd h (by decide) | skip)
    | ((with_reducible refine Ob.mk ?_); first | (with_reducible rfl) | (first | ((repeat (first | (with_reducible exact grd_p H) | (replace H := grd_k H) | (replace H := out_step H (by assumption)))); done) | rfl | ((repeat (first | exact grd_p H | replace H := grd_k H | replace H := out_step H (by assumption))); done) | ((repeat (first | exact grd_p H | (have hp := grd_p H; exact hp) | replace H := grd_k H | replace H := out_step H (by assumption) | (replace H := bind_some H; obtain ⟨_, _, H⟩ := H))); done) | (repeat (first | exact grd_p H | replace H := grd_k H | replace H := out_step H (by assumption)))))
    | (with_reducible exact True.intro)
    | ((conv => whnf); first
        | (with_reducible refine And.intro ?_ ?_)
        | (with_reducible exact True.intro)
        | ((with_reducible refine Ob.mk ?_); first | (with_reducible rfl) | (first | ((repeat (first | (with_reducible exact grd_p H) | (replace H := grd_k H) | (replace H := out_step H (by assumption)))); done) | rfl | ((repeat (first | exact grd_p H | replace H := grd_k H | replace H := out_step H (by assumption))); done) | ((repeat (first | exact grd_p H | (have hp := grd_p H; exact hp) | replace H := grd_k H | replace H := out_step H (by assumption) | (replace H := bind_some H; obtain ⟨_, _, H⟩ := H))); done) | (repeat (first | exact grd_p H | replace H := grd_k H | replace H := out_step H (by assumption)))))
        | ((with_reducible refine CallW.mk ?_); (repeat (first | replace H := grd_k H | replace H := out_step H (by assumption))); replace H := bind_some H; obtain ⟨y, hy, H⟩ := H; first | ((with_reducible have hz : strings_ContainsAny _ _ = some y := hy); clear hz; refine Exists.intro _ (Exists.intro _ ⟨strings_ContainsAny.call hy ?_, rfl, rfl, ?_⟩)))
        | ((repeat (first | replace H := grd_k H | replace H := out_step H (by assumption))); refine loop_iter (G26_ok.at tok []) (ct := [(6, some [0, 1, 7, 8, 16, 17, 18, 19])]) (F := (fun s1 : Int => ⟨sl [(0, (.v (.string a0))), (1, (.v (.string a1))), (7, (.v (.int .i64 (a0.size : Int)))), (8, (.v (.int .i64 s1)))], []⟩)) (step := (fun s : Int => impl_isPlain_loop1 _ s)) _ H (by kernel_rfl) (sub_auto ?_) ?_; rotate_left; (intro s1 r v hr H); rotate_right)
        | ((repeat (first | replace H := grd_k H | replace H := out_step H (by assumption))); refine again_step H (by assumption) (sub_auto ?_))
        | ((with_reducible refine fin_mk ?_); (repeat (first | replace H := grd_k H | replace H := out_step H (by assumption))); have H := Option.some.inj H; subst H))
    | constructor
def G27 : Env := G26.add 147 [] impl_isPlain.S
theorem G27_ok : EnvOk Tryd.prog G27 := G26_ok.add ent_147 fun ar h r h1 ⟨a0, a1, y, hy, e1, e2, e3, e4⟩ => by
  subst e3 e4; exact (impl_isPlain.spec a0 a1 y hy).le e1 e2
attribute [local irreducible] impl_isPlain

noncomputable def impl_IsValidRecord (a0 : LogRecord) : Option (Bool) :=
  ((impl_within (a0.1.size : Int) (1 : Int) (160 : Int)).bind fun y1 => (cond y1 (cond (decide ((a0.2.1.size : Int) ≤ (200 : Int))) ((impl_isPlain a0.1 (ByteArray.mk #[35, 64])).bind fun y2 => (cond y2 ((impl_isPlain a0.2.1 (ByteArray.mk #[35])).bind fun y3 => (some y3)) ((some false)))) ((some false))) ((some false))))
def impl_IsValidRecord.res (_ : LogRecord) (y : Bool) : AV := (.bl y)
def impl_IsValidRecord.out (_ : LogRecord) (_ : Bool) : List (Option LB) := []
def impl_IsValidRecord.S (ar : List AV) (h : List (Option LB)) (r : AV) (h1 : List (Option LB)) : Prop := ∃ a0 y, impl_IsValidRecord a0 = some y ∧ leL ar [(.agg [(.v (.string a0.1)), (.v (.string a0.2.1))])] ∧ leH h [] ∧ r = impl_IsValidRecord.res a0 y ∧ h1 = impl_IsValidRecord.out a0 y
theorem impl_IsValidRecord.call {ar : List AV} {h : List (Option LB)} {a0 : LogRecord} {y : Bool} (H : impl_IsValidRecord a0 = some y) (h0 : leLk ar [(.agg [(.v (.string a0.1)), (.v (.string a0.2.1))])] (leHk h [])) : impl_IsValidRecord.S ar h (impl_IsValidRecord.res a0 y) (impl_IsValidRecord.out a0 y) := ⟨a0, y, H, (args_ok h0).1, (args_ok h0).2, rfl, rfl⟩
set_option maxHeartbeats 100000000 in
set_option maxRecDepth 100000 in
theorem impl_IsValidRecord.spec (a0 : LogRecord) (y : Bool) (H : impl_IsValidRecord a0 = some y) : Spec Tryd.prog 121 [(.agg [(.v (.string a0.1)), (.v (.string a0.2.1))])] [] (impl_IsValidRecord.res a0 y) (impl_IsValidRecord.out a0 y) := by
  refine spec_intro (G27_ok.at tok []) (ct := []) Tryd.func121 rfl (by kernel_rfl) (by kernel_rfl) rfl ?_
  repeat' first
    | ((with_reducible refine eqg ?_); exact rfl)
    | ((with_reducible refine KOb.mk ?_); kernel_rfl)
    | ((with_reducible intro h); (repeat (first | replace H := grd_k H | replace H := out_step H (by assumption))); first | replace H := cond_t h H | replace H := cond_f h H | exact absurd h (by decide) | skip)
    | ((with_reducible refine Ob.mk ?_); first | (with_reducible rfl) | (first | ((repeat (first | (with_reducible exact grd_p H) | (replace H := grd_k H) | (replace H := out_step H (by assumption)))); done) | rfl | ((repeat (first | exact grd_p H | replace H := grd_k H | replace H := out_step H (by assumption))); done) | ((repeat (first | exact grd_p H | (have hp := grd_p H; exact hp) | replace H := grd_k H | replace H := out_step H (by assumption) | (replace H := bind_some H; obtain ⟨_, _, H⟩ := H))); done) | (repeat (first | exact grd_p H | replace H := grd_k H | replace H := out_step H (by assumption)))))
    | (with_reducible exact True.intro)
    | ((conv => whnf); first
        | (with_reducible refine And.intro ?_ ?_)
        | (with_reducible exact True.intro)
        | ((with_reducible refine Ob.mk ?_); first | (with_reducible rfl) | (first | ((repeat (first | (with_reducible exact grd_p H) | (replace H := grd_k H) | (replace H := out_step H (by assumption)))); done) | rfl | ((repeat (first | exact grd_p H | replace H := grd_k H | replace H := out_step H (by assumption))); done) | ((repeat (first | exact grd_p H | (have hp := grd_p H; exact hp) | replace H := grd_k H | replace H := out_step H (by assumption) | (replace H := bind_some H; obtain ⟨_, _, H⟩ := H))); done) | (repeat (first | exact grd_p H | replace H := grd_k H | replace H := out_step H (by assumption)))))
        | ((with_reducible refine CallW.mk ?_); (repeat (first | replace H := grd_k H | replace H := out_step H (by assumption))); replace H := bind_some H; obtain ⟨y, hy, H⟩ := H; first | ((with_reducible have hz : impl_within _ _ _ = some y := hy); clear hz; refine Exists.intro _ (Exists.intro _ ⟨impl_within.call hy ?_, rfl, rfl, ?_⟩)) | ((with_reducible have hz : impl_isPlain _ _ = some y := hy); clear hz; refine Exists.intro _ (Exists.intro _ ⟨impl_isPlain.call hy ?_, rfl, rfl, ?_⟩)))
        | ((with_reducible refine fin_mk ?_); (repeat (first | replace H := grd_k H | replace H := out_step H (by assumption))); have H := Option.some.inj H; subst H))
    | constructor
def G28 : Env := G27.add 121 [] impl_IsValidRecord.S
theorem G28_ok : EnvOk Tryd.prog G28 := G27_ok.add ent_121 fun ar h r h1 ⟨a0, y, hy, e1, e2, e3, e4⟩ => by
  subst e3 e4; exact (impl_IsValidRecord.spec a0 y hy).le e1 e2
attribute [local irreducible] impl_IsValidRecord

noncomputable def impl_decodeRecord (a0 : Int) (a1 : ByteArray) : Option (LogRecord × Bool) :=
  ((impl_VerifyChecksum a1).bind fun y1 => ((strconv_Itoa a0).bind fun y2 => (grd (y2.size + (ByteArray.mk #[32]).size ≤ 9223372036854775807) ((strings_CutPrefix y1.1 (y2 ++ (ByteArray.mk #[32]))).bind fun y3 => ((strings_Cut y3.1 (ByteArray.mk #[64])).bind fun y4 => (cond y1.2 (cond y3.2 (cond y4.2.2 ((impl_IsValidRecord (y4.1, y4.2.1, ())).bind fun y5 => (some ((y4.1, y4.2.1, ()), y5))) ((some ((y4.1, y4.2.1, ()), false)))) ((some ((y4.1, y4.2.1, ()), false)))) ((some ((y4.1, y4.2.1, ()), false)))))))))
def impl_decodeRecord.res (_ : Int) (_ : ByteArray) (y : LogRecord × Bool) : AV := (.tup [(.agg [(.v (.string y.1.1)), (.v (.string y.1.2.1))]), (.bl y.2)])
def impl_decodeRecord.out (_ : Int) (_ : ByteArray) (_ : LogRecord × Bool) : List (Option LB) := []
def impl_decodeRecord.S (ar : List AV) (h : List (Option LB)) (r : AV) (h1 : List (Option LB)) : Prop := ∃ a0 a1 y, impl_decodeRecord a0 a1 = some y ∧ leL ar [(.v (.int .i64 a0)), (.v (.string a1))] ∧ leH h [] ∧ r = impl_decodeRecord.res a0 a1 y ∧ h1 = impl_decodeRecord.out a0 a1 y
theorem impl_decodeRecord.call {ar : List AV} {h : List (Option LB)} {a0 : Int} {a1 : ByteArray} {y : LogRecord × Bool} (H : impl_decodeRecord a0 a1 = some y) (h0 : leLk ar [(.v (.int .i64 a0)), (.v (.string a1))] (leHk h [])) : impl_decodeRecord.S ar h (impl_decodeRecord.res a0 a1 y) (impl_decodeRecord.out a0 a1 y) := ⟨a0, a1, y, H, (args_ok h0).1, (args_ok h0).2, rfl, rfl⟩
set_option maxHeartbeats 100000000 in
set_option maxRecDepth 100000 in
theorem impl_decodeRecord.spec (a0 : Int) (a1 : ByteArray) (y : LogRecord × Bool) (H : impl_decodeRecord a0 a1 = some y) : Spec Tryd.prog 99 [(.v (.int .i64 a0)), (.v (.string a1))] [] (impl_decodeRecord.res a0 a1 y) (impl_decodeRecord.out a0 a1 y) := by
  refine spec_intro (G28_ok.at tok []) (ct := [(3, some [4, 7, 8, 9, 39, 42, 45, 46])]) Tryd.func99 rfl (by kernel_rfl) (by kernel_rfl) rfl ?_
  repeat' first
    | ((with_reducible refine eqg ?_); exact rfl)
    | ((with_reducible refine KOb.mk ?_); kernel_rfl)
    | ((with_reducible intro h); (repeat (first | replace H := grd_k H | replace H := out_step H (by assumption))); first | replace H := cond_t h H | replace H := cond_f h H | exact absurd h (by decide) | skip)
    | ((with_reducible refine Ob.mk ?_); first | (with_reducible rfl) | (first | ((repeat (first | (with_reducible exact grd_p H) | (replace H := grd_k H) | (replace H := out_step H (by assumption)))); done) | rfl | ((repeat (first | exact grd_p H | replace H := grd_k H | replace H := out_step H (by assumption))); done) | ((repeat (first | exact grd_p H | (have hp := grd_p H; exact hp) | replace H := grd_k H | replace H := out_step H (by assumption) | (replace H := bind_some H; obtain ⟨_, _, H⟩ := H))); done) | (repeat (first | exact grd_p H | replace H := grd_k H | replace H := out_step H (by assumption)))))
    | (with_reducible exact True.intro)
    | ((conv => whnf); first
        | (with_reducible refine And.intro ?_ ?_)
        | (with_reducible exact True.intro)
        | ((with_reducible refine Ob.mk ?_); first | (with_reducible rfl) | (first | ((repeat (first | (with_reducible exact grd_p H) | (replace H := grd_k H) | (replace H := out_step H (by assumption)))); done) | rfl | ((repeat (first | exact grd_p H | replace H := grd_k H | replace H := out_step H (by assumption))); done) | ((repeat (first | exact grd_p H | (have hp := grd_p H; exact hp) | replace H := grd_k H | replace H := out_step H (by assumption) | (replace H := bind_some H; obtain ⟨_, _, H⟩ := H))); done) | (repeat (first | exact grd_p H | replace H := grd_k H | replace H := out_step H (by assumption)))))
        | ((with_reducible refine CallW.mk ?_); (repeat (first | replace H := grd_k H | replace H := out_step H (by assumption))); replace H := bind_some H; obtain ⟨y, hy, H⟩ := H; first | ((with_reducible have hz : impl_VerifyChecksum _ = some y := hy); clear hz; refine Exists.intro _ (Exists.intro _ ⟨impl_VerifyChecksum.call hy ?_, rfl, rfl, ?_⟩)) | ((with_reducible have hz : strconv_Itoa _ = some y := hy); clear hz; refine Exists.intro _ (Exists.intro _ ⟨strconv_Itoa.call hy ?_, rfl, rfl, ?_⟩)) | ((with_reducible have hz : strings_CutPrefix _ _ = some y := hy); clear hz; refine Exists.intro _ (Exists.intro _ ⟨strings_CutPrefix.call hy ?_, rfl, rfl, ?_⟩)) | ((with_reducible have hz : strings_Cut _ _ = some y := hy); clear hz; refine Exists.intro _ (Exists.intro _ ⟨strings_Cut.call hy ?_, rfl, rfl, ?_⟩)) | ((with_reducible have hz : impl_IsValidRecord _ = some y := hy); clear hz; refine Exists.intro _ (Exists.intro _ ⟨impl_IsValidRecord.call hy ?_, rfl, rfl, ?_⟩)))
        | ((with_reducible refine fin_mk ?_); (repeat (first | replace H := grd_k H | replace H := out_step H (by assumption))); have H := Option.some.inj H; subst H))
    | constructor
def G29 : Env := G28.add 99 [] impl_decodeRecord.S
theorem G29_ok : EnvOk Tryd.prog G29 := G28_ok.add ent_99 fun ar h r h1 ⟨a0, a1, y, hy, e1, e2, e3, e4⟩ => by
  subst e3 e4; exact (impl_decodeRecord.spec a0 a1 y hy).le e1 e2
attribute [local irreducible] impl_decodeRecord

noncomputable def impl_readRecords_loop1 (a0 : ByteArray) (v10 : Int) (v11 : (List LogRecord)) (v12 : (List Int)) : Option (Lp (Int × (List LogRecord) × (List Int)) (((List LogRecord) × (List Int)))) :=
  (cond (decide ((v11.length : Int) < (60 : Int))) (grd (0 ≤ v10 ∧ v10 ≤ (a0.size : Int) ∧ (a0.size : Int) ≤ (a0.size : Int)) ((strings_Cut (bsub a0 v10 (a0.size : Int)) (ByteArray.mk #[10])).bind fun y13 => ((impl_decodeRecord (v11.length : Int) y13.1).bind fun y14 => (cond (!y13.2.2) ((some (.out (v11, v12)))) (cond (!y14.2) ((some (.out (v11, v12)))) (grd (v11.length + [(y14.1.1, y14.1.2.1, ())].length ≤ 140737488355328 / 32 ∧ v11.length + [(y14.1.1, y14.1.2.1, ())].length ≤ 140737488355328) (grd (v12.length + [(w64 (v10 + (w64 ((y13.1.size : Int) + (1 : Int)))))].length ≤ 140737488355328 / 8 ∧ v12.length + [(w64 (v10 + (w64 ((y13.1.size : Int) + (1 : Int)))))].length ≤ 140737488355328) (some (.go ((w64 (v10 + (w64 ((y13.1.size : Int) + (1 : Int))))), (v11 ++ [(y14.1.1, y14.1.2.1, ())]), (v12 ++ [(w64 (v10 + (w64 ((y13.1.size : Int) + (1 : Int)))))]))))))))))) ((some (.out (v11, v12)))))
noncomputable def impl_readRecords (a0 : ByteArray) : Option ((List LogRecord) × (List Int)) :=
  ((iter (fun s => impl_readRecords_loop1 a0 s.1 s.2.1 s.2.2) ((0 : Int), ([] : List LogRecord), [(0 : Int)])).bind (fun r15 => (some (r15.1, r15.2))))
def impl_readRecords.res (_ : ByteArray) (_ : (List LogRecord) × (List Int)) : AV := (.tup [(.own 0), (.own 1)])
def impl_readRecords.out (_ : ByteArray) (y : (List LogRecord) × (List Int)) : List (Option LB) := [some (.arr 39 ty_LogRecord y.1), some (.arr 3 (.int .i64) y.2)]
def impl_readRecords.S (ar : List AV) (h : List (Option LB)) (r : AV) (h1 : List (Option LB)) : Prop := ∃ a0 y, impl_readRecords a0 = some y ∧ leL ar [(.v (.string a0))] ∧ leH h [] ∧ r = impl_readRecords.res a0 y ∧ h1 = impl_readRecords.out a0 y
theorem impl_readRecords.call {ar : List AV} {h : List (Option LB)} {a0 : ByteArray} {y : (List LogRecord) × (List Int)} (H : impl_readRecords a0 = some y) (h0 : leLk ar [(.v (.string a0))] (leHk h [])) : impl_readRecords.S ar h (impl_readRecords.res a0 y) (impl_readRecords.out a0 y) := ⟨a0, y, H, (args_ok h0).1, (args_ok h0).2, rfl, rfl⟩
set_option maxHeartbeats 100000000 in
set_option maxRecDepth 100000 in
theorem impl_readRecords.spec (a0 : ByteArray) (y : (List LogRecord) × (List Int)) (H : impl_readRecords a0 = some y) : Spec Tryd.prog 54 [(.v (.string a0))] [] (impl_readRecords.res a0 y) (impl_readRecords.out a0 y) := by
  refine spec_intro (G29_ok.at tok []) (ct := [(4, some [0, 4, 5, 6, 7, 9, 35, 36]), (6, some [0, 4, 5, 6, 7, 10, 35, 36])]) Tryd.func54 rfl (by kernel_rfl) (by kernel_rfl) rfl ?_
  repeat' first
    | ((with_reducible refine eqg ?_); exact rfl)
    | ((with_reducible refine KOb.mk ?_); kernel_rfl)
    | ((with_reducible intro h); (repeat (first | replace H := grd_k H | replace H := out_step H (by assumption))); first | replace H := cond_t h H | replace H := cond_f h H | exact absurd h (by decide) | skip)
    | ((with_reducible refine Ob.mk ?_); first | (with_reducible rfl) | (first | ((repeat (first | (with_reducible exact grd_p H) | (replace H := grd_k H) | (replace H := out_step H (by assumption)))); done) | rfl | ((repeat (first | exact grd_p H | replace H := grd_k H | replace H := out_step H (by assumption))); done) | ((repeat (first | exact grd_p H | (have hp := grd_p H; exact hp) | replace H := grd_k H | replace H := out_step H (by assumption) | (replace H := bind_some H; obtain ⟨_, _, H⟩ := H))); done) | (repeat (first | exact grd_p H | replace H := grd_k H | replace H := out_step H (by assumption)))))
    | (with_reducible exact True.intro)
    | ((conv => whnf); first
        | (with_reducible refine And.intro ?_ ?_)
        | (with_reducible exact True.intro)
        | ((with_reducible refine Ob.mk ?_); first | (with_reducible rfl) | (first | ((repeat (first | (with_reducible exact grd_p H) | (replace H := grd_k H) | (replace H := out_step H (by assumption)))); done) | rfl | ((repeat (first | exact grd_p H | replace H := grd_k H | replace H := out_step H (by assumption))); done) | ((repeat (first | exact grd_p H | (have hp := grd_p H; exact hp) | replace H := grd_k H | replace H := out_step H (by assumption) | (replace H := bind_some H; obtain ⟨_, _, H⟩ := H))); done) | (repeat (first | exact grd_p H | replace H := grd_k H | replace H := out_step H (by assumption)))))
        | ((with_reducible refine CallW.mk ?_); (repeat (first | replace H := grd_k H | replace H := out_step H (by assumption))); replace H := bind_some H; obtain ⟨y, hy, H⟩ := H; first | ((with_reducible have hz : strings_Cut _ _ = some y := hy); clear hz; refine Exists.intro _ (Exists.intro _ ⟨strings_Cut.call hy ?_, rfl, rfl, ?_⟩)) | ((with_reducible have hz : impl_decodeRecord _ _ = some y := hy); clear hz; refine Exists.intro _ (Exists.intro _ ⟨impl_decodeRecord.call hy ?_, rfl, rfl, ?_⟩)))
        | ((repeat (first | replace H := grd_k H | replace H := out_step H (by assumption))); refine loop_iter (G29_ok.at tok []) (ct := [(4, some [0, 4, 5, 6, 7, 9, 35, 36]), (6, some [0, 4, 5, 6, 7, 10, 35, 36])]) (F := (fun s1 : Int × (List LogRecord) × (List Int) => ⟨sl [(0, (.v (.string a0))), (4, (.own 0)), (5, (.own 1)), (6, (.v (.int .i64 s1.1)))], [some (.arr 39 ty_LogRecord s1.2.1), some (.arr 3 (.int .i64) s1.2.2)]⟩)) (step := (fun s : Int × (List LogRecord) × (List Int) => impl_readRecords_loop1 _ s.1 s.2.1 s.2.2)) _ H (by kernel_rfl) (sub_auto ?_) ?_; rotate_left; (intro s1 r v hr H); rotate_right)
        | ((repeat (first | replace H := grd_k H | replace H := out_step H (by assumption))); refine again_step H (by assumption) (sub_auto ?_))
        | ((with_reducible refine fin_mk ?_); (repeat (first | replace H := grd_k H | replace H := out_step H (by assumption))); have H := Option.some.inj H; subst H))
    | constructor
def G30 : Env := G29.add 54 [] impl_readRecords.S
theorem G30_ok : EnvOk Tryd.prog G30 := G29_ok.add ent_54 fun ar h r h1 ⟨a0, y, hy, e1, e2, e3, e4⟩ => by
  subst e3 e4; exact (impl_readRecords.spec a0 y hy).le e1 e2
attribute [local irreducible] impl_readRecords

end Go.Proofs.YtppiaacfnoifkaaDoor
