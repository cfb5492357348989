/-
  Contracts, printed by a program.
-/
import Derived.Test.YtppiaacfnoifkaaDoorC903
namespace Go.Proofs.YtppiaacfnoifkaaDoor
open Go.RowKit
attribute [local irreducible] Ob loopwp Sub Spec Fin Again CallW CutC KOb iter joinx outm

attribute [local irreducible] spec_l1Split spec_l1In spec_l1Num spec_l1Num_f spec_l1Read spec_l2Word spec_l26One spec_l26Line spec_ParseDayLine strings_Cut internal_stringslite_HasPrefix internal_stringslite_TrimPrefix strings_TrimPrefix impl_ParseInt strings_Split internal_stringslite_HasSuffix internal_stringslite_TrimSuffix strings_TrimSuffix impl_within

noncomputable def impl_isDay (a0 : Int) : Option (Bool) :=
  ((impl_within a0 (0 : Int) (999 : Int)).bind fun y1 => (some y1))
def impl_isDay.res (_ : Int) (y : Bool) : AV := (.bl y)
def impl_isDay.out (_ : Int) (_ : Bool) : List (Option LB) := []
def impl_isDay.S (ar : List AV) (h : List (Option LB)) (r : AV) (h1 : List (Option LB)) : Prop := ∃ a0 y, impl_isDay a0 = some y ∧ leL ar [(.v (.int .i64 a0))] ∧ leH h [] ∧ r = impl_isDay.res a0 y ∧ h1 = impl_isDay.out a0 y
theorem impl_isDay.call {ar : List AV} {h : List (Option LB)} {a0 : Int} {y : Bool} (H : impl_isDay a0 = some y) (h0 : leLk ar [(.v (.int .i64 a0))] (leHk h [])) : impl_isDay.S ar h (impl_isDay.res a0 y) (impl_isDay.out a0 y) := ⟨a0, y, H, (args_ok h0).1, (args_ok h0).2, rfl, rfl⟩
set_option maxHeartbeats 100000000 in
set_option maxRecDepth 100000 in
theorem impl_isDay.spec (a0 : Int) (y : Bool) (H : impl_isDay a0 = some y) : Spec Tryd.prog 91 [(.v (.int .i64 a0))] [] (impl_isDay.res a0 y) (impl_isDay.out a0 y) := by
  refine spec_intro (G18_ok.at tok []) (ct := []) Tryd.func91 rfl (by kernel_rfl) (by kernel_rfl) rfl ?_
  repeat' first
    | ((with_reducible refine eqg ?_); exact rfl)
    | ((with_reducible refine KOb.mk ?_); kernel_rfl)
    | ((with_reducible intro h); (repeat (first | replace H := grd_k H | replace H := out_step H (by assumption))); first | replace H := cond_t h H | replace H := cond_f h H | exact absurd h (by decide) | skip)
    | ((with_reducible refine Ob.mk ?_); first | (with_reducible rfl) | (first | ((repeat (first | (with_reducible exact grd_p H) | (replace H := grd_k H) | (replace H := out_step H (by assumption)))); done) | rfl | ((repeat (first | exact grd_p H | replace H := grd_k H | replace H := out_step H (by assumption))); done) | ((repeat (first | exact grd_p H | (have hp := grd_p H; exact hp) | replace H := grd_k H | replace H := out_step H (by assumption) | (replace H := bind_some H; obtain ⟨_, _, H⟩ := H))); done) | (repeat (first | exact grd_p H | replace H := grd_k H | replace H := out_step H (by assumption)))))
    | (with_reducible exact True.intro)
    | ((conv => whnf); first
        | (with_reducible refine And.intro ?_ ?_)
        | (with_reducible exact True.intro)
        | ((with_reducible refine Ob.mk ?_); first | (with_reducible rfl) | (first | ((repeat (first | (with_reducible exact grd_p H) | (replace H := grd_k H) | (replace H := out_step H (by assumption)))); done) | rfl | ((repeat (first | exact grd_p H | replace H := grd_k H | replace H := out_step H (by assumption))); done) | ((repeat (first | exact grd_p H | (have hp := grd_p H; exact hp) | replace H := grd_k H | replace H := out_step H (by assumption) | (replace H := bind_some H; obtain ⟨_, _, H⟩ := H))); done) | (repeat (first | exact grd_p H | replace H := grd_k H | replace H := out_step H (by assumption)))))
        | ((with_reducible refine CallW.mk ?_); (repeat (first | replace H := grd_k H | replace H := out_step H (by assumption))); replace H := bind_some H; obtain ⟨y, hy, H⟩ := H; first | ((with_reducible have hz : impl_within _ _ _ = some y := hy); clear hz; refine Exists.intro _ (Exists.intro _ ⟨impl_within.call hy ?_, rfl, rfl, ?_⟩)))
        | ((with_reducible refine fin_mk ?_); (repeat (first | replace H := grd_k H | replace H := out_step H (by assumption))); have H := Option.some.inj H; subst H))
    | constructor
def G19 : Env := G18.add 91 [] impl_isDay.S
theorem G19_ok : EnvOk Tryd.prog G19 := G18_ok.add ent_91 fun ar h r h1 ⟨a0, y, hy, e1, e2, e3, e4⟩ => by
  subst e3 e4; exact (impl_isDay.spec a0 y hy).le e1 e2
attribute [local irreducible] impl_isDay

noncomputable def impl_isWord_loop1 (a0 : ByteArray) (v2 : Int) : Option (Lp (Int) ((Unit) ⊕ (Unit))) :=
  (cond (decide (v2 < (a0.size : Int))) (grd (0 ≤ v2 ∧ v2 < (a0.size : Int)) (cond (decide ((bAt a0 v2) < (97 : Int))) ((some (.out (Sum.inl ())))) (grd (0 ≤ v2 ∧ v2 < (a0.size : Int)) (cond (decide ((122 : Int) < (bAt a0 v2))) ((some (.out (Sum.inl ())))) (some (.go (w64 (v2 + (1 : Int))))))))) ((some (.out (Sum.inr ())))))
noncomputable def impl_isWord (a0 : ByteArray) : Option (Bool) :=
  ((iter (fun s => impl_isWord_loop1 a0 s) (0 : Int)).bind (Sum.elim (fun _ => (some false)) (fun _ => (cond (decide ((1 : Int) ≤ (a0.size : Int))) ((some (decide ((a0.size : Int) ≤ (10 : Int))))) ((some false))))))
def impl_isWord.res (_ : ByteArray) (y : Bool) : AV := (.bl y)
def impl_isWord.out (_ : ByteArray) (_ : Bool) : List (Option LB) := []
def impl_isWord.S (ar : List AV) (h : List (Option LB)) (r : AV) (h1 : List (Option LB)) : Prop := ∃ a0 y, impl_isWord a0 = some y ∧ leL ar [(.v (.string a0))] ∧ leH h [] ∧ r = impl_isWord.res a0 y ∧ h1 = impl_isWord.out a0 y
theorem impl_isWord.call {ar : List AV} {h : List (Option LB)} {a0 : ByteArray} {y : Bool} (H : impl_isWord a0 = some y) (h0 : leLk ar [(.v (.string a0))] (leHk h [])) : impl_isWord.S ar h (impl_isWord.res a0 y) (impl_isWord.out a0 y) := ⟨a0, y, H, (args_ok h0).1, (args_ok h0).2, rfl, rfl⟩
set_option maxHeartbeats 100000000 in
set_option maxRecDepth 100000 in
theorem impl_isWord.spec (a0 : ByteArray) (y : Bool) (H : impl_isWord a0 = some y) : Spec Tryd.prog 79 [(.v (.string a0))] [] (impl_isWord.res a0 y) (impl_isWord.out a0 y) := by
  refine spec_intro (G19_ok.at tok []) (ct := [(6, some [0, 5, 6, 14, 15, 16, 17, 24, 25, 26])]) Tryd.func79 rfl (by kernel_rfl) (by kernel_rfl) rfl ?_
  repeat' first
    | ((with_reducible refine eqg ?_); exact rfl)
    | ((with_reducible refine KOb.mk ?_); kernel_rfl)
    | ((with_reducible intro h); (repeat (first | replace H := grd_k H | replace H := out_step H (by assumption))); first | replace H := cond_t h H | replace H := cond_f h H | exact absurd h (by decide) | skip)
    | ((with_reducible refine Ob.mk ?_); first | (with_reducible rfl) | (first | ((repeat (first | (with_reducible exact grd_p H) | (replace H := grd_k H) | (replace H := out_step H (by assumption)))); done) | rfl | ((repeat (first | exact grd_p H | replace H := grd_k H | replace H := out_step H (by assumption))); done) | ((repeat (first | exact grd_p H | (have hp := grd_p H; exact hp) | replace H := grd_k H | replace H := out_step H (by assumption) | (replace H := bind_some H; obtain ⟨_, _, H⟩ := H))); done) | (repeat (first | exact grd_p H | replace H := grd_k H | replace H := out_step H (by assumption)))))
    | (with_reducible exact True.intro)
    | ((conv => whnf); first
        | (with_reducible refine And.intro ?_ ?_)
        | (with_reducible exact True.intro)
        | ((with_reducible refine Ob.mk ?_); first | (with_reducible rfl) | (first | ((repeat (first | (with_reducible exact grd_p H) | (replace H := grd_k H) | (replace H := out_step H (by assumption)))); done) | rfl | ((repeat (first | exact grd_p H | replace H := grd_k H | replace H := out_step H (by assumption))); done) | ((repeat (first | exact grd_p H | (have hp := grd_p H; exact hp) | replace H := grd_k H | replace H := out_step H (by assumption) | (replace H := bind_some H; obtain ⟨_, _, H⟩ := H))); done) | (repeat (first | exact grd_p H | replace H := grd_k H | replace H := out_step H (by assumption)))))
        | ((repeat (first | replace H := grd_k H | replace H := out_step H (by assumption))); refine loop_iter (G19_ok.at tok []) (ct := [(6, some [0, 5, 6, 14, 15, 16, 17, 24, 25, 26])]) (F := (fun s1 : Int => ⟨sl [(0, (.v (.string a0))), (5, (.v (.int .i64 (a0.size : Int)))), (6, (.v (.int .i64 s1)))], []⟩)) (step := (fun s : Int => impl_isWord_loop1 _ s)) _ H (by kernel_rfl) (sub_auto ?_) ?_; rotate_left; (intro s1 r v hr H); rotate_right)
        | ((repeat (first | replace H := grd_k H | replace H := out_step H (by assumption))); refine again_step H (by assumption) (sub_auto ?_))
        | ((with_reducible refine fin_mk ?_); (repeat (first | replace H := grd_k H | replace H := out_step H (by assumption))); have H := Option.some.inj H; subst H))
    | constructor
def G20 : Env := G19.add 79 [] impl_isWord.S
theorem G20_ok : EnvOk Tryd.prog G20 := G19_ok.add ent_79 fun ar h r h1 ⟨a0, y, hy, e1, e2, e3, e4⟩ => by
  subst e3 e4; exact (impl_isWord.spec a0 y hy).le e1 e2
attribute [local irreducible] impl_isWord

noncomputable def impl_IsDayRow (a0 : DayRow) : Option (Bool) :=
  ((impl_isDay a0.1).bind fun y1 => (cond (!y1) ((some false)) ((impl_within a0.2.1 (0 : Int) (99999 : Int)).bind fun y2 => (cond (!y2) ((some false)) ((impl_within a0.2.2.1 (0 : Int) (99999 : Int)).bind fun y3 => (cond (!y3) ((some false)) ((impl_within a0.2.2.2.1 (0 : Int) (24 : Int)).bind fun y4 => (cond (!y4) ((some false)) ((impl_within a0.2.2.2.2.1 (0 : Int) (99 : Int)).bind fun y5 => (cond (!y5) ((some false)) (joinx (cond (decide (a0.2.2.2.1 = (0 : Int))) (cond (decide ((0 : Int) < (w64 ((w64 (a0.2.1 + a0.2.2.1)) + a0.2.2.2.2.1)))) (outm ((some false))) ((some (.go ())))) ((some (.go ())))) (fun (_ : Unit) => (cond (decide (a0.2.2.2.2.1 = (0 : Int))) (cond (decide (a0.2.2.2.2.2.1 = (ByteArray.mk #[]))) ((some true)) (cond (decide ((0 : Int) < a0.2.2.2.2.1)) ((impl_isWord a0.2.2.2.2.2.1).bind fun y7 => (some y7)) ((some false)))) (cond (decide ((0 : Int) < a0.2.2.2.2.1)) ((impl_isWord a0.2.2.2.2.2.1).bind fun y8 => (some y8)) ((some false))))))))))))))))
def impl_IsDayRow.res (_ : DayRow) (y : Bool) : AV := (.bl y)
def impl_IsDayRow.out (_ : DayRow) (_ : Bool) : List (Option LB) := []
def impl_IsDayRow.S (ar : List AV) (h : List (Option LB)) (r : AV) (h1 : List (Option LB)) : Prop := ∃ a0 y, impl_IsDayRow a0 = some y ∧ leL ar [(.agg [(.v (.int .i64 a0.1)), (.v (.int .i64 a0.2.1)), (.v (.int .i64 a0.2.2.1)), (.v (.int .i64 a0.2.2.2.1)), (.v (.int .i64 a0.2.2.2.2.1)), (.v (.string a0.2.2.2.2.2.1))])] ∧ leH h [] ∧ r = impl_IsDayRow.res a0 y ∧ h1 = impl_IsDayRow.out a0 y
theorem impl_IsDayRow.call {ar : List AV} {h : List (Option LB)} {a0 : DayRow} {y : Bool} (H : impl_IsDayRow a0 = some y) (h0 : leLk ar [(.agg [(.v (.int .i64 a0.1)), (.v (.int .i64 a0.2.1)), (.v (.int .i64 a0.2.2.1)), (.v (.int .i64 a0.2.2.2.1)), (.v (.int .i64 a0.2.2.2.2.1)), (.v (.string a0.2.2.2.2.2.1))])] (leHk h [])) : impl_IsDayRow.S ar h (impl_IsDayRow.res a0 y) (impl_IsDayRow.out a0 y) := ⟨a0, y, H, (args_ok h0).1, (args_ok h0).2, rfl, rfl⟩
set_option maxHeartbeats 100000000 in
set_option maxRecDepth 100000 in
theorem impl_IsDayRow.spec (a0 : DayRow) (y : Bool) (H : impl_IsDayRow a0 = some y) : Spec Tryd.prog 39 [(.agg [(.v (.int .i64 a0.1)), (.v (.int .i64 a0.2.1)), (.v (.int .i64 a0.2.2.1)), (.v (.int .i64 a0.2.2.2.1)), (.v (.int .i64 a0.2.2.2.2.1)), (.v (.string a0.2.2.2.2.2.1))])] [] (impl_IsDayRow.res a0 y) (impl_IsDayRow.out a0 y) := by
  refine spec_intro (G20_ok.at tok []) (ct := [(5, none), (2, some [1, 30, 35, 36, 37, 38, 39, 40, 41, 42, 43, 49, 50, 51, 54, 55, 56, 57, 58, 59, 60, 61]), (4, some [1, 44, 49, 50, 51, 54, 55, 56, 57, 58, 59, 60, 61])]) Tryd.func39 rfl (by kernel_rfl) (by kernel_rfl) rfl ?_
  repeat' first
    | (with_reducible exact (outm_no H).elim)
    | ((replace H := out_step H (by assumption)); exact (outm_no H).elim)
    | ((with_reducible refine eqg ?_); exact rfl)
    | ((with_reducible refine KOb.mk ?_); kernel_rfl)
    | ((with_reducible intro h); (repeat (first | replace H := grd_k H | replace H := out_step H (by assumption) | replace H := outm_out H)); first | replace H := cond_t h H | replace H := cond_f h H | exact absurd h (by decide) | skip)
    | ((with_reducible refine Ob.mk ?_); first | (with_reducible rfl) | (first | ((repeat (first | (with_reducible exact grd_p H) | (replace H := grd_k H) | (replace H := out_step H (by assumption)) | replace H := outm_out H)); done) | rfl | ((repeat (first | exact grd_p H | replace H := grd_k H | replace H := out_step H (by assumption) | replace H := outm_out H)); done) | ((repeat (first | exact grd_p H | (have hp := grd_p H; exact hp) | replace H := grd_k H | replace H := out_step H (by assumption) | replace H := outm_out H | (replace H := bind_some H; obtain ⟨_, _, H⟩ := H))); done) | (repeat (first | exact grd_p H | replace H := grd_k H | replace H := out_step H (by assumption) | replace H := outm_out H))))
    | (with_reducible exact True.intro)
    | ((conv => whnf); first
        | (with_reducible refine And.intro ?_ ?_)
        | (with_reducible exact True.intro)
        | ((with_reducible refine Ob.mk ?_); first | (with_reducible rfl) | (first | ((repeat (first | (with_reducible exact grd_p H) | (replace H := grd_k H) | (replace H := out_step H (by assumption)) | replace H := outm_out H)); done) | rfl | ((repeat (first | exact grd_p H | replace H := grd_k H | replace H := out_step H (by assumption) | replace H := outm_out H)); done) | ((repeat (first | exact grd_p H | (have hp := grd_p H; exact hp) | replace H := grd_k H | replace H := out_step H (by assumption) | replace H := outm_out H | (replace H := bind_some H; obtain ⟨_, _, H⟩ := H))); done) | (repeat (first | exact grd_p H | replace H := grd_k H | replace H := out_step H (by assumption) | replace H := outm_out H))))
        | ((with_reducible refine CallW.mk ?_); (repeat (first | replace H := grd_k H | replace H := out_step H (by assumption) | replace H := outm_out H)); replace H := bind_some H; obtain ⟨y, hy, H⟩ := H; first | ((with_reducible have hz : impl_isDay _ = some y := hy); clear hz; refine Exists.intro _ (Exists.intro _ ⟨impl_isDay.call hy ?_, rfl, rfl, ?_⟩)) | ((with_reducible have hz : impl_within _ _ _ = some y := hy); clear hz; refine Exists.intro _ (Exists.intro _ ⟨impl_within.call hy ?_, rfl, rfl, ?_⟩)) | ((with_reducible have hz : impl_isWord _ = some y := hy); clear hz; refine Exists.intro _ (Exists.intro _ ⟨impl_isWord.call hy ?_, rfl, rfl, ?_⟩)))
        | ((with_reducible refine cutAt (id := 5) ?_); (repeat (first | replace H := grd_k H | replace H := out_step H (by assumption) | replace H := outm_out H)); first | (replace H := joinx_some H; rcases H with ⟨z, hz, H⟩ | H; rotate_left; (with_reducible refine CutC.no ?_); rotate_right; (refine CutC.mk (id := 5) ⟨sl [(1, (.loc 0 0 0))], [some (.box 63 [(.v (.int .i64 a0.1)), (.v (.int .i64 a0.2.1)), (.v (.int .i64 a0.2.2.1)), (.v (.int .i64 a0.2.2.2.1)), (.v (.int .i64 a0.2.2.2.2.1)), (.v (.string a0.2.2.2.2.2.1))])]⟩ ?_ ?_; (replace H := hz))))
        | ((repeat (first | replace H := grd_k H | replace H := out_step H (by assumption) | replace H := outm_out H)); have H := Option.some.inj H; subst H; with_reducible refine sub_auto ?_)
        | ((repeat (first | replace H := grd_k H | replace H := out_step H (by assumption) | replace H := outm_out H)); have H := go_inj H; subst H; with_reducible refine sub_auto ?_)
        | ((repeat (first | replace H := grd_k H | replace H := out_step H (by assumption) | replace H := outm_out H)); exact (go_out H).elim)
        | ((with_reducible refine fin_mk ?_); (repeat (first | replace H := grd_k H | replace H := out_step H (by assumption) | replace H := outm_out H)); have H := Option.some.inj H; subst H))
    | constructor
def G21 : Env := G20.add 39 [] impl_IsDayRow.S
theorem G21_ok : EnvOk Tryd.prog G21 := G20_ok.add ent_39 fun ar h r h1 ⟨a0, y, hy, e1, e2, e3, e4⟩ => by
  subst e3 e4; exact (impl_IsDayRow.spec a0 y hy).le e1 e2
attribute [local irreducible] impl_IsDayRow

noncomputable def strconv_Itoa (a0 : Int) : Option (ByteArray) :=
  (grd (-9223372036854775808 ≤ a0 ∧ a0 ≤ 9223372036854775807) ((some (itoaB a0))))
def strconv_Itoa.res (_ : Int) (y : ByteArray) : AV := (.v (.string y))
def strconv_Itoa.out (_ : Int) (_ : ByteArray) : List (Option LB) := []
def strconv_Itoa.S (ar : List AV) (h : List (Option LB)) (r : AV) (h1 : List (Option LB)) : Prop := ∃ a0 y, strconv_Itoa a0 = some y ∧ leL ar [(.v (.int .i64 a0))] ∧ leH h [] ∧ r = strconv_Itoa.res a0 y ∧ h1 = strconv_Itoa.out a0 y
theorem strconv_Itoa.call {ar : List AV} {h : List (Option LB)} {a0 : Int} {y : ByteArray} (H : strconv_Itoa a0 = some y) (h0 : leLk ar [(.v (.int .i64 a0))] (leHk h [])) : strconv_Itoa.S ar h (strconv_Itoa.res a0 y) (strconv_Itoa.out a0 y) := ⟨a0, y, H, (args_ok h0).1, (args_ok h0).2, rfl, rfl⟩
theorem strconv_Itoa.spec (a0 : Int) (y : ByteArray) (H : strconv_Itoa a0 = some y) : Spec Tryd.prog 76 [(.v (.int .i64 a0))] [] (strconv_Itoa.res a0 y) (strconv_Itoa.out a0 y) := by
  have hg := grd_p H
  have H := Option.some.inj (grd_k H)
  subst H
  exact ext_strconv_Itoa a0 hg
def G22 : Env := G21.add 76 [] strconv_Itoa.S
theorem G22_ok : EnvOk Tryd.prog G22 := G21_ok.add ent_76 fun ar h r h1 ⟨a0, y, hy, e1, e2, e3, e4⟩ => by
  subst e3 e4; exact (strconv_Itoa.spec a0 y hy).le e1 e2
attribute [local irreducible] strconv_Itoa

noncomputable def impl_dayLine (a0 : DayRow) : Option (ByteArray) :=
  ((strconv_Itoa a0.1).bind fun y1 => (grd ((ByteArray.mk #[100, 97, 121, 32]).size + y1.size ≤ 9223372036854775807) (grd (((ByteArray.mk #[100, 97, 121, 32]) ++ y1).size + (ByteArray.mk #[58, 32]).size ≤ 9223372036854775807) (cond (decide (a0.2.2.2.1 = (0 : Int))) (grd ((((ByteArray.mk #[100, 97, 121, 32]) ++ y1) ++ (ByteArray.mk #[58, 32])).size + (ByteArray.mk #[99, 108, 111, 115, 101, 100]).size ≤ 9223372036854775807) ((some ((((ByteArray.mk #[100, 97, 121, 32]) ++ y1) ++ (ByteArray.mk #[58, 32])) ++ (ByteArray.mk #[99, 108, 111, 115, 101, 100]))))) ((strconv_Itoa a0.2.1).bind fun y2 => (grd (y2.size + (ByteArray.mk #[32, 117, 112, 44, 32]).size ≤ 9223372036854775807) ((strconv_Itoa a0.2.2.1).bind fun y3 => (grd ((y2 ++ (ByteArray.mk #[32, 117, 112, 44, 32])).size + y3.size ≤ 9223372036854775807) (grd (((y2 ++ (ByteArray.mk #[32, 117, 112, 44, 32])) ++ y3).size + (ByteArray.mk #[32, 100, 111, 119, 110, 44, 32]).size ≤ 9223372036854775807) ((strconv_Itoa a0.2.2.2.1).bind fun y4 => (grd ((((y2 ++ (ByteArray.mk #[32, 117, 112, 44, 32])) ++ y3) ++ (ByteArray.mk #[32, 100, 111, 119, 110, 44, 32])).size + y4.size ≤ 9223372036854775807) (grd (((((y2 ++ (ByteArray.mk #[32, 117, 112, 44, 32])) ++ y3) ++ (ByteArray.mk #[32, 100, 111, 119, 110, 44, 32])) ++ y4).size + (ByteArray.mk #[32, 104]).size ≤ 9223372036854775807) (grd ((((ByteArray.mk #[100, 97, 121, 32]) ++ y1) ++ (ByteArray.mk #[58, 32])).size + (((((y2 ++ (ByteArray.mk #[32, 117, 112, 44, 32])) ++ y3) ++ (ByteArray.mk #[32, 100, 111, 119, 110, 44, 32])) ++ y4) ++ (ByteArray.mk #[32, 104])).size ≤ 9223372036854775807) (cond (decide (a0.2.2.2.2.1 = (1 : Int))) (grd ((ByteArray.mk #[44, 32, 49, 32, 115, 116, 111, 112, 32, 40]).size + a0.2.2.2.2.2.1.size ≤ 9223372036854775807) (grd (((ByteArray.mk #[44, 32, 49, 32, 115, 116, 111, 112, 32, 40]) ++ a0.2.2.2.2.2.1).size + (ByteArray.mk #[41]).size ≤ 9223372036854775807) (grd (((((ByteArray.mk #[100, 97, 121, 32]) ++ y1) ++ (ByteArray.mk #[58, 32])) ++ (((((y2 ++ (ByteArray.mk #[32, 117, 112, 44, 32])) ++ y3) ++ (ByteArray.mk #[32, 100, 111, 119, 110, 44, 32])) ++ y4) ++ (ByteArray.mk #[32, 104]))).size + (((ByteArray.mk #[44, 32, 49, 32, 115, 116, 111, 112, 32, 40]) ++ a0.2.2.2.2.2.1) ++ (ByteArray.mk #[41])).size ≤ 9223372036854775807) ((some (((((ByteArray.mk #[100, 97, 121, 32]) ++ y1) ++ (ByteArray.mk #[58, 32])) ++ (((((y2 ++ (ByteArray.mk #[32, 117, 112, 44, 32])) ++ y3) ++ (ByteArray.mk #[32, 100, 111, 119, 110, 44, 32])) ++ y4) ++ (ByteArray.mk #[32, 104]))) ++ (((ByteArray.mk #[44, 32, 49, 32, 115, 116, 111, 112, 32, 40]) ++ a0.2.2.2.2.2.1) ++ (ByteArray.mk #[41])))))))) (cond (decide ((1 : Int) < a0.2.2.2.2.1)) ((strconv_Itoa a0.2.2.2.2.1).bind fun y5 => (grd ((ByteArray.mk #[44, 32]).size + y5.size ≤ 9223372036854775807) (grd (((ByteArray.mk #[44, 32]) ++ y5).size + (ByteArray.mk #[32, 115, 116, 111, 112, 115, 32, 40]).size ≤ 9223372036854775807) (grd ((((ByteArray.mk #[44, 32]) ++ y5) ++ (ByteArray.mk #[32, 115, 116, 111, 112, 115, 32, 40])).size + a0.2.2.2.2.2.1.size ≤ 9223372036854775807) (grd (((((ByteArray.mk #[44, 32]) ++ y5) ++ (ByteArray.mk #[32, 115, 116, 111, 112, 115, 32, 40])) ++ a0.2.2.2.2.2.1).size + (ByteArray.mk #[41]).size ≤ 9223372036854775807) (grd (((((ByteArray.mk #[100, 97, 121, 32]) ++ y1) ++ (ByteArray.mk #[58, 32])) ++ (((((y2 ++ (ByteArray.mk #[32, 117, 112, 44, 32])) ++ y3) ++ (ByteArray.mk #[32, 100, 111, 119, 110, 44, 32])) ++ y4) ++ (ByteArray.mk #[32, 104]))).size + (((((ByteArray.mk #[44, 32]) ++ y5) ++ (ByteArray.mk #[32, 115, 116, 111, 112, 115, 32, 40])) ++ a0.2.2.2.2.2.1) ++ (ByteArray.mk #[41])).size ≤ 9223372036854775807) ((some (((((ByteArray.mk #[100, 97, 121, 32]) ++ y1) ++ (ByteArray.mk #[58, 32])) ++ (((((y2 ++ (ByteArray.mk #[32, 117, 112, 44, 32])) ++ y3) ++ (ByteArray.mk #[32, 100, 111, 119, 110, 44, 32])) ++ y4) ++ (ByteArray.mk #[32, 104]))) ++ (((((ByteArray.mk #[44, 32]) ++ y5) ++ (ByteArray.mk #[32, 115, 116, 111, 112, 115, 32, 40])) ++ a0.2.2.2.2.2.1) ++ (ByteArray.mk #[41]))))))))))) ((some ((((ByteArray.mk #[100, 97, 121, 32]) ++ y1) ++ (ByteArray.mk #[58, 32])) ++ (((((y2 ++ (ByteArray.mk #[32, 117, 112, 44, 32])) ++ y3) ++ (ByteArray.mk #[32, 100, 111, 119, 110, 44, 32])) ++ y4) ++ (ByteArray.mk #[32, 104]))))))))))))))))))))
def impl_dayLine.res (_ : DayRow) (y : ByteArray) : AV := (.v (.string y))
def impl_dayLine.out (_ : DayRow) (_ : ByteArray) : List (Option LB) := []
def impl_dayLine.S (ar : List AV) (h : List (Option LB)) (r : AV) (h1 : List (Option LB)) : Prop := ∃ a0 y, impl_dayLine a0 = some y ∧ leL ar [(.agg [(.v (.int .i64 a0.1)), (.v (.int .i64 a0.2.1)), (.v (.int .i64 a0.2.2.1)), (.v (.int .i64 a0.2.2.2.1)), (.v (.int .i64 a0.2.2.2.2.1)), (.v (.string a0.2.2.2.2.2.1))])] ∧ leH h [] ∧ r = impl_dayLine.res a0 y ∧ h1 = impl_dayLine.out a0 y
theorem impl_dayLine.call {ar : List AV} {h : List (Option LB)} {a0 : DayRow} {y : ByteArray} (H : impl_dayLine a0 = some y) (h0 : leLk ar [(.agg [(.v (.int .i64 a0.1)), (.v (.int .i64 a0.2.1)), (.v (.int .i64 a0.2.2.1)), (.v (.int .i64 a0.2.2.2.1)), (.v (.int .i64 a0.2.2.2.2.1)), (.v (.string a0.2.2.2.2.2.1))])] (leHk h [])) : impl_dayLine.S ar h (impl_dayLine.res a0 y) (impl_dayLine.out a0 y) := ⟨a0, y, H, (args_ok h0).1, (args_ok h0).2, rfl, rfl⟩
set_option maxHeartbeats 100000000 in
set_option maxRecDepth 100000 in
theorem impl_dayLine.spec (a0 : DayRow) (y : ByteArray) (H : impl_dayLine a0 = some y) : Spec Tryd.prog 89 [(.agg [(.v (.int .i64 a0.1)), (.v (.int .i64 a0.2.1)), (.v (.int .i64 a0.2.2.1)), (.v (.int .i64 a0.2.2.2.1)), (.v (.int .i64 a0.2.2.2.2.1)), (.v (.string a0.2.2.2.2.2.1))])] [] (impl_dayLine.res a0 y) (impl_dayLine.out a0 y) := by
  refine spec_intro (G22_ok.at tok []) (ct := [(4, some [1, 3]), (5, some [1, 3]), (9, some [3])]) Tryd.func89 rfl (by kernel_rfl) (by kernel_rfl) rfl ?_
  repeat' first
    | ((with_reducible refine eqg ?_); exact rfl)
    | ((with_reducible refine KOb.mk ?_); kernel_rfl)
    | ((with_reducible intro h); (repeat (first | replace H := grd_k H | replace H := out_step H (by assumption))); first | replace H := cond_t h H | replace H := cond_f h H | exact absurd h (by decide) | skip)
    | ((with_reducible refine Ob.mk ?_); first | (with_reducible rfl) | (first | ((repeat (first | (with_reducible exact grd_p H) | (replace H := grd_k H) | (replace H := out_step H (by assumption)))); done) | rfl | ((repeat (first | exact grd_p H | replace H := grd_k H | replace H := out_step H (by assumption))); done) | ((repeat (first | exact grd_p H | (have hp := grd_p H; exact hp) | replace H := grd_k H | replace H := out_step H (by assumption) | (replace H := bind_some H; obtain ⟨_, _, H⟩ := H))); done) | (repeat (first | exact grd_p H | replace H := grd_k H | replace H := out_step H (by assumption)))))
    | (with_reducible exact True.intro)
    | ((conv => whnf); first
        | (with_reducible refine And.intro ?_ ?_)
        | (with_reducible exact True.intro)
        | ((with_reducible refine Ob.mk ?_); first | (with_reducible rfl) | (first | ((repeat (first | (with_reducible exact grd_p H) | (replace H := grd_k H) | (replace H := out_step H (by assumption)))); done) | rfl | ((repeat (first | exact grd_p H | replace H := grd_k H | replace H := out_step H (by assumption))); done) | ((repeat (first | exact grd_p H | (have hp := grd_p H; exact hp) | replace H := grd_k H | replace H := out_step H (by assumption) | (replace H := bind_some H; obtain ⟨_, _, H⟩ := H))); done) | (repeat (first | exact grd_p H | replace H := grd_k H | replace H := out_step H (by assumption)))))
        | ((with_reducible refine CallW.mk ?_); (repeat (first | replace H := grd_k H | replace H := out_step H (by assumption))); replace H := bind_some H; obtain ⟨y, hy, H⟩ := H; first | ((with_reducible have hz : strconv_Itoa _ = some y := hy); clear hz; refine Exists.intro _ (Exists.intro _ ⟨strconv_Itoa.call hy ?_, rfl, rfl, ?_⟩)))
        | ((with_reducible refine fin_mk ?_); (repeat (first | replace H := grd_k H | replace H := out_step H (by assumption))); have H := Option.some.inj H; subst H))
    | constructor
def G23 : Env := G22.add 89 [] impl_dayLine.S
theorem G23_ok : EnvOk Tryd.prog G23 := G22_ok.add ent_89 fun ar h r h1 ⟨a0, y, hy, e1, e2, e3, e4⟩ => by
  subst e3 e4; exact (impl_dayLine.spec a0 y hy).le e1 e2
attribute [local irreducible] impl_dayLine

noncomputable def impl_ParseDayLine (a0 : ByteArray) : Option (DayRow × Bool) :=
  ((strings_Cut a0 (ByteArray.mk #[58, 32])).bind fun y1 => ((strings_TrimPrefix y1.1 (ByteArray.mk #[100, 97, 121, 32])).bind fun y2 => ((impl_ParseInt y2).bind fun y3 => (((strings_Split y1.2.1 (ByteArray.mk #[44, 32])).bind fun y4 => (cond (decide ((3 : Int) ≤ (y4.length : Int))) (grd (0 ≤ (0 : Int) ∧ (0 : Int) < (y4.length : Int)) ((strings_TrimSuffix (y4.getD ((0 : Int).toNat) (ByteArray.mk #[])) (ByteArray.mk #[32, 117, 112])).bind fun y5 => ((impl_ParseInt y5).bind fun y6 => (grd (0 ≤ (1 : Int) ∧ (1 : Int) < (y4.length : Int)) ((strings_TrimSuffix (y4.getD ((1 : Int).toNat) (ByteArray.mk #[])) (ByteArray.mk #[32, 100, 111, 119, 110])).bind fun y7 => ((impl_ParseInt y7).bind fun y8 => (grd (0 ≤ (2 : Int) ∧ (2 : Int) < (y4.length : Int)) ((strings_TrimSuffix (y4.getD ((2 : Int).toNat) (ByteArray.mk #[])) (ByteArray.mk #[32, 104])).bind fun y9 => ((impl_ParseInt y9).bind fun y10 => (cond (decide ((3 : Int) < (y4.length : Int))) (grd (0 ≤ (3 : Int) ∧ (3 : Int) < (y4.length : Int)) ((strings_Cut (y4.getD ((3 : Int).toNat) (ByteArray.mk #[])) (ByteArray.mk #[32, 40])).bind fun y11 => ((strings_Cut y11.1 (ByteArray.mk #[32])).bind fun y12 => ((impl_ParseInt y12.1).bind fun y13 => ((strings_TrimSuffix y11.2.1 (ByteArray.mk #[41])).bind fun y14 => (some (y3.1, y6.1, y8.1, y10.1, y13.1, y14))))))) ((some (y3.1, y6.1, y8.1, y10.1, (0 : Int), (ByteArray.mk #[])))))))))))))) ((some (y3.1, (0 : Int), (0 : Int), (0 : Int), (0 : Int), (ByteArray.mk #[])))))).bind fun z15 => ((impl_IsDayRow (z15.1, z15.2.1, z15.2.2.1, z15.2.2.2.1, z15.2.2.2.2.1, z15.2.2.2.2.2, ())).bind fun y16 => (cond (!y16) ((some (((0 : Int), (0 : Int), (0 : Int), (0 : Int), (0 : Int), (ByteArray.mk #[]), ()), false))) ((impl_dayLine (z15.1, z15.2.1, z15.2.2.1, z15.2.2.2.1, z15.2.2.2.2.1, z15.2.2.2.2.2, ())).bind fun y17 => (cond (!decide (y17 = a0)) ((some (((0 : Int), (0 : Int), (0 : Int), (0 : Int), (0 : Int), (ByteArray.mk #[]), ()), false))) ((some ((z15.1, z15.2.1, z15.2.2.1, z15.2.2.2.1, z15.2.2.2.2.1, z15.2.2.2.2.2, ()), true)))))))))))
def impl_ParseDayLine.res (_ : ByteArray) (y : DayRow × Bool) : AV := (.tup [(.agg [(.v (.int .i64 y.1.1)), (.v (.int .i64 y.1.2.1)), (.v (.int .i64 y.1.2.2.1)), (.v (.int .i64 y.1.2.2.2.1)), (.v (.int .i64 y.1.2.2.2.2.1)), (.v (.string y.1.2.2.2.2.2.1))]), (.bl y.2)])
def impl_ParseDayLine.out (_ : ByteArray) (_ : DayRow × Bool) : List (Option LB) := []
def impl_ParseDayLine.S (ar : List AV) (h : List (Option LB)) (r : AV) (h1 : List (Option LB)) : Prop := ∃ a0 y, impl_ParseDayLine a0 = some y ∧ leL ar [(.v (.string a0))] ∧ leH h [] ∧ r = impl_ParseDayLine.res a0 y ∧ h1 = impl_ParseDayLine.out a0 y
theorem impl_ParseDayLine.call {ar : List AV} {h : List (Option LB)} {a0 : ByteArray} {y : DayRow × Bool} (H : impl_ParseDayLine a0 = some y) (h0 : leLk ar [(.v (.string a0))] (leHk h [])) : impl_ParseDayLine.S ar h (impl_ParseDayLine.res a0 y) (impl_ParseDayLine.out a0 y) := ⟨a0, y, H, (args_ok h0).1, (args_ok h0).2, rfl, rfl⟩
set_option maxHeartbeats 100000000 in
set_option maxRecDepth 100000 in
theorem impl_ParseDayLine.spec (a0 : ByteArray) (y : DayRow × Bool) (H : impl_ParseDayLine a0 = some y) : Spec Tryd.prog 34 [(.v (.string a0))] [] (impl_ParseDayLine.res a0 y) (impl_ParseDayLine.out a0 y) := by
  refine spec_intro (G23_ok.at tok []) (ct := [(14, none), (4, some [0, 2, 5, 7, 91, 92, 93, 94]), (7, some [0, 2, 7, 8, 91, 92, 93, 94]), (9, some [0, 2, 7, 8, 91, 92, 93, 94]), (11, some [0, 2, 7, 9, 10, 91, 92, 93, 94]), (13, some [0, 2, 7, 10, 91, 92, 93, 94])]) Tryd.func34 rfl (by kernel_rfl) (by kernel_rfl) rfl ?_
  repeat' first
    | ((with_reducible refine eqg ?_); exact rfl)
    | ((with_reducible refine KOb.mk ?_); kernel_rfl)
    | ((with_reducible intro h); (repeat (first | replace H := grd_k H | replace H := out_step H (by assumption))); first | replace H := cond_t h H | replace H := cond_f h H | exact absurd h (by decide) | skip)
    | ((with_reducible refine Ob.mk ?_); first | (with_reducible rfl) | (first | ((repeat (first | (with_reducible exact grd_p H) | (replace H := grd_k H) | (replace H := out_step H (by assumption)))); done) | rfl | ((repeat (first | exact grd_p H | replace H := grd_k H | replace H := out_step H (by assumption))); done) | ((repeat (first | exact grd_p H | (have hp := grd_p H; exact hp) | replace H := grd_k H | replace H := out_step H (by assumption) | (replace H := bind_some H; obtain ⟨_, _, H⟩ := H))); done) | (repeat (first | exact grd_p H | replace H := grd_k H | replace H := out_step H (by assumption)))))
    | (with_reducible exact True.intro)
    | ((conv => whnf); first
        | (with_reducible refine And.intro ?_ ?_)
        | (with_reducible exact True.intro)
        | ((with_reducible refine Ob.mk ?_); first | (with_reducible rfl) | (first | ((repeat (first | (with_reducible exact grd_p H) | (replace H := grd_k H) | (replace H := out_step H (by assumption)))); done) | rfl | ((repeat (first | exact grd_p H | replace H := grd_k H | replace H := out_step H (by assumption))); done) | ((repeat (first | exact grd_p H | (have hp := grd_p H; exact hp) | replace H := grd_k H | replace H := out_step H (by assumption) | (replace H := bind_some H; obtain ⟨_, _, H⟩ := H))); done) | (repeat (first | exact grd_p H | replace H := grd_k H | replace H := out_step H (by assumption)))))
        | ((with_reducible refine CallW.mk ?_); (repeat (first | replace H := grd_k H | replace H := out_step H (by assumption))); replace H := bind_some H; obtain ⟨y, hy, H⟩ := H; first | ((with_reducible have hz : strings_Cut _ _ = some y := hy); clear hz; refine Exists.intro _ (Exists.intro _ ⟨strings_Cut.call hy ?_, rfl, rfl, ?_⟩)) | ((with_reducible have hz : strings_TrimPrefix _ _ = some y := hy); clear hz; refine Exists.intro _ (Exists.intro _ ⟨strings_TrimPrefix.call hy ?_, rfl, rfl, ?_⟩)) | ((with_reducible have hz : impl_ParseInt _ = some y := hy); clear hz; refine Exists.intro _ (Exists.intro _ ⟨impl_ParseInt.call hy ?_, rfl, rfl, ?_⟩)) | ((with_reducible have hz : strings_Split _ _ = some y := hy); clear hz; refine Exists.intro _ (Exists.intro _ ⟨strings_Split.call hy ?_, rfl, rfl, ?_⟩)) | ((with_reducible have hz : strings_TrimSuffix _ _ = some y := hy); clear hz; refine Exists.intro _ (Exists.intro _ ⟨strings_TrimSuffix.call hy ?_, rfl, rfl, ?_⟩)) | ((with_reducible have hz : impl_IsDayRow _ = some y := hy); clear hz; refine Exists.intro _ (Exists.intro _ ⟨impl_IsDayRow.call hy ?_, rfl, rfl, ?_⟩)) | ((with_reducible have hz : impl_dayLine _ = some y := hy); clear hz; refine Exists.intro _ (Exists.intro _ ⟨impl_dayLine.call hy ?_, rfl, rfl, ?_⟩)))
        | ((with_reducible refine cutAt (id := 14) ?_); (repeat (first | replace H := grd_k H | replace H := out_step H (by assumption))); first | (replace H := bind_some H; obtain ⟨z, hz, H⟩ := H; refine CutC.mk (id := 14) ⟨sl [(0, (.v (.string a0))), (2, (.loc 0 0 0)), (7, (.loc 1 0 0))], [some (.box 63 [(.v (.int .i64 (0 : Int))), (.v (.int .i64 (0 : Int))), (.v (.int .i64 (0 : Int))), (.v (.int .i64 (0 : Int))), (.v (.int .i64 (0 : Int))), (.v (.string (ByteArray.mk #[])))]), some (.box 63 [(.v (.int .i64 z.1)), (.v (.int .i64 z.2.1)), (.v (.int .i64 z.2.2.1)), (.v (.int .i64 z.2.2.2.1)), (.v (.int .i64 z.2.2.2.2.1)), (.v (.string z.2.2.2.2.2))])]⟩ ?_ ?_; (replace H := hz)))
        | ((repeat (first | replace H := grd_k H | replace H := out_step H (by assumption))); have H := Option.some.inj H; subst H; with_reducible refine sub_auto ?_)
        | ((with_reducible refine fin_mk ?_); (repeat (first | replace H := grd_k H | replace H := out_step H (by assumption))); have H := Option.some.inj H; subst H))
    | constructor
def G24 : Env := G23.add 34 [] impl_ParseDayLine.S
theorem G24_ok : EnvOk Tryd.prog G24 := G23_ok.add ent_34 fun ar h r h1 ⟨a0, y, hy, e1, e2, e3, e4⟩ => by
  subst e3 e4; exact (impl_ParseDayLine.spec a0 y hy).le e1 e2
attribute [local irreducible] impl_ParseDayLine

end Go.Proofs.YtppiaacfnoifkaaDoor
