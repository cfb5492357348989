/-
  Contracts, printed by a program.
-/
import Derived.Test.YteckiilljhdkpaaC301
namespace Go.Proofs.Yteckiilljhdkpaa
open Go.RowKit
attribute [local irreducible] Ob loopwp Sub Spec Fin Again CallW CutC KOb iter joinx outm

attribute [local irreducible] laws_szDayRow laws_szDayRowS laws_toDayRow laws_toDayRowS spec_l1In spec_l2Word spec_l26One spec_l26Good spec_LeftBehind impl_within

noncomputable def impl_isDay (a0 : Int) : Option (Bool) :=
  ((impl_within a0 (0 : Int) (999 : Int)).bind fun y1 => (some y1))
def impl_isDay.res (_ : Int) (y : Bool) : AV := (.bl y)
def impl_isDay.out (_ : Int) (_ : Bool) : List (Option LB) := []
def impl_isDay.S (ar : List AV) (h : List (Option LB)) (r : AV) (h1 : List (Option LB)) : Prop := ∃ a0 y, impl_isDay a0 = some y ∧ leL ar [(.v (.int .i64 a0))] ∧ leH h [] ∧ r = impl_isDay.res a0 y ∧ h1 = impl_isDay.out a0 y
theorem impl_isDay.call {ar : List AV} {h : List (Option LB)} {a0 : Int} {y : Bool} (H : impl_isDay a0 = some y) (h0 : leLk ar [(.v (.int .i64 a0))] (leHk h [])) : impl_isDay.S ar h (impl_isDay.res a0 y) (impl_isDay.out a0 y) := ⟨a0, y, H, (args_ok h0).1, (args_ok h0).2, rfl, rfl⟩
set_option maxHeartbeats 100000000 in
set_option maxRecDepth 100000 in
theorem impl_isDay.spec (a0 : Int) (y : Bool) (H : impl_isDay a0 = some y) : Spec Try.prog 59 [(.v (.int .i64 a0))] [] (impl_isDay.res a0 y) (impl_isDay.out a0 y) := by
  refine spec_intro (G10_ok.at tok []) (ct := []) Try.func59 rfl (by kernel_rfl) (by kernel_rfl) rfl ?_
  repeat' first
    | ((with_reducible refine eqg ?_); exact rfl)
    | ((with_reducible refine KOb.mk ?_); kernel_rfl)
    | ((with_reducible intro h); (repeat (first | replace H := grd_k H | replace H := out_step H (by assumption))); first | replace H := cond_t h H | replace H := cond_f h H | exact absurd h (by decide) | skip)
    | ((with_reducible refine Ob.mk ?_); first | (with_reducible rfl) | (first | ((repeat (first | (with_reducible exact grd_p H) | (replace H := grd_k H) | (replace H := out_step H (by assumption)))); done) | rfl | ((repeat (first | exact grd_p H | replace H := grd_k H | replace H := out_step H (by assumption))); done) | ((repeat (first | exact grd_p H | (have hp := grd_p H; exact hp) | replace H := grd_k H | replace H := out_step H (by assumption) | (replace H := bind_some H; obtain ⟨_, _, H⟩ := H))); done) | (repeat (first | exact grd_p H | replace H := grd_k H | replace H := out_step H (by assumption)))))
    | (with_reducible exact True.intro)
    | constructor
    | ((conv => whnf); first
        | ((with_reducible refine Ob.mk ?_); first | (with_reducible rfl) | (first | ((repeat (first | (with_reducible exact grd_p H) | (replace H := grd_k H) | (replace H := out_step H (by assumption)))); done) | rfl | ((repeat (first | exact grd_p H | replace H := grd_k H | replace H := out_step H (by assumption))); done) | ((repeat (first | exact grd_p H | (have hp := grd_p H; exact hp) | replace H := grd_k H | replace H := out_step H (by assumption) | (replace H := bind_some H; obtain ⟨_, _, H⟩ := H))); done) | (repeat (first | exact grd_p H | replace H := grd_k H | replace H := out_step H (by assumption)))))
        | ((with_reducible refine CallW.mk ?_); (repeat (first | replace H := grd_k H | replace H := out_step H (by assumption))); replace H := bind_some H; obtain ⟨y, hy, H⟩ := H; first | ((with_reducible have hz : impl_within _ _ _ = some y := hy); clear hz; refine Exists.intro _ (Exists.intro _ ⟨impl_within.call hy ?_, rfl, rfl, ?_⟩)))
        | ((with_reducible refine fin_mk ?_); (repeat (first | replace H := grd_k H | replace H := out_step H (by assumption))); have H := Option.some.inj H; subst H))
def G11 : Env := G10.add 59 [] impl_isDay.S
theorem G11_ok : EnvOk Try.prog G11 := G10_ok.add ent_59 fun ar h r h1 ⟨a0, y, hy, e1, e2, e3, e4⟩ => by
  subst e3 e4; exact (impl_isDay.spec a0 y hy).le e1 e2
attribute [local irreducible] impl_isDay

noncomputable def impl_isWord_loop1 (a0 : ByteArray) (v2 : Int) : Option (Lp (Int) ((Unit) ⊕ (Unit))) :=
  (cond (decide (v2 < (a0.size : Int))) (grd (0 ≤ v2 ∧ v2 < (a0.size : Int)) (cond (decide ((bAt a0 v2) < (97 : Int))) ((some (.out (Sum.inl ())))) (grd (0 ≤ v2 ∧ v2 < (a0.size : Int)) (cond (decide ((122 : Int) < (bAt a0 v2))) ((some (.out (Sum.inl ())))) (some (.go (w64 (v2 + (1 : Int))))))))) ((some (.out (Sum.inr ())))))
noncomputable def impl_isWord (a0 : ByteArray) : Option (Bool) :=
  ((iter (fun s => impl_isWord_loop1 a0 s) (0 : Int)).bind (Sum.elim (fun _ => (some false)) (fun _ => (cond (decide ((1 : Int) ≤ (a0.size : Int))) ((some (decide ((a0.size : Int) ≤ (10 : Int))))) ((some false))))))
def impl_isWord.res (_ : ByteArray) (y : Bool) : AV := (.bl y)
def impl_isWord.out (_ : ByteArray) (_ : Bool) : List (Option LB) := []
def impl_isWord.S (ar : List AV) (h : List (Option LB)) (r : AV) (h1 : List (Option LB)) : Prop := ∃ a0 y, impl_isWord a0 = some y ∧ leL ar [(.v (.string a0))] ∧ leH h [] ∧ r = impl_isWord.res a0 y ∧ h1 = impl_isWord.out a0 y
theorem impl_isWord.call {ar : List AV} {h : List (Option LB)} {a0 : ByteArray} {y : Bool} (H : impl_isWord a0 = some y) (h0 : leLk ar [(.v (.string a0))] (leHk h [])) : impl_isWord.S ar h (impl_isWord.res a0 y) (impl_isWord.out a0 y) := ⟨a0, y, H, (args_ok h0).1, (args_ok h0).2, rfl, rfl⟩
set_option maxHeartbeats 100000000 in
set_option maxRecDepth 100000 in
theorem impl_isWord.spec (a0 : ByteArray) (y : Bool) (H : impl_isWord a0 = some y) : Spec Try.prog 60 [(.v (.string a0))] [] (impl_isWord.res a0 y) (impl_isWord.out a0 y) := by
  refine spec_intro (G11_ok.at tok []) (ct := [(6, some [0, 5, 6, 14, 15, 16, 17, 24, 25, 26])]) Try.func60 rfl (by kernel_rfl) (by kernel_rfl) rfl ?_
  repeat' first
    | ((with_reducible refine eqg ?_); exact rfl)
    | ((with_reducible refine KOb.mk ?_); kernel_rfl)
    | ((with_reducible intro h); (repeat (first | replace H := grd_k H | replace H := out_step H (by assumption))); first | replace H := cond_t h H | replace H := cond_f h H | exact absurd h (by decide) | skip)
    | ((with_reducible refine Ob.mk ?_); first | (with_reducible rfl) | (first | ((repeat (first | (with_reducible exact grd_p H) | (replace H := grd_k H) | (replace H := out_step H (by assumption)))); done) | rfl | ((repeat (first | exact grd_p H | replace H := grd_k H | replace H := out_step H (by assumption))); done) | ((repeat (first | exact grd_p H | (have hp := grd_p H; exact hp) | replace H := grd_k H | replace H := out_step H (by assumption) | (replace H := bind_some H; obtain ⟨_, _, H⟩ := H))); done) | (repeat (first | exact grd_p H | replace H := grd_k H | replace H := out_step H (by assumption)))))
    | (with_reducible exact True.intro)
    | constructor
    | ((conv => whnf); first
        | ((with_reducible refine Ob.mk ?_); first | (with_reducible rfl) | (first | ((repeat (first | (with_reducible exact grd_p H) | (replace H := grd_k H) | (replace H := out_step H (by assumption)))); done) | rfl | ((repeat (first | exact grd_p H | replace H := grd_k H | replace H := out_step H (by assumption))); done) | ((repeat (first | exact grd_p H | (have hp := grd_p H; exact hp) | replace H := grd_k H | replace H := out_step H (by assumption) | (replace H := bind_some H; obtain ⟨_, _, H⟩ := H))); done) | (repeat (first | exact grd_p H | replace H := grd_k H | replace H := out_step H (by assumption)))))
        | ((repeat (first | replace H := grd_k H | replace H := out_step H (by assumption))); refine loop_iter (G11_ok.at tok []) (ct := [(6, some [0, 5, 6, 14, 15, 16, 17, 24, 25, 26])]) (F := (fun s1 : Int => ⟨sl [(0, (.v (.string a0))), (5, (.v (.int .i64 (a0.size : Int)))), (6, (.v (.int .i64 s1)))], []⟩)) (step := (fun s : Int => impl_isWord_loop1 _ s)) _ H (by kernel_rfl) (sub_auto ?_) ?_; rotate_left; (intro s1 r v hr H); rotate_right)
        | ((repeat (first | replace H := grd_k H | replace H := out_step H (by assumption))); refine again_step H (by assumption) (sub_auto ?_))
        | ((with_reducible refine fin_mk ?_); (repeat (first | replace H := grd_k H | replace H := out_step H (by assumption))); have H := Option.some.inj H; subst H))
def G12 : Env := G11.add 60 [] impl_isWord.S
theorem G12_ok : EnvOk Try.prog G12 := G11_ok.add ent_60 fun ar h r h1 ⟨a0, y, hy, e1, e2, e3, e4⟩ => by
  subst e3 e4; exact (impl_isWord.spec a0 y hy).le e1 e2
attribute [local irreducible] impl_isWord

noncomputable def impl_IsDayRow (a0 : DayRow) : Option (Bool) :=
  ((impl_isDay a0.1).bind fun y1 => (cond (!y1) ((some false)) ((impl_within a0.2.1 (0 : Int) (99999 : Int)).bind fun y2 => (cond (!y2) ((some false)) ((impl_within a0.2.2.1 (0 : Int) (99999 : Int)).bind fun y3 => (cond (!y3) ((some false)) ((impl_within a0.2.2.2.1 (0 : Int) (24 : Int)).bind fun y4 => (cond (!y4) ((some false)) ((impl_within a0.2.2.2.2.1 (0 : Int) (99 : Int)).bind fun y5 => (cond (!y5) ((some false)) (cond (decide (a0.2.2.2.1 = (0 : Int))) (cond (decide ((0 : Int) < (w64 ((w64 (a0.2.1 + a0.2.2.1)) + a0.2.2.2.2.1)))) ((some false)) (cond (decide (a0.2.2.2.2.1 = (0 : Int))) (cond (decide (a0.2.2.2.2.2.1 = (ByteArray.mk #[]))) ((some true)) (cond (decide ((0 : Int) < a0.2.2.2.2.1)) ((impl_isWord a0.2.2.2.2.2.1).bind fun y6 => (some y6)) ((some false)))) (cond (decide ((0 : Int) < a0.2.2.2.2.1)) ((impl_isWord a0.2.2.2.2.2.1).bind fun y7 => (some y7)) ((some false))))) (cond (decide (a0.2.2.2.2.1 = (0 : Int))) (cond (decide (a0.2.2.2.2.2.1 = (ByteArray.mk #[]))) ((some true)) (cond (decide ((0 : Int) < a0.2.2.2.2.1)) ((impl_isWord a0.2.2.2.2.2.1).bind fun y8 => (some y8)) ((some false)))) (cond (decide ((0 : Int) < a0.2.2.2.2.1)) ((impl_isWord a0.2.2.2.2.2.1).bind fun y9 => (some y9)) ((some false)))))))))))))))
def impl_IsDayRow.res (_ : DayRow) (y : Bool) : AV := (.bl y)
def impl_IsDayRow.out (_ : DayRow) (_ : Bool) : List (Option LB) := []
def impl_IsDayRow.S (ar : List AV) (h : List (Option LB)) (r : AV) (h1 : List (Option LB)) : Prop := ∃ a0 y, impl_IsDayRow a0 = some y ∧ leL ar [(.agg [(.v (.int .i64 a0.1)), (.v (.int .i64 a0.2.1)), (.v (.int .i64 a0.2.2.1)), (.v (.int .i64 a0.2.2.2.1)), (.v (.int .i64 a0.2.2.2.2.1)), (.v (.string a0.2.2.2.2.2.1))])] ∧ leH h [] ∧ r = impl_IsDayRow.res a0 y ∧ h1 = impl_IsDayRow.out a0 y
theorem impl_IsDayRow.call {ar : List AV} {h : List (Option LB)} {a0 : DayRow} {y : Bool} (H : impl_IsDayRow a0 = some y) (h0 : leLk ar [(.agg [(.v (.int .i64 a0.1)), (.v (.int .i64 a0.2.1)), (.v (.int .i64 a0.2.2.1)), (.v (.int .i64 a0.2.2.2.1)), (.v (.int .i64 a0.2.2.2.2.1)), (.v (.string a0.2.2.2.2.2.1))])] (leHk h [])) : impl_IsDayRow.S ar h (impl_IsDayRow.res a0 y) (impl_IsDayRow.out a0 y) := ⟨a0, y, H, (args_ok h0).1, (args_ok h0).2, rfl, rfl⟩
set_option maxHeartbeats 100000000 in
set_option maxRecDepth 100000 in
theorem impl_IsDayRow.spec (a0 : DayRow) (y : Bool) (H : impl_IsDayRow a0 = some y) : Spec Try.prog 49 [(.agg [(.v (.int .i64 a0.1)), (.v (.int .i64 a0.2.1)), (.v (.int .i64 a0.2.2.1)), (.v (.int .i64 a0.2.2.2.1)), (.v (.int .i64 a0.2.2.2.2.1)), (.v (.string a0.2.2.2.2.2.1))])] [] (impl_IsDayRow.res a0 y) (impl_IsDayRow.out a0 y) := by
  refine spec_intro (G12_ok.at tok []) (ct := [(2, some [1, 30, 35, 36, 37, 38, 39, 40, 41, 42, 43, 49, 50, 51, 54, 55, 56, 57, 58, 59, 60, 61]), (4, some [1, 44, 49, 50, 51, 54, 55, 56, 57, 58, 59, 60, 61])]) Try.func49 rfl (by kernel_rfl) (by kernel_rfl) rfl ?_
  repeat' first
    | ((with_reducible refine eqg ?_); exact rfl)
    | ((with_reducible refine KOb.mk ?_); kernel_rfl)
    | ((with_reducible intro h); (repeat (first | replace H := grd_k H | replace H := out_step H (by assumption))); first | replace H := cond_t h H | replace H := cond_f h H | exact absurd h (by decide) | skip)
    | ((with_reducible refine Ob.mk ?_); first | (with_reducible rfl) | (first | ((repeat (first | (with_reducible exact grd_p H) | (replace H := grd_k H) | (replace H := out_step H (by assumption)))); done) | rfl | ((repeat (first | exact grd_p H | replace H := grd_k H | replace H := out_step H (by assumption))); done) | ((repeat (first | exact grd_p H | (have hp := grd_p H; exact hp) | replace H := grd_k H | replace H := out_step H (by assumption) | (replace H := bind_some H; obtain ⟨_, _, H⟩ := H))); done) | (repeat (first | exact grd_p H | replace H := grd_k H | replace H := out_step H (by assumption)))))
    | (with_reducible exact True.intro)
    | constructor
    | ((conv => whnf); first
        | ((with_reducible refine Ob.mk ?_); first | (with_reducible rfl) | (first | ((repeat (first | (with_reducible exact grd_p H) | (replace H := grd_k H) | (replace H := out_step H (by assumption)))); done) | rfl | ((repeat (first | exact grd_p H | replace H := grd_k H | replace H := out_step H (by assumption))); done) | ((repeat (first | exact grd_p H | (have hp := grd_p H; exact hp) | replace H := grd_k H | replace H := out_step H (by assumption) | (replace H := bind_some H; obtain ⟨_, _, H⟩ := H))); done) | (repeat (first | exact grd_p H | replace H := grd_k H | replace H := out_step H (by assumption)))))
        | ((with_reducible refine CallW.mk ?_); (repeat (first | replace H := grd_k H | replace H := out_step H (by assumption))); replace H := bind_some H; obtain ⟨y, hy, H⟩ := H; first | ((with_reducible have hz : impl_isDay _ = some y := hy); clear hz; refine Exists.intro _ (Exists.intro _ ⟨impl_isDay.call hy ?_, rfl, rfl, ?_⟩)) | ((with_reducible have hz : impl_within _ _ _ = some y := hy); clear hz; refine Exists.intro _ (Exists.intro _ ⟨impl_within.call hy ?_, rfl, rfl, ?_⟩)) | ((with_reducible have hz : impl_isWord _ = some y := hy); clear hz; refine Exists.intro _ (Exists.intro _ ⟨impl_isWord.call hy ?_, rfl, rfl, ?_⟩)))
        | ((with_reducible refine fin_mk ?_); (repeat (first | replace H := grd_k H | replace H := out_step H (by assumption))); have H := Option.some.inj H; subst H))
def G13 : Env := G12.add 49 [] impl_IsDayRow.S
theorem G13_ok : EnvOk Try.prog G13 := G12_ok.add ent_49 fun ar h r h1 ⟨a0, y, hy, e1, e2, e3, e4⟩ => by
  subst e3 e4; exact (impl_IsDayRow.spec a0 y hy).le e1 e2
attribute [local irreducible] impl_IsDayRow

noncomputable def impl_AreDayRows_loop1 (a0 : (List DayRow)) (v5 : Int) : Option (Lp (Int) ((Unit) ⊕ (Unit))) :=
  (cond (decide (v5 < (a0.length : Int))) (grd (0 ≤ v5 ∧ v5 < (a0.length : Int)) ((impl_IsDayRow ((a0.getD v5.toNat d_DayRow).1, (a0.getD v5.toNat d_DayRow).2.1, (a0.getD v5.toNat d_DayRow).2.2.1, (a0.getD v5.toNat d_DayRow).2.2.2.1, (a0.getD v5.toNat d_DayRow).2.2.2.2.1, (a0.getD v5.toNat d_DayRow).2.2.2.2.2.1, ())).bind fun y6 => (cond (!y6) ((some (.out (Sum.inl ())))) (cond (decide ((0 : Int) < v5)) (grd (0 ≤ (w64 (v5 - (1 : Int))) ∧ (w64 (v5 - (1 : Int))) < (a0.length : Int)) (cond (decide (((a0.getD v5.toNat d_DayRow).1) ≤ ((a0.getD ((w64 (v5 - (1 : Int))).toNat) d_DayRow).1))) ((some (.out (Sum.inl ())))) (some (.go (w64 (v5 + (1 : Int))))))) (some (.go (w64 (v5 + (1 : Int))))))))) ((some (.out (Sum.inr ())))))
noncomputable def impl_AreDayRows (a0 : (List DayRow)) : Option (Bool) :=
  ((iter (fun s => impl_AreDayRows_loop1 a0 s) (0 : Int)).bind (Sum.elim (fun _ => (some false)) (fun _ => (some (decide ((a0.length : Int) ≤ (14 : Int)))))))
def impl_AreDayRows.res (_ : (List DayRow)) (y : Bool) : AV := (.bl y)
def impl_AreDayRows.out (_ : (List DayRow)) (_ : Bool) : List (Option LB) := []
def impl_AreDayRows.S (ar : List AV) (h : List (Option LB)) (r : AV) (h1 : List (Option LB)) : Prop := ∃ a0 y, impl_AreDayRows a0 = some y ∧ leL ar [(.tree ty_DayRow a0)] ∧ leH h [] ∧ r = impl_AreDayRows.res a0 y ∧ h1 = impl_AreDayRows.out a0 y
theorem impl_AreDayRows.call {ar : List AV} {h : List (Option LB)} {a0 : (List DayRow)} {y : Bool} (H : impl_AreDayRows a0 = some y) (h0 : leLk ar [(.tree ty_DayRow a0)] (leHk h [])) : impl_AreDayRows.S ar h (impl_AreDayRows.res a0 y) (impl_AreDayRows.out a0 y) := ⟨a0, y, H, (args_ok h0).1, (args_ok h0).2, rfl, rfl⟩
set_option maxHeartbeats 100000000 in
set_option maxRecDepth 100000 in
theorem impl_AreDayRows.spec (a0 : (List DayRow)) (y : Bool) (H : impl_AreDayRows a0 = some y) : Spec Try.prog 31 [(.tree ty_DayRow a0)] [] (impl_AreDayRows.res a0 y) (impl_AreDayRows.out a0 y) := by
  refine spec_intro (G13_ok.at tok []) (ct := [(5, some [0, 5, 6, 7, 16, 17, 18, 19, 20, 21, 22, 23, 24, 25, 26, 27, 28, 29])]) Try.func31 rfl (by kernel_rfl) (by kernel_rfl) rfl ?_
  repeat' first
    | ((with_reducible refine eqg ?_); exact rfl)
    | ((with_reducible refine KOb.mk ?_); kernel_rfl)
    | ((with_reducible intro h); (repeat (first | replace H := grd_k H | replace H := out_step H (by assumption))); first | replace H := cond_t h H | replace H := cond_f h H | exact absurd h (by decide) | skip)
    | ((with_reducible refine Ob.mk ?_); first | (with_reducible rfl) | (first | ((repeat (first | (with_reducible exact grd_p H) | (replace H := grd_k H) | (replace H := out_step H (by assumption)))); done) | rfl | ((repeat (first | exact grd_p H | replace H := grd_k H | replace H := out_step H (by assumption))); done) | ((repeat (first | exact grd_p H | (have hp := grd_p H; exact hp) | replace H := grd_k H | replace H := out_step H (by assumption) | (replace H := bind_some H; obtain ⟨_, _, H⟩ := H))); done) | (repeat (first | exact grd_p H | replace H := grd_k H | replace H := out_step H (by assumption)))))
    | (with_reducible exact True.intro)
    | constructor
    | ((conv => whnf); first
        | ((with_reducible refine Ob.mk ?_); first | (with_reducible rfl) | (first | ((repeat (first | (with_reducible exact grd_p H) | (replace H := grd_k H) | (replace H := out_step H (by assumption)))); done) | rfl | ((repeat (first | exact grd_p H | replace H := grd_k H | replace H := out_step H (by assumption))); done) | ((repeat (first | exact grd_p H | (have hp := grd_p H; exact hp) | replace H := grd_k H | replace H := out_step H (by assumption) | (replace H := bind_some H; obtain ⟨_, _, H⟩ := H))); done) | (repeat (first | exact grd_p H | replace H := grd_k H | replace H := out_step H (by assumption)))))
        | ((with_reducible refine CallW.mk ?_); (repeat (first | replace H := grd_k H | replace H := out_step H (by assumption))); replace H := bind_some H; obtain ⟨y, hy, H⟩ := H; first | ((with_reducible have hz : impl_IsDayRow _ = some y := hy); clear hz; refine Exists.intro _ (Exists.intro _ ⟨impl_IsDayRow.call hy ?_, rfl, rfl, ?_⟩)))
        | ((repeat (first | replace H := grd_k H | replace H := out_step H (by assumption))); refine loop_iter (G13_ok.at tok []) (ct := [(5, some [0, 5, 6, 7, 16, 17, 18, 19, 20, 21, 22, 23, 24, 25, 26, 27, 28, 29])]) (F := (fun s1 : Int => ⟨sl [(0, (.tree ty_DayRow a0)), (5, (.tree ty_DayRow a0)), (6, (.v (.int .i64 (a0.length : Int)))), (7, (.v (.int .i64 s1)))], []⟩)) (step := (fun s : Int => impl_AreDayRows_loop1 _ s)) _ H (by kernel_rfl) (sub_auto ?_) ?_; rotate_left; (intro s1 r v hr H); rotate_right)
        | ((repeat (first | replace H := grd_k H | replace H := out_step H (by assumption))); refine again_step H (by assumption) (sub_auto ?_))
        | ((with_reducible refine fin_mk ?_); (repeat (first | replace H := grd_k H | replace H := out_step H (by assumption))); have H := Option.some.inj H; subst H))
def G14 : Env := G13.add 31 [] impl_AreDayRows.S
theorem G14_ok : EnvOk Try.prog G14 := G13_ok.add ent_31 fun ar h r h1 ⟨a0, y, hy, e1, e2, e3, e4⟩ => by
  subst e3 e4; exact (impl_AreDayRows.spec a0 y hy).le e1 e2
attribute [local irreducible] impl_AreDayRows

noncomputable def impl_LeftBehind_loop1 (a0 : (List DayRow)) (v5 : Int) (v6 : Int) (v7 : (List Int)) : Option (Lp (Int × Int × (List Int)) (((List Int)))) :=
  (cond (decide (v6 < (a0.length : Int))) (grd (0 ≤ v6 ∧ v6 < (a0.length : Int)) (cond (decide ((0 : Int) < (w64 (v5 + (w64 (((a0.getD v6.toNat d_DayRow).2.1) - ((a0.getD v6.toNat d_DayRow).2.2.1))))))) (grd ((v7.length + [(a0.getD v6.toNat d_DayRow).1].length) * 8 ≤ 140737488355328 ∧ v7.length + [(a0.getD v6.toNat d_DayRow).1].length ≤ 140737488355328) (some (.go ((w64 (v5 + (w64 (((a0.getD v6.toNat d_DayRow).2.1) - ((a0.getD v6.toNat d_DayRow).2.2.1))))), (w64 (v6 + (1 : Int))), (v7 ++ [(a0.getD v6.toNat d_DayRow).1]))))) (some (.go ((w64 (v5 + (w64 (((a0.getD v6.toNat d_DayRow).2.1) - ((a0.getD v6.toNat d_DayRow).2.2.1))))), (w64 (v6 + (1 : Int))), v7))))) ((some (.out v7))))
noncomputable def impl_LeftBehind (a0 : (List DayRow)) : Option ((Unit) ⊕ ((List Int))) :=
  ((impl_AreDayRows a0).bind fun y1 => (cond (!y1) ((some (Sum.inl ()))) ((iter (fun s => impl_LeftBehind_loop1 a0 s.1 s.2.1 s.2.2) ((0 : Int), (0 : Int), ([] : List Int))).bind (fun r8 => (some (Sum.inr r8))))))
def impl_LeftBehind.res (_ : (List DayRow)) (y : (Unit) ⊕ ((List Int))) : AV := match y with
  | (.inl y) => (.tup [(.v (.slice none 0 0)), (.v (.bool false))])
  | (.inr y) => (.tup [(.own 0), (.v (.bool true))])
def impl_LeftBehind.out (_ : (List DayRow)) (y : (Unit) ⊕ ((List Int))) : List (Option LB) := match y with
  | (.inl y) => []
  | (.inr y) => [some (.arr 3 (.int .i64) y)]
def impl_LeftBehind.S (ar : List AV) (h : List (Option LB)) (r : AV) (h1 : List (Option LB)) : Prop := ∃ a0 y, impl_LeftBehind a0 = some y ∧ leL ar [(.tree ty_DayRow a0)] ∧ leH h [] ∧ r = impl_LeftBehind.res a0 y ∧ h1 = impl_LeftBehind.out a0 y
theorem impl_LeftBehind.call {ar : List AV} {h : List (Option LB)} {a0 : (List DayRow)} {y : (Unit) ⊕ ((List Int))} (H : impl_LeftBehind a0 = some y) (h0 : leLk ar [(.tree ty_DayRow a0)] (leHk h [])) : impl_LeftBehind.S ar h (impl_LeftBehind.res a0 y) (impl_LeftBehind.out a0 y) := ⟨a0, y, H, (args_ok h0).1, (args_ok h0).2, rfl, rfl⟩
set_option maxHeartbeats 100000000 in
set_option maxRecDepth 100000 in
theorem impl_LeftBehind.spec (a0 : (List DayRow)) (y : (Unit) ⊕ ((List Int))) (H : impl_LeftBehind a0 = some y) : Spec Try.prog 10 [(.tree ty_DayRow a0)] [] (impl_LeftBehind.res a0 y) (impl_LeftBehind.out a0 y) := by
  have hlen : Nat.ble ([] : List (Option LB)).length (impl_LeftBehind.out a0 y).length = true := by
    rcases y with y | y <;> rfl
  refine spec_intro (G14_ok.at tok []) (ct := [(9, some [4, 5, 7, 12, 13, 14, 26]), (11, some [4])]) Try.func10 rfl (by kernel_rfl) (by kernel_rfl) hlen ?_
  repeat' first
    | ((with_reducible refine eqg ?_); exact rfl)
    | ((with_reducible refine KOb.mk ?_); kernel_rfl)
    | ((with_reducible intro h); (repeat (first | replace H := grd_k H | replace H := out_step H (by assumption))); first | replace H := cond_t h H | replace H := cond_f h H | exact absurd h (by decide) | skip)
    | ((with_reducible refine Ob.mk ?_); first | (with_reducible rfl) | (first | ((repeat (first | (with_reducible exact grd_p H) | (replace H := grd_k H) | (replace H := out_step H (by assumption)))); done) | rfl | ((repeat (first | exact grd_p H | replace H := grd_k H | replace H := out_step H (by assumption))); done) | ((repeat (first | exact grd_p H | (have hp := grd_p H; exact hp) | replace H := grd_k H | replace H := out_step H (by assumption) | (replace H := bind_some H; obtain ⟨_, _, H⟩ := H))); done) | (repeat (first | exact grd_p H | replace H := grd_k H | replace H := out_step H (by assumption)))))
    | (with_reducible exact True.intro)
    | constructor
    | ((conv => whnf); first
        | ((with_reducible refine Ob.mk ?_); first | (with_reducible rfl) | (first | ((repeat (first | (with_reducible exact grd_p H) | (replace H := grd_k H) | (replace H := out_step H (by assumption)))); done) | rfl | ((repeat (first | exact grd_p H | replace H := grd_k H | replace H := out_step H (by assumption))); done) | ((repeat (first | exact grd_p H | (have hp := grd_p H; exact hp) | replace H := grd_k H | replace H := out_step H (by assumption) | (replace H := bind_some H; obtain ⟨_, _, H⟩ := H))); done) | (repeat (first | exact grd_p H | replace H := grd_k H | replace H := out_step H (by assumption)))))
        | ((with_reducible refine CallW.mk ?_); (repeat (first | replace H := grd_k H | replace H := out_step H (by assumption))); replace H := bind_some H; obtain ⟨y, hy, H⟩ := H; first | ((with_reducible have hz : impl_AreDayRows _ = some y := hy); clear hz; refine Exists.intro _ (Exists.intro _ ⟨impl_AreDayRows.call hy ?_, rfl, rfl, ?_⟩)))
        | ((repeat (first | replace H := grd_k H | replace H := out_step H (by assumption))); refine loop_iter (G14_ok.at tok []) (ct := [(9, some [4, 5, 7, 12, 13, 14, 26]), (11, some [4])]) (F := (fun s1 : Int × Int × (List Int) => ⟨sl [(4, (.own 0)), (5, (.v (.int .i64 s1.1))), (12, (.tree ty_DayRow a0)), (13, (.v (.int .i64 (a0.length : Int)))), (14, (.v (.int .i64 s1.2.1)))], [some (.arr 3 (.int .i64) s1.2.2)]⟩)) (step := (fun s : Int × Int × (List Int) => impl_LeftBehind_loop1 _ s.1 s.2.1 s.2.2)) _ H (by kernel_rfl) (sub_auto ?_) ?_; rotate_left; (intro s1 r v hr H); rotate_right)
        | ((repeat (first | replace H := grd_k H | replace H := out_step H (by assumption))); refine again_step H (by assumption) (sub_auto ?_))
        | ((with_reducible refine fin_mk ?_); (repeat (first | replace H := grd_k H | replace H := out_step H (by assumption))); have H := Option.some.inj H; subst H))
def G15 : Env := G14.add 10 [] impl_LeftBehind.S
theorem G15_ok : EnvOk Try.prog G15 := G14_ok.add ent_10 fun ar h r h1 ⟨a0, y, hy, e1, e2, e3, e4⟩ => by
  subst e3 e4; exact (impl_LeftBehind.spec a0 y hy).le e1 e2
attribute [local irreducible] impl_LeftBehind

noncomputable def laws_eqIntS_loop1 (a0 : (List Int)) (a1 : (List Int)) (v2 : Int) : Option (Lp (Int) ((Unit) ⊕ (Unit))) :=
  (cond (decide (v2 < (a0.length : Int))) (grd (0 ≤ v2 ∧ v2 < (a0.length : Int)) (grd (0 ≤ v2 ∧ v2 < (a1.length : Int)) (cond (!decide ((a0.getD v2.toNat 0) = (a1.getD v2.toNat 0))) ((some (.out (Sum.inl ())))) (some (.go (w64 (v2 + (1 : Int)))))))) ((some (.out (Sum.inr ())))))
noncomputable def laws_eqIntS (a0 : (List Int)) (a1 : (List Int)) : Option (Bool) :=
  (cond (!decide ((a0.length : Int) = (a1.length : Int))) ((some false)) ((iter (fun s => laws_eqIntS_loop1 a0 a1 s) (0 : Int)).bind (Sum.elim (fun _ => (some false)) (fun _ => (some true)))))
def laws_eqIntS.res (_ : (List Int)) (_ : (List Int)) (y : Bool) : AV := (.bl y)
def laws_eqIntS.out (_ : (List Int)) (_ : (List Int)) (_ : Bool) : List (Option LB) := []
def laws_eqIntS.S (ar : List AV) (h : List (Option LB)) (r : AV) (h1 : List (Option LB)) : Prop := ∃ a0 a1 y, laws_eqIntS a0 a1 = some y ∧ leL ar [(.tree (.int .i64) a0), (.tree (.int .i64) a1)] ∧ leH h [] ∧ r = laws_eqIntS.res a0 a1 y ∧ h1 = laws_eqIntS.out a0 a1 y
theorem laws_eqIntS.call {ar : List AV} {h : List (Option LB)} {a0 : (List Int)} {a1 : (List Int)} {y : Bool} (H : laws_eqIntS a0 a1 = some y) (h0 : leLk ar [(.tree (.int .i64) a0), (.tree (.int .i64) a1)] (leHk h [])) : laws_eqIntS.S ar h (laws_eqIntS.res a0 a1 y) (laws_eqIntS.out a0 a1 y) := ⟨a0, a1, y, H, (args_ok h0).1, (args_ok h0).2, rfl, rfl⟩
set_option maxHeartbeats 100000000 in
set_option maxRecDepth 100000 in
theorem laws_eqIntS.spec (a0 : (List Int)) (a1 : (List Int)) (y : Bool) (H : laws_eqIntS a0 a1 = some y) : Spec Try.prog 11 [(.tree (.int .i64) a0), (.tree (.int .i64) a1)] [] (laws_eqIntS.res a0 a1 y) (laws_eqIntS.out a0 a1 y) := by
  refine spec_intro (G15_ok.at tok []) (ct := [(5, some [0, 1, 5])]) Try.func11 rfl (by kernel_rfl) (by kernel_rfl) rfl ?_
  repeat' first
    | ((with_reducible refine eqg ?_); exact rfl)
    | ((with_reducible refine KOb.mk ?_); kernel_rfl)
    | ((with_reducible intro h); (repeat (first | replace H := grd_k H | replace H := out_step H (by assumption))); first | replace H := cond_t h H | replace H := cond_f h H | exact absurd h (by decide) | skip)
    | ((with_reducible refine Ob.mk ?_); first | (with_reducible rfl) | (first | ((repeat (first | (with_reducible exact grd_p H) | (replace H := grd_k H) | (replace H := out_step H (by assumption)))); done) | rfl | ((repeat (first | exact grd_p H | replace H := grd_k H | replace H := out_step H (by assumption))); done) | ((repeat (first | exact grd_p H | (have hp := grd_p H; exact hp) | replace H := grd_k H | replace H := out_step H (by assumption) | (replace H := bind_some H; obtain ⟨_, _, H⟩ := H))); done) | (repeat (first | exact grd_p H | replace H := grd_k H | replace H := out_step H (by assumption)))))
    | (with_reducible exact True.intro)
    | constructor
    | ((conv => whnf); first
        | ((with_reducible refine Ob.mk ?_); first | (with_reducible rfl) | (first | ((repeat (first | (with_reducible exact grd_p H) | (replace H := grd_k H) | (replace H := out_step H (by assumption)))); done) | rfl | ((repeat (first | exact grd_p H | replace H := grd_k H | replace H := out_step H (by assumption))); done) | ((repeat (first | exact grd_p H | (have hp := grd_p H; exact hp) | replace H := grd_k H | replace H := out_step H (by assumption) | (replace H := bind_some H; obtain ⟨_, _, H⟩ := H))); done) | (repeat (first | exact grd_p H | replace H := grd_k H | replace H := out_step H (by assumption)))))
        | ((repeat (first | replace H := grd_k H | replace H := out_step H (by assumption))); refine loop_iter (G15_ok.at tok []) (ct := [(5, some [0, 1, 5])]) (F := (fun s1 : Int => ⟨sl [(0, (.tree (.int .i64) a0)), (1, (.tree (.int .i64) a1)), (5, (.v (.int .i64 s1)))], []⟩)) (step := (fun s : Int => laws_eqIntS_loop1 _ _ s)) _ H (by kernel_rfl) (sub_auto ?_) ?_; rotate_left; (intro s1 r v hr H); rotate_right)
        | ((repeat (first | replace H := grd_k H | replace H := out_step H (by assumption))); refine again_step H (by assumption) (sub_auto ?_))
        | ((with_reducible refine fin_mk ?_); (repeat (first | replace H := grd_k H | replace H := out_step H (by assumption))); have H := Option.some.inj H; subst H))
def G16 : Env := G15.add 11 [] laws_eqIntS.S
theorem G16_ok : EnvOk Try.prog G16 := G15_ok.add ent_11 fun ar h r h1 ⟨a0, a1, y, hy, e1, e2, e3, e4⟩ => by
  subst e3 e4; exact (laws_eqIntS.spec a0 a1 y hy).le e1 e2
attribute [local irreducible] laws_eqIntS

noncomputable def laws_eqDayRow (a0 : DayRow) (a1 : DayRow) : Option (Bool) :=
  (cond (!decide (a0.1 = a1.1)) ((some false)) (cond (!decide (a0.2.1 = a1.2.1)) ((some false)) (cond (!decide (a0.2.2.1 = a1.2.2.1)) ((some false)) (cond (!decide (a0.2.2.2.1 = a1.2.2.2.1)) ((some false)) (cond (!decide (a0.2.2.2.2.1 = a1.2.2.2.2.1)) ((some false)) (cond (!decide (a0.2.2.2.2.2.1 = a1.2.2.2.2.2.1)) ((some false)) ((some true))))))))
def laws_eqDayRow.res (_ : DayRow) (_ : DayRow) (y : Bool) : AV := (.bl y)
def laws_eqDayRow.out (_ : DayRow) (_ : DayRow) (_ : Bool) : List (Option LB) := []
def laws_eqDayRow.S (ar : List AV) (h : List (Option LB)) (r : AV) (h1 : List (Option LB)) : Prop := ∃ a0 a1 y, laws_eqDayRow a0 a1 = some y ∧ leL ar [(.agg [(.v (.int .i64 a0.1)), (.v (.int .i64 a0.2.1)), (.v (.int .i64 a0.2.2.1)), (.v (.int .i64 a0.2.2.2.1)), (.v (.int .i64 a0.2.2.2.2.1)), (.v (.string a0.2.2.2.2.2.1))]), (.agg [(.v (.int .i64 a1.1)), (.v (.int .i64 a1.2.1)), (.v (.int .i64 a1.2.2.1)), (.v (.int .i64 a1.2.2.2.1)), (.v (.int .i64 a1.2.2.2.2.1)), (.v (.string a1.2.2.2.2.2.1))])] ∧ leH h [] ∧ r = laws_eqDayRow.res a0 a1 y ∧ h1 = laws_eqDayRow.out a0 a1 y
theorem laws_eqDayRow.call {ar : List AV} {h : List (Option LB)} {a0 : DayRow} {a1 : DayRow} {y : Bool} (H : laws_eqDayRow a0 a1 = some y) (h0 : leLk ar [(.agg [(.v (.int .i64 a0.1)), (.v (.int .i64 a0.2.1)), (.v (.int .i64 a0.2.2.1)), (.v (.int .i64 a0.2.2.2.1)), (.v (.int .i64 a0.2.2.2.2.1)), (.v (.string a0.2.2.2.2.2.1))]), (.agg [(.v (.int .i64 a1.1)), (.v (.int .i64 a1.2.1)), (.v (.int .i64 a1.2.2.1)), (.v (.int .i64 a1.2.2.2.1)), (.v (.int .i64 a1.2.2.2.2.1)), (.v (.string a1.2.2.2.2.2.1))])] (leHk h [])) : laws_eqDayRow.S ar h (laws_eqDayRow.res a0 a1 y) (laws_eqDayRow.out a0 a1 y) := ⟨a0, a1, y, H, (args_ok h0).1, (args_ok h0).2, rfl, rfl⟩
set_option maxHeartbeats 100000000 in
set_option maxRecDepth 100000 in
theorem laws_eqDayRow.spec (a0 : DayRow) (a1 : DayRow) (y : Bool) (H : laws_eqDayRow a0 a1 = some y) : Spec Try.prog 32 [(.agg [(.v (.int .i64 a0.1)), (.v (.int .i64 a0.2.1)), (.v (.int .i64 a0.2.2.1)), (.v (.int .i64 a0.2.2.2.1)), (.v (.int .i64 a0.2.2.2.2.1)), (.v (.string a0.2.2.2.2.2.1))]), (.agg [(.v (.int .i64 a1.1)), (.v (.int .i64 a1.2.1)), (.v (.int .i64 a1.2.2.1)), (.v (.int .i64 a1.2.2.2.1)), (.v (.int .i64 a1.2.2.2.2.1)), (.v (.string a1.2.2.2.2.2.1))])] [] (laws_eqDayRow.res a0 a1 y) (laws_eqDayRow.out a0 a1 y) := by
  refine spec_intro (G16_ok.at tok []) (ct := [(4, some [2, 3, 14]), (10, some [2, 3, 29])]) Try.func32 rfl (by kernel_rfl) (by kernel_rfl) rfl ?_
  repeat' first
    | ((with_reducible refine eqg ?_); exact rfl)
    | ((with_reducible refine KOb.mk ?_); kernel_rfl)
    | ((with_reducible intro h); (repeat (first | replace H := grd_k H | replace H := out_step H (by assumption))); first | replace H := cond_t h H | replace H := cond_f h H | exact absurd h (by decide) | skip)
    | ((with_reducible refine Ob.mk ?_); first | (with_reducible rfl) | (first | ((repeat (first | (with_reducible exact grd_p H) | (replace H := grd_k H) | (replace H := out_step H (by assumption)))); done) | rfl | ((repeat (first | exact grd_p H | replace H := grd_k H | replace H := out_step H (by assumption))); done) | ((repeat (first | exact grd_p H | (have hp := grd_p H; exact hp) | replace H := grd_k H | replace H := out_step H (by assumption) | (replace H := bind_some H; obtain ⟨_, _, H⟩ := H))); done) | (repeat (first | exact grd_p H | replace H := grd_k H | replace H := out_step H (by assumption)))))
    | (with_reducible exact True.intro)
    | constructor
    | ((conv => whnf); first
        | ((with_reducible refine Ob.mk ?_); first | (with_reducible rfl) | (first | ((repeat (first | (with_reducible exact grd_p H) | (replace H := grd_k H) | (replace H := out_step H (by assumption)))); done) | rfl | ((repeat (first | exact grd_p H | replace H := grd_k H | replace H := out_step H (by assumption))); done) | ((repeat (first | exact grd_p H | (have hp := grd_p H; exact hp) | replace H := grd_k H | replace H := out_step H (by assumption) | (replace H := bind_some H; obtain ⟨_, _, H⟩ := H))); done) | (repeat (first | exact grd_p H | replace H := grd_k H | replace H := out_step H (by assumption)))))
        | ((with_reducible refine fin_mk ?_); (repeat (first | replace H := grd_k H | replace H := out_step H (by assumption))); have H := Option.some.inj H; subst H))
def G17 : Env := G16.add 32 [] laws_eqDayRow.S
theorem G17_ok : EnvOk Try.prog G17 := G16_ok.add ent_32 fun ar h r h1 ⟨a0, a1, y, hy, e1, e2, e3, e4⟩ => by
  subst e3 e4; exact (laws_eqDayRow.spec a0 a1 y hy).le e1 e2
attribute [local irreducible] laws_eqDayRow

noncomputable def laws_eqDayRowS_loop1 (a0 : (List DayRow)) (a1 : (List DayRow)) (v4 : Int) : Option (Lp (Int) ((Unit) ⊕ (Unit))) :=
  (cond (decide (v4 < (a0.length : Int))) (grd (0 ≤ v4 ∧ v4 < (a0.length : Int)) (grd (0 ≤ v4 ∧ v4 < (a1.length : Int)) ((laws_eqDayRow ((a0.getD v4.toNat d_DayRow).1, (a0.getD v4.toNat d_DayRow).2.1, (a0.getD v4.toNat d_DayRow).2.2.1, (a0.getD v4.toNat d_DayRow).2.2.2.1, (a0.getD v4.toNat d_DayRow).2.2.2.2.1, (a0.getD v4.toNat d_DayRow).2.2.2.2.2.1, ()) ((a1.getD v4.toNat d_DayRow).1, (a1.getD v4.toNat d_DayRow).2.1, (a1.getD v4.toNat d_DayRow).2.2.1, (a1.getD v4.toNat d_DayRow).2.2.2.1, (a1.getD v4.toNat d_DayRow).2.2.2.2.1, (a1.getD v4.toNat d_DayRow).2.2.2.2.2.1, ())).bind fun y5 => (cond (!y5) ((some (.out (Sum.inl ())))) (some (.go (w64 (v4 + (1 : Int))))))))) ((some (.out (Sum.inr ())))))
noncomputable def laws_eqDayRowS (a0 : (List DayRow)) (a1 : (List DayRow)) : Option (Bool) :=
  (cond (!decide ((a0.length : Int) = (a1.length : Int))) ((some false)) ((iter (fun s => laws_eqDayRowS_loop1 a0 a1 s) (0 : Int)).bind (Sum.elim (fun _ => (some false)) (fun _ => (some true)))))
def laws_eqDayRowS.res (_ : (List DayRow)) (_ : (List DayRow)) (y : Bool) : AV := (.bl y)
def laws_eqDayRowS.out (_ : (List DayRow)) (_ : (List DayRow)) (_ : Bool) : List (Option LB) := []
def laws_eqDayRowS.S (ar : List AV) (h : List (Option LB)) (r : AV) (h1 : List (Option LB)) : Prop := ∃ a0 a1 y, laws_eqDayRowS a0 a1 = some y ∧ leL ar [(.tree ty_DayRow a0), (.tree ty_DayRow a1)] ∧ leH h [] ∧ r = laws_eqDayRowS.res a0 a1 y ∧ h1 = laws_eqDayRowS.out a0 a1 y
theorem laws_eqDayRowS.call {ar : List AV} {h : List (Option LB)} {a0 : (List DayRow)} {a1 : (List DayRow)} {y : Bool} (H : laws_eqDayRowS a0 a1 = some y) (h0 : leLk ar [(.tree ty_DayRow a0), (.tree ty_DayRow a1)] (leHk h [])) : laws_eqDayRowS.S ar h (laws_eqDayRowS.res a0 a1 y) (laws_eqDayRowS.out a0 a1 y) := ⟨a0, a1, y, H, (args_ok h0).1, (args_ok h0).2, rfl, rfl⟩
set_option maxHeartbeats 100000000 in
set_option maxRecDepth 100000 in
theorem laws_eqDayRowS.spec (a0 : (List DayRow)) (a1 : (List DayRow)) (y : Bool) (H : laws_eqDayRowS a0 a1 = some y) : Spec Try.prog 12 [(.tree ty_DayRow a0), (.tree ty_DayRow a1)] [] (laws_eqDayRowS.res a0 a1 y) (laws_eqDayRowS.out a0 a1 y) := by
  refine spec_intro (G17_ok.at tok []) (ct := [(7, some [0, 1, 5, 26])]) Try.func12 rfl (by kernel_rfl) (by kernel_rfl) rfl ?_
  repeat' first
    | ((with_reducible refine eqg ?_); exact rfl)
    | ((with_reducible refine KOb.mk ?_); kernel_rfl)
    | ((with_reducible intro h); (repeat (first | replace H := grd_k H | replace H := out_step H (by assumption))); first | replace H := cond_t h H | replace H := cond_f h H | exact absurd h (by decide) | skip)
    | ((with_reducible refine Ob.mk ?_); first | (with_reducible rfl) | (first | ((repeat (first | (with_reducible exact grd_p H) | (replace H := grd_k H) | (replace H := out_step H (by assumption)))); done) | rfl | ((repeat (first | exact grd_p H | replace H := grd_k H | replace H := out_step H (by assumption))); done) | ((repeat (first | exact grd_p H | (have hp := grd_p H; exact hp) | replace H := grd_k H | replace H := out_step H (by assumption) | (replace H := bind_some H; obtain ⟨_, _, H⟩ := H))); done) | (repeat (first | exact grd_p H | replace H := grd_k H | replace H := out_step H (by assumption)))))
    | (with_reducible exact True.intro)
    | constructor
    | ((conv => whnf); first
        | ((with_reducible refine Ob.mk ?_); first | (with_reducible rfl) | (first | ((repeat (first | (with_reducible exact grd_p H) | (replace H := grd_k H) | (replace H := out_step H (by assumption)))); done) | rfl | ((repeat (first | exact grd_p H | replace H := grd_k H | replace H := out_step H (by assumption))); done) | ((repeat (first | exact grd_p H | (have hp := grd_p H; exact hp) | replace H := grd_k H | replace H := out_step H (by assumption) | (replace H := bind_some H; obtain ⟨_, _, H⟩ := H))); done) | (repeat (first | exact grd_p H | replace H := grd_k H | replace H := out_step H (by assumption)))))
        | ((with_reducible refine CallW.mk ?_); (repeat (first | replace H := grd_k H | replace H := out_step H (by assumption))); replace H := bind_some H; obtain ⟨y, hy, H⟩ := H; first | ((with_reducible have hz : laws_eqDayRow _ _ = some y := hy); clear hz; refine Exists.intro _ (Exists.intro _ ⟨laws_eqDayRow.call hy ?_, rfl, rfl, ?_⟩)))
        | ((repeat (first | replace H := grd_k H | replace H := out_step H (by assumption))); refine loop_iter (G17_ok.at tok []) (ct := [(7, some [0, 1, 5, 26])]) (F := (fun s1 : Int => ⟨sl [(0, (.tree ty_DayRow a0)), (1, (.tree ty_DayRow a1)), (5, (.v (.int .i64 s1)))], []⟩)) (step := (fun s : Int => laws_eqDayRowS_loop1 _ _ s)) _ H (by kernel_rfl) (sub_auto ?_) ?_; rotate_left; (intro s1 r v hr H); rotate_right)
        | ((repeat (first | replace H := grd_k H | replace H := out_step H (by assumption))); refine again_step H (by assumption) (sub_auto ?_))
        | ((with_reducible refine fin_mk ?_); (repeat (first | replace H := grd_k H | replace H := out_step H (by assumption))); have H := Option.some.inj H; subst H))
def G18 : Env := G17.add 12 [] laws_eqDayRowS.S
theorem G18_ok : EnvOk Try.prog G18 := G17_ok.add ent_12 fun ar h r h1 ⟨a0, a1, y, hy, e1, e2, e3, e4⟩ => by
  subst e3 e4; exact (laws_eqDayRowS.spec a0 a1 y hy).le e1 e2
attribute [local irreducible] laws_eqDayRowS

noncomputable def laws_markText_loop1  (v3 : Int) (v4 : ByteArray) : Option (Lp (Int × ByteArray) ((ByteArray))) :=
  (cond (decide ((0 : Int) < v3)) (grd ((10 : Int) ≠ 0) (grd ((strOfN [(wu8 (w64 ((48 : Int) + (Int.tmod v3 (10 : Int)))))]).size + v4.size ≤ 9223372036854775807) (grd ((10 : Int) ≠ 0) (some (.go ((w64 (Int.tdiv v3 (10 : Int))), ((strOfN [(wu8 (w64 ((48 : Int) + (Int.tmod v3 (10 : Int)))))]) ++ v4))))))) ((some (.out v4))))
noncomputable def laws_markText (a0 : Int) : Option (ByteArray) :=
  (cond (decide (a0 ≤ (0 : Int))) ((some (ByteArray.mk #[109, 48]))) ((iter (fun s => laws_markText_loop1 s.1 s.2) (a0, (ByteArray.mk #[]))).bind (fun r5 => (grd ((ByteArray.mk #[109]).size + r5.size ≤ 9223372036854775807) ((some ((ByteArray.mk #[109]) ++ r5)))))))
def laws_markText.res (_ : Int) (y : ByteArray) : AV := (.v (.string y))
def laws_markText.out (_ : Int) (_ : ByteArray) : List (Option LB) := []
def laws_markText.S (ar : List AV) (h : List (Option LB)) (r : AV) (h1 : List (Option LB)) : Prop := ∃ a0 y, laws_markText a0 = some y ∧ leL ar [(.v (.int .i64 a0))] ∧ leH h [] ∧ r = laws_markText.res a0 y ∧ h1 = laws_markText.out a0 y
theorem laws_markText.call {ar : List AV} {h : List (Option LB)} {a0 : Int} {y : ByteArray} (H : laws_markText a0 = some y) (h0 : leLk ar [(.v (.int .i64 a0))] (leHk h [])) : laws_markText.S ar h (laws_markText.res a0 y) (laws_markText.out a0 y) := ⟨a0, y, H, (args_ok h0).1, (args_ok h0).2, rfl, rfl⟩
set_option maxHeartbeats 100000000 in
set_option maxRecDepth 100000 in
theorem laws_markText.spec (a0 : Int) (y : ByteArray) (H : laws_markText a0 = some y) : Spec Try.prog 33 [(.v (.int .i64 a0))] [] (laws_markText.res a0 y) (laws_markText.out a0 y) := by
  refine spec_intro (G18_ok.at tok []) (ct := []) Try.func33 rfl (by kernel_rfl) (by kernel_rfl) rfl ?_
  repeat' first
    | ((with_reducible refine eqg ?_); exact rfl)
    | ((with_reducible refine KOb.mk ?_); kernel_rfl)
    | ((with_reducible intro h); (repeat (first | replace H := grd_k H | replace H := out_step H (by assumption))); first | replace H := cond_t h H | replace H := cond_f h H | exact absurd h (by decide) | skip)
    | ((with_reducible refine Ob.mk ?_); first | (with_reducible rfl) | (first | ((repeat (first | (with_reducible exact grd_p H) | (replace H := grd_k H) | (replace H := out_step H (by assumption)))); done) | rfl | ((repeat (first | exact grd_p H | replace H := grd_k H | replace H := out_step H (by assumption))); done) | ((repeat (first | exact grd_p H | (have hp := grd_p H; exact hp) | replace H := grd_k H | replace H := out_step H (by assumption) | (replace H := bind_some H; obtain ⟨_, _, H⟩ := H))); done) | (repeat (first | exact grd_p H | replace H := grd_k H | replace H := out_step H (by assumption)))))
    | (with_reducible exact True.intro)
    | constructor
    | ((conv => whnf); first
        | ((with_reducible refine Ob.mk ?_); first | (with_reducible rfl) | (first | ((repeat (first | (with_reducible exact grd_p H) | (replace H := grd_k H) | (replace H := out_step H (by assumption)))); done) | rfl | ((repeat (first | exact grd_p H | replace H := grd_k H | replace H := out_step H (by assumption))); done) | ((repeat (first | exact grd_p H | (have hp := grd_p H; exact hp) | replace H := grd_k H | replace H := out_step H (by assumption) | (replace H := bind_some H; obtain ⟨_, _, H⟩ := H))); done) | (repeat (first | exact grd_p H | replace H := grd_k H | replace H := out_step H (by assumption)))))
        | ((repeat (first | replace H := grd_k H | replace H := out_step H (by assumption))); refine loop_iter (G18_ok.at tok []) (ct := []) (F := (fun s1 : Int × ByteArray => ⟨sl [(0, (.v (.int .i64 s1.1))), (3, (.v (.string s1.2)))], []⟩)) (step := (fun s : Int × ByteArray => laws_markText_loop1 s.1 s.2)) _ H (by kernel_rfl) (sub_auto ?_) ?_; rotate_left; (intro s1 r v hr H); rotate_right)
        | ((repeat (first | replace H := grd_k H | replace H := out_step H (by assumption))); refine again_step H (by assumption) (sub_auto ?_))
        | ((with_reducible refine fin_mk ?_); (repeat (first | replace H := grd_k H | replace H := out_step H (by assumption))); have H := Option.some.inj H; subst H))
def G19 : Env := G18.add 33 [] laws_markText.S
theorem G19_ok : EnvOk Try.prog G19 := G18_ok.add ent_33 fun ar h r h1 ⟨a0, y, hy, e1, e2, e3, e4⟩ => by
  subst e3 e4; exact (laws_markText.spec a0 y hy).le e1 e2
attribute [local irreducible] laws_markText

noncomputable def laws_markDayRowS_loop1  (v12 : Int) (v13 : Int) (v14 : (List DayRow)) : Option (Lp (Int × Int × (List DayRow)) ((Int × (List DayRow)))) :=
  (cond (decide (v13 < (v14.length : Int))) (grd (0 ≤ v13 ∧ v13 < (v14.length : Int)) ((grd (0 ≤ v13 ∧ v13 < ((v14.set v13.toNat (v12, (v14.getD v13.toNat d_DayRow).2.1, (v14.getD v13.toNat d_DayRow).2.2.1, (v14.getD v13.toNat d_DayRow).2.2.2.1, (v14.getD v13.toNat d_DayRow).2.2.2.2.1, (v14.getD v13.toNat d_DayRow).2.2.2.2.2.1, ())).length : Int)) ((some ((Tg.mk : Tg 7), ((v14.set v13.toNat (v12, (v14.getD v13.toNat d_DayRow).2.1, (v14.getD v13.toNat d_DayRow).2.2.1, (v14.getD v13.toNat d_DayRow).2.2.2.1, (v14.getD v13.toNat d_DayRow).2.2.2.2.1, (v14.getD v13.toNat d_DayRow).2.2.2.2.2.1, ())).set v13.toNat (((v14.set v13.toNat (v12, (v14.getD v13.toNat d_DayRow).2.1, (v14.getD v13.toNat d_DayRow).2.2.1, (v14.getD v13.toNat d_DayRow).2.2.2.1, (v14.getD v13.toNat d_DayRow).2.2.2.2.1, (v14.getD v13.toNat d_DayRow).2.2.2.2.2.1, ())).getD v13.toNat d_DayRow).1, (w64 (v12 + (1 : Int))), ((v14.set v13.toNat (v12, (v14.getD v13.toNat d_DayRow).2.1, (v14.getD v13.toNat d_DayRow).2.2.1, (v14.getD v13.toNat d_DayRow).2.2.2.1, (v14.getD v13.toNat d_DayRow).2.2.2.2.1, (v14.getD v13.toNat d_DayRow).2.2.2.2.2.1, ())).getD v13.toNat d_DayRow).2.2.1, ((v14.set v13.toNat (v12, (v14.getD v13.toNat d_DayRow).2.1, (v14.getD v13.toNat d_DayRow).2.2.1, (v14.getD v13.toNat d_DayRow).2.2.2.1, (v14.getD v13.toNat d_DayRow).2.2.2.2.1, (v14.getD v13.toNat d_DayRow).2.2.2.2.2.1, ())).getD v13.toNat d_DayRow).2.2.2.1, ((v14.set v13.toNat (v12, (v14.getD v13.toNat d_DayRow).2.1, (v14.getD v13.toNat d_DayRow).2.2.1, (v14.getD v13.toNat d_DayRow).2.2.2.1, (v14.getD v13.toNat d_DayRow).2.2.2.2.1, (v14.getD v13.toNat d_DayRow).2.2.2.2.2.1, ())).getD v13.toNat d_DayRow).2.2.2.2.1, ((v14.set v13.toNat (v12, (v14.getD v13.toNat d_DayRow).2.1, (v14.getD v13.toNat d_DayRow).2.2.1, (v14.getD v13.toNat d_DayRow).2.2.2.1, (v14.getD v13.toNat d_DayRow).2.2.2.2.1, (v14.getD v13.toNat d_DayRow).2.2.2.2.2.1, ())).getD v13.toNat d_DayRow).2.2.2.2.2.1, ())))))).bind fun z15 => (grd (0 ≤ v13 ∧ v13 < (z15.2.length : Int)) ((grd (0 ≤ v13 ∧ v13 < ((z15.2.set v13.toNat ((z15.2.getD v13.toNat d_DayRow).1, (z15.2.getD v13.toNat d_DayRow).2.1, (w64 ((w64 (v12 + (1 : Int))) + (1 : Int))), (z15.2.getD v13.toNat d_DayRow).2.2.2.1, (z15.2.getD v13.toNat d_DayRow).2.2.2.2.1, (z15.2.getD v13.toNat d_DayRow).2.2.2.2.2.1, ())).length : Int)) ((some ((Tg.mk : Tg 8), ((z15.2.set v13.toNat ((z15.2.getD v13.toNat d_DayRow).1, (z15.2.getD v13.toNat d_DayRow).2.1, (w64 ((w64 (v12 + (1 : Int))) + (1 : Int))), (z15.2.getD v13.toNat d_DayRow).2.2.2.1, (z15.2.getD v13.toNat d_DayRow).2.2.2.2.1, (z15.2.getD v13.toNat d_DayRow).2.2.2.2.2.1, ())).set v13.toNat (((z15.2.set v13.toNat ((z15.2.getD v13.toNat d_DayRow).1, (z15.2.getD v13.toNat d_DayRow).2.1, (w64 ((w64 (v12 + (1 : Int))) + (1 : Int))), (z15.2.getD v13.toNat d_DayRow).2.2.2.1, (z15.2.getD v13.toNat d_DayRow).2.2.2.2.1, (z15.2.getD v13.toNat d_DayRow).2.2.2.2.2.1, ())).getD v13.toNat d_DayRow).1, ((z15.2.set v13.toNat ((z15.2.getD v13.toNat d_DayRow).1, (z15.2.getD v13.toNat d_DayRow).2.1, (w64 ((w64 (v12 + (1 : Int))) + (1 : Int))), (z15.2.getD v13.toNat d_DayRow).2.2.2.1, (z15.2.getD v13.toNat d_DayRow).2.2.2.2.1, (z15.2.getD v13.toNat d_DayRow).2.2.2.2.2.1, ())).getD v13.toNat d_DayRow).2.1, ((z15.2.set v13.toNat ((z15.2.getD v13.toNat d_DayRow).1, (z15.2.getD v13.toNat d_DayRow).2.1, (w64 ((w64 (v12 + (1 : Int))) + (1 : Int))), (z15.2.getD v13.toNat d_DayRow).2.2.2.1, (z15.2.getD v13.toNat d_DayRow).2.2.2.2.1, (z15.2.getD v13.toNat d_DayRow).2.2.2.2.2.1, ())).getD v13.toNat d_DayRow).2.2.1, (w64 ((w64 ((w64 (v12 + (1 : Int))) + (1 : Int))) + (1 : Int))), ((z15.2.set v13.toNat ((z15.2.getD v13.toNat d_DayRow).1, (z15.2.getD v13.toNat d_DayRow).2.1, (w64 ((w64 (v12 + (1 : Int))) + (1 : Int))), (z15.2.getD v13.toNat d_DayRow).2.2.2.1, (z15.2.getD v13.toNat d_DayRow).2.2.2.2.1, (z15.2.getD v13.toNat d_DayRow).2.2.2.2.2.1, ())).getD v13.toNat d_DayRow).2.2.2.2.1, ((z15.2.set v13.toNat ((z15.2.getD v13.toNat d_DayRow).1, (z15.2.getD v13.toNat d_DayRow).2.1, (w64 ((w64 (v12 + (1 : Int))) + (1 : Int))), (z15.2.getD v13.toNat d_DayRow).2.2.2.1, (z15.2.getD v13.toNat d_DayRow).2.2.2.2.1, (z15.2.getD v13.toNat d_DayRow).2.2.2.2.2.1, ())).getD v13.toNat d_DayRow).2.2.2.2.2.1, ())))))).bind fun z16 => (grd (0 ≤ v13 ∧ v13 < (z16.2.length : Int)) (((laws_markText (w64 ((w64 ((w64 ((w64 ((w64 (v12 + (1 : Int))) + (1 : Int))) + (1 : Int))) + (1 : Int))) + (1 : Int)))).bind fun y17 => (grd (0 ≤ v13 ∧ v13 < ((z16.2.set v13.toNat ((z16.2.getD v13.toNat d_DayRow).1, (z16.2.getD v13.toNat d_DayRow).2.1, (z16.2.getD v13.toNat d_DayRow).2.2.1, (z16.2.getD v13.toNat d_DayRow).2.2.2.1, (w64 ((w64 ((w64 ((w64 (v12 + (1 : Int))) + (1 : Int))) + (1 : Int))) + (1 : Int))), (z16.2.getD v13.toNat d_DayRow).2.2.2.2.2.1, ())).length : Int)) ((some ((Tg.mk : Tg 9), ((z16.2.set v13.toNat ((z16.2.getD v13.toNat d_DayRow).1, (z16.2.getD v13.toNat d_DayRow).2.1, (z16.2.getD v13.toNat d_DayRow).2.2.1, (z16.2.getD v13.toNat d_DayRow).2.2.2.1, (w64 ((w64 ((w64 ((w64 (v12 + (1 : Int))) + (1 : Int))) + (1 : Int))) + (1 : Int))), (z16.2.getD v13.toNat d_DayRow).2.2.2.2.2.1, ())).set v13.toNat (((z16.2.set v13.toNat ((z16.2.getD v13.toNat d_DayRow).1, (z16.2.getD v13.toNat d_DayRow).2.1, (z16.2.getD v13.toNat d_DayRow).2.2.1, (z16.2.getD v13.toNat d_DayRow).2.2.2.1, (w64 ((w64 ((w64 ((w64 (v12 + (1 : Int))) + (1 : Int))) + (1 : Int))) + (1 : Int))), (z16.2.getD v13.toNat d_DayRow).2.2.2.2.2.1, ())).getD v13.toNat d_DayRow).1, ((z16.2.set v13.toNat ((z16.2.getD v13.toNat d_DayRow).1, (z16.2.getD v13.toNat d_DayRow).2.1, (z16.2.getD v13.toNat d_DayRow).2.2.1, (z16.2.getD v13.toNat d_DayRow).2.2.2.1, (w64 ((w64 ((w64 ((w64 (v12 + (1 : Int))) + (1 : Int))) + (1 : Int))) + (1 : Int))), (z16.2.getD v13.toNat d_DayRow).2.2.2.2.2.1, ())).getD v13.toNat d_DayRow).2.1, ((z16.2.set v13.toNat ((z16.2.getD v13.toNat d_DayRow).1, (z16.2.getD v13.toNat d_DayRow).2.1, (z16.2.getD v13.toNat d_DayRow).2.2.1, (z16.2.getD v13.toNat d_DayRow).2.2.2.1, (w64 ((w64 ((w64 ((w64 (v12 + (1 : Int))) + (1 : Int))) + (1 : Int))) + (1 : Int))), (z16.2.getD v13.toNat d_DayRow).2.2.2.2.2.1, ())).getD v13.toNat d_DayRow).2.2.1, ((z16.2.set v13.toNat ((z16.2.getD v13.toNat d_DayRow).1, (z16.2.getD v13.toNat d_DayRow).2.1, (z16.2.getD v13.toNat d_DayRow).2.2.1, (z16.2.getD v13.toNat d_DayRow).2.2.2.1, (w64 ((w64 ((w64 ((w64 (v12 + (1 : Int))) + (1 : Int))) + (1 : Int))) + (1 : Int))), (z16.2.getD v13.toNat d_DayRow).2.2.2.2.2.1, ())).getD v13.toNat d_DayRow).2.2.2.1, ((z16.2.set v13.toNat ((z16.2.getD v13.toNat d_DayRow).1, (z16.2.getD v13.toNat d_DayRow).2.1, (z16.2.getD v13.toNat d_DayRow).2.2.1, (z16.2.getD v13.toNat d_DayRow).2.2.2.1, (w64 ((w64 ((w64 ((w64 (v12 + (1 : Int))) + (1 : Int))) + (1 : Int))) + (1 : Int))), (z16.2.getD v13.toNat d_DayRow).2.2.2.2.2.1, ())).getD v13.toNat d_DayRow).2.2.2.2.1, y17, ()))))))).bind fun z18 => (some (.go ((w64 ((w64 ((w64 ((w64 ((w64 ((w64 (v12 + (1 : Int))) + (1 : Int))) + (1 : Int))) + (1 : Int))) + (1 : Int))) + (1 : Int))), (w64 (v13 + (1 : Int))), z18.2))))))))) ((some (.out (v12, v14)))))
noncomputable def laws_markDayRowS (a0 : (List DayRow)) (a1 : Int) : Option (Int × (List DayRow)) :=
  ((iter (fun s => laws_markDayRowS_loop1 s.1 s.2.1 s.2.2) (a1, (0 : Int), a0)).bind (fun r19 => (some (r19.1, r19.2))))
def laws_markDayRowS.res (_ : (List DayRow)) (_ : Int) (y : Int × (List DayRow)) : AV := (.v (.int .i64 y.1))
def laws_markDayRowS.out (_ : (List DayRow)) (_ : Int) (y : Int × (List DayRow)) : List (Option LB) := [some (.arr 57 ty_DayRow y.2)]
def laws_markDayRowS.S (ar : List AV) (h : List (Option LB)) (r : AV) (h1 : List (Option LB)) : Prop := ∃ a0 a1 y, laws_markDayRowS a0 a1 = some y ∧ leL ar [(.own 0), (.v (.int .i64 a1))] ∧ leH h [some (.arr 57 ty_DayRow a0)] ∧ r = laws_markDayRowS.res a0 a1 y ∧ h1 = laws_markDayRowS.out a0 a1 y
theorem laws_markDayRowS.call {ar : List AV} {h : List (Option LB)} {a0 : (List DayRow)} {a1 : Int} {y : Int × (List DayRow)} (H : laws_markDayRowS a0 a1 = some y) (h0 : leLk ar [(.own 0), (.v (.int .i64 a1))] (leHk h [some (.arr 57 ty_DayRow a0)])) : laws_markDayRowS.S ar h (laws_markDayRowS.res a0 a1 y) (laws_markDayRowS.out a0 a1 y) := ⟨a0, a1, y, H, (args_ok h0).1, (args_ok h0).2, rfl, rfl⟩
set_option maxHeartbeats 100000000 in
set_option maxRecDepth 100000 in
theorem laws_markDayRowS.spec (a0 : (List DayRow)) (a1 : Int) (y : Int × (List DayRow)) (H : laws_markDayRowS a0 a1 = some y) : Spec Try.prog 13 [(.own 0), (.v (.int .i64 a1))] [some (.arr 57 ty_DayRow a0)] (laws_markDayRowS.res a0 a1 y) (laws_markDayRowS.out a0 a1 y) := by
  refine spec_intro (G19_ok.at tok []) (ct := [(7, none), (11, none), (15, none)]) Try.func13 rfl (by kernel_rfl) (by kernel_rfl) rfl ?_
  repeat' first
    | ((with_reducible refine eqg ?_); exact rfl)
    | ((with_reducible refine KOb.mk ?_); kernel_rfl)
    | ((with_reducible intro h); (repeat (first | replace H := grd_k H | replace H := out_step H (by assumption))); first | replace H := cond_t h H | replace H := cond_f h H | exact absurd h (by decide) | skip)
    | ((with_reducible refine Ob.mk ?_); first | (with_reducible rfl) | (first | ((repeat (first | (with_reducible exact grd_p H) | (replace H := grd_k H) | (replace H := out_step H (by assumption)))); done) | rfl | ((repeat (first | exact grd_p H | replace H := grd_k H | replace H := out_step H (by assumption))); done) | ((repeat (first | exact grd_p H | (have hp := grd_p H; exact hp) | replace H := grd_k H | replace H := out_step H (by assumption) | (replace H := bind_some H; obtain ⟨_, _, H⟩ := H))); done) | (repeat (first | exact grd_p H | replace H := grd_k H | replace H := out_step H (by assumption)))))
    | (with_reducible exact True.intro)
    | constructor
    | ((conv => whnf); first
        | ((with_reducible refine Ob.mk ?_); first | (with_reducible rfl) | (first | ((repeat (first | (with_reducible exact grd_p H) | (replace H := grd_k H) | (replace H := out_step H (by assumption)))); done) | rfl | ((repeat (first | exact grd_p H | replace H := grd_k H | replace H := out_step H (by assumption))); done) | ((repeat (first | exact grd_p H | (have hp := grd_p H; exact hp) | replace H := grd_k H | replace H := out_step H (by assumption) | (replace H := bind_some H; obtain ⟨_, _, H⟩ := H))); done) | (repeat (first | exact grd_p H | replace H := grd_k H | replace H := out_step H (by assumption)))))
        | ((with_reducible refine CallW.mk ?_); (repeat (first | replace H := grd_k H | replace H := out_step H (by assumption))); replace H := bind_some H; obtain ⟨y, hy, H⟩ := H; first | ((with_reducible have hz : laws_markText _ = some y := hy); clear hz; refine Exists.intro _ (Exists.intro _ ⟨laws_markText.call hy ?_, rfl, rfl, ?_⟩)))
        | ((repeat (first | replace H := grd_k H | replace H := out_step H (by assumption))); refine loop_iter (G19_ok.at tok []) (ct := [(7, none), (11, none), (15, none)]) (F := (fun s1 : Int × Int × (List DayRow) => ⟨sl [(0, (.own 0)), (1, (.v (.int .i64 s1.1))), (5, (.v (.int .i64 s1.2.1)))], [some (.arr 57 ty_DayRow s1.2.2)]⟩)) (step := (fun s : Int × Int × (List DayRow) => laws_markDayRowS_loop1 s.1 s.2.1 s.2.2)) _ H (by kernel_rfl) (sub_auto ?_) ?_; rotate_left; (intro s1 r v hr H); rotate_right)
        | ((with_reducible refine cutAt (id := 7) ?_); (repeat (first | replace H := grd_k H | replace H := out_step H (by assumption))); first | (replace H := bind_some H; obtain ⟨z, hz, H⟩ := H; have hT : Tg 7 × (List DayRow) := z; clear hT; refine CutC.mk (id := 7) ⟨sl [(0, (.own 0)), (1, (.v (.int .i64 (w64 (s1.1 + (1 : Int)))))), (5, (.v (.int .i64 s1.2.1)))], [some (.arr 57 ty_DayRow z.2)]⟩ ?_ ?_; (replace H := hz)))
        | ((with_reducible refine cutAt (id := 11) ?_); (repeat (first | replace H := grd_k H | replace H := out_step H (by assumption))); first | (replace H := bind_some H; obtain ⟨z, hz, H⟩ := H; have hT : Tg 8 × (List DayRow) := z; clear hT; refine CutC.mk (id := 11) ⟨sl [(0, (.own 0)), (1, (.v (.int .i64 (w64 ((w64 ((w64 (s1.1 + (1 : Int))) + (1 : Int))) + (1 : Int)))))), (5, (.v (.int .i64 s1.2.1)))], [some (.arr 57 ty_DayRow z.2)]⟩ ?_ ?_; (replace H := hz)))
        | ((with_reducible refine cutAt (id := 15) ?_); (repeat (first | replace H := grd_k H | replace H := out_step H (by assumption))); first | (replace H := bind_some H; obtain ⟨z, hz, H⟩ := H; have hT : Tg 9 × (List DayRow) := z; clear hT; refine CutC.mk (id := 15) ⟨sl [(0, (.own 0)), (1, (.v (.int .i64 (w64 ((w64 ((w64 ((w64 ((w64 (s1.1 + (1 : Int))) + (1 : Int))) + (1 : Int))) + (1 : Int))) + (1 : Int)))))), (5, (.v (.int .i64 s1.2.1)))], [some (.arr 57 ty_DayRow z.2)]⟩ ?_ ?_; (replace H := hz)))
        | ((repeat (first | replace H := grd_k H | replace H := out_step H (by assumption))); have H := Option.some.inj H; subst H; with_reducible refine sub_auto ?_)
        | ((repeat (first | replace H := grd_k H | replace H := out_step H (by assumption))); refine again_step H (by assumption) (sub_auto ?_))
        | ((with_reducible refine fin_mk ?_); (repeat (first | replace H := grd_k H | replace H := out_step H (by assumption))); have H := Option.some.inj H; subst H))
def G20 : Env := G19.add 13 [true] laws_markDayRowS.S
theorem G20_ok : EnvOk Try.prog G20 := G19_ok.add ent_13 fun ar h r h1 ⟨a0, a1, y, hy, e1, e2, e3, e4⟩ => by
  subst e3 e4; exact (laws_markDayRowS.spec a0 a1 y hy).le e1 e2
attribute [local irreducible] laws_markDayRowS

end Go.Proofs.Yteckiilljhdkpaa
