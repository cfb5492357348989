/-
  Contracts, printed by a program.
-/
import Derived.Test.YtpfdhaldjeedfaaDoorX1
namespace Go.Proofs.YtpfdhaldjeedfaaDoor
open Go.RowKit
attribute [local irreducible] Ob loopwp Sub Spec Fin Again CallW CutC KOb iter joinx outm

noncomputable def laws_szLogRecord (a0 : LogRecord) (a1 : Int) : Option (Int) :=
  (cond (decide ((w64 (a1 - (a0.1.size : Int))) < (0 : Int))) ((some ((-1) : Int))) (cond (decide ((w64 ((w64 (a1 - (a0.1.size : Int))) - (a0.2.1.size : Int))) < (0 : Int))) ((some ((-1) : Int))) ((some (w64 ((w64 (a1 - (a0.1.size : Int))) - (a0.2.1.size : Int)))))))
def laws_szLogRecord.res (_ : LogRecord) (_ : Int) (y : Int) : AV := (.v (.int .i64 y))
def laws_szLogRecord.out (_ : LogRecord) (_ : Int) (_ : Int) : List (Option LB) := []
def laws_szLogRecord.S (ar : List AV) (h : List (Option LB)) (r : AV) (h1 : List (Option LB)) : Prop := ∃ a0 a1 y, laws_szLogRecord a0 a1 = some y ∧ leL ar [(.agg [(.v (.string a0.1)), (.v (.string a0.2.1))]), (.v (.int .i64 a1))] ∧ leH h [] ∧ r = laws_szLogRecord.res a0 a1 y ∧ h1 = laws_szLogRecord.out a0 a1 y
theorem laws_szLogRecord.call {ar : List AV} {h : List (Option LB)} {a0 : LogRecord} {a1 : Int} {y : Int} (H : laws_szLogRecord a0 a1 = some y) (h0 : leLk ar [(.agg [(.v (.string a0.1)), (.v (.string a0.2.1))]), (.v (.int .i64 a1))] (leHk h [])) : laws_szLogRecord.S ar h (laws_szLogRecord.res a0 a1 y) (laws_szLogRecord.out a0 a1 y) := ⟨a0, a1, y, H, (args_ok h0).1, (args_ok h0).2, rfl, rfl⟩
set_option maxHeartbeats 100000000 in
set_option maxRecDepth 100000 in
theorem laws_szLogRecord.spec (a0 : LogRecord) (a1 : Int) (y : Int) (H : laws_szLogRecord a0 a1 = some y) : Spec Tryd.prog 13 [(.agg [(.v (.string a0.1)), (.v (.string a0.2.1))]), (.v (.int .i64 a1))] [] (laws_szLogRecord.res a0 a1 y) (laws_szLogRecord.out a0 a1 y) := by
  refine spec_intro (G0_ok.at tok []) (ct := [(5, some [1])]) Tryd.func13 rfl (by kernel_rfl) (by kernel_rfl) rfl ?_
  repeat' first
    | ((with_reducible refine eqg ?_); exact rfl)
    | ((with_reducible refine KOb.mk ?_); kernel_rfl)
    | ((with_reducible intro h); (repeat (first | replace H := grd_k H | replace H := out_step H (by assumption))); first | replace H := cond_t h H | replace H := cond_f h H | exact absurd h (by decide) | skip)
    | ((with_reducible refine Ob.mk ?_); first | rfl | (repeat (first | exact grd_p H | (have hp := grd_p H; exact hp) | replace H := grd_k H | replace H := out_step H (by assumption) | (replace H := bind_some H; obtain ⟨_, _, H⟩ := H))))
    | (with_reducible exact True.intro)
    | constructor
    | ((conv => whnf); first
        | ((with_reducible refine Ob.mk ?_); first | rfl | (repeat (first | exact grd_p H | (have hp := grd_p H; exact hp) | replace H := grd_k H | replace H := out_step H (by assumption) | (replace H := bind_some H; obtain ⟨_, _, H⟩ := H))))
        | ((with_reducible refine fin_mk ?_); (repeat (first | replace H := grd_k H | replace H := out_step H (by assumption))); have H := Option.some.inj H; subst H))
def G1 : Env := G0.add 13 [] laws_szLogRecord.S
theorem G1_ok : EnvOk Tryd.prog G1 := G0_ok.add ent_13 fun ar h r h1 ⟨a0, a1, y, hy, e1, e2, e3, e4⟩ => by
  subst e3 e4; exact (laws_szLogRecord.spec a0 a1 y hy).le e1 e2
attribute [local irreducible] laws_szLogRecord

noncomputable def laws_toLogRecord (a0 : LogRecord) : Option (LogRecord) :=
  (some (a0.1, a0.2.1, ()))
def laws_toLogRecord.res (_ : LogRecord) (y : LogRecord) : AV := (.agg [(.v (.string y.1)), (.v (.string y.2.1))])
def laws_toLogRecord.out (_ : LogRecord) (_ : LogRecord) : List (Option LB) := []
def laws_toLogRecord.S (ar : List AV) (h : List (Option LB)) (r : AV) (h1 : List (Option LB)) : Prop := ∃ a0 y, laws_toLogRecord a0 = some y ∧ leL ar [(.agg [(.v (.string a0.1)), (.v (.string a0.2.1))])] ∧ leH h [] ∧ r = laws_toLogRecord.res a0 y ∧ h1 = laws_toLogRecord.out a0 y
theorem laws_toLogRecord.call {ar : List AV} {h : List (Option LB)} {a0 : LogRecord} {y : LogRecord} (H : laws_toLogRecord a0 = some y) (h0 : leLk ar [(.agg [(.v (.string a0.1)), (.v (.string a0.2.1))])] (leHk h [])) : laws_toLogRecord.S ar h (laws_toLogRecord.res a0 y) (laws_toLogRecord.out a0 y) := ⟨a0, y, H, (args_ok h0).1, (args_ok h0).2, rfl, rfl⟩
set_option maxHeartbeats 100000000 in
set_option maxRecDepth 100000 in
theorem laws_toLogRecord.spec (a0 : LogRecord) (y : LogRecord) (H : laws_toLogRecord a0 = some y) : Spec Tryd.prog 15 [(.agg [(.v (.string a0.1)), (.v (.string a0.2.1))])] [] (laws_toLogRecord.res a0 y) (laws_toLogRecord.out a0 y) := by
  refine spec_intro (G1_ok.at tok []) (ct := []) Tryd.func15 rfl (by kernel_rfl) (by kernel_rfl) rfl ?_
  repeat' first
    | ((with_reducible refine eqg ?_); exact rfl)
    | ((with_reducible refine KOb.mk ?_); kernel_rfl)
    | ((with_reducible intro h); (repeat (first | replace H := grd_k H | replace H := out_step H (by assumption))); first | replace H := cond_t h H | replace H := cond_f h H | exact absurd h (by decide) | skip)
    | ((with_reducible refine Ob.mk ?_); first | rfl | (repeat (first | exact grd_p H | (have hp := grd_p H; exact hp) | replace H := grd_k H | replace H := out_step H (by assumption) | (replace H := bind_some H; obtain ⟨_, _, H⟩ := H))))
    | (with_reducible exact True.intro)
    | constructor
    | ((conv => whnf); first
        | ((with_reducible refine Ob.mk ?_); first | rfl | (repeat (first | exact grd_p H | (have hp := grd_p H; exact hp) | replace H := grd_k H | replace H := out_step H (by assumption) | (replace H := bind_some H; obtain ⟨_, _, H⟩ := H))))
        | ((with_reducible refine fin_mk ?_); (repeat (first | replace H := grd_k H | replace H := out_step H (by assumption))); have H := Option.some.inj H; subst H))
def G2 : Env := G1.add 15 [] laws_toLogRecord.S
theorem G2_ok : EnvOk Tryd.prog G2 := G1_ok.add ent_15 fun ar h r h1 ⟨a0, y, hy, e1, e2, e3, e4⟩ => by
  subst e3 e4; exact (laws_toLogRecord.spec a0 y hy).le e1 e2
attribute [local irreducible] laws_toLogRecord

noncomputable def spec_l1In (a0 : Int) (a1 : Int) (a2 : Int) : Option (Bool) :=
  (cond (decide (a1 ≤ a0)) ((some (decide (a0 ≤ a2)))) ((some false)))
def spec_l1In.res (_ : Int) (_ : Int) (_ : Int) (y : Bool) : AV := (.bl y)
def spec_l1In.out (_ : Int) (_ : Int) (_ : Int) (_ : Bool) : List (Option LB) := []
def spec_l1In.S (ar : List AV) (h : List (Option LB)) (r : AV) (h1 : List (Option LB)) : Prop := ∃ a0 a1 a2 y, spec_l1In a0 a1 a2 = some y ∧ leL ar [(.v (.int .i64 a0)), (.v (.int .i64 a1)), (.v (.int .i64 a2))] ∧ leH h [] ∧ r = spec_l1In.res a0 a1 a2 y ∧ h1 = spec_l1In.out a0 a1 a2 y
theorem spec_l1In.call {ar : List AV} {h : List (Option LB)} {a0 : Int} {a1 : Int} {a2 : Int} {y : Bool} (H : spec_l1In a0 a1 a2 = some y) (h0 : leLk ar [(.v (.int .i64 a0)), (.v (.int .i64 a1)), (.v (.int .i64 a2))] (leHk h [])) : spec_l1In.S ar h (spec_l1In.res a0 a1 a2 y) (spec_l1In.out a0 a1 a2 y) := ⟨a0, a1, a2, y, H, (args_ok h0).1, (args_ok h0).2, rfl, rfl⟩
set_option maxHeartbeats 100000000 in
set_option maxRecDepth 100000 in
theorem spec_l1In.spec (a0 : Int) (a1 : Int) (a2 : Int) (y : Bool) (H : spec_l1In a0 a1 a2 = some y) : Spec Tryd.prog 42 [(.v (.int .i64 a0)), (.v (.int .i64 a1)), (.v (.int .i64 a2))] [] (spec_l1In.res a0 a1 a2 y) (spec_l1In.out a0 a1 a2 y) := by
  refine spec_intro (G2_ok.at tok []) (ct := []) Tryd.func42 rfl (by kernel_rfl) (by kernel_rfl) rfl ?_
  repeat' first
    | ((with_reducible refine eqg ?_); exact rfl)
    | ((with_reducible refine KOb.mk ?_); kernel_rfl)
    | ((with_reducible intro h); (repeat (first | replace H := grd_k H | replace H := out_step H (by assumption))); first | replace H := cond_t h H | replace H := cond_f h H | exact absurd h (by decide) | skip)
    | ((with_reducible refine Ob.mk ?_); first | rfl | (repeat (first | exact grd_p H | (have hp := grd_p H; exact hp) | replace H := grd_k H | replace H := out_step H (by assumption) | (replace H := bind_some H; obtain ⟨_, _, H⟩ := H))))
    | (with_reducible exact True.intro)
    | constructor
    | ((conv => whnf); first
        | ((with_reducible refine Ob.mk ?_); first | rfl | (repeat (first | exact grd_p H | (have hp := grd_p H; exact hp) | replace H := grd_k H | replace H := out_step H (by assumption) | (replace H := bind_some H; obtain ⟨_, _, H⟩ := H))))
        | ((with_reducible refine fin_mk ?_); (repeat (first | replace H := grd_k H | replace H := out_step H (by assumption))); have H := Option.some.inj H; subst H))
def G3 : Env := G2.add 42 [] spec_l1In.S
theorem G3_ok : EnvOk Tryd.prog G3 := G2_ok.add ent_42 fun ar h r h1 ⟨a0, a1, a2, y, hy, e1, e2, e3, e4⟩ => by
  subst e3 e4; exact (spec_l1In.spec a0 a1 a2 y hy).le e1 e2
attribute [local irreducible] spec_l1In

noncomputable def spec_l27Plain_loop1 (a0 : ByteArray) (v5 : Int) : Option (Lp (Int) ((Unit) ⊕ (Unit))) :=
  (cond (decide (v5 < (a0.size : Int))) (grd (0 ≤ v5 ∧ v5 < (a0.size : Int)) ((spec_l1In (w64 (bAt a0 v5)) (32 : Int) (126 : Int)).bind fun y6 => (cond (!y6) ((some (.out (Sum.inl ())))) (grd (0 ≤ v5 ∧ v5 < (a0.size : Int)) (cond (decide ((bAt a0 v5) = (35 : Int))) ((some (.out (Sum.inl ())))) (some (.go (w64 (v5 + (1 : Int)))))))))) ((some (.out (Sum.inr ())))))
noncomputable def spec_l27Plain (a0 : ByteArray) (a1 : Int) : Option (Bool) :=
  ((iter (fun s => spec_l27Plain_loop1 a0 s) (0 : Int)).bind (Sum.elim (fun _ => (some false)) (fun _ => (some (decide ((a0.size : Int) ≤ a1))))))
def spec_l27Plain.res (_ : ByteArray) (_ : Int) (y : Bool) : AV := (.bl y)
def spec_l27Plain.out (_ : ByteArray) (_ : Int) (_ : Bool) : List (Option LB) := []
def spec_l27Plain.S (ar : List AV) (h : List (Option LB)) (r : AV) (h1 : List (Option LB)) : Prop := ∃ a0 a1 y, spec_l27Plain a0 a1 = some y ∧ leL ar [(.v (.string a0)), (.v (.int .i64 a1))] ∧ leH h [] ∧ r = spec_l27Plain.res a0 a1 y ∧ h1 = spec_l27Plain.out a0 a1 y
theorem spec_l27Plain.call {ar : List AV} {h : List (Option LB)} {a0 : ByteArray} {a1 : Int} {y : Bool} (H : spec_l27Plain a0 a1 = some y) (h0 : leLk ar [(.v (.string a0)), (.v (.int .i64 a1))] (leHk h [])) : spec_l27Plain.S ar h (spec_l27Plain.res a0 a1 y) (spec_l27Plain.out a0 a1 y) := ⟨a0, a1, y, H, (args_ok h0).1, (args_ok h0).2, rfl, rfl⟩
set_option maxHeartbeats 100000000 in
set_option maxRecDepth 100000 in
theorem spec_l27Plain.spec (a0 : ByteArray) (a1 : Int) (y : Bool) (H : spec_l27Plain a0 a1 = some y) : Spec Tryd.prog 61 [(.v (.string a0)), (.v (.int .i64 a1))] [] (spec_l27Plain.res a0 a1 y) (spec_l27Plain.out a0 a1 y) := by
  refine spec_intro (G3_ok.at tok []) (ct := [(5, some [0, 1, 5, 19, 20, 21, 22, 23])]) Tryd.func61 rfl (by kernel_rfl) (by kernel_rfl) rfl ?_
  repeat' first
    | ((with_reducible refine eqg ?_); exact rfl)
    | ((with_reducible refine KOb.mk ?_); kernel_rfl)
    | ((with_reducible intro h); (repeat (first | replace H := grd_k H | replace H := out_step H (by assumption))); first | replace H := cond_t h H | replace H := cond_f h H | exact absurd h (by decide) | skip)
    | ((with_reducible refine Ob.mk ?_); first | rfl | (repeat (first | exact grd_p H | (have hp := grd_p H; exact hp) | replace H := grd_k H | replace H := out_step H (by assumption) | (replace H := bind_some H; obtain ⟨_, _, H⟩ := H))))
    | (with_reducible exact True.intro)
    | constructor
    | ((conv => whnf); first
        | ((with_reducible refine Ob.mk ?_); first | rfl | (repeat (first | exact grd_p H | (have hp := grd_p H; exact hp) | replace H := grd_k H | replace H := out_step H (by assumption) | (replace H := bind_some H; obtain ⟨_, _, H⟩ := H))))
        | ((with_reducible refine CallW.mk ?_); (repeat (first | replace H := grd_k H | replace H := out_step H (by assumption))); replace H := bind_some H; obtain ⟨y, hy, H⟩ := H; first | ((with_reducible have hz : spec_l1In _ _ _ = some y := hy); clear hz; refine Exists.intro _ (Exists.intro _ ⟨spec_l1In.call hy ?_, rfl, rfl, ?_⟩)))
        | ((repeat (first | replace H := grd_k H | replace H := out_step H (by assumption))); refine loop_iter (G3_ok.at tok []) (ct := [(5, some [0, 1, 5, 19, 20, 21, 22, 23])]) (F := (fun s1 : Int => ⟨sl [(0, (.v (.string a0))), (1, (.v (.int .i64 a1))), (5, (.v (.int .i64 s1)))], []⟩)) (step := (fun s : Int => spec_l27Plain_loop1 _ s)) _ H (by kernel_rfl) (sub_auto ?_) ?_; rotate_left; (intro s1 r v hr H); rotate_right)
        | ((repeat (first | replace H := grd_k H | replace H := out_step H (by assumption))); refine again_step H (by assumption) (sub_auto ?_))
        | ((with_reducible refine fin_mk ?_); (repeat (first | replace H := grd_k H | replace H := out_step H (by assumption))); have H := Option.some.inj H; subst H))
def G4 : Env := G3.add 61 [] spec_l27Plain.S
theorem G4_ok : EnvOk Tryd.prog G4 := G3_ok.add ent_61 fun ar h r h1 ⟨a0, a1, y, hy, e1, e2, e3, e4⟩ => by
  subst e3 e4; exact (spec_l27Plain.spec a0 a1 y hy).le e1 e2
attribute [local irreducible] spec_l27Plain

noncomputable def spec_l1Stands_loop1 (a0 : ByteArray) (a1 : Int) (v2 : Int) : Option (Lp (Int) ((Unit) ⊕ (Unit))) :=
  (cond (decide (v2 < (a0.size : Int))) (grd (0 ≤ v2 ∧ v2 < (a0.size : Int)) (cond (decide ((bAt a0 v2) = a1)) ((some (.out (Sum.inl ())))) (some (.go (w64 (v2 + (1 : Int))))))) ((some (.out (Sum.inr ())))))
noncomputable def spec_l1Stands (a0 : ByteArray) (a1 : Int) : Option (Bool) :=
  ((iter (fun s => spec_l1Stands_loop1 a0 a1 s) (0 : Int)).bind (Sum.elim (fun _ => (some true)) (fun _ => (some false))))
def spec_l1Stands.res (_ : ByteArray) (_ : Int) (y : Bool) : AV := (.bl y)
def spec_l1Stands.out (_ : ByteArray) (_ : Int) (_ : Bool) : List (Option LB) := []
def spec_l1Stands.S (ar : List AV) (h : List (Option LB)) (r : AV) (h1 : List (Option LB)) : Prop := ∃ a0 a1 y, spec_l1Stands a0 a1 = some y ∧ leL ar [(.v (.string a0)), (.v (.int .u8 a1))] ∧ leH h [] ∧ r = spec_l1Stands.res a0 a1 y ∧ h1 = spec_l1Stands.out a0 a1 y
theorem spec_l1Stands.call {ar : List AV} {h : List (Option LB)} {a0 : ByteArray} {a1 : Int} {y : Bool} (H : spec_l1Stands a0 a1 = some y) (h0 : leLk ar [(.v (.string a0)), (.v (.int .u8 a1))] (leHk h [])) : spec_l1Stands.S ar h (spec_l1Stands.res a0 a1 y) (spec_l1Stands.out a0 a1 y) := ⟨a0, a1, y, H, (args_ok h0).1, (args_ok h0).2, rfl, rfl⟩
set_option maxHeartbeats 100000000 in
set_option maxRecDepth 100000 in
theorem spec_l1Stands.spec (a0 : ByteArray) (a1 : Int) (y : Bool) (H : spec_l1Stands a0 a1 = some y) : Spec Tryd.prog 62 [(.v (.string a0)), (.v (.int .u8 a1))] [] (spec_l1Stands.res a0 a1 y) (spec_l1Stands.out a0 a1 y) := by
  refine spec_intro (G4_ok.at tok []) (ct := []) Tryd.func62 rfl (by kernel_rfl) (by kernel_rfl) rfl ?_
  repeat' first
    | ((with_reducible refine eqg ?_); exact rfl)
    | ((with_reducible refine KOb.mk ?_); kernel_rfl)
    | ((with_reducible intro h); (repeat (first | replace H := grd_k H | replace H := out_step H (by assumption))); first | replace H := cond_t h H | replace H := cond_f h H | exact absurd h (by decide) | skip)
    | ((with_reducible refine Ob.mk ?_); first | rfl | (repeat (first | exact grd_p H | (have hp := grd_p H; exact hp) | replace H := grd_k H | replace H := out_step H (by assumption) | (replace H := bind_some H; obtain ⟨_, _, H⟩ := H))))
    | (with_reducible exact True.intro)
    | constructor
    | ((conv => whnf); first
        | ((with_reducible refine Ob.mk ?_); first | rfl | (repeat (first | exact grd_p H | (have hp := grd_p H; exact hp) | replace H := grd_k H | replace H := out_step H (by assumption) | (replace H := bind_some H; obtain ⟨_, _, H⟩ := H))))
        | ((repeat (first | replace H := grd_k H | replace H := out_step H (by assumption))); refine loop_iter (G4_ok.at tok []) (ct := []) (F := (fun s1 : Int => ⟨sl [(0, (.v (.string a0))), (1, (.v (.int .u8 a1))), (5, (.v (.int .i64 s1)))], []⟩)) (step := (fun s : Int => spec_l1Stands_loop1 _ _ s)) _ H (by kernel_rfl) (sub_auto ?_) ?_; rotate_left; (intro s1 r v hr H); rotate_right)
        | ((repeat (first | replace H := grd_k H | replace H := out_step H (by assumption))); refine again_step H (by assumption) (sub_auto ?_))
        | ((with_reducible refine fin_mk ?_); (repeat (first | replace H := grd_k H | replace H := out_step H (by assumption))); have H := Option.some.inj H; subst H))
def G5 : Env := G4.add 62 [] spec_l1Stands.S
theorem G5_ok : EnvOk Tryd.prog G5 := G4_ok.add ent_62 fun ar h r h1 ⟨a0, a1, y, hy, e1, e2, e3, e4⟩ => by
  subst e3 e4; exact (spec_l1Stands.spec a0 a1 y hy).le e1 e2
attribute [local irreducible] spec_l1Stands

noncomputable def spec_l27Good (a0 : LogRecord) : Option (Bool) :=
  (cond (!decide (a0.1 = (ByteArray.mk #[]))) ((spec_l27Plain a0.1 (160 : Int)).bind fun y1 => (cond y1 ((spec_l1Stands a0.1 (64 : Int)).bind fun y2 => (cond (!y2) ((spec_l27Plain a0.2.1 (200 : Int)).bind fun y3 => (some y3)) ((some false)))) ((some false)))) ((some false)))
def spec_l27Good.res (_ : LogRecord) (y : Bool) : AV := (.bl y)
def spec_l27Good.out (_ : LogRecord) (_ : Bool) : List (Option LB) := []
def spec_l27Good.S (ar : List AV) (h : List (Option LB)) (r : AV) (h1 : List (Option LB)) : Prop := ∃ a0 y, spec_l27Good a0 = some y ∧ leL ar [(.agg [(.v (.string a0.1)), (.v (.string a0.2.1))])] ∧ leH h [] ∧ r = spec_l27Good.res a0 y ∧ h1 = spec_l27Good.out a0 y
theorem spec_l27Good.call {ar : List AV} {h : List (Option LB)} {a0 : LogRecord} {y : Bool} (H : spec_l27Good a0 = some y) (h0 : leLk ar [(.agg [(.v (.string a0.1)), (.v (.string a0.2.1))])] (leHk h [])) : spec_l27Good.S ar h (spec_l27Good.res a0 y) (spec_l27Good.out a0 y) := ⟨a0, y, H, (args_ok h0).1, (args_ok h0).2, rfl, rfl⟩
set_option maxHeartbeats 100000000 in
set_option maxRecDepth 100000 in
theorem spec_l27Good.spec (a0 : LogRecord) (y : Bool) (H : spec_l27Good a0 = some y) : Spec Tryd.prog 43 [(.agg [(.v (.string a0.1)), (.v (.string a0.2.1))])] [] (spec_l27Good.res a0 y) (spec_l27Good.out a0 y) := by
  refine spec_intro (G5_ok.at tok []) (ct := []) Tryd.func43 rfl (by kernel_rfl) (by kernel_rfl) rfl ?_
  repeat' first
    | ((with_reducible refine eqg ?_); exact rfl)
    | ((with_reducible refine KOb.mk ?_); kernel_rfl)
    | ((with_reducible intro h); (repeat (first | replace H := grd_k H | replace H := out_step H (by assumption))); first | replace H := cond_t h H | replace H := cond_f h H | exact absurd h (by decide) | skip)
    | ((with_reducible refine Ob.mk ?_); first | rfl | (repeat (first | exact grd_p H | (have hp := grd_p H; exact hp) | replace H := grd_k H | replace H := out_step H (by assumption) | (replace H := bind_some H; obtain ⟨_, _, H⟩ := H))))
    | (with_reducible exact True.intro)
    | constructor
    | ((conv => whnf); first
        | ((with_reducible refine Ob.mk ?_); first | rfl | (repeat (first | exact grd_p H | (have hp := grd_p H; exact hp) | replace H := grd_k H | replace H := out_step H (by assumption) | (replace H := bind_some H; obtain ⟨_, _, H⟩ := H))))
        | ((with_reducible refine CallW.mk ?_); (repeat (first | replace H := grd_k H | replace H := out_step H (by assumption))); replace H := bind_some H; obtain ⟨y, hy, H⟩ := H; first | ((with_reducible have hz : spec_l27Plain _ _ = some y := hy); clear hz; refine Exists.intro _ (Exists.intro _ ⟨spec_l27Plain.call hy ?_, rfl, rfl, ?_⟩)) | ((with_reducible have hz : spec_l1Stands _ _ = some y := hy); clear hz; refine Exists.intro _ (Exists.intro _ ⟨spec_l1Stands.call hy ?_, rfl, rfl, ?_⟩)))
        | ((with_reducible refine fin_mk ?_); (repeat (first | replace H := grd_k H | replace H := out_step H (by assumption))); have H := Option.some.inj H; subst H))
def G6 : Env := G5.add 43 [] spec_l27Good.S
theorem G6_ok : EnvOk Tryd.prog G6 := G5_ok.add ent_43 fun ar h r h1 ⟨a0, y, hy, e1, e2, e3, e4⟩ => by
  subst e3 e4; exact (spec_l27Good.spec a0 y hy).le e1 e2
attribute [local irreducible] spec_l27Good

end Go.Proofs.YtpfdhaldjeedfaaDoor
