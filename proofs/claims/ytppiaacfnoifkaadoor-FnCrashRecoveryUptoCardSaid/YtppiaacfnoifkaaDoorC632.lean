/-
  Contracts, printed by a program.
-/
import Derived.Test.YtppiaacfnoifkaaDoorC631
namespace Go.Proofs.YtppiaacfnoifkaaDoor
open Go.RowKit
attribute [local irreducible] Ob loopwp Sub Spec Fin Again CallW CutC KOb iter joinx outm

attribute [local irreducible] laws_szLog laws_toLog spec_l1Split spec_l1Num spec_l1Num_f spec_l1In spec_l27Plain

noncomputable def spec_l1Stands_loop1 (a0 : ByteArray) (a1 : Int) (v2 : Int) : Option (Lp (Int) ((Unit) ⊕ (Unit))) :=
  (cond (decide (v2 < (a0.size : Int))) (grd (0 ≤ v2 ∧ v2 < (a0.size : Int)) (cond (decide ((bAt a0 v2) = a1)) ((some (.out (Sum.inl ())))) (some (.go (w64 (v2 + (1 : Int))))))) ((some (.out (Sum.inr ())))))
noncomputable def spec_l1Stands (a0 : ByteArray) (a1 : Int) : Option (Bool) :=
  ((iter (fun s => spec_l1Stands_loop1 a0 a1 s) (0 : Int)).bind (Sum.elim (fun _ => (some true)) (fun _ => (some false))))
def spec_l1Stands.res (_ : ByteArray) (_ : Int) (y : Bool) : AV := (.bl y)
def spec_l1Stands.out (_ : ByteArray) (_ : Int) (_ : Bool) : List (Option LB) := []
def spec_l1Stands.S (ar : List AV) (h : List (Option LB)) (r : AV) (h1 : List (Option LB)) : Prop := ∃ a0 a1 y, spec_l1Stands a0 a1 = some y ∧ leL ar [(.v (.string a0)), (.v (.int .u8 a1))] ∧ leH h [] ∧ r = spec_l1Stands.res a0 a1 y ∧ h1 = spec_l1Stands.out a0 a1 y
theorem spec_l1Stands.call {ar : List AV} {h : List (Option LB)} {a0 : ByteArray} {a1 : Int} {y : Bool} (H : spec_l1Stands a0 a1 = some y) (h0 : leLk ar [(.v (.string a0)), (.v (.int .u8 a1))] (leHk h [])) : spec_l1Stands.S ar h (spec_l1Stands.res a0 a1 y) (spec_l1Stands.out a0 a1 y) := ⟨a0, a1, y, H, (args_ok h0).1, (args_ok h0).2, rfl, rfl⟩
set_option maxHeartbeats 100000000 in
set_option maxRecDepth 100000 in
theorem spec_l1Stands.spec (a0 : ByteArray) (a1 : Int) (y : Bool) (H : spec_l1Stands a0 a1 = some y) : Spec Tryd.prog 149 [(.v (.string a0)), (.v (.int .u8 a1))] [] (spec_l1Stands.res a0 a1 y) (spec_l1Stands.out a0 a1 y) := by
  refine spec_intro (G6_ok.at tok []) (ct := []) Tryd.func149 rfl (by kernel_rfl) (by kernel_rfl) rfl ?_
  repeat' first
    | ((with_reducible refine eqg ?_); exact rfl)
    | ((with_reducible refine KOb.mk ?_); kernel_rfl)
    | ((with_reducible intro h); (repeat (first | replace H := grd_k H | replace H := out_step H (by assumption))); first | replace H := cond_t h H | replace H := cond_f h H | exact absurd h (by decide) | skip)
    | ((with_reducible refine Ob.mk ?_); first | (with_reducible rfl) | (first | ((repeat (first | (with_reducible exact grd_p H) | (replace H := grd_k H) | (replace H := out_step H (by assumption)))); done) | rfl | ((repeat (first | exact grd_p H | replace H := grd_k H | replace H := out_step H (by assumption))); done) | ((repeat (first | exact grd_p H | (have hp := grd_p H; exact hp) | replace H := grd_k H | replace H := out_step H (by assumption) | (replace H := bind_some H; obtain ⟨_, _, H⟩ := H))); done) | (repeat (first | exact grd_p H | replace H := grd_k H | replace H := out_step H (by assumption)))))
    | (with_reducible exact True.intro)
    | ((conv => whnf); first
        | (with_reducible refine And.intro ?_ ?_)
        | (with_reducible exact True.intro)
        | ((with_reducible refine Ob.mk ?_); first | (with_reducible rfl) | (first | ((repeat (first | (with_reducible exact grd_p H) | (replace H := grd_k H) | (replace H := out_step H (by assumption)))); done) | rfl | ((repeat (first | exact grd_p H | replace H := grd_k H | replace H := out_step H (by assumption))); done) | ((repeat (first | exact grd_p H | (have hp := grd_p H; exact hp) | replace H := grd_k H | replace H := out_step H (by assumption) | (replace H := bind_some H; obtain ⟨_, _, H⟩ := H))); done) | (repeat (first | exact grd_p H | replace H := grd_k H | replace H := out_step H (by assumption)))))
        | ((repeat (first | replace H := grd_k H | replace H := out_step H (by assumption))); refine loop_iter (G6_ok.at tok []) (ct := []) (F := (fun s1 : Int => ⟨sl [(0, (.v (.string a0))), (1, (.v (.int .u8 a1))), (5, (.v (.int .i64 s1)))], []⟩)) (step := (fun s : Int => spec_l1Stands_loop1 _ _ s)) _ H (by kernel_rfl) (sub_auto ?_) ?_; rotate_left; (intro s1 r v hr H); rotate_right)
        | ((repeat (first | replace H := grd_k H | replace H := out_step H (by assumption))); refine again_step H (by assumption) (sub_auto ?_))
        | ((with_reducible refine fin_mk ?_); (repeat (first | replace H := grd_k H | replace H := out_step H (by assumption))); have H := Option.some.inj H; subst H))
    | constructor
def G7 : Env := G6.add 149 [] spec_l1Stands.S
theorem G7_ok : EnvOk Tryd.prog G7 := G6_ok.add ent_149 fun ar h r h1 ⟨a0, a1, y, hy, e1, e2, e3, e4⟩ => by
  subst e3 e4; exact (spec_l1Stands.spec a0 a1 y hy).le e1 e2
attribute [local irreducible] spec_l1Stands

noncomputable def spec_l27Good (a0 : LogRecord) : Option (Bool) :=
  (cond (!decide (a0.1 = (ByteArray.mk #[]))) ((spec_l27Plain a0.1 (160 : Int)).bind fun y1 => (cond y1 ((spec_l1Stands a0.1 (64 : Int)).bind fun y2 => (cond (!y2) ((spec_l27Plain a0.2.1 (200 : Int)).bind fun y3 => (some y3)) ((some false)))) ((some false)))) ((some false)))
def spec_l27Good.res (_ : LogRecord) (y : Bool) : AV := (.bl y)
def spec_l27Good.out (_ : LogRecord) (_ : Bool) : List (Option LB) := []
def spec_l27Good.S (ar : List AV) (h : List (Option LB)) (r : AV) (h1 : List (Option LB)) : Prop := ∃ a0 y, spec_l27Good a0 = some y ∧ leL ar [(.agg [(.v (.string a0.1)), (.v (.string a0.2.1))])] ∧ leH h [] ∧ r = spec_l27Good.res a0 y ∧ h1 = spec_l27Good.out a0 y
theorem spec_l27Good.call {ar : List AV} {h : List (Option LB)} {a0 : LogRecord} {y : Bool} (H : spec_l27Good a0 = some y) (h0 : leLk ar [(.agg [(.v (.string a0.1)), (.v (.string a0.2.1))])] (leHk h [])) : spec_l27Good.S ar h (spec_l27Good.res a0 y) (spec_l27Good.out a0 y) := ⟨a0, y, H, (args_ok h0).1, (args_ok h0).2, rfl, rfl⟩
set_option maxHeartbeats 100000000 in
set_option maxRecDepth 100000 in
theorem spec_l27Good.spec (a0 : LogRecord) (y : Bool) (H : spec_l27Good a0 = some y) : Spec Tryd.prog 122 [(.agg [(.v (.string a0.1)), (.v (.string a0.2.1))])] [] (spec_l27Good.res a0 y) (spec_l27Good.out a0 y) := by
  refine spec_intro (G7_ok.at tok []) (ct := []) Tryd.func122 rfl (by kernel_rfl) (by kernel_rfl) rfl ?_
  repeat' first
    | ((with_reducible refine eqg ?_); exact rfl)
    | ((with_reducible refine KOb.mk ?_); kernel_rfl)
    | ((with_reducible intro h); (repeat (first | replace H := grd_k H | replace H := out_step H (by assumption))); first | replace H := cond_t h H | replace H := cond_f h H | exact absurd h (by decide) | skip)
    | ((with_reducible refine Ob.mk ?_); first | (with_reducible rfl) | (first | ((repeat (first | (with_reducible exact grd_p H) | (replace H := grd_k H) | (replace H := out_step H (by assumption)))); done) | rfl | ((repeat (first | exact grd_p H | replace H := grd_k H | replace H := out_step H (by assumption))); done) | ((repeat (first | exact grd_p H | (have hp := grd_p H; exact hp) | replace H := grd_k H | replace H := out_step H (by assumption) | (replace H := bind_some H; obtain ⟨_, _, H⟩ := H))); done) | (repeat (first | exact grd_p H | replace H := grd_k H | replace H := out_step H (by assumption)))))
    | (with_reducible exact True.intro)
    | ((conv => whnf); first
        | (with_reducible refine And.intro ?_ ?_)
        | (with_reducible exact True.intro)
        | ((with_reducible refine Ob.mk ?_); first | (with_reducible rfl) | (first | ((repeat (first | (with_reducible exact grd_p H) | (replace H := grd_k H) | (replace H := out_step H (by assumption)))); done) | rfl | ((repeat (first | exact grd_p H | replace H := grd_k H | replace H := out_step H (by assumption))); done) | ((repeat (first | exact grd_p H | (have hp := grd_p H; exact hp) | replace H := grd_k H | replace H := out_step H (by assumption) | (replace H := bind_some H; obtain ⟨_, _, H⟩ := H))); done) | (repeat (first | exact grd_p H | replace H := grd_k H | replace H := out_step H (by assumption)))))
        | ((with_reducible refine CallW.mk ?_); (repeat (first | replace H := grd_k H | replace H := out_step H (by assumption))); replace H := bind_some H; obtain ⟨y, hy, H⟩ := H; first | ((with_reducible have hz : spec_l27Plain _ _ = some y := hy); clear hz; refine Exists.intro _ (Exists.intro _ ⟨spec_l27Plain.call hy ?_, rfl, rfl, ?_⟩)) | ((with_reducible have hz : spec_l1Stands _ _ = some y := hy); clear hz; refine Exists.intro _ (Exists.intro _ ⟨spec_l1Stands.call hy ?_, rfl, rfl, ?_⟩)))
        | ((with_reducible refine fin_mk ?_); (repeat (first | replace H := grd_k H | replace H := out_step H (by assumption))); have H := Option.some.inj H; subst H))
    | constructor
def G8 : Env := G7.add 122 [] spec_l27Good.S
theorem G8_ok : EnvOk Tryd.prog G8 := G7_ok.add ent_122 fun ar h r h1 ⟨a0, y, hy, e1, e2, e3, e4⟩ => by
  subst e3 e4; exact (spec_l27Good.spec a0 y hy).le e1 e2
attribute [local irreducible] spec_l27Good

noncomputable def spec_l1Sum_loop1 (a0 : ByteArray) (v3 : Int) (v4 : Int) : Option (Lp (Int × Int) ((Int))) :=
  (cond (decide (v4 < (a0.size : Int))) (grd (0 ≤ v4 ∧ v4 < (a0.size : Int)) (grd ((999979 : Int) ≠ 0) (some (.go ((Int.tmod (w64 ((w64 ((w64 ((41 : Int) * v3)) + (w64 (bAt a0 v4)))) + (1 : Int))) (999979 : Int)), (w64 (v4 + (1 : Int)))))))) ((some (.out v3))))
noncomputable def spec_l1Sum (a0 : ByteArray) : Option (Int) :=
  ((iter (fun s => spec_l1Sum_loop1 a0 s.1 s.2) ((7 : Int), (0 : Int))).bind (fun r5 => (some r5)))
def spec_l1Sum.res (_ : ByteArray) (y : Int) : AV := (.v (.int .i64 y))
def spec_l1Sum.out (_ : ByteArray) (_ : Int) : List (Option LB) := []
def spec_l1Sum.S (ar : List AV) (h : List (Option LB)) (r : AV) (h1 : List (Option LB)) : Prop := ∃ a0 y, spec_l1Sum a0 = some y ∧ leL ar [(.v (.string a0))] ∧ leH h [] ∧ r = spec_l1Sum.res a0 y ∧ h1 = spec_l1Sum.out a0 y
theorem spec_l1Sum.call {ar : List AV} {h : List (Option LB)} {a0 : ByteArray} {y : Int} (H : spec_l1Sum a0 = some y) (h0 : leLk ar [(.v (.string a0))] (leHk h [])) : spec_l1Sum.S ar h (spec_l1Sum.res a0 y) (spec_l1Sum.out a0 y) := ⟨a0, y, H, (args_ok h0).1, (args_ok h0).2, rfl, rfl⟩
set_option maxHeartbeats 100000000 in
set_option maxRecDepth 100000 in
theorem spec_l1Sum.spec (a0 : ByteArray) (y : Int) (H : spec_l1Sum a0 = some y) : Spec Tryd.prog 176 [(.v (.string a0))] [] (spec_l1Sum.res a0 y) (spec_l1Sum.out a0 y) := by
  refine spec_intro (G8_ok.at tok []) (ct := [(4, some [0, 3, 4])]) Tryd.func176 rfl (by kernel_rfl) (by kernel_rfl) rfl ?_
  repeat' first
    | ((with_reducible refine eqg ?_); exact rfl)
    | ((with_reducible refine KOb.mk ?_); kernel_rfl)
    | ((with_reducible intro h); (repeat (first | replace H := grd_k H | replace H := out_step H (by assumption))); first | replace H := cond_t h H | replace H := cond_f h H | exact absurd h (by decide) | skip)
    | ((with_reducible refine Ob.mk ?_); first | (with_reducible rfl) | (first | ((repeat (first | (with_reducible exact grd_p H) | (replace H := grd_k H) | (replace H := out_step H (by assumption)))); done) | rfl | ((repeat (first | exact grd_p H | replace H := grd_k H | replace H := out_step H (by assumption))); done) | ((repeat (first | exact grd_p H | (have hp := grd_p H; exact hp) | replace H := grd_k H | replace H := out_step H (by assumption) | (replace H := bind_some H; obtain ⟨_, _, H⟩ := H))); done) | (repeat (first | exact grd_p H | replace H := grd_k H | replace H := out_step H (by assumption)))))
    | (with_reducible exact True.intro)
    | ((conv => whnf); first
        | (with_reducible refine And.intro ?_ ?_)
        | (with_reducible exact True.intro)
        | ((with_reducible refine Ob.mk ?_); first | (with_reducible rfl) | (first | ((repeat (first | (with_reducible exact grd_p H) | (replace H := grd_k H) | (replace H := out_step H (by assumption)))); done) | rfl | ((repeat (first | exact grd_p H | replace H := grd_k H | replace H := out_step H (by assumption))); done) | ((repeat (first | exact grd_p H | (have hp := grd_p H; exact hp) | replace H := grd_k H | replace H := out_step H (by assumption) | (replace H := bind_some H; obtain ⟨_, _, H⟩ := H))); done) | (repeat (first | exact grd_p H | replace H := grd_k H | replace H := out_step H (by assumption)))))
        | ((repeat (first | replace H := grd_k H | replace H := out_step H (by assumption))); refine loop_iter (G8_ok.at tok []) (ct := [(4, some [0, 3, 4])]) (F := (fun s1 : Int × Int => ⟨sl [(0, (.v (.string a0))), (3, (.v (.int .i64 s1.1))), (4, (.v (.int .i64 s1.2)))], []⟩)) (step := (fun s : Int × Int => spec_l1Sum_loop1 _ s.1 s.2)) _ H (by kernel_rfl) (sub_auto ?_) ?_; rotate_left; (intro s1 r v hr H); rotate_right)
        | ((repeat (first | replace H := grd_k H | replace H := out_step H (by assumption))); refine again_step H (by assumption) (sub_auto ?_))
        | ((with_reducible refine fin_mk ?_); (repeat (first | replace H := grd_k H | replace H := out_step H (by assumption))); have H := Option.some.inj H; subst H))
    | constructor
def G9 : Env := G8.add 176 [] spec_l1Sum.S
theorem G9_ok : EnvOk Tryd.prog G9 := G8_ok.add ent_176 fun ar h r h1 ⟨a0, y, hy, e1, e2, e3, e4⟩ => by
  subst e3 e4; exact (spec_l1Sum.spec a0 y hy).le e1 e2
attribute [local irreducible] spec_l1Sum

noncomputable def spec_l1Seal (a0 : ByteArray) : Option (ByteArray) :=
  (grd (a0.size + (ByteArray.mk #[35]).size ≤ 9223372036854775807) ((spec_l1Sum a0).bind fun y1 => ((spec_l1Num y1).bind fun y2 => (grd ((a0 ++ (ByteArray.mk #[35])).size + y2.size ≤ 9223372036854775807) ((some ((a0 ++ (ByteArray.mk #[35])) ++ y2)))))))
def spec_l1Seal.res (_ : ByteArray) (y : ByteArray) : AV := (.v (.string y))
def spec_l1Seal.out (_ : ByteArray) (_ : ByteArray) : List (Option LB) := []
def spec_l1Seal.S (ar : List AV) (h : List (Option LB)) (r : AV) (h1 : List (Option LB)) : Prop := ∃ a0 y, spec_l1Seal a0 = some y ∧ leL ar [(.v (.string a0))] ∧ leH h [] ∧ r = spec_l1Seal.res a0 y ∧ h1 = spec_l1Seal.out a0 y
theorem spec_l1Seal.call {ar : List AV} {h : List (Option LB)} {a0 : ByteArray} {y : ByteArray} (H : spec_l1Seal a0 = some y) (h0 : leLk ar [(.v (.string a0))] (leHk h [])) : spec_l1Seal.S ar h (spec_l1Seal.res a0 y) (spec_l1Seal.out a0 y) := ⟨a0, y, H, (args_ok h0).1, (args_ok h0).2, rfl, rfl⟩
set_option maxHeartbeats 100000000 in
set_option maxRecDepth 100000 in
theorem spec_l1Seal.spec (a0 : ByteArray) (y : ByteArray) (H : spec_l1Seal a0 = some y) : Spec Tryd.prog 150 [(.v (.string a0))] [] (spec_l1Seal.res a0 y) (spec_l1Seal.out a0 y) := by
  refine spec_intro (G9_ok.at tok []) (ct := []) Tryd.func150 rfl (by kernel_rfl) (by kernel_rfl) rfl ?_
  repeat' first
    | ((with_reducible refine eqg ?_); exact rfl)
    | ((with_reducible refine KOb.mk ?_); kernel_rfl)
    | ((with_reducible intro h); (repeat (first | replace H := grd_k H | replace H := out_step H (by assumption))); first | replace H := cond_t h H | replace H := cond_f h H | exact absurd h (by decide) | skip)
    | ((with_reducible refine Ob.mk ?_); first | (with_reducible rfl) | (first | ((repeat (first | (with_reducible exact grd_p H) | (replace H := grd_k H) | (replace H := out_step H (by assumption)))); done) | rfl | ((repeat (first | exact grd_p H | replace H := grd_k H | replace H := out_step H (by assumption))); done) | ((repeat (first | exact grd_p H | (have hp := grd_p H; exact hp) | replace H := grd_k H | replace H := out_step H (by assumption) | (replace H := bind_some H; obtain ⟨_, _, H⟩ := H))); done) | (repeat (first | exact grd_p H | replace H := grd_k H | replace H := out_step H (by assumption)))))
    | (with_reducible exact True.intro)
    | ((conv => whnf); first
        | (with_reducible refine And.intro ?_ ?_)
        | (with_reducible exact True.intro)
        | ((with_reducible refine Ob.mk ?_); first | (with_reducible rfl) | (first | ((repeat (first | (with_reducible exact grd_p H) | (replace H := grd_k H) | (replace H := out_step H (by assumption)))); done) | rfl | ((repeat (first | exact grd_p H | replace H := grd_k H | replace H := out_step H (by assumption))); done) | ((repeat (first | exact grd_p H | (have hp := grd_p H; exact hp) | replace H := grd_k H | replace H := out_step H (by assumption) | (replace H := bind_some H; obtain ⟨_, _, H⟩ := H))); done) | (repeat (first | exact grd_p H | replace H := grd_k H | replace H := out_step H (by assumption)))))
        | ((with_reducible refine CallW.mk ?_); (repeat (first | replace H := grd_k H | replace H := out_step H (by assumption))); replace H := bind_some H; obtain ⟨y, hy, H⟩ := H; first | ((with_reducible have hz : spec_l1Sum _ = some y := hy); clear hz; refine Exists.intro _ (Exists.intro _ ⟨spec_l1Sum.call hy ?_, rfl, rfl, ?_⟩)) | ((with_reducible have hz : spec_l1Num _ = some y := hy); clear hz; refine Exists.intro _ (Exists.intro _ ⟨spec_l1Num.call hy ?_, rfl, rfl, ?_⟩)))
        | ((with_reducible refine fin_mk ?_); (repeat (first | replace H := grd_k H | replace H := out_step H (by assumption))); have H := Option.some.inj H; subst H))
    | constructor
def G10 : Env := G9.add 150 [] spec_l1Seal.S
theorem G10_ok : EnvOk Tryd.prog G10 := G9_ok.add ent_150 fun ar h r h1 ⟨a0, y, hy, e1, e2, e3, e4⟩ => by
  subst e3 e4; exact (spec_l1Seal.spec a0 y hy).le e1 e2
attribute [local irreducible] spec_l1Seal

noncomputable def spec_l27Line (a0 : Int) (a1 : LogRecord) : Option (ByteArray) :=
  ((spec_l1Num a0).bind fun y1 => (grd (y1.size + (ByteArray.mk #[32]).size ≤ 9223372036854775807) (grd ((y1 ++ (ByteArray.mk #[32])).size + a1.1.size ≤ 9223372036854775807) (grd (((y1 ++ (ByteArray.mk #[32])) ++ a1.1).size + (ByteArray.mk #[64]).size ≤ 9223372036854775807) (grd ((((y1 ++ (ByteArray.mk #[32])) ++ a1.1) ++ (ByteArray.mk #[64])).size + a1.2.1.size ≤ 9223372036854775807) ((spec_l1Seal ((((y1 ++ (ByteArray.mk #[32])) ++ a1.1) ++ (ByteArray.mk #[64])) ++ a1.2.1)).bind fun y2 => (grd (y2.size + (ByteArray.mk #[10]).size ≤ 9223372036854775807) ((some (y2 ++ (ByteArray.mk #[10])))))))))))
def spec_l27Line.res (_ : Int) (_ : LogRecord) (y : ByteArray) : AV := (.v (.string y))
def spec_l27Line.out (_ : Int) (_ : LogRecord) (_ : ByteArray) : List (Option LB) := []
def spec_l27Line.S (ar : List AV) (h : List (Option LB)) (r : AV) (h1 : List (Option LB)) : Prop := ∃ a0 a1 y, spec_l27Line a0 a1 = some y ∧ leL ar [(.v (.int .i64 a0)), (.agg [(.v (.string a1.1)), (.v (.string a1.2.1))])] ∧ leH h [] ∧ r = spec_l27Line.res a0 a1 y ∧ h1 = spec_l27Line.out a0 a1 y
theorem spec_l27Line.call {ar : List AV} {h : List (Option LB)} {a0 : Int} {a1 : LogRecord} {y : ByteArray} (H : spec_l27Line a0 a1 = some y) (h0 : leLk ar [(.v (.int .i64 a0)), (.agg [(.v (.string a1.1)), (.v (.string a1.2.1))])] (leHk h [])) : spec_l27Line.S ar h (spec_l27Line.res a0 a1 y) (spec_l27Line.out a0 a1 y) := ⟨a0, a1, y, H, (args_ok h0).1, (args_ok h0).2, rfl, rfl⟩
set_option maxHeartbeats 100000000 in
set_option maxRecDepth 100000 in
theorem spec_l27Line.spec (a0 : Int) (a1 : LogRecord) (y : ByteArray) (H : spec_l27Line a0 a1 = some y) : Spec Tryd.prog 123 [(.v (.int .i64 a0)), (.agg [(.v (.string a1.1)), (.v (.string a1.2.1))])] [] (spec_l27Line.res a0 a1 y) (spec_l27Line.out a0 a1 y) := by
  refine spec_intro (G10_ok.at tok []) (ct := []) Tryd.func123 rfl (by kernel_rfl) (by kernel_rfl) rfl ?_
  repeat' first
    | ((with_reducible refine eqg ?_); exact rfl)
    | ((with_reducible refine KOb.mk ?_); kernel_rfl)
    | ((with_reducible intro h); (repeat (first | replace H := grd_k H | replace H := out_step H (by assumption))); first | replace H := cond_t h H | replace H := cond_f h H | exact absurd h (by decide) | skip)
    | ((with_reducible refine Ob.mk ?_); first | (with_reducible rfl) | (first | ((repeat (first | (with_reducible exact grd_p H) | (replace H := grd_k H) | (replace H := out_step H (by assumption)))); done) | rfl | ((repeat (first | exact grd_p H | replace H := grd_k H | replace H := out_step H (by assumption))); done) | ((repeat (first | exact grd_p H | (have hp := grd_p H; exact hp) | replace H := grd_k H | replace H := out_step H (by assumption) | (replace H := bind_some H; obtain ⟨_, _, H⟩ := H))); done) | (repeat (first | exact grd_p H | replace H := grd_k H | replace H := out_step H (by assumption)))))
    | (with_reducible exact True.intro)
    | ((conv => whnf); first
        | (with_reducible refine And.intro ?_ ?_)
        | (with_reducible exact True.intro)
        | ((with_reducible refine Ob.mk ?_); first | (with_reducible rfl) | (first | ((repeat (first | (with_reducible exact grd_p H) | (replace H := grd_k H) | (replace H := out_step H (by assumption)))); done) | rfl | ((repeat (first | exact grd_p H | replace H := grd_k H | replace H := out_step H (by assumption))); done) | ((repeat (first | exact grd_p H | (have hp := grd_p H; exact hp) | replace H := grd_k H | replace H := out_step H (by assumption) | (replace H := bind_some H; obtain ⟨_, _, H⟩ := H))); done) | (repeat (first | exact grd_p H | replace H := grd_k H | replace H := out_step H (by assumption)))))
        | ((with_reducible refine CallW.mk ?_); (repeat (first | replace H := grd_k H | replace H := out_step H (by assumption))); replace H := bind_some H; obtain ⟨y, hy, H⟩ := H; first | ((with_reducible have hz : spec_l1Num _ = some y := hy); clear hz; refine Exists.intro _ (Exists.intro _ ⟨spec_l1Num.call hy ?_, rfl, rfl, ?_⟩)) | ((with_reducible have hz : spec_l1Seal _ = some y := hy); clear hz; refine Exists.intro _ (Exists.intro _ ⟨spec_l1Seal.call hy ?_, rfl, rfl, ?_⟩)))
        | ((with_reducible refine fin_mk ?_); (repeat (first | replace H := grd_k H | replace H := out_step H (by assumption))); have H := Option.some.inj H; subst H))
    | constructor
def G11 : Env := G10.add 123 [] spec_l27Line.S
theorem G11_ok : EnvOk Tryd.prog G11 := G10_ok.add ent_123 fun ar h r h1 ⟨a0, a1, y, hy, e1, e2, e3, e4⟩ => by
  subst e3 e4; exact (spec_l27Line.spec a0 a1 y hy).le e1 e2
attribute [local irreducible] spec_l27Line

noncomputable def spec_l27Read (a0 : ByteArray) (a1 : Int) : Option (LogRecord × Bool) :=
  ((spec_l1Num a1).bind fun y1 => (grd (y1.size + (ByteArray.mk #[32]).size ≤ 9223372036854775807) ((spec_l1Split a0 (35 : Int)).bind fun y2 => (grd (0 ≤ (0 : Int) ∧ (0 : Int) < (y2.length : Int)) (cond (decide (((y2.getD ((0 : Int).toNat) (ByteArray.mk #[])).size : Int) < ((y1 ++ (ByteArray.mk #[32])).size : Int))) ((some (((ByteArray.mk #[]), (ByteArray.mk #[]), ()), false))) (grd (0 ≤ (0 : Int) ∧ (0 : Int) ≤ ((y1 ++ (ByteArray.mk #[32])).size : Int) ∧ ((y1 ++ (ByteArray.mk #[32])).size : Int) ≤ ((y2.getD ((0 : Int).toNat) (ByteArray.mk #[])).size : Int)) (cond (!decide ((bsub (y2.getD ((0 : Int).toNat) (ByteArray.mk #[])) (0 : Int) ((y1 ++ (ByteArray.mk #[32])).size : Int)) = (y1 ++ (ByteArray.mk #[32])))) ((some (((ByteArray.mk #[]), (ByteArray.mk #[]), ()), false))) (grd (0 ≤ ((y1 ++ (ByteArray.mk #[32])).size : Int) ∧ ((y1 ++ (ByteArray.mk #[32])).size : Int) ≤ ((y2.getD ((0 : Int).toNat) (ByteArray.mk #[])).size : Int) ∧ ((y2.getD ((0 : Int).toNat) (ByteArray.mk #[])).size : Int) ≤ ((y2.getD ((0 : Int).toNat) (ByteArray.mk #[])).size : Int)) ((spec_l1Split (bsub (y2.getD ((0 : Int).toNat) (ByteArray.mk #[])) ((y1 ++ (ByteArray.mk #[32])).size : Int) ((y2.getD ((0 : Int).toNat) (ByteArray.mk #[])).size : Int)) (64 : Int)).bind fun y3 => (grd (0 ≤ (0 : Int) ∧ (0 : Int) < (y3.length : Int)) (cond (decide (((y3.getD ((0 : Int).toNat) (ByteArray.mk #[])).size : Int) = ((bsub (y2.getD ((0 : Int).toNat) (ByteArray.mk #[])) ((y1 ++ (ByteArray.mk #[32])).size : Int) ((y2.getD ((0 : Int).toNat) (ByteArray.mk #[])).size : Int)).size : Int))) ((some (((ByteArray.mk #[]), (ByteArray.mk #[]), ()), false))) (grd (0 ≤ (w64 (((y3.getD ((0 : Int).toNat) (ByteArray.mk #[])).size : Int) + (1 : Int))) ∧ (w64 (((y3.getD ((0 : Int).toNat) (ByteArray.mk #[])).size : Int) + (1 : Int))) ≤ ((bsub (y2.getD ((0 : Int).toNat) (ByteArray.mk #[])) ((y1 ++ (ByteArray.mk #[32])).size : Int) ((y2.getD ((0 : Int).toNat) (ByteArray.mk #[])).size : Int)).size : Int) ∧ ((bsub (y2.getD ((0 : Int).toNat) (ByteArray.mk #[])) ((y1 ++ (ByteArray.mk #[32])).size : Int) ((y2.getD ((0 : Int).toNat) (ByteArray.mk #[])).size : Int)).size : Int) ≤ ((bsub (y2.getD ((0 : Int).toNat) (ByteArray.mk #[])) ((y1 ++ (ByteArray.mk #[32])).size : Int) ((y2.getD ((0 : Int).toNat) (ByteArray.mk #[])).size : Int)).size : Int)) ((spec_l27Good ((y3.getD ((0 : Int).toNat) (ByteArray.mk #[])), (bsub (bsub (y2.getD ((0 : Int).toNat) (ByteArray.mk #[])) ((y1 ++ (ByteArray.mk #[32])).size : Int) ((y2.getD ((0 : Int).toNat) (ByteArray.mk #[])).size : Int)) (w64 (((y3.getD ((0 : Int).toNat) (ByteArray.mk #[])).size : Int) + (1 : Int))) ((bsub (y2.getD ((0 : Int).toNat) (ByteArray.mk #[])) ((y1 ++ (ByteArray.mk #[32])).size : Int) ((y2.getD ((0 : Int).toNat) (ByteArray.mk #[])).size : Int)).size : Int)), ())).bind fun y4 => (cond y4 ((spec_l27Line a1 ((y3.getD ((0 : Int).toNat) (ByteArray.mk #[])), (bsub (bsub (y2.getD ((0 : Int).toNat) (ByteArray.mk #[])) ((y1 ++ (ByteArray.mk #[32])).size : Int) ((y2.getD ((0 : Int).toNat) (ByteArray.mk #[])).size : Int)) (w64 (((y3.getD ((0 : Int).toNat) (ByteArray.mk #[])).size : Int) + (1 : Int))) ((bsub (y2.getD ((0 : Int).toNat) (ByteArray.mk #[])) ((y1 ++ (ByteArray.mk #[32])).size : Int) ((y2.getD ((0 : Int).toNat) (ByteArray.mk #[])).size : Int)).size : Int)), ())).bind fun y5 => (grd (a0.size + (ByteArray.mk #[10]).size ≤ 9223372036854775807) ((some (((y3.getD ((0 : Int).toNat) (ByteArray.mk #[])), (bsub (bsub (y2.getD ((0 : Int).toNat) (ByteArray.mk #[])) ((y1 ++ (ByteArray.mk #[32])).size : Int) ((y2.getD ((0 : Int).toNat) (ByteArray.mk #[])).size : Int)) (w64 (((y3.getD ((0 : Int).toNat) (ByteArray.mk #[])).size : Int) + (1 : Int))) ((bsub (y2.getD ((0 : Int).toNat) (ByteArray.mk #[])) ((y1 ++ (ByteArray.mk #[32])).size : Int) ((y2.getD ((0 : Int).toNat) (ByteArray.mk #[])).size : Int)).size : Int)), ()), (decide (y5 = (a0 ++ (ByteArray.mk #[10]))))))))) ((some (((y3.getD ((0 : Int).toNat) (ByteArray.mk #[])), (bsub (bsub (y2.getD ((0 : Int).toNat) (ByteArray.mk #[])) ((y1 ++ (ByteArray.mk #[32])).size : Int) ((y2.getD ((0 : Int).toNat) (ByteArray.mk #[])).size : Int)) (w64 (((y3.getD ((0 : Int).toNat) (ByteArray.mk #[])).size : Int) + (1 : Int))) ((bsub (y2.getD ((0 : Int).toNat) (ByteArray.mk #[])) ((y1 ++ (ByteArray.mk #[32])).size : Int) ((y2.getD ((0 : Int).toNat) (ByteArray.mk #[])).size : Int)).size : Int)), ()), false)))))))))))))))))
def spec_l27Read.res (_ : ByteArray) (_ : Int) (y : LogRecord × Bool) : AV := (.tup [(.agg [(.v (.string y.1.1)), (.v (.string y.1.2.1))]), (.bl y.2)])
def spec_l27Read.out (_ : ByteArray) (_ : Int) (_ : LogRecord × Bool) : List (Option LB) := []
def spec_l27Read.S (ar : List AV) (h : List (Option LB)) (r : AV) (h1 : List (Option LB)) : Prop := ∃ a0 a1 y, spec_l27Read a0 a1 = some y ∧ leL ar [(.v (.string a0)), (.v (.int .i64 a1))] ∧ leH h [] ∧ r = spec_l27Read.res a0 a1 y ∧ h1 = spec_l27Read.out a0 a1 y
theorem spec_l27Read.call {ar : List AV} {h : List (Option LB)} {a0 : ByteArray} {a1 : Int} {y : LogRecord × Bool} (H : spec_l27Read a0 a1 = some y) (h0 : leLk ar [(.v (.string a0)), (.v (.int .i64 a1))] (leHk h [])) : spec_l27Read.S ar h (spec_l27Read.res a0 a1 y) (spec_l27Read.out a0 a1 y) := ⟨a0, a1, y, H, (args_ok h0).1, (args_ok h0).2, rfl, rfl⟩
set_option maxHeartbeats 100000000 in
set_option maxRecDepth 100000 in
theorem spec_l27Read.spec (a0 : ByteArray) (a1 : Int) (y : LogRecord × Bool) (H : spec_l27Read a0 a1 = some y) : Spec Tryd.prog 100 [(.v (.string a0)), (.v (.int .i64 a1))] [] (spec_l27Read.res a0 a1 y) (spec_l27Read.out a0 a1 y) := by
  refine spec_intro (G11_ok.at tok []) (ct := [(4, some [0, 1, 4, 6, 7, 30, 57, 58, 59, 60, 61, 62]), (8, some [0, 1, 4, 8, 9, 44, 57, 58, 59, 60, 61, 62])]) Tryd.func100 rfl (by kernel_rfl) (by kernel_rfl) rfl ?_
  repeat' first
    | ((with_reducible refine eqg ?_); exact rfl)
    | ((with_reducible refine KOb.mk ?_); kernel_rfl)
    | ((with_reducible intro h); (repeat (first | replace H := grd_k H | replace H := out_step H (by assumption))); first | replace H := cond_t h H | replace H := cond_f h H | exact absurd h (by decide) | skip)
    | ((with_reducible refine Ob.mk ?_); first | (with_reducible rfl) | (first | ((repeat (first | (with_reducible exact grd_p H) | (replace H := grd_k H) | (replace H := out_step H (by assumption)))); done) | rfl | ((repeat (first | exact grd_p H | replace H := grd_k H | replace H := out_step H (by assumption))); done) | ((repeat (first | exact grd_p H | (have hp := grd_p H; exact hp) | replace H := grd_k H | replace H := out_step H (by assumption) | (replace H := bind_some H; obtain ⟨_, _, H⟩ := H))); done) | (repeat (first | exact grd_p H | replace H := grd_k H | replace H := out_step H (by assumption)))))
    | (with_reducible exact True.intro)
    | ((conv => whnf); first
        | (with_reducible refine And.intro ?_ ?_)
        | (with_reducible exact True.intro)
        | ((with_reducible refine Ob.mk ?_); first | (with_reducible rfl) | (first | ((repeat (first | (with_reducible exact grd_p H) | (replace H := grd_k H) | (replace H := out_step H (by assumption)))); done) | rfl | ((repeat (first | exact grd_p H | replace H := grd_k H | replace H := out_step H (by assumption))); done) | ((repeat (first | exact grd_p H | (have hp := grd_p H; exact hp) | replace H := grd_k H | replace H := out_step H (by assumption) | (replace H := bind_some H; obtain ⟨_, _, H⟩ := H))); done) | (repeat (first | exact grd_p H | replace H := grd_k H | replace H := out_step H (by assumption)))))
        | ((with_reducible refine CallW.mk ?_); (repeat (first | replace H := grd_k H | replace H := out_step H (by assumption))); replace H := bind_some H; obtain ⟨y, hy, H⟩ := H; first | ((with_reducible have hz : spec_l1Num _ = some y := hy); clear hz; refine Exists.intro _ (Exists.intro _ ⟨spec_l1Num.call hy ?_, rfl, rfl, ?_⟩)) | ((with_reducible have hz : spec_l1Split _ _ = some y := hy); clear hz; refine Exists.intro _ (Exists.intro _ ⟨spec_l1Split.call hy ?_, rfl, rfl, ?_⟩)) | ((with_reducible have hz : spec_l27Good _ = some y := hy); clear hz; refine Exists.intro _ (Exists.intro _ ⟨spec_l27Good.call hy ?_, rfl, rfl, ?_⟩)) | ((with_reducible have hz : spec_l27Line _ _ = some y := hy); clear hz; refine Exists.intro _ (Exists.intro _ ⟨spec_l27Line.call hy ?_, rfl, rfl, ?_⟩)))
        | ((with_reducible refine fin_mk ?_); (repeat (first | replace H := grd_k H | replace H := out_step H (by assumption))); have H := Option.some.inj H; subst H))
    | constructor
def G12 : Env := G11.add 100 [] spec_l27Read.S
theorem G12_ok : EnvOk Tryd.prog G12 := G11_ok.add ent_100 fun ar h r h1 ⟨a0, a1, y, hy, e1, e2, e3, e4⟩ => by
  subst e3 e4; exact (spec_l27Read.spec a0 a1 y hy).le e1 e2
attribute [local irreducible] spec_l27Read

end Go.Proofs.YtppiaacfnoifkaaDoor
