/-
  Contracts, printed by a program.
-/
import Derived.Test.YteckiilljhdkpaaC302
namespace Go.Proofs.Yteckiilljhdkpaa
open Go.RowKit
attribute [local irreducible] Ob loopwp Sub Spec Fin Again CallW CutC KOb iter joinx outm

attribute [local irreducible] laws_szDayRow laws_szDayRowS laws_toDayRow laws_toDayRowS spec_l1In spec_l2Word spec_l26One spec_l26Good spec_LeftBehind impl_within impl_isDay impl_isWord impl_IsDayRow impl_AreDayRows impl_LeftBehind laws_eqIntS laws_eqDayRow laws_eqDayRowS laws_markText laws_markDayRowS

noncomputable def laws_markIntS_loop1  (v4 : Int) (v5 : Int) (v6 : (List Int)) : Option (Lp (Int × Int × (List Int)) ((Int × (List Int)))) :=
  (cond (decide (v5 < (v6.length : Int))) (grd (0 ≤ v5 ∧ v5 < (v6.length : Int)) (some (.go ((w64 (v4 + (1 : Int))), (w64 (v5 + (1 : Int))), (v6.set v5.toNat v4))))) ((some (.out (v4, v6)))))
noncomputable def laws_markIntS (a0 : (List Int)) (a1 : Int) : Option (Int × (List Int)) :=
  ((iter (fun s => laws_markIntS_loop1 s.1 s.2.1 s.2.2) (a1, (0 : Int), a0)).bind (fun r7 => (some (r7.1, r7.2))))
def laws_markIntS.res (_ : (List Int)) (_ : Int) (y : Int × (List Int)) : AV := (.v (.int .i64 y.1))
def laws_markIntS.out (_ : (List Int)) (_ : Int) (y : Int × (List Int)) : List (Option LB) := [some (.arr 3 (.int .i64) y.2)]
def laws_markIntS.S (ar : List AV) (h : List (Option LB)) (r : AV) (h1 : List (Option LB)) : Prop := ∃ a0 a1 y, laws_markIntS a0 a1 = some y ∧ leL ar [(.own 0), (.v (.int .i64 a1))] ∧ leH h [some (.arr 3 (.int .i64) a0)] ∧ r = laws_markIntS.res a0 a1 y ∧ h1 = laws_markIntS.out a0 a1 y
theorem laws_markIntS.call {ar : List AV} {h : List (Option LB)} {a0 : (List Int)} {a1 : Int} {y : Int × (List Int)} (H : laws_markIntS a0 a1 = some y) (h0 : leLk ar [(.own 0), (.v (.int .i64 a1))] (leHk h [some (.arr 3 (.int .i64) a0)])) : laws_markIntS.S ar h (laws_markIntS.res a0 a1 y) (laws_markIntS.out a0 a1 y) := ⟨a0, a1, y, H, (args_ok h0).1, (args_ok h0).2, rfl, rfl⟩
set_option maxHeartbeats 100000000 in
set_option maxRecDepth 100000 in
theorem laws_markIntS.spec (a0 : (List Int)) (a1 : Int) (y : Int × (List Int)) (H : laws_markIntS a0 a1 = some y) : Spec Try.prog 14 [(.own 0), (.v (.int .i64 a1))] [some (.arr 3 (.int .i64) a0)] (laws_markIntS.res a0 a1 y) (laws_markIntS.out a0 a1 y) := by
  refine spec_intro (G20_ok.at tok []) (ct := []) Try.func14 rfl (by kernel_rfl) (by kernel_rfl) rfl ?_
  repeat' first
    | ((with_reducible refine eqg ?_); exact rfl)
    | ((with_reducible refine KOb.mk ?_); kernel_rfl)
    | ((with_reducible intro h); (repeat (first | replace H := grd_k H | replace H := out_step H (by assumption))); first | replace H := cond_t h H | replace H := cond_f h H | exact absurd h (by decide) | skip)
    | ((with_reducible refine Ob.mk ?_); first | (with_reducible rfl) | (first | ((repeat (first | (with_reducible exact grd_p H) | (replace H := grd_k H) | (replace H := out_step H (by assumption)))); done) | rfl | ((repeat (first | exact grd_p H | replace H := grd_k H | replace H := out_step H (by assumption))); done) | ((repeat (first | exact grd_p H | (have hp := grd_p H; exact hp) | replace H := grd_k H | replace H := out_step H (by assumption) | (replace H := bind_some H; obtain ⟨_, _, H⟩ := H))); done) | (repeat (first | exact grd_p H | replace H := grd_k H | replace H := out_step H (by assumption)))))
    | (with_reducible exact True.intro)
    | constructor
    | ((conv => whnf); first
        | ((with_reducible refine Ob.mk ?_); first | (with_reducible rfl) | (first | ((repeat (first | (with_reducible exact grd_p H) | (replace H := grd_k H) | (replace H := out_step H (by assumption)))); done) | rfl | ((repeat (first | exact grd_p H | replace H := grd_k H | replace H := out_step H (by assumption))); done) | ((repeat (first | exact grd_p H | (have hp := grd_p H; exact hp) | replace H := grd_k H | replace H := out_step H (by assumption) | (replace H := bind_some H; obtain ⟨_, _, H⟩ := H))); done) | (repeat (first | exact grd_p H | replace H := grd_k H | replace H := out_step H (by assumption)))))
        | ((repeat (first | replace H := grd_k H | replace H := out_step H (by assumption))); refine loop_iter (G20_ok.at tok []) (ct := []) (F := (fun s1 : Int × Int × (List Int) => ⟨sl [(0, (.own 0)), (1, (.v (.int .i64 s1.1))), (5, (.v (.int .i64 s1.2.1)))], [some (.arr 3 (.int .i64) s1.2.2)]⟩)) (step := (fun s : Int × Int × (List Int) => laws_markIntS_loop1 s.1 s.2.1 s.2.2)) _ H (by kernel_rfl) (sub_auto ?_) ?_; rotate_left; (intro s1 r v hr H); rotate_right)
        | ((repeat (first | replace H := grd_k H | replace H := out_step H (by assumption))); refine again_step H (by assumption) (sub_auto ?_))
        | ((with_reducible refine fin_mk ?_); (repeat (first | replace H := grd_k H | replace H := out_step H (by assumption))); have H := Option.some.inj H; subst H))
def G21 : Env := G20.add 14 [true] laws_markIntS.S
theorem G21_ok : EnvOk Try.prog G21 := G20_ok.add ent_14 fun ar h r h1 ⟨a0, a1, y, hy, e1, e2, e3, e4⟩ => by
  subst e3 e4; exact (laws_markIntS.spec a0 a1 y hy).le e1 e2
attribute [local irreducible] laws_markIntS

noncomputable def laws_heldIntS_loop1 (a0 : (List Int)) (v3 : Int) (v4 : Int) : Option (Lp (Int × Int) ((Unit) ⊕ (Int))) :=
  (cond (decide (v4 < (a0.length : Int))) (grd (0 ≤ v4 ∧ v4 < (a0.length : Int)) (cond (!decide ((a0.getD v4.toNat 0) = v3)) ((some (.out (Sum.inl ())))) (some (.go ((w64 (v3 + (1 : Int))), (w64 (v4 + (1 : Int)))))))) ((some (.out (Sum.inr v3)))))
noncomputable def laws_heldIntS (a0 : (List Int)) (a1 : Int) : Option (Int) :=
  ((iter (fun s => laws_heldIntS_loop1 a0 s.1 s.2) (a1, (0 : Int))).bind (Sum.elim (fun _ => (some ((-1) : Int))) (fun r7 => (some r7))))
def laws_heldIntS.res (_ : (List Int)) (_ : Int) (y : Int) : AV := (.v (.int .i64 y))
def laws_heldIntS.out (_ : (List Int)) (_ : Int) (_ : Int) : List (Option LB) := []
def laws_heldIntS.S (ar : List AV) (h : List (Option LB)) (r : AV) (h1 : List (Option LB)) : Prop := ∃ a0 a1 y, laws_heldIntS a0 a1 = some y ∧ leL ar [(.tree (.int .i64) a0), (.v (.int .i64 a1))] ∧ leH h [] ∧ r = laws_heldIntS.res a0 a1 y ∧ h1 = laws_heldIntS.out a0 a1 y
theorem laws_heldIntS.call {ar : List AV} {h : List (Option LB)} {a0 : (List Int)} {a1 : Int} {y : Int} (H : laws_heldIntS a0 a1 = some y) (h0 : leLk ar [(.tree (.int .i64) a0), (.v (.int .i64 a1))] (leHk h [])) : laws_heldIntS.S ar h (laws_heldIntS.res a0 a1 y) (laws_heldIntS.out a0 a1 y) := ⟨a0, a1, y, H, (args_ok h0).1, (args_ok h0).2, rfl, rfl⟩
set_option maxHeartbeats 100000000 in
set_option maxRecDepth 100000 in
theorem laws_heldIntS.spec (a0 : (List Int)) (a1 : Int) (y : Int) (H : laws_heldIntS a0 a1 = some y) : Spec Try.prog 15 [(.tree (.int .i64) a0), (.v (.int .i64 a1))] [] (laws_heldIntS.res a0 a1 y) (laws_heldIntS.out a0 a1 y) := by
  refine spec_intro (G21_ok.at tok []) (ct := [(3, some [0, 1, 5])]) Try.func15 rfl (by kernel_rfl) (by kernel_rfl) rfl ?_
  repeat' first
    | ((with_reducible refine eqg ?_); exact rfl)
    | ((with_reducible refine KOb.mk ?_); kernel_rfl)
    | ((with_reducible intro h); (repeat (first | replace H := grd_k H | replace H := out_step H (by assumption))); first | replace H := cond_t h H | replace H := cond_f h H | exact absurd h (by decide) | skip)
    | ((with_reducible refine Ob.mk ?_); first | (with_reducible rfl) | (first | ((repeat (first | (with_reducible exact grd_p H) | (replace H := grd_k H) | (replace H := out_step H (by assumption)))); done) | rfl | ((repeat (first | exact grd_p H | replace H := grd_k H | replace H := out_step H (by assumption))); done) | ((repeat (first | exact grd_p H | (have hp := grd_p H; exact hp) | replace H := grd_k H | replace H := out_step H (by assumption) | (replace H := bind_some H; obtain ⟨_, _, H⟩ := H))); done) | (repeat (first | exact grd_p H | replace H := grd_k H | replace H := out_step H (by assumption)))))
    | (with_reducible exact True.intro)
    | constructor
    | ((conv => whnf); first
        | ((with_reducible refine Ob.mk ?_); first | (with_reducible rfl) | (first | ((repeat (first | (with_reducible exact grd_p H) | (replace H := grd_k H) | (replace H := out_step H (by assumption)))); done) | rfl | ((repeat (first | exact grd_p H | replace H := grd_k H | replace H := out_step H (by assumption))); done) | ((repeat (first | exact grd_p H | (have hp := grd_p H; exact hp) | replace H := grd_k H | replace H := out_step H (by assumption) | (replace H := bind_some H; obtain ⟨_, _, H⟩ := H))); done) | (repeat (first | exact grd_p H | replace H := grd_k H | replace H := out_step H (by assumption)))))
        | ((repeat (first | replace H := grd_k H | replace H := out_step H (by assumption))); refine loop_iter (G21_ok.at tok []) (ct := [(3, some [0, 1, 5])]) (F := (fun s1 : Int × Int => ⟨sl [(0, (.tree (.int .i64) a0)), (1, (.v (.int .i64 s1.1))), (5, (.v (.int .i64 s1.2)))], []⟩)) (step := (fun s : Int × Int => laws_heldIntS_loop1 _ s.1 s.2)) _ H (by kernel_rfl) (sub_auto ?_) ?_; rotate_left; (intro s1 r v hr H); rotate_right)
        | ((repeat (first | replace H := grd_k H | replace H := out_step H (by assumption))); refine again_step H (by assumption) (sub_auto ?_))
        | ((with_reducible refine fin_mk ?_); (repeat (first | replace H := grd_k H | replace H := out_step H (by assumption))); have H := Option.some.inj H; subst H))
def G22 : Env := G21.add 15 [] laws_heldIntS.S
theorem G22_ok : EnvOk Try.prog G22 := G21_ok.add ent_15 fun ar h r h1 ⟨a0, a1, y, hy, e1, e2, e3, e4⟩ => by
  subst e3 e4; exact (laws_heldIntS.spec a0 a1 y hy).le e1 e2
attribute [local irreducible] laws_heldIntS

noncomputable def laws_markIntS_i1_loop1   : Option (Lp (Unit) ((Unit))) :=
  (some (.out ()))
noncomputable def laws_markIntS_i1 (a1 : Int) : Option (Int) :=
  ((iter (fun _ => laws_markIntS_i1_loop1) ()).bind (fun _ => (some a1)))
def laws_markIntS_i1.res (_ : Int) (y : Int) : AV := (.v (.int .i64 y))
def laws_markIntS_i1.out (_ : Int) (_ : Int) : List (Option LB) := []
def laws_markIntS_i1.S (ar : List AV) (h : List (Option LB)) (r : AV) (h1 : List (Option LB)) : Prop := ∃ a1 y, laws_markIntS_i1 a1 = some y ∧ leL ar [(.v (.slice none 0 0)), (.v (.int .i64 a1))] ∧ leH h [] ∧ r = laws_markIntS_i1.res a1 y ∧ h1 = laws_markIntS_i1.out a1 y
theorem laws_markIntS_i1.call {ar : List AV} {h : List (Option LB)} {a1 : Int} {y : Int} (H : laws_markIntS_i1 a1 = some y) (h0 : leLk ar [(.v (.slice none 0 0)), (.v (.int .i64 a1))] (leHk h [])) : laws_markIntS_i1.S ar h (laws_markIntS_i1.res a1 y) (laws_markIntS_i1.out a1 y) := ⟨a1, y, H, (args_ok h0).1, (args_ok h0).2, rfl, rfl⟩
set_option maxHeartbeats 100000000 in
set_option maxRecDepth 100000 in
theorem laws_markIntS_i1.spec (a1 : Int) (y : Int) (H : laws_markIntS_i1 a1 = some y) : Spec Try.prog 14 [(.v (.slice none 0 0)), (.v (.int .i64 a1))] [] (laws_markIntS_i1.res a1 y) (laws_markIntS_i1.out a1 y) := by
  refine spec_intro (G22_ok.at tok []) (ct := []) Try.func14 rfl (by kernel_rfl) (by kernel_rfl) rfl ?_
  repeat' first
    | ((with_reducible refine eqg ?_); exact rfl)
    | ((with_reducible refine KOb.mk ?_); kernel_rfl)
    | ((with_reducible intro h); (repeat (first | replace H := grd_k H | replace H := out_step H (by assumption))); first | replace H := cond_t h H | replace H := cond_f h H | exact absurd h (by decide) | skip)
    | ((with_reducible refine Ob.mk ?_); first | (with_reducible rfl) | (first | ((repeat (first | (with_reducible exact grd_p H) | (replace H := grd_k H) | (replace H := out_step H (by assumption)))); done) | rfl | ((repeat (first | exact grd_p H | replace H := grd_k H | replace H := out_step H (by assumption))); done) | ((repeat (first | exact grd_p H | (have hp := grd_p H; exact hp) | replace H := grd_k H | replace H := out_step H (by assumption) | (replace H := bind_some H; obtain ⟨_, _, H⟩ := H))); done) | (repeat (first | exact grd_p H | replace H := grd_k H | replace H := out_step H (by assumption)))))
    | (with_reducible exact True.intro)
    | constructor
    | ((conv => whnf); first
        | ((with_reducible refine Ob.mk ?_); first | (with_reducible rfl) | (first | ((repeat (first | (with_reducible exact grd_p H) | (replace H := grd_k H) | (replace H := out_step H (by assumption)))); done) | rfl | ((repeat (first | exact grd_p H | replace H := grd_k H | replace H := out_step H (by assumption))); done) | ((repeat (first | exact grd_p H | (have hp := grd_p H; exact hp) | replace H := grd_k H | replace H := out_step H (by assumption) | (replace H := bind_some H; obtain ⟨_, _, H⟩ := H))); done) | (repeat (first | exact grd_p H | replace H := grd_k H | replace H := out_step H (by assumption)))))
        | ((repeat (first | replace H := grd_k H | replace H := out_step H (by assumption))); refine loop_iter (G22_ok.at tok []) (ct := []) (F := (fun s1 : Unit => ⟨sl [(0, (.v (.slice none 0 0))), (1, (.v (.int .i64 a1))), (5, (.v (.int .i64 (0 : Int))))], []⟩)) (step := (fun s : Unit => laws_markIntS_i1_loop1)) _ H (by kernel_rfl) (sub_auto ?_) ?_; rotate_left; (intro s1 r v hr H); rotate_right)
        | ((repeat (first | replace H := grd_k H | replace H := out_step H (by assumption))); refine again_step H (by assumption) (sub_auto ?_))
        | ((with_reducible refine fin_mk ?_); (repeat (first | replace H := grd_k H | replace H := out_step H (by assumption))); have H := Option.some.inj H; subst H))
def G23 : Env := G22.addOr 14 [true] laws_markIntS_i1.S
theorem G23_ok : EnvOk Try.prog G23 := G22_ok.addOr ent_14 fun ar h r h1 ⟨a1, y, hy, e1, e2, e3, e4⟩ => by
  subst e3 e4; exact (laws_markIntS_i1.spec a1 y hy).le e1 e2
attribute [local irreducible] laws_markIntS_i1

noncomputable def laws_FnExactLeftBehind (a0 : (List DayRow)) : Option (Bool) :=
  ((laws_szDayRowS a0 (1048576 : Int)).bind fun y1 => (cond (decide (y1 < (0 : Int))) ((some true)) ((laws_toDayRowS a0).bind fun y2 => ((spec_LeftBehind y2).bind fun y3 => ((laws_toDayRowS a0).bind fun y4 => ((impl_LeftBehind y4).bind (Sum.elim (fun _ => ((laws_eqIntS [] y3.1).bind fun y7 => (cond (!y7) ((some false)) (cond (!(false == y3.2)) ((some false)) ((laws_toDayRowS a0).bind fun y8 => ((laws_eqDayRowS y4 y8).bind fun y9 => (cond (!y9) ((some false)) ((laws_markDayRowS y4 (1 : Int)).bind fun y10 => (cond (decide (y10.1 < (0 : Int))) ((some false)) ((laws_eqIntS [] y3.1).bind fun y11 => (cond (!y11) ((some false)) (cond (!(false == y3.2)) ((some false)) ((laws_markIntS_i1 (1 : Int)).bind fun y12 => ((laws_heldIntS [] (1 : Int)).bind fun y13 => (cond (decide (y13 < (0 : Int))) ((some false)) (cond (!decide (y13 = y12)) ((some false)) (((laws_toDayRowS a0).bind fun y14 => ((impl_LeftBehind y14).bind (Sum.elim (fun _ => (some ((Tg.mk : Tg 1), y3.2, y12, [], false, y3.1))) (fun y17 => (some ((Tg.mk : Tg 1), y3.2, y12, y17, true, y3.1)))))).bind fun z18 => ((laws_eqIntS z18.2.2.2.1 z18.2.2.2.2.2).bind fun y19 => (cond (!y19) ((some false)) (cond (!(z18.2.2.2.2.1 == z18.2.1)) ((some false)) ((laws_heldIntS [] (1 : Int)).bind fun y20 => (cond (decide (y20 < (0 : Int))) ((some false)) (cond (!decide (y20 = z18.2.2.1)) ((some false)) ((some true))))))))))))))))))))))))) (fun y21 => ((laws_eqIntS y21 y3.1).bind fun y22 => (cond (!y22) ((some false)) (cond (!(true == y3.2)) ((some false)) ((laws_toDayRowS a0).bind fun y23 => ((laws_eqDayRowS y4 y23).bind fun y24 => (cond (!y24) ((some false)) ((laws_markDayRowS y4 (1 : Int)).bind fun y25 => (cond (decide (y25.1 < (0 : Int))) ((some false)) ((laws_eqIntS y21 y3.1).bind fun y26 => (cond (!y26) ((some false)) (cond (!(true == y3.2)) ((some false)) ((laws_markIntS y21 (1 : Int)).bind fun y27 => ((laws_heldIntS y27.2 (1 : Int)).bind fun y28 => (cond (decide (y28 < (0 : Int))) ((some false)) (cond (!decide (y28 = y27.1)) ((some false)) (((laws_toDayRowS a0).bind fun y29 => ((impl_LeftBehind y29).bind (Sum.elim (fun _ => (some ((Tg.mk : Tg 2), y3.2, y27.1, [], false, y3.1, y27.2))) (fun y32 => (some ((Tg.mk : Tg 2), y3.2, y27.1, y32, true, y3.1, y27.2)))))).bind fun z33 => ((laws_eqIntS z33.2.2.2.1 z33.2.2.2.2.2.1).bind fun y34 => (cond (!y34) ((some false)) (cond (!(z33.2.2.2.2.1 == z33.2.1)) ((some false)) ((laws_heldIntS z33.2.2.2.2.2.2 (1 : Int)).bind fun y35 => (cond (decide (y35 < (0 : Int))) ((some false)) (cond (!decide (y35 = z33.2.2.1)) ((some false)) ((some true))))))))))))))))))))))))))))))))
def laws_FnExactLeftBehind.res (_ : (List DayRow)) (y : Bool) : AV := (.bl y)
def laws_FnExactLeftBehind.out (_ : (List DayRow)) (_ : Bool) : List (Option LB) := []
def laws_FnExactLeftBehind.S (ar : List AV) (h : List (Option LB)) (r : AV) (h1 : List (Option LB)) : Prop := ∃ a0 y, laws_FnExactLeftBehind a0 = some y ∧ leL ar [(.tree ty_DayRow a0)] ∧ leH h [] ∧ r = laws_FnExactLeftBehind.res a0 y ∧ h1 = laws_FnExactLeftBehind.out a0 y
theorem laws_FnExactLeftBehind.call {ar : List AV} {h : List (Option LB)} {a0 : (List DayRow)} {y : Bool} (H : laws_FnExactLeftBehind a0 = some y) (h0 : leLk ar [(.tree ty_DayRow a0)] (leHk h [])) : laws_FnExactLeftBehind.S ar h (laws_FnExactLeftBehind.res a0 y) (laws_FnExactLeftBehind.out a0 y) := ⟨a0, y, H, (args_ok h0).1, (args_ok h0).2, rfl, rfl⟩
set_option maxHeartbeats 100000000 in
set_option maxRecDepth 100000 in
theorem laws_FnExactLeftBehind.spec (a0 : (List DayRow)) (y : Bool) (H : laws_FnExactLeftBehind a0 = some y) : Spec Try.prog 3 [(.tree ty_DayRow a0)] [] (laws_FnExactLeftBehind.res a0 y) (laws_FnExactLeftBehind.out a0 y) := by
  refine spec_intro (G23_ok.at tok []) (ct := [(25, none), (6, some [0, 4, 5, 37, 38, 39, 52, 53, 54, 55, 58, 59, 60, 84, 85, 86]), (9, some [0, 4, 5, 6, 7, 8, 40, 52, 53, 54, 55, 58, 59, 60, 84, 85, 86]), (15, some [0, 4, 5, 7, 61, 84, 85, 86]), (22, some [0, 4, 5, 7, 10, 11, 84, 85, 86]), (29, some [10, 11])]) Try.func3 rfl (by kernel_rfl) (by kernel_rfl) rfl ?_
  repeat' first
    | ((with_reducible refine eqg ?_); exact rfl)
    | ((with_reducible refine KOb.mk ?_); kernel_rfl)
    | ((with_reducible intro h); (repeat (first | replace H := grd_k H | replace H := out_step H (by assumption))); first | replace H := cond_t h H | replace H := cond_f h H | exact absurd h (by decide) | skip)
    | ((with_reducible refine Ob.mk ?_); first | (with_reducible rfl) | (first | ((repeat (first | (with_reducible exact grd_p H) | (replace H := grd_k H) | (replace H := out_step H (by assumption)))); done) | rfl | ((repeat (first | exact grd_p H | replace H := grd_k H | replace H := out_step H (by assumption))); done) | ((repeat (first | exact grd_p H | (have hp := grd_p H; exact hp) | replace H := grd_k H | replace H := out_step H (by assumption) | (replace H := bind_some H; obtain ⟨_, _, H⟩ := H))); done) | (repeat (first | exact grd_p H | replace H := grd_k H | replace H := out_step H (by assumption)))))
    | (with_reducible exact True.intro)
    | constructor
    | ((conv => whnf); first
        | ((with_reducible refine Ob.mk ?_); first | (with_reducible rfl) | (first | ((repeat (first | (with_reducible exact grd_p H) | (replace H := grd_k H) | (replace H := out_step H (by assumption)))); done) | rfl | ((repeat (first | exact grd_p H | replace H := grd_k H | replace H := out_step H (by assumption))); done) | ((repeat (first | exact grd_p H | (have hp := grd_p H; exact hp) | replace H := grd_k H | replace H := out_step H (by assumption) | (replace H := bind_some H; obtain ⟨_, _, H⟩ := H))); done) | (repeat (first | exact grd_p H | replace H := grd_k H | replace H := out_step H (by assumption)))))
        | ((with_reducible refine CallW.mk ?_); (repeat (first | replace H := grd_k H | replace H := out_step H (by assumption))); replace H := bind_some H; obtain ⟨y, hy, H⟩ := H; first | ((with_reducible have hz : laws_szDayRowS _ _ = some y := hy); clear hz; refine Exists.intro _ (Exists.intro _ ⟨laws_szDayRowS.call hy ?_, rfl, rfl, ?_⟩)) | ((with_reducible have hz : laws_toDayRowS _ = some y := hy); clear hz; refine Exists.intro _ (Exists.intro _ ⟨laws_toDayRowS.call hy ?_, rfl, rfl, ?_⟩)) | ((with_reducible have hz : spec_LeftBehind _ = some y := hy); clear hz; refine Exists.intro _ (Exists.intro _ ⟨spec_LeftBehind.call hy ?_, rfl, rfl, ?_⟩)) | ((with_reducible have hz : impl_LeftBehind _ = some y := hy); clear hz; rcases y with y | y <;> refine Exists.intro _ (Exists.intro _ ⟨impl_LeftBehind.call hy ?_, rfl, rfl, ?_⟩)) | ((with_reducible have hz : laws_eqIntS _ _ = some y := hy); clear hz; refine Exists.intro _ (Exists.intro _ ⟨laws_eqIntS.call hy ?_, rfl, rfl, ?_⟩)) | ((with_reducible have hz : laws_eqDayRowS _ _ = some y := hy); clear hz; refine Exists.intro _ (Exists.intro _ ⟨laws_eqDayRowS.call hy ?_, rfl, rfl, ?_⟩)) | ((with_reducible have hz : laws_markDayRowS _ _ = some y := hy); clear hz; refine Exists.intro _ (Exists.intro _ ⟨laws_markDayRowS.call hy ?_, rfl, rfl, ?_⟩)) | ((with_reducible have hz : laws_markIntS_i1 _ = some y := hy); clear hz; refine Exists.intro _ (Exists.intro _ ⟨Or.inl (laws_markIntS_i1.call hy ?_), rfl, rfl, ?_⟩)) | ((with_reducible have hz : laws_heldIntS _ _ = some y := hy); clear hz; refine Exists.intro _ (Exists.intro _ ⟨laws_heldIntS.call hy ?_, rfl, rfl, ?_⟩)) | ((with_reducible have hz : laws_markIntS _ _ = some y := hy); clear hz; refine Exists.intro _ (Exists.intro _ ⟨Or.inr (laws_markIntS.call hy ?_), rfl, rfl, ?_⟩)))
        | ((with_reducible refine cutAt (id := 25) ?_); (repeat (first | replace H := grd_k H | replace H := out_step H (by assumption))); first | (replace H := bind_some H; obtain ⟨z, hz, H⟩ := H; have hT : Tg 1 × Bool × Int × (List Int) × Bool × (List Int) := z; clear hT; refine CutC.mk (id := 25) ⟨sl [(4, (.own 0)), (5, (.bl z.2.1)), (7, (.v (.slice none 0 0))), (10, (.v (.int .i64 z.2.2.1))), (12, (.tree (.int .i64) z.2.2.2.1)), (13, (.bl z.2.2.2.2.1))], [some (.arr 3 (.int .i64) z.2.2.2.2.2)]⟩ ?_ ?_; (replace H := hz)) | (replace H := bind_some H; obtain ⟨z, hz, H⟩ := H; have hT : Tg 2 × Bool × Int × (List Int) × Bool × (List Int) × (List Int) := z; clear hT; refine CutC.mk (id := 25) ⟨sl [(4, (.own 0)), (5, (.bl z.2.1)), (7, (.own 1)), (10, (.v (.int .i64 z.2.2.1))), (12, (.tree (.int .i64) z.2.2.2.1)), (13, (.bl z.2.2.2.2.1))], [some (.arr 3 (.int .i64) z.2.2.2.2.2.1), some (.arr 3 (.int .i64) z.2.2.2.2.2.2)]⟩ ?_ ?_; (replace H := hz)))
        | ((repeat (first | replace H := grd_k H | replace H := out_step H (by assumption))); have H := Option.some.inj H; subst H; with_reducible refine sub_auto ?_)
        | ((with_reducible refine fin_mk ?_); (repeat (first | replace H := grd_k H | replace H := out_step H (by assumption))); have H := Option.some.inj H; subst H))
def G24 : Env := G23.add 3 [] laws_FnExactLeftBehind.S
theorem G24_ok : EnvOk Try.prog G24 := G23_ok.add ent_3 fun ar h r h1 ⟨a0, y, hy, e1, e2, e3, e4⟩ => by
  subst e3 e4; exact (laws_FnExactLeftBehind.spec a0 y hy).le e1 e2
attribute [local irreducible] laws_FnExactLeftBehind

noncomputable def spec_l25Slot_loop1 (a0 : Ropeway) (a1 : Int) (v4 : Int) : Option (Lp (Int) ((Unit) ⊕ (Unit))) :=
  (cond (decide (v4 < a1)) (grd (0 ≤ v4 ∧ v4 < (a0.2.1.length : Int)) (cond (decide (((a0.2.1.getD v4.toNat d_Slot).1) = ((a0.2.1.getD a1.toNat d_Slot).1))) ((some (.out (Sum.inl ())))) (some (.go (w64 (v4 + (1 : Int))))))) ((some (.out (Sum.inr ())))))
noncomputable def spec_l25Slot (a0 : Ropeway) (a1 : Int) : Option (Bool) :=
  (grd (0 ≤ a1 ∧ a1 < (a0.2.1.length : Int)) ((spec_l1In ((a0.2.1.getD a1.toNat d_Slot).1) (0 : Int) (20 : Int)).bind fun y1 => (cond (!y1) ((some false)) ((spec_l1In ((a0.2.1.getD a1.toNat d_Slot).2.2.1) (0 : Int) (8 : Int)).bind fun y2 => (cond (!y2) ((some false)) (cond (decide (((a0.2.1.getD a1.toNat d_Slot).1) = (0 : Int))) (cond (!((a0.2.1.getD a1.toNat d_Slot).2.1)) ((some (decide (((a0.2.1.getD a1.toNat d_Slot).2.2.1) = (0 : Int))))) ((some false))) ((iter (fun s => spec_l25Slot_loop1 a0 a1 s) (0 : Int)).bind (Sum.elim (fun _ => (some false)) (fun _ => (grd ((a0.2.1.length : Int) ≠ 0) (grd (0 ≤ (Int.tmod (w64 (a1 + (1 : Int))) (a0.2.1.length : Int)) ∧ (Int.tmod (w64 (a1 + (1 : Int))) (a0.2.1.length : Int)) < (a0.2.1.length : Int)) (cond (!decide (((a0.2.1.getD ((Int.tmod (w64 (a1 + (1 : Int))) (a0.2.1.length : Int)).toNat) d_Slot).1) = (0 : Int))) ((some false)) (cond (!((a0.2.1.getD a1.toNat d_Slot).2.1)) ((some true)) (cond (decide (a1 = (0 : Int))) ((some true)) (grd ((2 : Int) ≠ 0) ((some (decide (a1 = (w64 (Int.tdiv (a0.2.1.length : Int) (2 : Int))))))))))))))))))))))
def spec_l25Slot.res (_ : Ropeway) (_ : Int) (y : Bool) : AV := (.bl y)
def spec_l25Slot.out (_ : Ropeway) (_ : Int) (_ : Bool) : List (Option LB) := []
def spec_l25Slot.S (ar : List AV) (h : List (Option LB)) (r : AV) (h1 : List (Option LB)) : Prop := ∃ a0 a1 y, spec_l25Slot a0 a1 = some y ∧ leL ar [(.agg [(.v (.int .i64 a0.1)), (.tree ty_Slot a0.2.1), (.v (.int .i64 a0.2.2.1)), (.v (.int .i64 a0.2.2.2.1)), (.v (.int .i64 a0.2.2.2.2.1))]), (.v (.int .i64 a1))] ∧ leH h [] ∧ r = spec_l25Slot.res a0 a1 y ∧ h1 = spec_l25Slot.out a0 a1 y
theorem spec_l25Slot.call {ar : List AV} {h : List (Option LB)} {a0 : Ropeway} {a1 : Int} {y : Bool} (H : spec_l25Slot a0 a1 = some y) (h0 : leLk ar [(.agg [(.v (.int .i64 a0.1)), (.tree ty_Slot a0.2.1), (.v (.int .i64 a0.2.2.1)), (.v (.int .i64 a0.2.2.2.1)), (.v (.int .i64 a0.2.2.2.2.1))]), (.v (.int .i64 a1))] (leHk h [])) : spec_l25Slot.S ar h (spec_l25Slot.res a0 a1 y) (spec_l25Slot.out a0 a1 y) := ⟨a0, a1, y, H, (args_ok h0).1, (args_ok h0).2, rfl, rfl⟩
set_option maxHeartbeats 100000000 in
set_option maxRecDepth 100000 in
theorem spec_l25Slot.spec (a0 : Ropeway) (a1 : Int) (y : Bool) (H : spec_l25Slot a0 a1 = some y) : Spec Try.prog 61 [(.agg [(.v (.int .i64 a0.1)), (.tree ty_Slot a0.2.1), (.v (.int .i64 a0.2.2.1)), (.v (.int .i64 a0.2.2.2.1)), (.v (.int .i64 a0.2.2.2.2.1))]), (.v (.int .i64 a1))] [] (spec_l25Slot.res a0 a1 y) (spec_l25Slot.out a0 a1 y) := by
  refine spec_intro (G24_ok.at tok []) (ct := [(3, some [1, 2, 5, 21, 29, 30, 31, 63, 64, 67, 68, 69, 70, 71, 72]), (7, some [1, 2, 5, 6, 63, 64, 67, 68, 69, 70, 71, 72]), (12, some [1, 2, 5, 58, 63, 64, 67, 68, 69, 70, 71, 72])]) Try.func61 rfl (by kernel_rfl) (by kernel_rfl) rfl ?_
  repeat' first
    | ((with_reducible refine eqg ?_); exact rfl)
    | ((with_reducible refine KOb.mk ?_); kernel_rfl)
    | ((with_reducible intro h); (repeat (first | replace H := grd_k H | replace H := out_step H (by assumption))); first | replace H := cond_t h H | replace H := cond_f h H | exact absurd h (by decide) | skip)
    | ((with_reducible refine Ob.mk ?_); first | (with_reducible rfl) | (first | ((repeat (first | (with_reducible exact grd_p H) | (replace H := grd_k H) | (replace H := out_step H (by assumption)))); done) | rfl | ((repeat (first | exact grd_p H | replace H := grd_k H | replace H := out_step H (by assumption))); done) | ((repeat (first | exact grd_p H | (have hp := grd_p H; exact hp) | replace H := grd_k H | replace H := out_step H (by assumption) | (replace H := bind_some H; obtain ⟨_, _, H⟩ := H))); done) | (repeat (first | exact grd_p H | replace H := grd_k H | replace H := out_step H (by assumption)))))
    | (with_reducible exact True.intro)
    | constructor
    | ((conv => whnf); first
        | ((with_reducible refine Ob.mk ?_); first | (with_reducible rfl) | (first | ((repeat (first | (with_reducible exact grd_p H) | (replace H := grd_k H) | (replace H := out_step H (by assumption)))); done) | rfl | ((repeat (first | exact grd_p H | replace H := grd_k H | replace H := out_step H (by assumption))); done) | ((repeat (first | exact grd_p H | (have hp := grd_p H; exact hp) | replace H := grd_k H | replace H := out_step H (by assumption) | (replace H := bind_some H; obtain ⟨_, _, H⟩ := H))); done) | (repeat (first | exact grd_p H | replace H := grd_k H | replace H := out_step H (by assumption)))))
        | ((with_reducible refine CallW.mk ?_); (repeat (first | replace H := grd_k H | replace H := out_step H (by assumption))); replace H := bind_some H; obtain ⟨y, hy, H⟩ := H; first | ((with_reducible have hz : spec_l1In _ _ _ = some y := hy); clear hz; refine Exists.intro _ (Exists.intro _ ⟨spec_l1In.call hy ?_, rfl, rfl, ?_⟩)))
        | ((repeat (first | replace H := grd_k H | replace H := out_step H (by assumption))); refine loop_iter (G24_ok.at tok []) (ct := [(3, some [1, 2, 5, 21, 29, 30, 31, 63, 64, 67, 68, 69, 70, 71, 72]), (7, some [1, 2, 5, 6, 63, 64, 67, 68, 69, 70, 71, 72]), (12, some [1, 2, 5, 58, 63, 64, 67, 68, 69, 70, 71, 72])]) (F := (fun s1 : Int => ⟨sl [(1, (.v (.int .i64 a1))), (2, (.loc 0 0 0)), (5, (.loc 1 0 0)), (6, (.v (.int .i64 s1)))], [some (.box 36 [(.v (.int .i64 a0.1)), (.tree ty_Slot a0.2.1), (.v (.int .i64 a0.2.2.1)), (.v (.int .i64 a0.2.2.2.1)), (.v (.int .i64 a0.2.2.2.2.1))]), some (.box 83 [(.v (.int .i64 ((a0.2.1.getD a1.toNat d_Slot).1))), (.bl ((a0.2.1.getD a1.toNat d_Slot).2.1)), (.v (.int .i64 ((a0.2.1.getD a1.toNat d_Slot).2.2.1)))])]⟩)) (step := (fun s : Int => spec_l25Slot_loop1 _ _ s)) _ H (by kernel_rfl) (sub_auto ?_) ?_; rotate_left; (intro s1 r v hr H); rotate_right)
        | ((repeat (first | replace H := grd_k H | replace H := out_step H (by assumption))); refine again_step H (by assumption) (sub_auto ?_))
        | ((with_reducible refine fin_mk ?_); (repeat (first | replace H := grd_k H | replace H := out_step H (by assumption))); have H := Option.some.inj H; subst H))
def G25 : Env := G24.add 61 [] spec_l25Slot.S
theorem G25_ok : EnvOk Try.prog G25 := G24_ok.add ent_61 fun ar h r h1 ⟨a0, a1, y, hy, e1, e2, e3, e4⟩ => by
  subst e3 e4; exact (spec_l25Slot.spec a0 a1 y hy).le e1 e2
attribute [local irreducible] spec_l25Slot

noncomputable def spec_l25Good_loop1 (a0 : Ropeway) (v9 : Int) : Option (Lp (Int) ((Unit) ⊕ (Unit))) :=
  (cond (decide (v9 < (a0.2.1.length : Int))) ((spec_l25Slot (a0.1, a0.2.1, a0.2.2.1, a0.2.2.2.1, a0.2.2.2.2.1, ()) v9).bind fun y10 => (cond (!y10) ((some (.out (Sum.inl ())))) (some (.go (w64 (v9 + (1 : Int))))))) ((some (.out (Sum.inr ())))))
noncomputable def spec_l25Good (a0 : Ropeway) : Option (Bool) :=
  ((spec_l1In a0.1 (0 : Int) (3 : Int)).bind fun y1 => (cond (!y1) ((some false)) ((spec_l1In (a0.2.1.length : Int) (4 : Int) (10 : Int)).bind fun y2 => (cond (!y2) ((some false)) (grd ((2 : Int) ≠ 0) (cond (!decide ((Int.tmod (a0.2.1.length : Int) (2 : Int)) = (0 : Int))) ((some false)) ((spec_l1In a0.2.2.1 (0 : Int) (500 : Int)).bind fun y3 => (cond (!y3) ((some false)) ((spec_l1In a0.2.2.2.1 (0 : Int) (500 : Int)).bind fun y4 => (cond (!y4) ((some false)) ((spec_l1In a0.2.2.2.2.1 (0 : Int) (500 : Int)).bind fun y5 => (cond (!y5) ((some false)) ((iter (fun s => spec_l25Good_loop1 a0 s) (0 : Int)).bind (Sum.elim (fun _ => (some false)) (fun _ => (some true))))))))))))))))
def spec_l25Good.res (_ : Ropeway) (y : Bool) : AV := (.bl y)
def spec_l25Good.out (_ : Ropeway) (_ : Bool) : List (Option LB) := []
def spec_l25Good.S (ar : List AV) (h : List (Option LB)) (r : AV) (h1 : List (Option LB)) : Prop := ∃ a0 y, spec_l25Good a0 = some y ∧ leL ar [(.agg [(.v (.int .i64 a0.1)), (.tree ty_Slot a0.2.1), (.v (.int .i64 a0.2.2.1)), (.v (.int .i64 a0.2.2.2.1)), (.v (.int .i64 a0.2.2.2.2.1))])] ∧ leH h [] ∧ r = spec_l25Good.res a0 y ∧ h1 = spec_l25Good.out a0 y
theorem spec_l25Good.call {ar : List AV} {h : List (Option LB)} {a0 : Ropeway} {y : Bool} (H : spec_l25Good a0 = some y) (h0 : leLk ar [(.agg [(.v (.int .i64 a0.1)), (.tree ty_Slot a0.2.1), (.v (.int .i64 a0.2.2.1)), (.v (.int .i64 a0.2.2.2.1)), (.v (.int .i64 a0.2.2.2.2.1))])] (leHk h [])) : spec_l25Good.S ar h (spec_l25Good.res a0 y) (spec_l25Good.out a0 y) := ⟨a0, y, H, (args_ok h0).1, (args_ok h0).2, rfl, rfl⟩
set_option maxHeartbeats 100000000 in
set_option maxRecDepth 100000 in
theorem spec_l25Good.spec (a0 : Ropeway) (y : Bool) (H : spec_l25Good a0 = some y) : Spec Try.prog 50 [(.agg [(.v (.int .i64 a0.1)), (.tree ty_Slot a0.2.1), (.v (.int .i64 a0.2.2.1)), (.v (.int .i64 a0.2.2.2.1)), (.v (.int .i64 a0.2.2.2.2.1))])] [] (spec_l25Good.res a0 y) (spec_l25Good.out a0 y) := by
  refine spec_intro (G25_ok.at tok []) (ct := [(3, some [1, 3, 39])]) Try.func50 rfl (by kernel_rfl) (by kernel_rfl) rfl ?_
  repeat' first
    | ((with_reducible refine eqg ?_); exact rfl)
    | ((with_reducible refine KOb.mk ?_); kernel_rfl)
    | ((with_reducible intro h); (repeat (first | replace H := grd_k H | replace H := out_step H (by assumption))); first | replace H := cond_t h H | replace H := cond_f h H | exact absurd h (by decide) | skip)
    | ((with_reducible refine Ob.mk ?_); first | (with_reducible rfl) | (first | ((repeat (first | (with_reducible exact grd_p H) | (replace H := grd_k H) | (replace H := out_step H (by assumption)))); done) | rfl | ((repeat (first | exact grd_p H | replace H := grd_k H | replace H := out_step H (by assumption))); done) | ((repeat (first | exact grd_p H | (have hp := grd_p H; exact hp) | replace H := grd_k H | replace H := out_step H (by assumption) | (replace H := bind_some H; obtain ⟨_, _, H⟩ := H))); done) | (repeat (first | exact grd_p H | replace H := grd_k H | replace H := out_step H (by assumption)))))
    | (with_reducible exact True.intro)
    | constructor
    | ((conv => whnf); first
        | ((with_reducible refine Ob.mk ?_); first | (with_reducible rfl) | (first | ((repeat (first | (with_reducible exact grd_p H) | (replace H := grd_k H) | (replace H := out_step H (by assumption)))); done) | rfl | ((repeat (first | exact grd_p H | replace H := grd_k H | replace H := out_step H (by assumption))); done) | ((repeat (first | exact grd_p H | (have hp := grd_p H; exact hp) | replace H := grd_k H | replace H := out_step H (by assumption) | (replace H := bind_some H; obtain ⟨_, _, H⟩ := H))); done) | (repeat (first | exact grd_p H | replace H := grd_k H | replace H := out_step H (by assumption)))))
        | ((with_reducible refine CallW.mk ?_); (repeat (first | replace H := grd_k H | replace H := out_step H (by assumption))); replace H := bind_some H; obtain ⟨y, hy, H⟩ := H; first | ((with_reducible have hz : spec_l1In _ _ _ = some y := hy); clear hz; refine Exists.intro _ (Exists.intro _ ⟨spec_l1In.call hy ?_, rfl, rfl, ?_⟩)) | ((with_reducible have hz : spec_l25Slot _ _ = some y := hy); clear hz; refine Exists.intro _ (Exists.intro _ ⟨spec_l25Slot.call hy ?_, rfl, rfl, ?_⟩)))
        | ((repeat (first | replace H := grd_k H | replace H := out_step H (by assumption))); refine loop_iter (G25_ok.at tok []) (ct := [(3, some [1, 3, 39])]) (F := (fun s1 : Int => ⟨sl [(1, (.loc 0 0 0)), (3, (.v (.int .i64 (a0.2.1.length : Int)))), (4, (.v (.int .i64 s1)))], [some (.box 36 [(.v (.int .i64 a0.1)), (.tree ty_Slot a0.2.1), (.v (.int .i64 a0.2.2.1)), (.v (.int .i64 a0.2.2.2.1)), (.v (.int .i64 a0.2.2.2.2.1))])]⟩)) (step := (fun s : Int => spec_l25Good_loop1 _ s)) _ H (by kernel_rfl) (sub_auto ?_) ?_; rotate_left; (intro s1 r v hr H); rotate_right)
        | ((repeat (first | replace H := grd_k H | replace H := out_step H (by assumption))); refine again_step H (by assumption) (sub_auto ?_))
        | ((with_reducible refine fin_mk ?_); (repeat (first | replace H := grd_k H | replace H := out_step H (by assumption))); have H := Option.some.inj H; subst H))
def G26 : Env := G25.add 50 [] spec_l25Good.S
theorem G26_ok : EnvOk Try.prog G26 := G25_ok.add ent_50 fun ar h r h1 ⟨a0, y, hy, e1, e2, e3, e4⟩ => by
  subst e3 e4; exact (spec_l25Good.spec a0 y hy).le e1 e2
attribute [local irreducible] spec_l25Good

noncomputable def spec_NewRopeway (a0 : Int) (a1 : Int) : Option ((Ropeway) ⊕ (Ropeway)) :=
  ((spec_l1In a0 (4 : Int) (10 : Int)).bind fun y1 => (cond (!y1) ((some (Sum.inl ((0 : Int), [], (0 : Int), (0 : Int), (0 : Int), ())))) (grd (0 ≤ a0 ∧ a0 ≤ a0 ∧ (24 : Int) * a0 ≤ 140737488355328 ∧ a0 ≤ 140737488355328) ((spec_l25Good ((0 : Int), (List.replicate a0.toNat ((0 : Int), false, (0 : Int), ())), a1, (0 : Int), (0 : Int), ())).bind fun y2 => (cond (!y2) ((some (Sum.inl ((0 : Int), [], (0 : Int), (0 : Int), (0 : Int), ())))) ((some (Sum.inr ((0 : Int), (List.replicate a0.toNat ((0 : Int), false, (0 : Int), ())), a1, (0 : Int), (0 : Int), ())))))))))
def spec_NewRopeway.res (_ : Int) (_ : Int) (y : (Ropeway) ⊕ (Ropeway)) : AV := match y with
  | (.inl y) => (.tup [(.agg [(.v (.int .i64 y.1)), (.v (.slice none 0 0)), (.v (.int .i64 y.2.2.1)), (.v (.int .i64 y.2.2.2.1)), (.v (.int .i64 y.2.2.2.2.1))]), (.v (.bool false))])
  | (.inr y) => (.tup [(.agg [(.v (.int .i64 y.1)), (.own 0), (.v (.int .i64 y.2.2.1)), (.v (.int .i64 y.2.2.2.1)), (.v (.int .i64 y.2.2.2.2.1))]), (.v (.bool true))])
def spec_NewRopeway.out (_ : Int) (_ : Int) (y : (Ropeway) ⊕ (Ropeway)) : List (Option LB) := match y with
  | (.inl y) => []
  | (.inr y) => [some (.arr 83 ty_Slot y.2.1)]
def spec_NewRopeway.S (ar : List AV) (h : List (Option LB)) (r : AV) (h1 : List (Option LB)) : Prop := ∃ a0 a1 y, spec_NewRopeway a0 a1 = some y ∧ leL ar [(.v (.int .i64 a0)), (.v (.int .i64 a1))] ∧ leH h [] ∧ r = spec_NewRopeway.res a0 a1 y ∧ h1 = spec_NewRopeway.out a0 a1 y
theorem spec_NewRopeway.call {ar : List AV} {h : List (Option LB)} {a0 : Int} {a1 : Int} {y : (Ropeway) ⊕ (Ropeway)} (H : spec_NewRopeway a0 a1 = some y) (h0 : leLk ar [(.v (.int .i64 a0)), (.v (.int .i64 a1))] (leHk h [])) : spec_NewRopeway.S ar h (spec_NewRopeway.res a0 a1 y) (spec_NewRopeway.out a0 a1 y) := ⟨a0, a1, y, H, (args_ok h0).1, (args_ok h0).2, rfl, rfl⟩
set_option maxHeartbeats 100000000 in
set_option maxRecDepth 100000 in
theorem spec_NewRopeway.spec (a0 : Int) (a1 : Int) (y : (Ropeway) ⊕ (Ropeway)) (H : spec_NewRopeway a0 a1 = some y) : Spec Try.prog 34 [(.v (.int .i64 a0)), (.v (.int .i64 a1))] [] (spec_NewRopeway.res a0 a1 y) (spec_NewRopeway.out a0 a1 y) := by
  have hlen : Nat.ble ([] : List (Option LB)).length (spec_NewRopeway.out a0 a1 y).length = true := by
    rcases y with y | y <;> rfl
  refine spec_intro (G26_ok.at tok []) (ct := [(5, some [4, 6, 17])]) Try.func34 rfl (by kernel_rfl) (by kernel_rfl) hlen ?_
  repeat' first
    | ((with_reducible refine eqg ?_); exact rfl)
    | ((with_reducible refine KOb.mk ?_); kernel_rfl)
    | ((with_reducible intro h); (repeat (first | replace H := grd_k H | replace H := out_step H (by assumption))); first | replace H := cond_t h H | replace H := cond_f h H | exact absurd h (by decide) | skip)
    | ((with_reducible refine Ob.mk ?_); first | (with_reducible rfl) | (first | ((repeat (first | (with_reducible exact grd_p H) | (replace H := grd_k H) | (replace H := out_step H (by assumption)))); done) | rfl | ((repeat (first | exact grd_p H | replace H := grd_k H | replace H := out_step H (by assumption))); done) | ((repeat (first | exact grd_p H | (have hp := grd_p H; exact hp) | replace H := grd_k H | replace H := out_step H (by assumption) | (replace H := bind_some H; obtain ⟨_, _, H⟩ := H))); done) | (repeat (first | exact grd_p H | replace H := grd_k H | replace H := out_step H (by assumption)))))
    | (with_reducible exact True.intro)
    | constructor
    | ((conv => whnf); first
        | ((with_reducible refine Ob.mk ?_); first | (with_reducible rfl) | (first | ((repeat (first | (with_reducible exact grd_p H) | (replace H := grd_k H) | (replace H := out_step H (by assumption)))); done) | rfl | ((repeat (first | exact grd_p H | replace H := grd_k H | replace H := out_step H (by assumption))); done) | ((repeat (first | exact grd_p H | (have hp := grd_p H; exact hp) | replace H := grd_k H | replace H := out_step H (by assumption) | (replace H := bind_some H; obtain ⟨_, _, H⟩ := H))); done) | (repeat (first | exact grd_p H | replace H := grd_k H | replace H := out_step H (by assumption)))))
        | ((with_reducible refine CallW.mk ?_); (repeat (first | replace H := grd_k H | replace H := out_step H (by assumption))); replace H := bind_some H; obtain ⟨y, hy, H⟩ := H; first | ((with_reducible have hz : spec_l1In _ _ _ = some y := hy); clear hz; refine Exists.intro _ (Exists.intro _ ⟨spec_l1In.call hy ?_, rfl, rfl, ?_⟩)) | ((with_reducible have hz : spec_l25Good _ = some y := hy); clear hz; refine Exists.intro _ (Exists.intro _ ⟨spec_l25Good.call hy ?_, rfl, rfl, ?_⟩)))
        | ((with_reducible refine fin_mk ?_); (repeat (first | replace H := grd_k H | replace H := out_step H (by assumption))); have H := Option.some.inj H; subst H))
def G27 : Env := G26.add 34 [] spec_NewRopeway.S
theorem G27_ok : EnvOk Try.prog G27 := G26_ok.add ent_34 fun ar h r h1 ⟨a0, a1, y, hy, e1, e2, e3, e4⟩ => by
  subst e3 e4; exact (spec_NewRopeway.spec a0 a1 y hy).le e1 e2
attribute [local irreducible] spec_NewRopeway

noncomputable def spec_NewConsole (a0 : Int) (a1 : Int) : Option ((Console) ⊕ (Console)) :=
  ((spec_NewRopeway a0 a1).bind (Sum.elim (fun _ => (some (Sum.inl (((0 : Int), [], (0 : Int), (0 : Int), (0 : Int), ()), ((ByteArray.mk #[]), (ByteArray.mk #[]), (0 : Int), ()), ())))) (fun y3 => (some (Sum.inr ((y3.1, y3.2.1, y3.2.2.1, y3.2.2.2.1, y3.2.2.2.2.1, ()), ((ByteArray.mk #[]), (ByteArray.mk #[]), (0 : Int), ()), ()))))))
def spec_NewConsole.res (_ : Int) (_ : Int) (y : (Console) ⊕ (Console)) : AV := match y with
  | (.inl y) => (.tup [(.agg [(.v (.int .i64 y.1.1)), (.v (.slice none 0 0)), (.v (.int .i64 y.1.2.2.1)), (.v (.int .i64 y.1.2.2.2.1)), (.v (.int .i64 y.1.2.2.2.2.1)), (.v (.string y.2.1.1)), (.v (.string y.2.1.2.1)), (.v (.int .i64 y.2.1.2.2.1))]), (.v (.bool false))])
  | (.inr y) => (.tup [(.agg [(.v (.int .i64 y.1.1)), (.own 0), (.v (.int .i64 y.1.2.2.1)), (.v (.int .i64 y.1.2.2.2.1)), (.v (.int .i64 y.1.2.2.2.2.1)), (.v (.string y.2.1.1)), (.v (.string y.2.1.2.1)), (.v (.int .i64 y.2.1.2.2.1))]), (.v (.bool true))])
def spec_NewConsole.out (_ : Int) (_ : Int) (y : (Console) ⊕ (Console)) : List (Option LB) := match y with
  | (.inl y) => []
  | (.inr y) => [some (.arr 83 ty_Slot y.1.2.1)]
def spec_NewConsole.S (ar : List AV) (h : List (Option LB)) (r : AV) (h1 : List (Option LB)) : Prop := ∃ a0 a1 y, spec_NewConsole a0 a1 = some y ∧ leL ar [(.v (.int .i64 a0)), (.v (.int .i64 a1))] ∧ leH h [] ∧ r = spec_NewConsole.res a0 a1 y ∧ h1 = spec_NewConsole.out a0 a1 y
theorem spec_NewConsole.call {ar : List AV} {h : List (Option LB)} {a0 : Int} {a1 : Int} {y : (Console) ⊕ (Console)} (H : spec_NewConsole a0 a1 = some y) (h0 : leLk ar [(.v (.int .i64 a0)), (.v (.int .i64 a1))] (leHk h [])) : spec_NewConsole.S ar h (spec_NewConsole.res a0 a1 y) (spec_NewConsole.out a0 a1 y) := ⟨a0, a1, y, H, (args_ok h0).1, (args_ok h0).2, rfl, rfl⟩
set_option maxHeartbeats 100000000 in
set_option maxRecDepth 100000 in
theorem spec_NewConsole.spec (a0 : Int) (a1 : Int) (y : (Console) ⊕ (Console)) (H : spec_NewConsole a0 a1 = some y) : Spec Try.prog 16 [(.v (.int .i64 a0)), (.v (.int .i64 a1))] [] (spec_NewConsole.res a0 a1 y) (spec_NewConsole.out a0 a1 y) := by
  have hlen : Nat.ble ([] : List (Option LB)).length (spec_NewConsole.out a0 a1 y).length = true := by
    rcases y with y | y <;> rfl
  refine spec_intro (G27_ok.at tok []) (ct := [(4, some [4, 6])]) Try.func16 rfl (by kernel_rfl) (by kernel_rfl) hlen ?_
  repeat' first
    | ((with_reducible refine eqg ?_); exact rfl)
    | ((with_reducible refine KOb.mk ?_); kernel_rfl)
    | ((with_reducible intro h); (repeat (first | replace H := grd_k H | replace H := out_step H (by assumption))); first | replace H := cond_t h H | replace H := cond_f h H | exact absurd h (by decide) | skip)
    | ((with_reducible refine Ob.mk ?_); first | (with_reducible rfl) | (first | ((repeat (first | (with_reducible exact grd_p H) | (replace H := grd_k H) | (replace H := out_step H (by assumption)))); done) | rfl | ((repeat (first | exact grd_p H | replace H := grd_k H | replace H := out_step H (by assumption))); done) | ((repeat (first | exact grd_p H | (have hp := grd_p H; exact hp) | replace H := grd_k H | replace H := out_step H (by assumption) | (replace H := bind_some H; obtain ⟨_, _, H⟩ := H))); done) | (repeat (first | exact grd_p H | replace H := grd_k H | replace H := out_step H (by assumption)))))
    | (with_reducible exact True.intro)
    | constructor
    | ((conv => whnf); first
        | ((with_reducible refine Ob.mk ?_); first | (with_reducible rfl) | (first | ((repeat (first | (with_reducible exact grd_p H) | (replace H := grd_k H) | (replace H := out_step H (by assumption)))); done) | rfl | ((repeat (first | exact grd_p H | replace H := grd_k H | replace H := out_step H (by assumption))); done) | ((repeat (first | exact grd_p H | (have hp := grd_p H; exact hp) | replace H := grd_k H | replace H := out_step H (by assumption) | (replace H := bind_some H; obtain ⟨_, _, H⟩ := H))); done) | (repeat (first | exact grd_p H | replace H := grd_k H | replace H := out_step H (by assumption)))))
        | ((with_reducible refine CallW.mk ?_); (repeat (first | replace H := grd_k H | replace H := out_step H (by assumption))); replace H := bind_some H; obtain ⟨y, hy, H⟩ := H; first | ((with_reducible have hz : spec_NewRopeway _ _ = some y := hy); clear hz; rcases y with y | y <;> refine Exists.intro _ (Exists.intro _ ⟨spec_NewRopeway.call hy ?_, rfl, rfl, ?_⟩)))
        | ((with_reducible refine fin_mk ?_); (repeat (first | replace H := grd_k H | replace H := out_step H (by assumption))); have H := Option.some.inj H; subst H))
def G28 : Env := G27.add 16 [] spec_NewConsole.S
theorem G28_ok : EnvOk Try.prog G28 := G27_ok.add ent_16 fun ar h r h1 ⟨a0, a1, y, hy, e1, e2, e3, e4⟩ => by
  subst e3 e4; exact (spec_NewConsole.spec a0 a1 y hy).le e1 e2
attribute [local irreducible] spec_NewConsole

noncomputable def impl_Ropeway_isStation (a0 : Ropeway) (a1 : Int) : Option (Bool) :=
  (cond (decide (a1 = (0 : Int))) ((some true)) (grd ((2 : Int) ≠ 0) ((some (decide (a1 = (w64 (Int.tdiv (a0.2.1.length : Int) (2 : Int)))))))))
def impl_Ropeway_isStation.res (_ : Ropeway) (_ : Int) (y : Bool) : AV := (.bl y)
def impl_Ropeway_isStation.out (_ : Ropeway) (_ : Int) (_ : Bool) : List (Option LB) := []
def impl_Ropeway_isStation.S (ar : List AV) (h : List (Option LB)) (r : AV) (h1 : List (Option LB)) : Prop := ∃ a0 a1 y, impl_Ropeway_isStation a0 a1 = some y ∧ leL ar [(.agg [(.v (.int .i64 a0.1)), (.tree ty_Slot a0.2.1), (.v (.int .i64 a0.2.2.1)), (.v (.int .i64 a0.2.2.2.1)), (.v (.int .i64 a0.2.2.2.2.1))]), (.v (.int .i64 a1))] ∧ leH h [] ∧ r = impl_Ropeway_isStation.res a0 a1 y ∧ h1 = impl_Ropeway_isStation.out a0 a1 y
theorem impl_Ropeway_isStation.call {ar : List AV} {h : List (Option LB)} {a0 : Ropeway} {a1 : Int} {y : Bool} (H : impl_Ropeway_isStation a0 a1 = some y) (h0 : leLk ar [(.agg [(.v (.int .i64 a0.1)), (.tree ty_Slot a0.2.1), (.v (.int .i64 a0.2.2.1)), (.v (.int .i64 a0.2.2.2.1)), (.v (.int .i64 a0.2.2.2.2.1))]), (.v (.int .i64 a1))] (leHk h [])) : impl_Ropeway_isStation.S ar h (impl_Ropeway_isStation.res a0 a1 y) (impl_Ropeway_isStation.out a0 a1 y) := ⟨a0, a1, y, H, (args_ok h0).1, (args_ok h0).2, rfl, rfl⟩
set_option maxHeartbeats 100000000 in
set_option maxRecDepth 100000 in
theorem impl_Ropeway_isStation.spec (a0 : Ropeway) (a1 : Int) (y : Bool) (H : impl_Ropeway_isStation a0 a1 = some y) : Spec Try.prog 62 [(.agg [(.v (.int .i64 a0.1)), (.tree ty_Slot a0.2.1), (.v (.int .i64 a0.2.2.1)), (.v (.int .i64 a0.2.2.2.1)), (.v (.int .i64 a0.2.2.2.2.1))]), (.v (.int .i64 a1))] [] (impl_Ropeway_isStation.res a0 a1 y) (impl_Ropeway_isStation.out a0 a1 y) := by
  refine spec_intro (G28_ok.at tok []) (ct := []) Try.func62 rfl (by kernel_rfl) (by kernel_rfl) rfl ?_
  repeat' first
    | ((with_reducible refine eqg ?_); exact rfl)
    | ((with_reducible refine KOb.mk ?_); kernel_rfl)
    | ((with_reducible intro h); (repeat (first | replace H := grd_k H | replace H := out_step H (by assumption))); first | replace H := cond_t h H | replace H := cond_f h H | exact absurd h (by decide) | skip)
    | ((with_reducible refine Ob.mk ?_); first | (with_reducible rfl) | (first | ((repeat (first | (with_reducible exact grd_p H) | (replace H := grd_k H) | (replace H := out_step H (by assumption)))); done) | rfl | ((repeat (first | exact grd_p H | replace H := grd_k H | replace H := out_step H (by assumption))); done) | ((repeat (first | exact grd_p H | (have hp := grd_p H; exact hp) | replace H := grd_k H | replace H := out_step H (by assumption) | (replace H := bind_some H; obtain ⟨_, _, H⟩ := H))); done) | (repeat (first | exact grd_p H | replace H := grd_k H | replace H := out_step H (by assumption)))))
    | (with_reducible exact True.intro)
    | constructor
    | ((conv => whnf); first
        | ((with_reducible refine Ob.mk ?_); first | (with_reducible rfl) | (first | ((repeat (first | (with_reducible exact grd_p H) | (replace H := grd_k H) | (replace H := out_step H (by assumption)))); done) | rfl | ((repeat (first | exact grd_p H | replace H := grd_k H | replace H := out_step H (by assumption))); done) | ((repeat (first | exact grd_p H | (have hp := grd_p H; exact hp) | replace H := grd_k H | replace H := out_step H (by assumption) | (replace H := bind_some H; obtain ⟨_, _, H⟩ := H))); done) | (repeat (first | exact grd_p H | replace H := grd_k H | replace H := out_step H (by assumption)))))
        | ((with_reducible refine fin_mk ?_); (repeat (first | replace H := grd_k H | replace H := out_step H (by assumption))); have H := Option.some.inj H; subst H))
def G29 : Env := G28.add 62 [] impl_Ropeway_isStation.S
theorem G29_ok : EnvOk Try.prog G29 := G28_ok.add ent_62 fun ar h r h1 ⟨a0, a1, y, hy, e1, e2, e3, e4⟩ => by
  subst e3 e4; exact (impl_Ropeway_isStation.spec a0 a1 y hy).le e1 e2
attribute [local irreducible] impl_Ropeway_isStation

noncomputable def impl_IsRopeway_1_i1 (a0 : Slot) (a100 : Int) (_ : Bool) (_ : Int) : Option (Bool) :=
  (some (decide (a0.1 = a100)))
def impl_IsRopeway_1_i1.res (_ : Slot) (_ : Int) (_ : Bool) (_ : Int) (y : Bool) : AV := (.bl y)
def impl_IsRopeway_1_i1.out (_ : Slot) (_ : Int) (_ : Bool) (_ : Int) (_ : Bool) : List (Option LB) := []
def impl_IsRopeway_1_i1.S (ar : List AV) (h : List (Option LB)) (r : AV) (h1 : List (Option LB)) : Prop := ∃ a0 a100 a101 a102 y, impl_IsRopeway_1_i1 a0 a100 a101 a102 = some y ∧ leL ar [(.agg [(.v (.int .i64 a0.1)), (.bl a0.2.1), (.v (.int .i64 a0.2.2.1))]), (.bptr [(.v (.int .i64 a100)), (.bl a101), (.v (.int .i64 a102))] 0)] ∧ leH h [] ∧ r = impl_IsRopeway_1_i1.res a0 a100 a101 a102 y ∧ h1 = impl_IsRopeway_1_i1.out a0 a100 a101 a102 y
theorem impl_IsRopeway_1_i1.call {ar : List AV} {h : List (Option LB)} {a0 : Slot} {a100 : Int} {a101 : Bool} {a102 : Int} {y : Bool} (H : impl_IsRopeway_1_i1 a0 a100 a101 a102 = some y) (h0 : leLk ar [(.agg [(.v (.int .i64 a0.1)), (.bl a0.2.1), (.v (.int .i64 a0.2.2.1))]), (.bptr [(.v (.int .i64 a100)), (.bl a101), (.v (.int .i64 a102))] 0)] (leHk h [])) : impl_IsRopeway_1_i1.S ar h (impl_IsRopeway_1_i1.res a0 a100 a101 a102 y) (impl_IsRopeway_1_i1.out a0 a100 a101 a102 y) := ⟨a0, a100, a101, a102, y, H, (args_ok h0).1, (args_ok h0).2, rfl, rfl⟩
set_option maxHeartbeats 100000000 in
set_option maxRecDepth 100000 in
theorem impl_IsRopeway_1_i1.spec (a0 : Slot) (a100 : Int) (a101 : Bool) (a102 : Int) (y : Bool) (H : impl_IsRopeway_1_i1 a0 a100 a101 a102 = some y) : Spec Try.prog 64 [(.agg [(.v (.int .i64 a0.1)), (.bl a0.2.1), (.v (.int .i64 a0.2.2.1))]), (.bptr [(.v (.int .i64 a100)), (.bl a101), (.v (.int .i64 a102))] 0)] [] (impl_IsRopeway_1_i1.res a0 a100 a101 a102 y) (impl_IsRopeway_1_i1.out a0 a100 a101 a102 y) := by
  refine spec_intro (G29_ok.at tok []) (ct := []) Try.func64 rfl (by kernel_rfl) (by kernel_rfl) rfl ?_
  repeat' first
    | ((with_reducible refine eqg ?_); exact rfl)
    | ((with_reducible refine KOb.mk ?_); kernel_rfl)
    | ((with_reducible intro h); (repeat (first | replace H := grd_k H | replace H := out_step H (by assumption))); first | replace H := cond_t h H | replace H := cond_f h H | exact absurd h (by decide) | skip)
    | ((with_reducible refine Ob.mk ?_); first | (with_reducible rfl) | (first | ((repeat (first | (with_reducible exact grd_p H) | (replace H := grd_k H) | (replace H := out_step H (by assumption)))); done) | rfl | ((repeat (first | exact grd_p H | replace H := grd_k H | replace H := out_step H (by assumption))); done) | ((repeat (first | exact grd_p H | (have hp := grd_p H; exact hp) | replace H := grd_k H | replace H := out_step H (by assumption) | (replace H := bind_some H; obtain ⟨_, _, H⟩ := H))); done) | (repeat (first | exact grd_p H | replace H := grd_k H | replace H := out_step H (by assumption)))))
    | (with_reducible exact True.intro)
    | constructor
    | ((conv => whnf); first
        | ((with_reducible refine Ob.mk ?_); first | (with_reducible rfl) | (first | ((repeat (first | (with_reducible exact grd_p H) | (replace H := grd_k H) | (replace H := out_step H (by assumption)))); done) | rfl | ((repeat (first | exact grd_p H | replace H := grd_k H | replace H := out_step H (by assumption))); done) | ((repeat (first | exact grd_p H | (have hp := grd_p H; exact hp) | replace H := grd_k H | replace H := out_step H (by assumption) | (replace H := bind_some H; obtain ⟨_, _, H⟩ := H))); done) | (repeat (first | exact grd_p H | replace H := grd_k H | replace H := out_step H (by assumption)))))
        | ((with_reducible refine fin_mk ?_); (repeat (first | replace H := grd_k H | replace H := out_step H (by assumption))); have H := Option.some.inj H; subst H))
def G30 : Env := G29.add 64 [] impl_IsRopeway_1_i1.S
theorem G30_ok : EnvOk Try.prog G30 := G29_ok.add ent_64 fun ar h r h1 ⟨a0, a100, a101, a102, y, hy, e1, e2, e3, e4⟩ => by
  subst e3 e4; exact (impl_IsRopeway_1_i1.spec a0 a100 a101 a102 y hy).le e1 e2
attribute [local irreducible] impl_IsRopeway_1_i1

end Go.Proofs.Yteckiilljhdkpaa
