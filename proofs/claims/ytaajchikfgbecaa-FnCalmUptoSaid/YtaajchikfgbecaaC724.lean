/-
  Contracts, printed by a program.
-/
import Derived.Test.YtaajchikfgbecaaC723
namespace Go.Proofs.Ytaajchikfgbecaa
open Go.RowKit
attribute [local irreducible] Ob loopwp Sub Spec Fin Again CallW CutC KOb iter joinx outm

attribute [local irreducible] laws_rBig spec_l1Cur_next spec_l1Cur_pick spec_l1Cur_among spec_l1Cur_one spec_l1Cur_weather spec_l1Cur_records spec_DrawCalmSpans impl_within impl_IsWeather impl_AreRecords impl_CalmSpans spec_l1In spec_l17Minute spec_l17Wind spec_l17Way spec_l17One spec_l17Good spec_CalmSpans laws_rInts laws_rTable

noncomputable def impl_StrongestWind_loop1 (a0 : (List Weather)) (a1 : Int) (a2 : Int) (v7 : Int) (v8 : Int) : Option (Lp (Int × Int) ((Int))) :=
  (cond (decide (v8 < (a0.length : Int))) (grd (0 ≤ v8 ∧ v8 < (a0.length : Int)) ((impl_within ((a0.getD v8.toNat d_Weather).1) a1 a2).bind fun y9 => (cond y9 (some (.go ((if false = true then (if ((a0.getD v8.toNat d_Weather).2.1) < v7 then ((a0.getD v8.toNat d_Weather).2.1) else v7) else (if ((a0.getD v8.toNat d_Weather).2.1) > v7 then ((a0.getD v8.toNat d_Weather).2.1) else v7)), (w64 (v8 + (1 : Int)))))) (some (.go (v7, (w64 (v8 + (1 : Int))))))))) ((some (.out v7))))
noncomputable def impl_StrongestWind (a0 : (List Weather)) (a1 : Int) (a2 : Int) : Option (Int × Bool) :=
  ((impl_AreRecords a0).bind fun y1 => (cond (!y1) ((some ((0 : Int), false))) ((impl_within a1 (0 : Int) a2).bind fun y2 => (cond (!y2) ((some ((0 : Int), false))) (cond (decide ((9999 : Int) < a2)) ((some ((0 : Int), false))) ((iter (fun s => impl_StrongestWind_loop1 a0 a1 a2 s.1 s.2) (((-1) : Int), (0 : Int))).bind (fun r10 => (some ((if false = true then (if (0 : Int) < r10 then (0 : Int) else r10) else (if (0 : Int) > r10 then (0 : Int) else r10)), (decide ((0 : Int) ≤ r10)))))))))))
def impl_StrongestWind.res (_ : (List Weather)) (_ : Int) (_ : Int) (y : Int × Bool) : AV := (.tup [(.v (.int .i64 y.1)), (.bl y.2)])
def impl_StrongestWind.out (_ : (List Weather)) (_ : Int) (_ : Int) (_ : Int × Bool) : List (Option LB) := []
def impl_StrongestWind.S (ar : List AV) (h : List (Option LB)) (r : AV) (h1 : List (Option LB)) : Prop := ∃ a0 a1 a2 y, impl_StrongestWind a0 a1 a2 = some y ∧ leL ar [(.tree ty_Weather a0), (.v (.int .i64 a1)), (.v (.int .i64 a2))] ∧ leH h [] ∧ r = impl_StrongestWind.res a0 a1 a2 y ∧ h1 = impl_StrongestWind.out a0 a1 a2 y
theorem impl_StrongestWind.call {ar : List AV} {h : List (Option LB)} {a0 : (List Weather)} {a1 : Int} {a2 : Int} {y : Int × Bool} (H : impl_StrongestWind a0 a1 a2 = some y) (h0 : leLk ar [(.tree ty_Weather a0), (.v (.int .i64 a1)), (.v (.int .i64 a2))] (leHk h [])) : impl_StrongestWind.S ar h (impl_StrongestWind.res a0 a1 a2 y) (impl_StrongestWind.out a0 a1 a2 y) := ⟨a0, a1, a2, y, H, (args_ok h0).1, (args_ok h0).2, rfl, rfl⟩
set_option maxHeartbeats 100000000 in
set_option maxRecDepth 100000 in
theorem impl_StrongestWind.spec (a0 : (List Weather)) (a1 : Int) (a2 : Int) (y : Int × Bool) (H : impl_StrongestWind a0 a1 a2 = some y) : Spec Try.prog 21 [(.tree ty_Weather a0), (.v (.int .i64 a1)), (.v (.int .i64 a2))] [] (impl_StrongestWind.res a0 a1 a2 y) (impl_StrongestWind.out a0 a1 a2 y) := by
  refine spec_intro (G21_ok.at tok []) (ct := [(2, some [0, 1, 2, 23]), (9, some [1, 2, 8, 24, 25, 26])]) Try.func21 rfl (by kernel_rfl) (by kernel_rfl) rfl ?_
  repeat' first
    | ((with_reducible refine eqg ?_); exact rfl)
    | ((with_reducible refine KOb.mk ?_); kernel_rfl)
    | ((with_reducible intro h); (repeat (first | replace H := grd_k H | replace H := out_step H (by assumption))); first | replace H := cond_t h H | replace H := cond_f h H | exact absurd h (by decide) | skip)
    | ((with_reducible refine Ob.mk ?_); first | (with_reducible rfl) | (first | ((repeat (first | (with_reducible exact grd_p H) | (replace H := grd_k H) | (replace H := out_step H (by assumption)))); done) | rfl | ((repeat (first | exact grd_p H | replace H := grd_k H | replace H := out_step H (by assumption))); done) | ((repeat (first | exact grd_p H | (have hp := grd_p H; exact hp) | replace H := grd_k H | replace H := out_step H (by assumption) | (replace H := bind_some H; obtain ⟨_, _, H⟩ := H))); done) | (repeat (first | exact grd_p H | replace H := grd_k H | replace H := out_step H (by assumption)))))
    | (with_reducible exact True.intro)
    | ((conv => whnf); first
        | (with_reducible refine And.intro ?_ ?_)
        | (with_reducible exact True.intro)
        | ((with_reducible refine Ob.mk ?_); first | (with_reducible rfl) | (first | ((repeat (first | (with_reducible exact grd_p H) | (replace H := grd_k H) | (replace H := out_step H (by assumption)))); done) | rfl | ((repeat (first | exact grd_p H | replace H := grd_k H | replace H := out_step H (by assumption))); done) | ((repeat (first | exact grd_p H | (have hp := grd_p H; exact hp) | replace H := grd_k H | replace H := out_step H (by assumption) | (replace H := bind_some H; obtain ⟨_, _, H⟩ := H))); done) | (repeat (first | exact grd_p H | replace H := grd_k H | replace H := out_step H (by assumption)))))
        | ((with_reducible refine CallW.mk ?_); (repeat (first | replace H := grd_k H | replace H := out_step H (by assumption))); replace H := bind_some H; obtain ⟨y, hy, H⟩ := H; first | ((with_reducible have hz : impl_AreRecords _ = some y := hy); clear hz; refine Exists.intro _ (Exists.intro _ ⟨impl_AreRecords.call hy ?_, rfl, rfl, ?_⟩)) | ((with_reducible have hz : impl_within _ _ _ = some y := hy); clear hz; refine Exists.intro _ (Exists.intro _ ⟨impl_within.call hy ?_, rfl, rfl, ?_⟩)))
        | ((repeat (first | replace H := grd_k H | replace H := out_step H (by assumption))); refine loop_iter (G21_ok.at tok []) (ct := [(2, some [0, 1, 2, 23]), (9, some [1, 2, 8, 24, 25, 26])]) (F := (fun s1 : Int × Int => ⟨sl [(1, (.v (.int .i64 a1))), (2, (.v (.int .i64 a2))), (8, (.v (.int .i64 s1.1))), (24, (.tree ty_Weather a0)), (25, (.v (.int .i64 (a0.length : Int)))), (26, (.v (.int .i64 s1.2)))], []⟩)) (step := (fun s : Int × Int => impl_StrongestWind_loop1 _ _ _ s.1 s.2)) _ H (by kernel_rfl) (sub_auto ?_) ?_; rotate_left; (intro s1 r v hr H); rotate_right)
        | ((repeat (first | replace H := grd_k H | replace H := out_step H (by assumption))); refine again_step H (by assumption) (sub_auto ?_))
        | ((with_reducible refine fin_mk ?_); (repeat (first | replace H := grd_k H | replace H := out_step H (by assumption))); have H := Option.some.inj H; subst H))
    | constructor
def G22 : Env := G21.add 21 [] impl_StrongestWind.S
theorem G22_ok : EnvOk Try.prog G22 := G21_ok.add ent_21 fun ar h r h1 ⟨a0, a1, a2, y, hy, e1, e2, e3, e4⟩ => by
  subst e3 e4; exact (impl_StrongestWind.spec a0 a1 a2 y hy).le e1 e2
attribute [local irreducible] impl_StrongestWind

noncomputable def impl_StormsOver_loop1 (a0 : (List Weather)) (a1 : Int) (a2 : Int) (v8 : Int) (v9 : Int) : Option (Lp (Int × Int) ((Unit) ⊕ (Int))) :=
  (cond (decide (v9 < (a0.length : Int))) (grd (0 ≤ v9 ∧ v9 < (a0.length : Int)) ((impl_within ((a0.getD v9.toNat d_Weather).1) (w64 (a1 - a2)) a1).bind fun y10 => (cond y10 (cond ((a0.getD v9.toNat d_Weather).2.2.2.2.1) ((some (.out (Sum.inl ())))) (some (.go ((w64 (v8 + (1 : Int))), (w64 (v9 + (1 : Int))))))) (some (.go (v8, (w64 (v9 + (1 : Int))))))))) ((some (.out (Sum.inr v8)))))
noncomputable def impl_StormsOver (a0 : (List Weather)) (a1 : Int) (a2 : Int) : Option (Bool × Bool) :=
  ((impl_AreRecords a0).bind fun y1 => (cond (!y1) ((some (false, false))) ((impl_within a1 (0 : Int) (9999 : Int)).bind fun y2 => (cond (!y2) ((some (false, false))) ((impl_within a2 (0 : Int) (600 : Int)).bind fun y3 => (cond (!y3) ((some (false, false))) ((iter (fun s => impl_StormsOver_loop1 a0 a1 a2 s.1 s.2) ((0 : Int), (0 : Int))).bind (Sum.elim (fun _ => (some (false, true))) (fun r13 => (some ((decide ((0 : Int) < r13)), true)))))))))))
def impl_StormsOver.res (_ : (List Weather)) (_ : Int) (_ : Int) (y : Bool × Bool) : AV := (.tup [(.bl y.1), (.bl y.2)])
def impl_StormsOver.out (_ : (List Weather)) (_ : Int) (_ : Int) (_ : Bool × Bool) : List (Option LB) := []
def impl_StormsOver.S (ar : List AV) (h : List (Option LB)) (r : AV) (h1 : List (Option LB)) : Prop := ∃ a0 a1 a2 y, impl_StormsOver a0 a1 a2 = some y ∧ leL ar [(.tree ty_Weather a0), (.v (.int .i64 a1)), (.v (.int .i64 a2))] ∧ leH h [] ∧ r = impl_StormsOver.res a0 a1 a2 y ∧ h1 = impl_StormsOver.out a0 a1 a2 y
theorem impl_StormsOver.call {ar : List AV} {h : List (Option LB)} {a0 : (List Weather)} {a1 : Int} {a2 : Int} {y : Bool × Bool} (H : impl_StormsOver a0 a1 a2 = some y) (h0 : leLk ar [(.tree ty_Weather a0), (.v (.int .i64 a1)), (.v (.int .i64 a2))] (leHk h [])) : impl_StormsOver.S ar h (impl_StormsOver.res a0 a1 a2 y) (impl_StormsOver.out a0 a1 a2 y) := ⟨a0, a1, a2, y, H, (args_ok h0).1, (args_ok h0).2, rfl, rfl⟩
set_option maxHeartbeats 100000000 in
set_option maxRecDepth 100000 in
theorem impl_StormsOver.spec (a0 : (List Weather)) (a1 : Int) (a2 : Int) (y : Bool × Bool) (H : impl_StormsOver a0 a1 a2 = some y) : Spec Try.prog 22 [(.tree ty_Weather a0), (.v (.int .i64 a1)), (.v (.int .i64 a2))] [] (impl_StormsOver.res a0 a1 a2 y) (impl_StormsOver.out a0 a1 a2 y) := by
  refine spec_intro (G22_ok.at tok []) (ct := [(2, some [0, 1, 2, 23]), (10, some [1, 2, 8, 24, 25, 26])]) Try.func22 rfl (by kernel_rfl) (by kernel_rfl) rfl ?_
  repeat' first
    | ((with_reducible refine eqg ?_); exact rfl)
    | ((with_reducible refine KOb.mk ?_); kernel_rfl)
    | ((with_reducible intro h); (repeat (first | replace H := grd_k H | replace H := out_step H (by assumption))); first | replace H := cond_t h H | replace H := cond_f h H | exact absurd h (by decide) | skip)
    | ((with_reducible refine Ob.mk ?_); first | (with_reducible rfl) | (first | ((repeat (first | (with_reducible exact grd_p H) | (replace H := grd_k H) | (replace H := out_step H (by assumption)))); done) | rfl | ((repeat (first | exact grd_p H | replace H := grd_k H | replace H := out_step H (by assumption))); done) | ((repeat (first | exact grd_p H | (have hp := grd_p H; exact hp) | replace H := grd_k H | replace H := out_step H (by assumption) | (replace H := bind_some H; obtain ⟨_, _, H⟩ := H))); done) | (repeat (first | exact grd_p H | replace H := grd_k H | replace H := out_step H (by assumption)))))
    | (with_reducible exact True.intro)
    | ((conv => whnf); first
        | (with_reducible refine And.intro ?_ ?_)
        | (with_reducible exact True.intro)
        | ((with_reducible refine Ob.mk ?_); first | (with_reducible rfl) | (first | ((repeat (first | (with_reducible exact grd_p H) | (replace H := grd_k H) | (replace H := out_step H (by assumption)))); done) | rfl | ((repeat (first | exact grd_p H | replace H := grd_k H | replace H := out_step H (by assumption))); done) | ((repeat (first | exact grd_p H | (have hp := grd_p H; exact hp) | replace H := grd_k H | replace H := out_step H (by assumption) | (replace H := bind_some H; obtain ⟨_, _, H⟩ := H))); done) | (repeat (first | exact grd_p H | replace H := grd_k H | replace H := out_step H (by assumption)))))
        | ((with_reducible refine CallW.mk ?_); (repeat (first | replace H := grd_k H | replace H := out_step H (by assumption))); replace H := bind_some H; obtain ⟨y, hy, H⟩ := H; first | ((with_reducible have hz : impl_AreRecords _ = some y := hy); clear hz; refine Exists.intro _ (Exists.intro _ ⟨impl_AreRecords.call hy ?_, rfl, rfl, ?_⟩)) | ((with_reducible have hz : impl_within _ _ _ = some y := hy); clear hz; refine Exists.intro _ (Exists.intro _ ⟨impl_within.call hy ?_, rfl, rfl, ?_⟩)))
        | ((repeat (first | replace H := grd_k H | replace H := out_step H (by assumption))); refine loop_iter (G22_ok.at tok []) (ct := [(2, some [0, 1, 2, 23]), (10, some [1, 2, 8, 24, 25, 26])]) (F := (fun s1 : Int × Int => ⟨sl [(1, (.v (.int .i64 a1))), (2, (.v (.int .i64 a2))), (8, (.v (.int .i64 s1.1))), (24, (.tree ty_Weather a0)), (25, (.v (.int .i64 (a0.length : Int)))), (26, (.v (.int .i64 s1.2)))], []⟩)) (step := (fun s : Int × Int => impl_StormsOver_loop1 _ _ _ s.1 s.2)) _ H (by kernel_rfl) (sub_auto ?_) ?_; rotate_left; (intro s1 r v hr H); rotate_right)
        | ((repeat (first | replace H := grd_k H | replace H := out_step H (by assumption))); refine again_step H (by assumption) (sub_auto ?_))
        | ((with_reducible refine fin_mk ?_); (repeat (first | replace H := grd_k H | replace H := out_step H (by assumption))); have H := Option.some.inj H; subst H))
    | constructor
def G23 : Env := G22.add 22 [] impl_StormsOver.S
theorem G23_ok : EnvOk Try.prog G23 := G22_ok.add ent_22 fun ar h r h1 ⟨a0, a1, a2, y, hy, e1, e2, e3, e4⟩ => by
  subst e3 e4; exact (impl_StormsOver.spec a0 a1 a2 y hy).le e1 e2
attribute [local irreducible] impl_StormsOver

noncomputable def spec_l1Cur_minute17 (a0 : l1Cur) : Option (Int × l1Cur) :=
  ((spec_l1Cur_pick (a0.1, a0.2.1, a0.2.2.1, ()) (24 : Int)).bind fun y1 => (grd ((11 : Int) ≠ 0) (grd (0 ≤ (0 : Int) ∧ (0 : Int) ≤ (w64 ((7 : Int) + (w64 (Int.tdiv y1.1 (11 : Int))))) ∧ (w64 ((7 : Int) + (w64 (Int.tdiv y1.1 (11 : Int))))) ≤ ([(0 : Int), (5 : Int), (100 : Int), (110 : Int), (125 : Int), (9915 : Int), (9999 : Int), ((-1) : Int), (10000 : Int)].length : Int)) ((spec_l1Cur_among (y1.2.1, y1.2.2.1, y1.2.2.2.1, ()) (([(0 : Int), (5 : Int), (100 : Int), (110 : Int), (125 : Int), (9915 : Int), (9999 : Int), ((-1) : Int), (10000 : Int)].drop ((0 : Int).toNat)).take (((w64 ((7 : Int) + (w64 (Int.tdiv y1.1 (11 : Int))))) - (0 : Int)).toNat))).bind fun y2 => (some (y2.1, (y2.2.1, y2.2.2.1, y2.2.2.2.1, ())))))))
def spec_l1Cur_minute17.res (_ : l1Cur) (y : Int × l1Cur) : AV := (.v (.int .i64 y.1))
def spec_l1Cur_minute17.out (_ : l1Cur) (y : Int × l1Cur) : List (Option LB) := [some (.box 73 [(.tree (.int .u8) y.2.1), (.v (.int .i64 y.2.2.1)), (.v (.int .u64 y.2.2.2.1))])]
def spec_l1Cur_minute17.S (ar : List AV) (h : List (Option LB)) (r : AV) (h1 : List (Option LB)) : Prop := ∃ a0 y, spec_l1Cur_minute17 a0 = some y ∧ leL ar [(.loc 0 0 0)] ∧ leH h [some (.box 73 [(.tree (.int .u8) a0.1), (.v (.int .i64 a0.2.1)), (.v (.int .u64 a0.2.2.1))])] ∧ r = spec_l1Cur_minute17.res a0 y ∧ h1 = spec_l1Cur_minute17.out a0 y
theorem spec_l1Cur_minute17.call {ar : List AV} {h : List (Option LB)} {a0 : l1Cur} {y : Int × l1Cur} (H : spec_l1Cur_minute17 a0 = some y) (h0 : leLk ar [(.loc 0 0 0)] (leHk h [some (.box 73 [(.tree (.int .u8) a0.1), (.v (.int .i64 a0.2.1)), (.v (.int .u64 a0.2.2.1))])])) : spec_l1Cur_minute17.S ar h (spec_l1Cur_minute17.res a0 y) (spec_l1Cur_minute17.out a0 y) := ⟨a0, y, H, (args_ok h0).1, (args_ok h0).2, rfl, rfl⟩
set_option maxHeartbeats 100000000 in
set_option maxRecDepth 100000 in
theorem spec_l1Cur_minute17.spec (a0 : l1Cur) (y : Int × l1Cur) (H : spec_l1Cur_minute17 a0 = some y) : Spec Try.prog 52 [(.loc 0 0 0)] [some (.box 73 [(.tree (.int .u8) a0.1), (.v (.int .i64 a0.2.1)), (.v (.int .u64 a0.2.2.1))])] (spec_l1Cur_minute17.res a0 y) (spec_l1Cur_minute17.out a0 y) := by
  refine spec_intro (G23_ok.at tok []) (ct := []) Try.func52 rfl (by kernel_rfl) (by kernel_rfl) rfl ?_
  repeat' first
    | ((with_reducible refine eqg ?_); exact rfl)
    | ((with_reducible refine KOb.mk ?_); kernel_rfl)
    | ((with_reducible intro h); (repeat (first | replace H := grd_k H | replace H := out_step H (by assumption))); first | replace H := cond_t h H | replace H := cond_f h H | exact absurd h (by decide) | skip)
    | ((with_reducible refine Ob.mk ?_); first | (with_reducible rfl) | (first | ((repeat (first | (with_reducible exact grd_p H) | (replace H := grd_k H) | (replace H := out_step H (by assumption)))); done) | rfl | ((repeat (first | exact grd_p H | replace H := grd_k H | replace H := out_step H (by assumption))); done) | ((repeat (first | exact grd_p H | (have hp := grd_p H; exact hp) | replace H := grd_k H | replace H := out_step H (by assumption) | (replace H := bind_some H; obtain ⟨_, _, H⟩ := H))); done) | (repeat (first | exact grd_p H | replace H := grd_k H | replace H := out_step H (by assumption)))))
    | (with_reducible exact True.intro)
    | ((conv => whnf); first
        | (with_reducible refine And.intro ?_ ?_)
        | (with_reducible exact True.intro)
        | ((with_reducible refine Ob.mk ?_); first | (with_reducible rfl) | (first | ((repeat (first | (with_reducible exact grd_p H) | (replace H := grd_k H) | (replace H := out_step H (by assumption)))); done) | rfl | ((repeat (first | exact grd_p H | replace H := grd_k H | replace H := out_step H (by assumption))); done) | ((repeat (first | exact grd_p H | (have hp := grd_p H; exact hp) | replace H := grd_k H | replace H := out_step H (by assumption) | (replace H := bind_some H; obtain ⟨_, _, H⟩ := H))); done) | (repeat (first | exact grd_p H | replace H := grd_k H | replace H := out_step H (by assumption)))))
        | ((with_reducible refine CallW.mk ?_); (repeat (first | replace H := grd_k H | replace H := out_step H (by assumption))); replace H := bind_some H; obtain ⟨y, hy, H⟩ := H; first | ((with_reducible have hz : spec_l1Cur_pick _ _ = some y := hy); clear hz; refine Exists.intro _ (Exists.intro _ ⟨spec_l1Cur_pick.call hy ?_, rfl, rfl, ?_⟩)) | ((with_reducible have hz : spec_l1Cur_among _ _ = some y := hy); clear hz; refine Exists.intro _ (Exists.intro _ ⟨spec_l1Cur_among.call hy ?_, rfl, rfl, ?_⟩)))
        | ((with_reducible refine fin_mk ?_); (repeat (first | replace H := grd_k H | replace H := out_step H (by assumption))); have H := Option.some.inj H; subst H))
    | constructor
def G24 : Env := G23.add 52 [true] spec_l1Cur_minute17.S
theorem G24_ok : EnvOk Try.prog G24 := G23_ok.add ent_52 fun ar h r h1 ⟨a0, y, hy, e1, e2, e3, e4⟩ => by
  subst e3 e4; exact (spec_l1Cur_minute17.spec a0 y hy).le e1 e2
attribute [local irreducible] spec_l1Cur_minute17

noncomputable def spec_DrawStormsOver (a0 : (List Int)) : Option ((List Weather) × Int × Int) :=
  ((spec_l1Cur_records (a0, (0 : Int), (0 : Int), ())).bind fun y1 => ((spec_l1Cur_minute17 (y1.2.1, y1.2.2.1, y1.2.2.2.1, ())).bind fun y2 => ((spec_l1Cur_pick (y2.2.1, y2.2.2.1, y2.2.2.2.1, ()) (24 : Int)).bind fun y3 => (grd ((11 : Int) ≠ 0) (grd (0 ≤ (0 : Int) ∧ (0 : Int) ≤ (w64 ((5 : Int) + (w64 (Int.tdiv y3.1 (11 : Int))))) ∧ (w64 ((5 : Int) + (w64 (Int.tdiv y3.1 (11 : Int))))) ≤ ([(0 : Int), (5 : Int), (10 : Int), (30 : Int), (600 : Int), ((-1) : Int), (601 : Int)].length : Int)) ((spec_l1Cur_among (y3.2.1, y3.2.2.1, y3.2.2.2.1, ()) (([(0 : Int), (5 : Int), (10 : Int), (30 : Int), (600 : Int), ((-1) : Int), (601 : Int)].drop ((0 : Int).toNat)).take (((w64 ((5 : Int) + (w64 (Int.tdiv y3.1 (11 : Int))))) - (0 : Int)).toNat))).bind fun y4 => (some (y1.1, y2.1, y4.1))))))))
def spec_DrawStormsOver.res (_ : (List Int)) (y : (List Weather) × Int × Int) : AV := (.tup [(.own 0), (.v (.int .i64 y.2.1)), (.v (.int .i64 y.2.2))])
def spec_DrawStormsOver.out (_ : (List Int)) (y : (List Weather) × Int × Int) : List (Option LB) := [some (.arr 48 ty_Weather y.1)]
def spec_DrawStormsOver.S (ar : List AV) (h : List (Option LB)) (r : AV) (h1 : List (Option LB)) : Prop := ∃ a0 y, spec_DrawStormsOver a0 = some y ∧ leL ar [(.tree (.int .u8) a0)] ∧ leH h [] ∧ r = spec_DrawStormsOver.res a0 y ∧ h1 = spec_DrawStormsOver.out a0 y
theorem spec_DrawStormsOver.call {ar : List AV} {h : List (Option LB)} {a0 : (List Int)} {y : (List Weather) × Int × Int} (H : spec_DrawStormsOver a0 = some y) (h0 : leLk ar [(.tree (.int .u8) a0)] (leHk h [])) : spec_DrawStormsOver.S ar h (spec_DrawStormsOver.res a0 y) (spec_DrawStormsOver.out a0 y) := ⟨a0, y, H, (args_ok h0).1, (args_ok h0).2, rfl, rfl⟩
set_option maxHeartbeats 100000000 in
set_option maxRecDepth 100000 in
theorem spec_DrawStormsOver.spec (a0 : (List Int)) (y : (List Weather) × Int × Int) (H : spec_DrawStormsOver a0 = some y) : Spec Try.prog 23 [(.tree (.int .u8) a0)] [] (spec_DrawStormsOver.res a0 y) (spec_DrawStormsOver.out a0 y) := by
  refine spec_intro (G24_ok.at tok []) (ct := []) Try.func23 rfl (by kernel_rfl) (by kernel_rfl) rfl ?_
  repeat' first
    | ((with_reducible refine eqg ?_); exact rfl)
    | ((with_reducible refine KOb.mk ?_); kernel_rfl)
    | ((with_reducible intro h); (repeat (first | replace H := grd_k H | replace H := out_step H (by assumption))); first | replace H := cond_t h H | replace H := cond_f h H | exact absurd h (by decide) | skip)
    | ((with_reducible refine Ob.mk ?_); first | (with_reducible rfl) | (first | ((repeat (first | (with_reducible exact grd_p H) | (replace H := grd_k H) | (replace H := out_step H (by assumption)))); done) | rfl | ((repeat (first | exact grd_p H | replace H := grd_k H | replace H := out_step H (by assumption))); done) | ((repeat (first | exact grd_p H | (have hp := grd_p H; exact hp) | replace H := grd_k H | replace H := out_step H (by assumption) | (replace H := bind_some H; obtain ⟨_, _, H⟩ := H))); done) | (repeat (first | exact grd_p H | replace H := grd_k H | replace H := out_step H (by assumption)))))
    | (with_reducible exact True.intro)
    | ((conv => whnf); first
        | (with_reducible refine And.intro ?_ ?_)
        | (with_reducible exact True.intro)
        | ((with_reducible refine Ob.mk ?_); first | (with_reducible rfl) | (first | ((repeat (first | (with_reducible exact grd_p H) | (replace H := grd_k H) | (replace H := out_step H (by assumption)))); done) | rfl | ((repeat (first | exact grd_p H | replace H := grd_k H | replace H := out_step H (by assumption))); done) | ((repeat (first | exact grd_p H | (have hp := grd_p H; exact hp) | replace H := grd_k H | replace H := out_step H (by assumption) | (replace H := bind_some H; obtain ⟨_, _, H⟩ := H))); done) | (repeat (first | exact grd_p H | replace H := grd_k H | replace H := out_step H (by assumption)))))
        | ((with_reducible refine CallW.mk ?_); (repeat (first | replace H := grd_k H | replace H := out_step H (by assumption))); replace H := bind_some H; obtain ⟨y, hy, H⟩ := H; first | ((with_reducible have hz : spec_l1Cur_records _ = some y := hy); clear hz; refine Exists.intro _ (Exists.intro _ ⟨spec_l1Cur_records.call hy ?_, rfl, rfl, ?_⟩)) | ((with_reducible have hz : spec_l1Cur_minute17 _ = some y := hy); clear hz; refine Exists.intro _ (Exists.intro _ ⟨spec_l1Cur_minute17.call hy ?_, rfl, rfl, ?_⟩)) | ((with_reducible have hz : spec_l1Cur_pick _ _ = some y := hy); clear hz; refine Exists.intro _ (Exists.intro _ ⟨spec_l1Cur_pick.call hy ?_, rfl, rfl, ?_⟩)) | ((with_reducible have hz : spec_l1Cur_among _ _ = some y := hy); clear hz; refine Exists.intro _ (Exists.intro _ ⟨spec_l1Cur_among.call hy ?_, rfl, rfl, ?_⟩)))
        | ((with_reducible refine fin_mk ?_); (repeat (first | replace H := grd_k H | replace H := out_step H (by assumption))); have H := Option.some.inj H; subst H))
    | constructor
def G25 : Env := G24.add 23 [] spec_DrawStormsOver.S
theorem G25_ok : EnvOk Try.prog G25 := G24_ok.add ent_23 fun ar h r h1 ⟨a0, y, hy, e1, e2, e3, e4⟩ => by
  subst e3 e4; exact (spec_DrawStormsOver.spec a0 y hy).le e1 e2
attribute [local irreducible] spec_DrawStormsOver

noncomputable def spec_StormsOver_loop1 (a0 : (List Weather)) (a1 : Int) (a2 : Int) (v10 : Int) (v11 : Bool) (v12 : Int) : Option (Lp (Int × Bool × Int) ((Int × Bool))) :=
  (cond (decide (v12 < (a0.length : Int))) (grd (0 ≤ v12 ∧ v12 < (a0.length : Int)) ((spec_l1In ((a0.getD v12.toNat d_Weather).1) (w64 (a1 - a2)) a1).bind fun y13 => (cond y13 (cond v11 (grd (0 ≤ v12 ∧ v12 < (a0.length : Int)) (some (.go ((w64 (v10 + (1 : Int))), (!((a0.getD v12.toNat d_Weather).2.2.2.2.1)), (w64 (v12 + (1 : Int))))))) (some (.go ((w64 (v10 + (1 : Int))), false, (w64 (v12 + (1 : Int))))))) (some (.go (v10, v11, (w64 (v12 + (1 : Int))))))))) ((some (.out (v10, v11)))))
noncomputable def spec_StormsOver (a0 : (List Weather)) (a1 : Int) (a2 : Int) : Option (Bool × Bool) :=
  ((spec_l17Good a0).bind fun y1 => (cond (!y1) ((some (false, false))) ((spec_l17Minute a1).bind fun y2 => (cond (!y2) ((some (false, false))) ((spec_l1In a2 (0 : Int) (600 : Int)).bind fun y3 => (cond (!y3) ((some (false, false))) ((iter (fun s => spec_StormsOver_loop1 a0 a1 a2 s.1 s.2.1 s.2.2) ((0 : Int), true, (0 : Int))).bind (fun r14 => (cond r14.2 ((some ((decide ((0 : Int) < r14.1)), true))) ((some (false, true))))))))))))
def spec_StormsOver.res (_ : (List Weather)) (_ : Int) (_ : Int) (y : Bool × Bool) : AV := (.tup [(.bl y.1), (.bl y.2)])
def spec_StormsOver.out (_ : (List Weather)) (_ : Int) (_ : Int) (_ : Bool × Bool) : List (Option LB) := []
def spec_StormsOver.S (ar : List AV) (h : List (Option LB)) (r : AV) (h1 : List (Option LB)) : Prop := ∃ a0 a1 a2 y, spec_StormsOver a0 a1 a2 = some y ∧ leL ar [(.tree ty_Weather a0), (.v (.int .i64 a1)), (.v (.int .i64 a2))] ∧ leH h [] ∧ r = spec_StormsOver.res a0 a1 a2 y ∧ h1 = spec_StormsOver.out a0 a1 a2 y
theorem spec_StormsOver.call {ar : List AV} {h : List (Option LB)} {a0 : (List Weather)} {a1 : Int} {a2 : Int} {y : Bool × Bool} (H : spec_StormsOver a0 a1 a2 = some y) (h0 : leLk ar [(.tree ty_Weather a0), (.v (.int .i64 a1)), (.v (.int .i64 a2))] (leHk h [])) : spec_StormsOver.S ar h (spec_StormsOver.res a0 a1 a2 y) (spec_StormsOver.out a0 a1 a2 y) := ⟨a0, a1, a2, y, H, (args_ok h0).1, (args_ok h0).2, rfl, rfl⟩
set_option maxHeartbeats 100000000 in
set_option maxRecDepth 100000 in
theorem spec_StormsOver.spec (a0 : (List Weather)) (a1 : Int) (a2 : Int) (y : Bool × Bool) (H : spec_StormsOver a0 a1 a2 = some y) : Spec Try.prog 24 [(.tree ty_Weather a0), (.v (.int .i64 a1)), (.v (.int .i64 a2))] [] (spec_StormsOver.res a0 a1 a2 y) (spec_StormsOver.out a0 a1 a2 y) := by
  refine spec_intro (G25_ok.at tok []) (ct := [(2, some [0, 1, 2, 23, 44, 45, 46, 47, 48, 49, 53, 54]), (8, some [0, 1, 2, 8, 9, 10, 39, 44, 45, 46, 47, 48, 49, 53, 54])]) Try.func24 rfl (by kernel_rfl) (by kernel_rfl) rfl ?_
  repeat' first
    | ((with_reducible refine eqg ?_); exact rfl)
    | ((with_reducible refine KOb.mk ?_); kernel_rfl)
    | ((with_reducible intro h); (repeat (first | replace H := grd_k H | replace H := out_step H (by assumption))); first | replace H := cond_t h H | replace H := cond_f h H | exact absurd h (by decide) | skip)
    | ((with_reducible refine Ob.mk ?_); first | (with_reducible rfl) | (first | ((repeat (first | (with_reducible exact grd_p H) | (replace H := grd_k H) | (replace H := out_step H (by assumption)))); done) | rfl | ((repeat (first | exact grd_p H | replace H := grd_k H | replace H := out_step H (by assumption))); done) | ((repeat (first | exact grd_p H | (have hp := grd_p H; exact hp) | replace H := grd_k H | replace H := out_step H (by assumption) | (replace H := bind_some H; obtain ⟨_, _, H⟩ := H))); done) | (repeat (first | exact grd_p H | replace H := grd_k H | replace H := out_step H (by assumption)))))
    | (with_reducible exact True.intro)
    | ((conv => whnf); first
        | (with_reducible refine And.intro ?_ ?_)
        | (with_reducible exact True.intro)
        | ((with_reducible refine Ob.mk ?_); first | (with_reducible rfl) | (first | ((repeat (first | (with_reducible exact grd_p H) | (replace H := grd_k H) | (replace H := out_step H (by assumption)))); done) | rfl | ((repeat (first | exact grd_p H | replace H := grd_k H | replace H := out_step H (by assumption))); done) | ((repeat (first | exact grd_p H | (have hp := grd_p H; exact hp) | replace H := grd_k H | replace H := out_step H (by assumption) | (replace H := bind_some H; obtain ⟨_, _, H⟩ := H))); done) | (repeat (first | exact grd_p H | replace H := grd_k H | replace H := out_step H (by assumption)))))
        | ((with_reducible refine CallW.mk ?_); (repeat (first | replace H := grd_k H | replace H := out_step H (by assumption))); replace H := bind_some H; obtain ⟨y, hy, H⟩ := H; first | ((with_reducible have hz : spec_l17Good _ = some y := hy); clear hz; refine Exists.intro _ (Exists.intro _ ⟨spec_l17Good.call hy ?_, rfl, rfl, ?_⟩)) | ((with_reducible have hz : spec_l17Minute _ = some y := hy); clear hz; refine Exists.intro _ (Exists.intro _ ⟨spec_l17Minute.call hy ?_, rfl, rfl, ?_⟩)) | ((with_reducible have hz : spec_l1In _ _ _ = some y := hy); clear hz; refine Exists.intro _ (Exists.intro _ ⟨spec_l1In.call hy ?_, rfl, rfl, ?_⟩)))
        | ((repeat (first | replace H := grd_k H | replace H := out_step H (by assumption))); refine loop_iter (G25_ok.at tok []) (ct := [(2, some [0, 1, 2, 23, 44, 45, 46, 47, 48, 49, 53, 54]), (8, some [0, 1, 2, 8, 9, 10, 39, 44, 45, 46, 47, 48, 49, 53, 54])]) (F := (fun s1 : Int × Bool × Int => ⟨sl [(0, (.tree ty_Weather a0)), (1, (.v (.int .i64 a1))), (2, (.v (.int .i64 a2))), (8, (.v (.int .i64 s1.1))), (9, (.bl s1.2.1)), (10, (.v (.int .i64 s1.2.2)))], []⟩)) (step := (fun s : Int × Bool × Int => spec_StormsOver_loop1 _ _ _ s.1 s.2.1 s.2.2)) _ H (by kernel_rfl) (sub_auto ?_) ?_; rotate_left; (intro s1 r v hr H); rotate_right)
        | ((repeat (first | replace H := grd_k H | replace H := out_step H (by assumption))); refine again_step H (by assumption) (sub_auto ?_))
        | ((with_reducible refine fin_mk ?_); (repeat (first | replace H := grd_k H | replace H := out_step H (by assumption))); have H := Option.some.inj H; subst H))
    | constructor
def G26 : Env := G25.add 24 [] spec_StormsOver.S
theorem G26_ok : EnvOk Try.prog G26 := G25_ok.add ent_24 fun ar h r h1 ⟨a0, a1, a2, y, hy, e1, e2, e3, e4⟩ => by
  subst e3 e4; exact (spec_StormsOver.spec a0 a1 a2 y hy).le e1 e2
attribute [local irreducible] spec_StormsOver

noncomputable def spec_DrawAreRecords (a0 : (List Int)) : Option ((List Weather)) :=
  ((spec_l1Cur_records (a0, (0 : Int), (0 : Int), ())).bind fun y1 => (some y1.1))
def spec_DrawAreRecords.res (_ : (List Int)) (_ : (List Weather)) : AV := (.own 0)
def spec_DrawAreRecords.out (_ : (List Int)) (y : (List Weather)) : List (Option LB) := [some (.arr 48 ty_Weather y)]
def spec_DrawAreRecords.S (ar : List AV) (h : List (Option LB)) (r : AV) (h1 : List (Option LB)) : Prop := ∃ a0 y, spec_DrawAreRecords a0 = some y ∧ leL ar [(.tree (.int .u8) a0)] ∧ leH h [] ∧ r = spec_DrawAreRecords.res a0 y ∧ h1 = spec_DrawAreRecords.out a0 y
theorem spec_DrawAreRecords.call {ar : List AV} {h : List (Option LB)} {a0 : (List Int)} {y : (List Weather)} (H : spec_DrawAreRecords a0 = some y) (h0 : leLk ar [(.tree (.int .u8) a0)] (leHk h [])) : spec_DrawAreRecords.S ar h (spec_DrawAreRecords.res a0 y) (spec_DrawAreRecords.out a0 y) := ⟨a0, y, H, (args_ok h0).1, (args_ok h0).2, rfl, rfl⟩
set_option maxHeartbeats 100000000 in
set_option maxRecDepth 100000 in
theorem spec_DrawAreRecords.spec (a0 : (List Int)) (y : (List Weather)) (H : spec_DrawAreRecords a0 = some y) : Spec Try.prog 55 [(.tree (.int .u8) a0)] [] (spec_DrawAreRecords.res a0 y) (spec_DrawAreRecords.out a0 y) := by
  refine spec_intro (G26_ok.at tok []) (ct := []) Try.func55 rfl (by kernel_rfl) (by kernel_rfl) rfl ?_
  repeat' first
    | ((with_reducible refine eqg ?_); exact rfl)
    | ((with_reducible refine KOb.mk ?_); kernel_rfl)
    | ((with_reducible intro h); (repeat (first | replace H := grd_k H | replace H := out_step H (by assumption))); first | replace H := cond_t h H | replace H := cond_f h H | exact absurd h (by decide) | skip)
    | ((with_reducible refine Ob.mk ?_); first | (with_reducible rfl) | (first | ((repeat (first | (with_reducible exact grd_p H) | (replace H := grd_k H) | (replace H := out_step H (by assumption)))); done) | rfl | ((repeat (first | exact grd_p H | replace H := grd_k H | replace H := out_step H (by assumption))); done) | ((repeat (first | exact grd_p H | (have hp := grd_p H; exact hp) | replace H := grd_k H | replace H := out_step H (by assumption) | (replace H := bind_some H; obtain ⟨_, _, H⟩ := H))); done) | (repeat (first | exact grd_p H | replace H := grd_k H | replace H := out_step H (by assumption)))))
    | (with_reducible exact True.intro)
    | ((conv => whnf); first
        | (with_reducible refine And.intro ?_ ?_)
        | (with_reducible exact True.intro)
        | ((with_reducible refine Ob.mk ?_); first | (with_reducible rfl) | (first | ((repeat (first | (with_reducible exact grd_p H) | (replace H := grd_k H) | (replace H := out_step H (by assumption)))); done) | rfl | ((repeat (first | exact grd_p H | replace H := grd_k H | replace H := out_step H (by assumption))); done) | ((repeat (first | exact grd_p H | (have hp := grd_p H; exact hp) | replace H := grd_k H | replace H := out_step H (by assumption) | (replace H := bind_some H; obtain ⟨_, _, H⟩ := H))); done) | (repeat (first | exact grd_p H | replace H := grd_k H | replace H := out_step H (by assumption)))))
        | ((with_reducible refine CallW.mk ?_); (repeat (first | replace H := grd_k H | replace H := out_step H (by assumption))); replace H := bind_some H; obtain ⟨y, hy, H⟩ := H; first | ((with_reducible have hz : spec_l1Cur_records _ = some y := hy); clear hz; refine Exists.intro _ (Exists.intro _ ⟨spec_l1Cur_records.call hy ?_, rfl, rfl, ?_⟩)))
        | ((with_reducible refine fin_mk ?_); (repeat (first | replace H := grd_k H | replace H := out_step H (by assumption))); have H := Option.some.inj H; subst H))
    | constructor
def G27 : Env := G26.add 55 [] spec_DrawAreRecords.S
theorem G27_ok : EnvOk Try.prog G27 := G26_ok.add ent_55 fun ar h r h1 ⟨a0, y, hy, e1, e2, e3, e4⟩ => by
  subst e3 e4; exact (spec_DrawAreRecords.spec a0 y hy).le e1 e2
attribute [local irreducible] spec_DrawAreRecords

noncomputable def spec_DrawColdestRecord (a0 : (List Int)) : Option ((List Weather)) :=
  ((spec_DrawAreRecords a0).bind fun y1 => (some y1))
def spec_DrawColdestRecord.res (_ : (List Int)) (_ : (List Weather)) : AV := (.own 0)
def spec_DrawColdestRecord.out (_ : (List Int)) (y : (List Weather)) : List (Option LB) := [some (.arr 48 ty_Weather y)]
def spec_DrawColdestRecord.S (ar : List AV) (h : List (Option LB)) (r : AV) (h1 : List (Option LB)) : Prop := ∃ a0 y, spec_DrawColdestRecord a0 = some y ∧ leL ar [(.tree (.int .u8) a0)] ∧ leH h [] ∧ r = spec_DrawColdestRecord.res a0 y ∧ h1 = spec_DrawColdestRecord.out a0 y
theorem spec_DrawColdestRecord.call {ar : List AV} {h : List (Option LB)} {a0 : (List Int)} {y : (List Weather)} (H : spec_DrawColdestRecord a0 = some y) (h0 : leLk ar [(.tree (.int .u8) a0)] (leHk h [])) : spec_DrawColdestRecord.S ar h (spec_DrawColdestRecord.res a0 y) (spec_DrawColdestRecord.out a0 y) := ⟨a0, y, H, (args_ok h0).1, (args_ok h0).2, rfl, rfl⟩
set_option maxHeartbeats 100000000 in
set_option maxRecDepth 100000 in
theorem spec_DrawColdestRecord.spec (a0 : (List Int)) (y : (List Weather)) (H : spec_DrawColdestRecord a0 = some y) : Spec Try.prog 25 [(.tree (.int .u8) a0)] [] (spec_DrawColdestRecord.res a0 y) (spec_DrawColdestRecord.out a0 y) := by
  refine spec_intro (G27_ok.at tok []) (ct := []) Try.func25 rfl (by kernel_rfl) (by kernel_rfl) rfl ?_
  repeat' first
    | ((with_reducible refine eqg ?_); exact rfl)
    | ((with_reducible refine KOb.mk ?_); kernel_rfl)
    | ((with_reducible intro h); (repeat (first | replace H := grd_k H | replace H := out_step H (by assumption))); first | replace H := cond_t h H | replace H := cond_f h H | exact absurd h (by decide) | skip)
    | ((with_reducible refine Ob.mk ?_); first | (with_reducible rfl) | (first | ((repeat (first | (with_reducible exact grd_p H) | (replace H := grd_k H) | (replace H := out_step H (by assumption)))); done) | rfl | ((repeat (first | exact grd_p H | replace H := grd_k H | replace H := out_step H (by assumption))); done) | ((repeat (first | exact grd_p H | (have hp := grd_p H; exact hp) | replace H := grd_k H | replace H := out_step H (by assumption) | (replace H := bind_some H; obtain ⟨_, _, H⟩ := H))); done) | (repeat (first | exact grd_p H | replace H := grd_k H | replace H := out_step H (by assumption)))))
    | (with_reducible exact True.intro)
    | ((conv => whnf); first
        | (with_reducible refine And.intro ?_ ?_)
        | (with_reducible exact True.intro)
        | ((with_reducible refine Ob.mk ?_); first | (with_reducible rfl) | (first | ((repeat (first | (with_reducible exact grd_p H) | (replace H := grd_k H) | (replace H := out_step H (by assumption)))); done) | rfl | ((repeat (first | exact grd_p H | replace H := grd_k H | replace H := out_step H (by assumption))); done) | ((repeat (first | exact grd_p H | (have hp := grd_p H; exact hp) | replace H := grd_k H | replace H := out_step H (by assumption) | (replace H := bind_some H; obtain ⟨_, _, H⟩ := H))); done) | (repeat (first | exact grd_p H | replace H := grd_k H | replace H := out_step H (by assumption)))))
        | ((with_reducible refine CallW.mk ?_); (repeat (first | replace H := grd_k H | replace H := out_step H (by assumption))); replace H := bind_some H; obtain ⟨y, hy, H⟩ := H; first | ((with_reducible have hz : spec_DrawAreRecords _ = some y := hy); clear hz; refine Exists.intro _ (Exists.intro _ ⟨spec_DrawAreRecords.call hy ?_, rfl, rfl, ?_⟩)))
        | ((with_reducible refine fin_mk ?_); (repeat (first | replace H := grd_k H | replace H := out_step H (by assumption))); have H := Option.some.inj H; subst H))
    | constructor
def G28 : Env := G27.add 25 [] spec_DrawColdestRecord.S
theorem G28_ok : EnvOk Try.prog G28 := G27_ok.add ent_25 fun ar h r h1 ⟨a0, y, hy, e1, e2, e3, e4⟩ => by
  subst e3 e4; exact (spec_DrawColdestRecord.spec a0 y hy).le e1 e2
attribute [local irreducible] spec_DrawColdestRecord

end Go.Proofs.Ytaajchikfgbecaa
