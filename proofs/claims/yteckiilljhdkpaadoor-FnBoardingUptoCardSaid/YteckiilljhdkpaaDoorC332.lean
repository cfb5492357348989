/-
  Contracts, printed by a program.
-/
import Derived.Test.YteckiilljhdkpaaDoorC331
namespace Go.Proofs.YteckiilljhdkpaaDoor
open Go.RowKit
attribute [local irreducible] Ob loopwp Sub Spec Fin Again CallW CutC KOb iter joinx outm

attribute [local irreducible] laws_rBig spec_l1Cur_next spec_l1Cur_pick spec_l1Cur_among spec_l1Cur_one spec_l1Cur_platform

noncomputable def spec_l1Cur_of (a0 : l1Cur) (a1 : (List ByteArray)) : Option (ByteArray × l1Cur) :=
  ((spec_l1Cur_pick (a0.1, a0.2.1, a0.2.2.1, ()) (a1.length : Int)).bind fun y1 => (grd (0 ≤ y1.1 ∧ y1.1 < (a1.length : Int)) ((some ((a1.getD y1.1.toNat (ByteArray.mk #[])), (y1.2.1, y1.2.2.1, y1.2.2.2.1, ()))))))
def spec_l1Cur_of.res (_ : l1Cur) (_ : (List ByteArray)) (y : ByteArray × l1Cur) : AV := (.v (.string y.1))
def spec_l1Cur_of.out (_ : l1Cur) (_ : (List ByteArray)) (y : ByteArray × l1Cur) : List (Option LB) := [some (.box 102 [(.tree (.int .u8) y.2.1), (.v (.int .i64 y.2.2.1)), (.v (.int .u64 y.2.2.2.1))])]
def spec_l1Cur_of.S (ar : List AV) (h : List (Option LB)) (r : AV) (h1 : List (Option LB)) : Prop := ∃ a0 a1 y, spec_l1Cur_of a0 a1 = some y ∧ leL ar [(.loc 0 0 0), (.tree .str a1)] ∧ leH h [some (.box 102 [(.tree (.int .u8) a0.1), (.v (.int .i64 a0.2.1)), (.v (.int .u64 a0.2.2.1))])] ∧ r = spec_l1Cur_of.res a0 a1 y ∧ h1 = spec_l1Cur_of.out a0 a1 y
theorem spec_l1Cur_of.call {ar : List AV} {h : List (Option LB)} {a0 : l1Cur} {a1 : (List ByteArray)} {y : ByteArray × l1Cur} (H : spec_l1Cur_of a0 a1 = some y) (h0 : leLk ar [(.loc 0 0 0), (.tree .str a1)] (leHk h [some (.box 102 [(.tree (.int .u8) a0.1), (.v (.int .i64 a0.2.1)), (.v (.int .u64 a0.2.2.1))])])) : spec_l1Cur_of.S ar h (spec_l1Cur_of.res a0 a1 y) (spec_l1Cur_of.out a0 a1 y) := ⟨a0, a1, y, H, (args_ok h0).1, (args_ok h0).2, rfl, rfl⟩
set_option maxHeartbeats 100000000 in
set_option maxRecDepth 100000 in
theorem spec_l1Cur_of.spec (a0 : l1Cur) (a1 : (List ByteArray)) (y : ByteArray × l1Cur) (H : spec_l1Cur_of a0 a1 = some y) : Spec Tryd.prog 83 [(.loc 0 0 0), (.tree .str a1)] [some (.box 102 [(.tree (.int .u8) a0.1), (.v (.int .i64 a0.2.1)), (.v (.int .u64 a0.2.2.1))])] (spec_l1Cur_of.res a0 a1 y) (spec_l1Cur_of.out a0 a1 y) := by
  refine spec_intro (G6_ok.at tok []) (ct := []) Tryd.func83 rfl (by kernel_rfl) (by kernel_rfl) rfl ?_
  repeat' first
    | ((with_reducible refine eqg ?_); exact rfl)
    | ((with_reducible refine KOb.mk ?_); kernel_rfl)
    | ((with_reducible intro h); (repeat (first | replace H := grd_k H | replace H := out_step H (by assumption))); first | replace H := cond_t h H | replace H := cond_f h H | exact absurd h (by decide) | skip)
    | ((with_reducible refine Ob.mk ?_); first | (with_reducible rfl) | (first | ((repeat (first | (with_reducible exact grd_p H) | (replace H := grd_k H) | (replace H := out_step H (by assumption)))); done) | rfl | ((repeat (first | exact grd_p H | replace H := grd_k H | replace H := out_step H (by assumption))); done) | ((repeat (first | exact grd_p H | (have hp := grd_p H; exact hp) | replace H := grd_k H | replace H := out_step H (by assumption) | (replace H := bind_some H; obtain ⟨_, _, H⟩ := H))); done) | (repeat (first | exact grd_p H | replace H := grd_k H | replace H := out_step H (by assumption)))))
    | (with_reducible exact True.intro)
    | constructor
    | ((conv => whnf); first
        | ((with_reducible refine Ob.mk ?_); first | (with_reducible rfl) | (first | ((repeat (first | (with_reducible exact grd_p H) | (replace H := grd_k H) | (replace H := out_step H (by assumption)))); done) | rfl | ((repeat (first | exact grd_p H | replace H := grd_k H | replace H := out_step H (by assumption))); done) | ((repeat (first | exact grd_p H | (have hp := grd_p H; exact hp) | replace H := grd_k H | replace H := out_step H (by assumption) | (replace H := bind_some H; obtain ⟨_, _, H⟩ := H))); done) | (repeat (first | exact grd_p H | replace H := grd_k H | replace H := out_step H (by assumption)))))
        | ((with_reducible refine CallW.mk ?_); (repeat (first | replace H := grd_k H | replace H := out_step H (by assumption))); replace H := bind_some H; obtain ⟨y, hy, H⟩ := H; first | ((with_reducible have hz : spec_l1Cur_pick _ _ = some y := hy); clear hz; refine Exists.intro _ (Exists.intro _ ⟨spec_l1Cur_pick.call hy ?_, rfl, rfl, ?_⟩)))
        | ((with_reducible refine fin_mk ?_); (repeat (first | replace H := grd_k H | replace H := out_step H (by assumption))); have H := Option.some.inj H; subst H))
def G7 : Env := G6.add 83 [true] spec_l1Cur_of.S
theorem G7_ok : EnvOk Tryd.prog G7 := G6_ok.add ent_83 fun ar h r h1 ⟨a0, a1, y, hy, e1, e2, e3, e4⟩ => by
  subst e3 e4; exact (spec_l1Cur_of.spec a0 a1 y hy).le e1 e2
attribute [local irreducible] spec_l1Cur_of

noncomputable def spec_l14Most (a0 : ByteArray) : Option (Int) :=
  (cond (decide (a0 = (ByteArray.mk #[99, 111, 109, 101]))) ((some (16 : Int))) (cond (decide (a0 = (ByteArray.mk #[101, 110, 116, 101, 114]))) ((some (16 : Int))) (cond (decide (a0 = (ByteArray.mk #[108, 101, 97, 118, 101]))) ((some (16 : Int))) (cond (decide (a0 = (ByteArray.mk #[97, 114, 114, 105, 118, 101]))) ((some (100 : Int))) (cond (decide (a0 = (ByteArray.mk #[111, 112, 101, 110]))) ((some (0 : Int))) (cond (decide (a0 = (ByteArray.mk #[115, 104, 117, 116]))) ((some (0 : Int))) (cond (decide (a0 = (ByteArray.mk #[108, 101, 118, 101, 108]))) ((some (0 : Int))) (cond (decide (a0 = (ByteArray.mk #[103, 111]))) ((some (0 : Int))) ((some ((-1) : Int)))))))))))
def spec_l14Most.res (_ : ByteArray) (y : Int) : AV := (.v (.int .i64 y))
def spec_l14Most.out (_ : ByteArray) (_ : Int) : List (Option LB) := []
def spec_l14Most.S (ar : List AV) (h : List (Option LB)) (r : AV) (h1 : List (Option LB)) : Prop := ∃ a0 y, spec_l14Most a0 = some y ∧ leL ar [(.v (.string a0))] ∧ leH h [] ∧ r = spec_l14Most.res a0 y ∧ h1 = spec_l14Most.out a0 y
theorem spec_l14Most.call {ar : List AV} {h : List (Option LB)} {a0 : ByteArray} {y : Int} (H : spec_l14Most a0 = some y) (h0 : leLk ar [(.v (.string a0))] (leHk h [])) : spec_l14Most.S ar h (spec_l14Most.res a0 y) (spec_l14Most.out a0 y) := ⟨a0, y, H, (args_ok h0).1, (args_ok h0).2, rfl, rfl⟩
set_option maxHeartbeats 100000000 in
set_option maxRecDepth 100000 in
theorem spec_l14Most.spec (a0 : ByteArray) (y : Int) (H : spec_l14Most a0 = some y) : Spec Tryd.prog 72 [(.v (.string a0))] [] (spec_l14Most.res a0 y) (spec_l14Most.out a0 y) := by
  refine spec_intro (G7_ok.at tok []) (ct := [(10, some [3, 10])]) Tryd.func72 rfl (by kernel_rfl) (by kernel_rfl) rfl ?_
  repeat' first
    | ((with_reducible refine eqg ?_); exact rfl)
    | ((with_reducible refine KOb.mk ?_); kernel_rfl)
    | ((with_reducible intro h); (repeat (first | replace H := grd_k H | replace H := out_step H (by assumption))); first | replace H := cond_t h H | replace H := cond_f h H | exact absurd h (by decide) | skip)
    | ((with_reducible refine Ob.mk ?_); first | (with_reducible rfl) | (first | ((repeat (first | (with_reducible exact grd_p H) | (replace H := grd_k H) | (replace H := out_step H (by assumption)))); done) | rfl | ((repeat (first | exact grd_p H | replace H := grd_k H | replace H := out_step H (by assumption))); done) | ((repeat (first | exact grd_p H | (have hp := grd_p H; exact hp) | replace H := grd_k H | replace H := out_step H (by assumption) | (replace H := bind_some H; obtain ⟨_, _, H⟩ := H))); done) | (repeat (first | exact grd_p H | replace H := grd_k H | replace H := out_step H (by assumption)))))
    | (with_reducible exact True.intro)
    | constructor
    | ((conv => whnf); first
        | ((with_reducible refine Ob.mk ?_); first | (with_reducible rfl) | (first | ((repeat (first | (with_reducible exact grd_p H) | (replace H := grd_k H) | (replace H := out_step H (by assumption)))); done) | rfl | ((repeat (first | exact grd_p H | replace H := grd_k H | replace H := out_step H (by assumption))); done) | ((repeat (first | exact grd_p H | (have hp := grd_p H; exact hp) | replace H := grd_k H | replace H := out_step H (by assumption) | (replace H := bind_some H; obtain ⟨_, _, H⟩ := H))); done) | (repeat (first | exact grd_p H | replace H := grd_k H | replace H := out_step H (by assumption)))))
        | ((with_reducible refine fin_mk ?_); (repeat (first | replace H := grd_k H | replace H := out_step H (by assumption))); have H := Option.some.inj H; subst H))
def G8 : Env := G7.add 72 [] spec_l14Most.S
theorem G8_ok : EnvOk Tryd.prog G8 := G7_ok.add ent_72 fun ar h r h1 ⟨a0, y, hy, e1, e2, e3, e4⟩ => by
  subst e3 e4; exact (spec_l14Most.spec a0 y hy).le e1 e2
attribute [local irreducible] spec_l14Most

noncomputable def spec_l1Cur_boardEvent (a0 : l1Cur) : Option (BoardEvent × l1Cur) :=
  ((spec_l1Cur_of (a0.1, a0.2.1, a0.2.2.1, ()) [(ByteArray.mk #[99, 111, 109, 101]), (ByteArray.mk #[111, 112, 101, 110]), (ByteArray.mk #[111, 112, 101, 110]), (ByteArray.mk #[115, 104, 117, 116]), (ByteArray.mk #[101, 110, 116, 101, 114]), (ByteArray.mk #[101, 110, 116, 101, 114]), (ByteArray.mk #[108, 101, 97, 118, 101]), (ByteArray.mk #[97, 114, 114, 105, 118, 101]), (ByteArray.mk #[108, 101, 118, 101, 108]), (ByteArray.mk #[103, 111])]).bind fun y1 => (((spec_l14Most y1.1).bind fun y2 => (cond (decide ((0 : Int) < y2)) ((spec_l1Cur_among (y1.2.1, y1.2.2.1, y1.2.2.2.1, ()) [(1 : Int), (1 : Int), (2 : Int), (4 : Int), (8 : Int), (16 : Int)]).bind fun y3 => (cond (decide (y1.1 = (ByteArray.mk #[97, 114, 114, 105, 118, 101]))) ((spec_l1Cur_among (y3.2.1, y3.2.2.1, y3.2.2.2.1, ()) [(1 : Int), (5 : Int), (100 : Int)]).bind fun y4 => (some (y4.2.1, y4.2.2.1, y4.2.2.2.1, y1.1, y4.1))) ((some (y3.2.1, y3.2.2.1, y3.2.2.2.1, y1.1, y3.1))))) ((some (y1.2.1, y1.2.2.1, y1.2.2.2.1, y1.1, (0 : Int)))))).bind fun z5 => ((spec_l1Cur_pick (z5.1, z5.2.1, z5.2.2.1, ()) (40 : Int)).bind fun y6 => (cond (decide (y6.1 = (0 : Int))) ((spec_l1Cur_of (y6.2.1, y6.2.2.1, y6.2.2.2.1, ()) [(ByteArray.mk #[]), (ByteArray.mk #[115, 116, 111, 112]), (ByteArray.mk #[71, 111])]).bind fun y7 => (some ((y7.1, z5.2.2.2.2, ()), (y7.2.1, y7.2.2.1, y7.2.2.2.1, ())))) (cond (decide (y6.1 = (1 : Int))) ((spec_l1Cur_among (y6.2.1, y6.2.2.1, y6.2.2.2.1, ()) [((-1) : Int), (0 : Int), (1 : Int), (17 : Int), (101 : Int)]).bind fun y8 => (some ((z5.2.2.2.1, y8.1, ()), (y8.2.1, y8.2.2.1, y8.2.2.2.1, ())))) ((some ((z5.2.2.2.1, z5.2.2.2.2, ()), (y6.2.1, y6.2.2.1, y6.2.2.2.1, ())))))))))
def spec_l1Cur_boardEvent.res (_ : l1Cur) (y : BoardEvent × l1Cur) : AV := (.agg [(.v (.string y.1.1)), (.v (.int .i64 y.1.2.1))])
def spec_l1Cur_boardEvent.out (_ : l1Cur) (y : BoardEvent × l1Cur) : List (Option LB) := [some (.box 102 [(.tree (.int .u8) y.2.1), (.v (.int .i64 y.2.2.1)), (.v (.int .u64 y.2.2.2.1))])]
def spec_l1Cur_boardEvent.S (ar : List AV) (h : List (Option LB)) (r : AV) (h1 : List (Option LB)) : Prop := ∃ a0 y, spec_l1Cur_boardEvent a0 = some y ∧ leL ar [(.loc 0 0 0)] ∧ leH h [some (.box 102 [(.tree (.int .u8) a0.1), (.v (.int .i64 a0.2.1)), (.v (.int .u64 a0.2.2.1))])] ∧ r = spec_l1Cur_boardEvent.res a0 y ∧ h1 = spec_l1Cur_boardEvent.out a0 y
theorem spec_l1Cur_boardEvent.call {ar : List AV} {h : List (Option LB)} {a0 : l1Cur} {y : BoardEvent × l1Cur} (H : spec_l1Cur_boardEvent a0 = some y) (h0 : leLk ar [(.loc 0 0 0)] (leHk h [some (.box 102 [(.tree (.int .u8) a0.1), (.v (.int .i64 a0.2.1)), (.v (.int .u64 a0.2.2.1))])])) : spec_l1Cur_boardEvent.S ar h (spec_l1Cur_boardEvent.res a0 y) (spec_l1Cur_boardEvent.out a0 y) := ⟨a0, y, H, (args_ok h0).1, (args_ok h0).2, rfl, rfl⟩
set_option maxHeartbeats 100000000 in
set_option maxRecDepth 100000 in
theorem spec_l1Cur_boardEvent.spec (a0 : l1Cur) (y : BoardEvent × l1Cur) (H : spec_l1Cur_boardEvent a0 = some y) : Spec Tryd.prog 82 [(.loc 0 0 0)] [some (.box 102 [(.tree (.int .u8) a0.1), (.v (.int .i64 a0.2.1)), (.v (.int .u64 a0.2.2.1))])] (spec_l1Cur_boardEvent.res a0 y) (spec_l1Cur_boardEvent.out a0 y) := by
  refine spec_intro (G8_ok.at tok []) (ct := [(6, none), (4, some [0, 2, 3])]) Tryd.func82 rfl (by kernel_rfl) (by kernel_rfl) rfl ?_
  repeat' first
    | ((with_reducible refine eqg ?_); exact rfl)
    | ((with_reducible refine KOb.mk ?_); kernel_rfl)
    | ((with_reducible intro h); (repeat (first | replace H := grd_k H | replace H := out_step H (by assumption))); first | replace H := cond_t h H | replace H := cond_f h H | exact absurd h (by decide) | skip)
    | ((with_reducible refine Ob.mk ?_); first | (with_reducible rfl) | (first | ((repeat (first | (with_reducible exact grd_p H) | (replace H := grd_k H) | (replace H := out_step H (by assumption)))); done) | rfl | ((repeat (first | exact grd_p H | replace H := grd_k H | replace H := out_step H (by assumption))); done) | ((repeat (first | exact grd_p H | (have hp := grd_p H; exact hp) | replace H := grd_k H | replace H := out_step H (by assumption) | (replace H := bind_some H; obtain ⟨_, _, H⟩ := H))); done) | (repeat (first | exact grd_p H | replace H := grd_k H | replace H := out_step H (by assumption)))))
    | (with_reducible exact True.intro)
    | constructor
    | ((conv => whnf); first
        | ((with_reducible refine Ob.mk ?_); first | (with_reducible rfl) | (first | ((repeat (first | (with_reducible exact grd_p H) | (replace H := grd_k H) | (replace H := out_step H (by assumption)))); done) | rfl | ((repeat (first | exact grd_p H | replace H := grd_k H | replace H := out_step H (by assumption))); done) | ((repeat (first | exact grd_p H | (have hp := grd_p H; exact hp) | replace H := grd_k H | replace H := out_step H (by assumption) | (replace H := bind_some H; obtain ⟨_, _, H⟩ := H))); done) | (repeat (first | exact grd_p H | replace H := grd_k H | replace H := out_step H (by assumption)))))
        | ((with_reducible refine CallW.mk ?_); (repeat (first | replace H := grd_k H | replace H := out_step H (by assumption))); replace H := bind_some H; obtain ⟨y, hy, H⟩ := H; first | ((with_reducible have hz : spec_l1Cur_of _ _ = some y := hy); clear hz; refine Exists.intro _ (Exists.intro _ ⟨spec_l1Cur_of.call hy ?_, rfl, rfl, ?_⟩)) | ((with_reducible have hz : spec_l14Most _ = some y := hy); clear hz; refine Exists.intro _ (Exists.intro _ ⟨spec_l14Most.call hy ?_, rfl, rfl, ?_⟩)) | ((with_reducible have hz : spec_l1Cur_among _ _ = some y := hy); clear hz; refine Exists.intro _ (Exists.intro _ ⟨spec_l1Cur_among.call hy ?_, rfl, rfl, ?_⟩)) | ((with_reducible have hz : spec_l1Cur_pick _ _ = some y := hy); clear hz; refine Exists.intro _ (Exists.intro _ ⟨spec_l1Cur_pick.call hy ?_, rfl, rfl, ?_⟩)))
        | ((with_reducible refine cutAt (id := 6) ?_); (repeat (first | replace H := grd_k H | replace H := out_step H (by assumption))); first | (replace H := bind_some H; obtain ⟨z, hz, H⟩ := H; refine CutC.mk (id := 6) ⟨sl [(0, (.loc 0 0 0)), (2, (.loc 1 0 0)), (3, (.loc 2 0 0))], [some (.box 102 [(.tree (.int .u8) z.1), (.v (.int .i64 z.2.1)), (.v (.int .u64 z.2.2.1))]), some (.box 52 [(.v (.string (ByteArray.mk #[]))), (.v (.int .i64 (0 : Int)))]), some (.box 52 [(.v (.string z.2.2.2.1)), (.v (.int .i64 z.2.2.2.2))])]⟩ ?_ ?_; (replace H := hz)))
        | ((repeat (first | replace H := grd_k H | replace H := out_step H (by assumption))); have H := Option.some.inj H; subst H; with_reducible refine sub_auto ?_)
        | ((with_reducible refine fin_mk ?_); (repeat (first | replace H := grd_k H | replace H := out_step H (by assumption))); have H := Option.some.inj H; subst H))
def G9 : Env := G8.add 82 [true] spec_l1Cur_boardEvent.S
theorem G9_ok : EnvOk Tryd.prog G9 := G8_ok.add ent_82 fun ar h r h1 ⟨a0, y, hy, e1, e2, e3, e4⟩ => by
  subst e3 e4; exact (spec_l1Cur_boardEvent.spec a0 y hy).le e1 e2
attribute [local irreducible] spec_l1Cur_boardEvent

noncomputable def spec_l1Cur_boardEvents_loop1  (v13 : Int) (v14 : (List Int)) (v15 : Int) (v16 : Int) (v17 : (List BoardEvent)) : Option (Lp (Int × (List Int) × Int × Int × (List BoardEvent)) (((List Int) × Int × Int × (List BoardEvent)))) :=
  (cond (decide ((0 : Int) < v13)) ((spec_l1Cur_boardEvent (v14, v15, v16, ())).bind fun y18 => (grd ((v17.length + [(y18.1.1, y18.1.2.1, ())].length) * 24 ≤ 140737488355328 ∧ v17.length + [(y18.1.1, y18.1.2.1, ())].length ≤ 140737488355328) (some (.go ((w64 (v13 - (1 : Int))), y18.2.1, y18.2.2.1, y18.2.2.2.1, (v17 ++ [(y18.1.1, y18.1.2.1, ())])))))) ((some (.out (v14, v15, v16, v17)))))
noncomputable def spec_l1Cur_boardEvents_loop2  (v26 : (List Int)) (v27 : Int) (v28 : Int) (v29 : (List BoardEvent)) : Option (Lp ((List Int) × Int × Int × (List BoardEvent)) (((List Int) × Int × Int × (List BoardEvent)))) :=
  ((spec_l1Cur_pick (v26, v27, v28, ()) (2 : Int)).bind fun y30 => (cond (decide ((v29.length : Int) < (w64 ((20 : Int) + y30.1)))) (grd ((v29.length + [((ByteArray.mk #[97, 114, 114, 105, 118, 101]), (1 : Int), ())].length) * 24 ≤ 140737488355328 ∧ v29.length + [((ByteArray.mk #[97, 114, 114, 105, 118, 101]), (1 : Int), ())].length ≤ 140737488355328) (some (.go (y30.2.1, y30.2.2.1, y30.2.2.2.1, (v29 ++ [((ByteArray.mk #[97, 114, 114, 105, 118, 101]), (1 : Int), ())]))))) ((some (.out (y30.2.1, y30.2.2.1, y30.2.2.2.1, v29))))))
noncomputable def spec_l1Cur_boardEvents (a0 : l1Cur) : Option ((List BoardEvent) × l1Cur) :=
  ((spec_l1Cur_pick (a0.1, a0.2.1, a0.2.2.1, ()) (10 : Int)).bind fun y1 => ((iter (fun s => spec_l1Cur_boardEvents_loop1 s.1 s.2.1 s.2.2.1 s.2.2.2.1 s.2.2.2.2) (y1.1, y1.2.1, y1.2.2.1, y1.2.2.2.1, ([] : List BoardEvent))).bind (fun r19 => ((spec_l1Cur_one (r19.1, r19.2.1, r19.2.2.1, ()) (24 : Int)).bind fun y20 => (cond y20.1 ((iter (fun s => spec_l1Cur_boardEvents_loop2 s.1 s.2.1 s.2.2.1 s.2.2.2) (y20.2.1, y20.2.2.1, y20.2.2.2.1, r19.2.2.2)).bind (fun r31 => (some (r31.2.2.2, (r31.1, r31.2.1, r31.2.2.1, ()))))) ((some (r19.2.2.2, (y20.2.1, y20.2.2.1, y20.2.2.2.1, ())))))))))
def spec_l1Cur_boardEvents.res (_ : l1Cur) (_ : (List BoardEvent) × l1Cur) : AV := (.own 1)
def spec_l1Cur_boardEvents.out (_ : l1Cur) (y : (List BoardEvent) × l1Cur) : List (Option LB) := [some (.box 102 [(.tree (.int .u8) y.2.1), (.v (.int .i64 y.2.2.1)), (.v (.int .u64 y.2.2.2.1))]), some (.arr 52 ty_BoardEvent y.1)]
def spec_l1Cur_boardEvents.S (ar : List AV) (h : List (Option LB)) (r : AV) (h1 : List (Option LB)) : Prop := ∃ a0 y, spec_l1Cur_boardEvents a0 = some y ∧ leL ar [(.loc 0 0 0)] ∧ leH h [some (.box 102 [(.tree (.int .u8) a0.1), (.v (.int .i64 a0.2.1)), (.v (.int .u64 a0.2.2.1))])] ∧ r = spec_l1Cur_boardEvents.res a0 y ∧ h1 = spec_l1Cur_boardEvents.out a0 y
theorem spec_l1Cur_boardEvents.call {ar : List AV} {h : List (Option LB)} {a0 : l1Cur} {y : (List BoardEvent) × l1Cur} (H : spec_l1Cur_boardEvents a0 = some y) (h0 : leLk ar [(.loc 0 0 0)] (leHk h [some (.box 102 [(.tree (.int .u8) a0.1), (.v (.int .i64 a0.2.1)), (.v (.int .u64 a0.2.2.1))])])) : spec_l1Cur_boardEvents.S ar h (spec_l1Cur_boardEvents.res a0 y) (spec_l1Cur_boardEvents.out a0 y) := ⟨a0, y, H, (args_ok h0).1, (args_ok h0).2, rfl, rfl⟩
set_option maxHeartbeats 100000000 in
set_option maxRecDepth 100000 in
theorem spec_l1Cur_boardEvents.spec (a0 : l1Cur) (y : (List BoardEvent) × l1Cur) (H : spec_l1Cur_boardEvents a0 = some y) : Spec Tryd.prog 79 [(.loc 0 0 0)] [some (.box 102 [(.tree (.int .u8) a0.1), (.v (.int .i64 a0.2.1)), (.v (.int .u64 a0.2.2.1))])] (spec_l1Cur_boardEvents.res a0 y) (spec_l1Cur_boardEvents.out a0 y) := by
  refine spec_intro (G9_ok.at tok []) (ct := []) Tryd.func79 rfl (by kernel_rfl) (by kernel_rfl) rfl ?_
  repeat' first
    | ((with_reducible refine eqg ?_); exact rfl)
    | ((with_reducible refine KOb.mk ?_); kernel_rfl)
    | ((with_reducible intro h); (repeat (first | replace H := grd_k H | replace H := out_step H (by assumption))); first | replace H := cond_t h H | replace H := cond_f h H | exact absurd h (by decide) | skip)
    | ((with_reducible refine Ob.mk ?_); first | (with_reducible rfl) | (first | ((repeat (first | (with_reducible exact grd_p H) | (replace H := grd_k H) | (replace H := out_step H (by assumption)))); done) | rfl | ((repeat (first | exact grd_p H | replace H := grd_k H | replace H := out_step H (by assumption))); done) | ((repeat (first | exact grd_p H | (have hp := grd_p H; exact hp) | replace H := grd_k H | replace H := out_step H (by assumption) | (replace H := bind_some H; obtain ⟨_, _, H⟩ := H))); done) | (repeat (first | exact grd_p H | replace H := grd_k H | replace H := out_step H (by assumption)))))
    | (with_reducible exact True.intro)
    | constructor
    | ((conv => whnf); first
        | ((with_reducible refine Ob.mk ?_); first | (with_reducible rfl) | (first | ((repeat (first | (with_reducible exact grd_p H) | (replace H := grd_k H) | (replace H := out_step H (by assumption)))); done) | rfl | ((repeat (first | exact grd_p H | replace H := grd_k H | replace H := out_step H (by assumption))); done) | ((repeat (first | exact grd_p H | (have hp := grd_p H; exact hp) | replace H := grd_k H | replace H := out_step H (by assumption) | (replace H := bind_some H; obtain ⟨_, _, H⟩ := H))); done) | (repeat (first | exact grd_p H | replace H := grd_k H | replace H := out_step H (by assumption)))))
        | ((with_reducible refine CallW.mk ?_); (repeat (first | replace H := grd_k H | replace H := out_step H (by assumption))); replace H := bind_some H; obtain ⟨y, hy, H⟩ := H; first | ((with_reducible have hz : spec_l1Cur_pick _ _ = some y := hy); clear hz; refine Exists.intro _ (Exists.intro _ ⟨spec_l1Cur_pick.call hy ?_, rfl, rfl, ?_⟩)) | ((with_reducible have hz : spec_l1Cur_boardEvent _ = some y := hy); clear hz; refine Exists.intro _ (Exists.intro _ ⟨spec_l1Cur_boardEvent.call hy ?_, rfl, rfl, ?_⟩)) | ((with_reducible have hz : spec_l1Cur_one _ _ = some y := hy); clear hz; refine Exists.intro _ (Exists.intro _ ⟨spec_l1Cur_one.call hy ?_, rfl, rfl, ?_⟩)))
        | ((repeat (first | replace H := grd_k H | replace H := out_step H (by assumption))); refine loop_iter (G9_ok.at tok []) (ct := []) (F := (fun s1 : Int × (List Int) × Int × Int × (List BoardEvent) => ⟨sl [(0, (.loc 0 0 0)), (3, (.own 1)), (4, (.v (.int .i64 s1.1)))], [some (.box 102 [(.tree (.int .u8) s1.2.1), (.v (.int .i64 s1.2.2.1)), (.v (.int .u64 s1.2.2.2.1))]), some (.arr 52 ty_BoardEvent s1.2.2.2.2)]⟩)) (step := (fun s : Int × (List Int) × Int × Int × (List BoardEvent) => spec_l1Cur_boardEvents_loop1 s.1 s.2.1 s.2.2.1 s.2.2.2.1 s.2.2.2.2)) _ H (by kernel_rfl) (sub_auto ?_) ?_; rotate_left; (intro s1 r v hr H); rotate_right)
        | ((repeat (first | replace H := grd_k H | replace H := out_step H (by assumption))); refine loop_iter (G9_ok.at tok []) (ct := []) (F := (fun s2 : (List Int) × Int × Int × (List BoardEvent) => ⟨sl [(0, (.loc 0 0 0)), (3, (.own 1))], [some (.box 102 [(.tree (.int .u8) s2.1), (.v (.int .i64 s2.2.1)), (.v (.int .u64 s2.2.2.1))]), some (.arr 52 ty_BoardEvent s2.2.2.2)]⟩)) (step := (fun s : (List Int) × Int × Int × (List BoardEvent) => spec_l1Cur_boardEvents_loop2 s.1 s.2.1 s.2.2.1 s.2.2.2)) _ H (by kernel_rfl) (sub_auto ?_) ?_; rotate_left; (intro s2 r v hr H); rotate_right)
        | ((repeat (first | replace H := grd_k H | replace H := out_step H (by assumption))); refine again_step H (by assumption) (sub_auto ?_))
        | ((with_reducible refine fin_mk ?_); (repeat (first | replace H := grd_k H | replace H := out_step H (by assumption))); have H := Option.some.inj H; subst H))
def G10 : Env := G9.add 79 [true] spec_l1Cur_boardEvents.S
theorem G10_ok : EnvOk Tryd.prog G10 := G9_ok.add ent_79 fun ar h r h1 ⟨a0, y, hy, e1, e2, e3, e4⟩ => by
  subst e3 e4; exact (spec_l1Cur_boardEvents.spec a0 y hy).le e1 e2
attribute [local irreducible] spec_l1Cur_boardEvents

noncomputable def spec_l1In (a0 : Int) (a1 : Int) (a2 : Int) : Option (Bool) :=
  (cond (decide (a1 ≤ a0)) ((some (decide (a0 ≤ a2)))) ((some false)))
def spec_l1In.res (_ : Int) (_ : Int) (_ : Int) (y : Bool) : AV := (.bl y)
def spec_l1In.out (_ : Int) (_ : Int) (_ : Int) (_ : Bool) : List (Option LB) := []
def spec_l1In.S (ar : List AV) (h : List (Option LB)) (r : AV) (h1 : List (Option LB)) : Prop := ∃ a0 a1 a2 y, spec_l1In a0 a1 a2 = some y ∧ leL ar [(.v (.int .i64 a0)), (.v (.int .i64 a1)), (.v (.int .i64 a2))] ∧ leH h [] ∧ r = spec_l1In.res a0 a1 a2 y ∧ h1 = spec_l1In.out a0 a1 a2 y
theorem spec_l1In.call {ar : List AV} {h : List (Option LB)} {a0 : Int} {a1 : Int} {a2 : Int} {y : Bool} (H : spec_l1In a0 a1 a2 = some y) (h0 : leLk ar [(.v (.int .i64 a0)), (.v (.int .i64 a1)), (.v (.int .i64 a2))] (leHk h [])) : spec_l1In.S ar h (spec_l1In.res a0 a1 a2 y) (spec_l1In.out a0 a1 a2 y) := ⟨a0, a1, a2, y, H, (args_ok h0).1, (args_ok h0).2, rfl, rfl⟩
set_option maxHeartbeats 100000000 in
set_option maxRecDepth 100000 in
theorem spec_l1In.spec (a0 : Int) (a1 : Int) (a2 : Int) (y : Bool) (H : spec_l1In a0 a1 a2 = some y) : Spec Tryd.prog 92 [(.v (.int .i64 a0)), (.v (.int .i64 a1)), (.v (.int .i64 a2))] [] (spec_l1In.res a0 a1 a2 y) (spec_l1In.out a0 a1 a2 y) := by
  refine spec_intro (G10_ok.at tok []) (ct := []) Tryd.func92 rfl (by kernel_rfl) (by kernel_rfl) rfl ?_
  repeat' first
    | ((with_reducible refine eqg ?_); exact rfl)
    | ((with_reducible refine KOb.mk ?_); kernel_rfl)
    | ((with_reducible intro h); (repeat (first | replace H := grd_k H | replace H := out_step H (by assumption))); first | replace H := cond_t h H | replace H := cond_f h H | exact absurd h (by decide) | skip)
    | ((with_reducible refine Ob.mk ?_); first | (with_reducible rfl) | (first | ((repeat (first | (with_reducible exact grd_p H) | (replace H := grd_k H) | (replace H := out_step H (by assumption)))); done) | rfl | ((repeat (first | exact grd_p H | replace H := grd_k H | replace H := out_step H (by assumption))); done) | ((repeat (first | exact grd_p H | (have hp := grd_p H; exact hp) | replace H := grd_k H | replace H := out_step H (by assumption) | (replace H := bind_some H; obtain ⟨_, _, H⟩ := H))); done) | (repeat (first | exact grd_p H | replace H := grd_k H | replace H := out_step H (by assumption)))))
    | (with_reducible exact True.intro)
    | constructor
    | ((conv => whnf); first
        | ((with_reducible refine Ob.mk ?_); first | (with_reducible rfl) | (first | ((repeat (first | (with_reducible exact grd_p H) | (replace H := grd_k H) | (replace H := out_step H (by assumption)))); done) | rfl | ((repeat (first | exact grd_p H | replace H := grd_k H | replace H := out_step H (by assumption))); done) | ((repeat (first | exact grd_p H | (have hp := grd_p H; exact hp) | replace H := grd_k H | replace H := out_step H (by assumption) | (replace H := bind_some H; obtain ⟨_, _, H⟩ := H))); done) | (repeat (first | exact grd_p H | replace H := grd_k H | replace H := out_step H (by assumption)))))
        | ((with_reducible refine fin_mk ?_); (repeat (first | replace H := grd_k H | replace H := out_step H (by assumption))); have H := Option.some.inj H; subst H))
def G11 : Env := G10.add 92 [] spec_l1In.S
theorem G11_ok : EnvOk Tryd.prog G11 := G10_ok.add ent_92 fun ar h r h1 ⟨a0, a1, a2, y, hy, e1, e2, e3, e4⟩ => by
  subst e3 e4; exact (spec_l1In.spec a0 a1 a2 y hy).le e1 e2
attribute [local irreducible] spec_l1In

noncomputable def spec_l14Good (a0 : Platform) : Option (Bool) :=
  ((spec_l1In a0.1 (0 : Int) (1 : Int)).bind fun y1 => (cond (!y1) ((some false)) ((spec_l1In a0.2.1 (0 : Int) (16 : Int)).bind fun y2 => (cond (!y2) ((some false)) ((spec_l1In a0.2.2.1 (0 : Int) a0.2.1).bind fun y3 => (cond (!y3) ((some false)) ((spec_l1In a0.2.2.2.1 (0 : Int) (500 : Int)).bind fun y4 => (cond (!y4) ((some false)) ((spec_l1In a0.2.2.2.2.2.1 (0 : Int) (9999 : Int)).bind fun y5 => (cond (!y5) ((some false)) (cond (decide ((0 : Int) < a0.2.1)) ((some true)) ((some (decide (a0.1 = (0 : Int))))))))))))))))
def spec_l14Good.res (_ : Platform) (y : Bool) : AV := (.bl y)
def spec_l14Good.out (_ : Platform) (_ : Bool) : List (Option LB) := []
def spec_l14Good.S (ar : List AV) (h : List (Option LB)) (r : AV) (h1 : List (Option LB)) : Prop := ∃ a0 y, spec_l14Good a0 = some y ∧ leL ar [(.agg [(.v (.int .i64 a0.1)), (.v (.int .i64 a0.2.1)), (.v (.int .i64 a0.2.2.1)), (.v (.int .i64 a0.2.2.2.1)), (.bl a0.2.2.2.2.1), (.v (.int .i64 a0.2.2.2.2.2.1))])] ∧ leH h [] ∧ r = spec_l14Good.res a0 y ∧ h1 = spec_l14Good.out a0 y
theorem spec_l14Good.call {ar : List AV} {h : List (Option LB)} {a0 : Platform} {y : Bool} (H : spec_l14Good a0 = some y) (h0 : leLk ar [(.agg [(.v (.int .i64 a0.1)), (.v (.int .i64 a0.2.1)), (.v (.int .i64 a0.2.2.1)), (.v (.int .i64 a0.2.2.2.1)), (.bl a0.2.2.2.2.1), (.v (.int .i64 a0.2.2.2.2.2.1))])] (leHk h [])) : spec_l14Good.S ar h (spec_l14Good.res a0 y) (spec_l14Good.out a0 y) := ⟨a0, y, H, (args_ok h0).1, (args_ok h0).2, rfl, rfl⟩
set_option maxHeartbeats 100000000 in
set_option maxRecDepth 100000 in
theorem spec_l14Good.spec (a0 : Platform) (y : Bool) (H : spec_l14Good a0 = some y) : Spec Tryd.prog 69 [(.agg [(.v (.int .i64 a0.1)), (.v (.int .i64 a0.2.1)), (.v (.int .i64 a0.2.2.1)), (.v (.int .i64 a0.2.2.2.1)), (.bl a0.2.2.2.2.1), (.v (.int .i64 a0.2.2.2.2.2.1))])] [] (spec_l14Good.res a0 y) (spec_l14Good.out a0 y) := by
  refine spec_intro (G11_ok.at tok []) (ct := [(2, some [1, 32, 37, 38, 39])]) Tryd.func69 rfl (by kernel_rfl) (by kernel_rfl) rfl ?_
  repeat' first
    | ((with_reducible refine eqg ?_); exact rfl)
    | ((with_reducible refine KOb.mk ?_); kernel_rfl)
    | ((with_reducible intro h); (repeat (first | replace H := grd_k H | replace H := out_step H (by assumption))); first | replace H := cond_t h H | replace H := cond_f h H | exact absurd h (by decide) | skip)
    | ((with_reducible refine Ob.mk ?_); first | (with_reducible rfl) | (first | ((repeat (first | (with_reducible exact grd_p H) | (replace H := grd_k H) | (replace H := out_step H (by assumption)))); done) | rfl | ((repeat (first | exact grd_p H | replace H := grd_k H | replace H := out_step H (by assumption))); done) | ((repeat (first | exact grd_p H | (have hp := grd_p H; exact hp) | replace H := grd_k H | replace H := out_step H (by assumption) | (replace H := bind_some H; obtain ⟨_, _, H⟩ := H))); done) | (repeat (first | exact grd_p H | replace H := grd_k H | replace H := out_step H (by assumption)))))
    | (with_reducible exact True.intro)
    | constructor
    | ((conv => whnf); first
        | ((with_reducible refine Ob.mk ?_); first | (with_reducible rfl) | (first | ((repeat (first | (with_reducible exact grd_p H) | (replace H := grd_k H) | (replace H := out_step H (by assumption)))); done) | rfl | ((repeat (first | exact grd_p H | replace H := grd_k H | replace H := out_step H (by assumption))); done) | ((repeat (first | exact grd_p H | (have hp := grd_p H; exact hp) | replace H := grd_k H | replace H := out_step H (by assumption) | (replace H := bind_some H; obtain ⟨_, _, H⟩ := H))); done) | (repeat (first | exact grd_p H | replace H := grd_k H | replace H := out_step H (by assumption)))))
        | ((with_reducible refine CallW.mk ?_); (repeat (first | replace H := grd_k H | replace H := out_step H (by assumption))); replace H := bind_some H; obtain ⟨y, hy, H⟩ := H; first | ((with_reducible have hz : spec_l1In _ _ _ = some y := hy); clear hz; refine Exists.intro _ (Exists.intro _ ⟨spec_l1In.call hy ?_, rfl, rfl, ?_⟩)))
        | ((with_reducible refine fin_mk ?_); (repeat (first | replace H := grd_k H | replace H := out_step H (by assumption))); have H := Option.some.inj H; subst H))
def G12 : Env := G11.add 69 [] spec_l14Good.S
theorem G12_ok : EnvOk Tryd.prog G12 := G11_ok.add ent_69 fun ar h r h1 ⟨a0, y, hy, e1, e2, e3, e4⟩ => by
  subst e3 e4; exact (spec_l14Good.spec a0 y hy).le e1 e2
attribute [local irreducible] spec_l14Good

end Go.Proofs.YteckiilljhdkpaaDoor
