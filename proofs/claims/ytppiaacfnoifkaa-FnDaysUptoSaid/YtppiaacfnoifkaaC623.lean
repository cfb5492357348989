/-
  Contracts, printed by a program.
-/
import Derived.Test.YtppiaacfnoifkaaC622
namespace Go.Proofs.Ytppiaacfnoifkaa
open Go.RowKit
attribute [local irreducible] Ob loopwp Sub Spec Fin Again CallW CutC KOb iter joinx outm

attribute [local irreducible] laws_rBig spec_l1Cur_next spec_l1Cur_pick spec_l1Cur_among spec_l1Cur_one spec_l1Cur_of spec_l1Cur_dayRow spec_l1Cur_dayRows spec_DrawBestDays impl_within impl_isDay impl_isWord impl_IsDayRow impl_AreDayRows slices_Clone___impl_DayRow_impl_DayRow_ impl_BestDays_1 cmp_isNaN_int_ cmp_Compare_int_ impl_BestDays_2 slices_IndexFunc___impl_DayRow_impl_DayRow__i1 slices_DeleteFunc___impl_DayRow_impl_DayRow__i1 slices_insertionSortCmpFunc_impl_DayRow__i1 slices_symMergeCmpFunc_impl_DayRow__i1 slices_stableCmpFunc_impl_DayRow__i1

noncomputable def slices_SortStableFunc___impl_DayRow_impl_DayRow__i1 (a0 : (List DayRow)) : Option ((List DayRow)) :=
  ((slices_stableCmpFunc_impl_DayRow__i1 a0 (a0.length : Int)).bind fun y1 => (some y1))
def slices_SortStableFunc___impl_DayRow_impl_DayRow__i1.res (_ : (List DayRow)) (_ : (List DayRow)) : AV := (.tup [])
def slices_SortStableFunc___impl_DayRow_impl_DayRow__i1.out (_ : (List DayRow)) (y : (List DayRow)) : List (Option LB) := [some (.arr 33 ty_DayRow y)]
def slices_SortStableFunc___impl_DayRow_impl_DayRow__i1.S (ar : List AV) (h : List (Option LB)) (r : AV) (h1 : List (Option LB)) : Prop := ∃ a0 y, slices_SortStableFunc___impl_DayRow_impl_DayRow__i1 a0 = some y ∧ leL ar [(.own 0), (.fn 28 [])] ∧ leH h [some (.arr 33 ty_DayRow a0)] ∧ r = slices_SortStableFunc___impl_DayRow_impl_DayRow__i1.res a0 y ∧ h1 = slices_SortStableFunc___impl_DayRow_impl_DayRow__i1.out a0 y
theorem slices_SortStableFunc___impl_DayRow_impl_DayRow__i1.call {ar : List AV} {h : List (Option LB)} {a0 : (List DayRow)} {y : (List DayRow)} (H : slices_SortStableFunc___impl_DayRow_impl_DayRow__i1 a0 = some y) (h0 : leLk ar [(.own 0), (.fn 28 [])] (leHk h [some (.arr 33 ty_DayRow a0)])) : slices_SortStableFunc___impl_DayRow_impl_DayRow__i1.S ar h (slices_SortStableFunc___impl_DayRow_impl_DayRow__i1.res a0 y) (slices_SortStableFunc___impl_DayRow_impl_DayRow__i1.out a0 y) := ⟨a0, y, H, (args_ok h0).1, (args_ok h0).2, rfl, rfl⟩
set_option maxHeartbeats 100000000 in
set_option maxRecDepth 100000 in
theorem slices_SortStableFunc___impl_DayRow_impl_DayRow__i1.spec (a0 : (List DayRow)) (y : (List DayRow)) (H : slices_SortStableFunc___impl_DayRow_impl_DayRow__i1 a0 = some y) : Spec Try.prog 27 [(.own 0), (.fn 28 [])] [some (.arr 33 ty_DayRow a0)] (slices_SortStableFunc___impl_DayRow_impl_DayRow__i1.res a0 y) (slices_SortStableFunc___impl_DayRow_impl_DayRow__i1.out a0 y) := by
  refine spec_intro (G24_ok.at tok []) (ct := []) Try.func27 rfl (by kernel_rfl) (by kernel_rfl) rfl ?_
  repeat' first
    | ((with_reducible refine eqg ?_); exact rfl)
    | ((with_reducible refine KOb.mk ?_); kernel_rfl)
    | ((with_reducible intro h); (repeat (first | replace H := grd_k H | replace H := out_step H (by assumption))); first | replace H := cond_t h H | replace H := cond_f h H | exact absurd h (by decide) | skip)
    | ((with_reducible refine Ob.mk ?_); first | (with_reducible rfl) | (first | ((repeat (first | (with_reducible exact grd_p H) | (replace H := grd_k H) | (replace H := out_step H (by assumption)))); done) | rfl | ((repeat (first | exact grd_p H | replace H := grd_k H | replace H := out_step H (by assumption))); done) | ((repeat (first | exact grd_p H | (have hp := grd_p H; exact hp) | replace H := grd_k H | replace H := out_step H (by assumption) | (replace H := bind_some H; obtain ⟨_, _, H⟩ := H))); done) | (repeat (first | exact grd_p H | replace H := grd_k H | replace H := out_step H (by assumption)))))
    | (with_reducible exact True.intro)
    | ((conv => whnf); first
        | (with_reducible refine And.intro ?_ ?_)
        | (with_reducible exact True.intro)
        | ((with_reducible refine Ob.mk ?_); first | (with_reducible rfl) | (first | ((repeat (first | (with_reducible exact grd_p H) | (replace H := grd_k H) | (replace H := out_step H (by assumption)))); done) | rfl | ((repeat (first | exact grd_p H | replace H := grd_k H | replace H := out_step H (by assumption))); done) | ((repeat (first | exact grd_p H | (have hp := grd_p H; exact hp) | replace H := grd_k H | replace H := out_step H (by assumption) | (replace H := bind_some H; obtain ⟨_, _, H⟩ := H))); done) | (repeat (first | exact grd_p H | replace H := grd_k H | replace H := out_step H (by assumption)))))
        | ((with_reducible refine CallW.mk ?_); (repeat (first | replace H := grd_k H | replace H := out_step H (by assumption))); replace H := bind_some H; obtain ⟨y, hy, H⟩ := H; first | ((with_reducible have hz : slices_stableCmpFunc_impl_DayRow__i1 _ _ = some y := hy); clear hz; refine Exists.intro _ (Exists.intro _ ⟨slices_stableCmpFunc_impl_DayRow__i1.call hy ?_, rfl, rfl, ?_⟩)))
        | ((with_reducible refine fin_mk ?_); (repeat (first | replace H := grd_k H | replace H := out_step H (by assumption))); have H := Option.some.inj H; subst H))
    | constructor
  all_goals exact viewz _ _
def G25 : Env := G24.add 27 [true] slices_SortStableFunc___impl_DayRow_impl_DayRow__i1.S
theorem G25_ok : EnvOk Try.prog G25 := G24_ok.add ent_27 fun ar h r h1 ⟨a0, y, hy, e1, e2, e3, e4⟩ => by
  subst e3 e4; exact (slices_SortStableFunc___impl_DayRow_impl_DayRow__i1.spec a0 y hy).le e1 e2
attribute [local irreducible] slices_SortStableFunc___impl_DayRow_impl_DayRow__i1

noncomputable def impl_BestDays_loop1  (v19 : Nat) (v20 : Int) (v21 : Int) (v22 : (List DayRow)) (v23 : (List Int)) (v24 : (List DayRow)) : Option (Lp (Nat × Int × Int × (List DayRow) × (List Int) × (List DayRow)) (((List DayRow) × (List Int)))) :=
  (cond (decide (v21 < v20)) (grd (0 ≤ v21 ∧ v21 < (v19 : Int)) (grd (v23.length + [(v24.getD (((0 : Int).toNat) + v21.toNat) d_DayRow).1].length ≤ 140737488355328 / 8 ∧ v23.length + [(v24.getD (((0 : Int).toNat) + v21.toNat) d_DayRow).1].length ≤ 140737488355328) (some (.go (v19, v20, (w64 (v21 + (1 : Int))), v22, (v23 ++ [(v24.getD (((0 : Int).toNat) + v21.toNat) d_DayRow).1]), v24))))) ((some (.out (v22, v23)))))
noncomputable def impl_BestDays (a0 : (List DayRow)) (a1 : Int) : Option (((List DayRow)) ⊕ ((List Int) × (List DayRow))) :=
  ((impl_AreDayRows a0).bind fun y1 => (cond (!y1) ((some (Sum.inl a0))) ((impl_within a1 (0 : Int) (14 : Int)).bind fun y2 => (cond (!y2) ((some (Sum.inl a0))) (((slices_Clone___impl_DayRow_impl_DayRow_ a0).bind fun y3 => ((slices_DeleteFunc___impl_DayRow_impl_DayRow__i1 y3.1).bind (Sum.elim (fun y5 => (some ((Tg.mk : Tg 1), y3.2, y5.2))) (fun y6 => (some ((Tg.mk : Tg 1), y3.2, y6)))))).bind fun z7 => ((slices_SortStableFunc___impl_DayRow_impl_DayRow__i1 z7.2.2).bind fun y8 => (grd (0 ≤ (0 : Int) ∧ (0 : Int) ≤ (if true = true then (if (y8.length : Int) < a1 then (y8.length : Int) else a1) else (if (y8.length : Int) > a1 then (y8.length : Int) else a1)) ∧ (if true = true then (if (y8.length : Int) < a1 then (y8.length : Int) else a1) else (if (y8.length : Int) > a1 then (y8.length : Int) else a1)) ≤ (y8.length : Int)) ((iter (fun s => impl_BestDays_loop1 s.1 s.2.1 s.2.2.1 s.2.2.2.1 s.2.2.2.2.1 s.2.2.2.2.2) ((((if true = true then (if (y8.length : Int) < a1 then (y8.length : Int) else a1) else (if (y8.length : Int) > a1 then (y8.length : Int) else a1)) - (0 : Int)).toNat), ((((if true = true then (if (y8.length : Int) < a1 then (y8.length : Int) else a1) else (if (y8.length : Int) > a1 then (y8.length : Int) else a1)) - (0 : Int)).toNat : Nat) : Int), (0 : Int), z7.2.1, ([] : List Int), y8)).bind (fun r25 => (some (Sum.inr (r25.2, r25.1))))))))))))
def impl_BestDays.res (_ : (List DayRow)) (_ : Int) (y : ((List DayRow)) ⊕ ((List Int) × (List DayRow))) : AV := match y with
  | (.inl y) => (.tup [(.v (.slice none 0 0)), (.v (.bool false))])
  | (.inr y) => (.tup [(.own 1), (.v (.bool true))])
def impl_BestDays.out (_ : (List DayRow)) (_ : Int) (y : ((List DayRow)) ⊕ ((List Int) × (List DayRow))) : List (Option LB) := match y with
  | (.inl y) => [some (.arr 33 ty_DayRow y)]
  | (.inr y) => [some (.arr 33 ty_DayRow y.2), some (.arr 3 (.int .i64) y.1)]
def impl_BestDays.S (ar : List AV) (h : List (Option LB)) (r : AV) (h1 : List (Option LB)) : Prop := ∃ a0 a1 y, impl_BestDays a0 a1 = some y ∧ leL ar [(.own 0), (.v (.int .i64 a1))] ∧ leH h [some (.arr 33 ty_DayRow a0)] ∧ r = impl_BestDays.res a0 a1 y ∧ h1 = impl_BestDays.out a0 a1 y
theorem impl_BestDays.call {ar : List AV} {h : List (Option LB)} {a0 : (List DayRow)} {a1 : Int} {y : ((List DayRow)) ⊕ ((List Int) × (List DayRow))} (H : impl_BestDays a0 a1 = some y) (h0 : leLk ar [(.own 0), (.v (.int .i64 a1))] (leHk h [some (.arr 33 ty_DayRow a0)])) : impl_BestDays.S ar h (impl_BestDays.res a0 a1 y) (impl_BestDays.out a0 a1 y) := ⟨a0, a1, y, H, (args_ok h0).1, (args_ok h0).2, rfl, rfl⟩
set_option maxHeartbeats 100000000 in
set_option maxRecDepth 100000 in
theorem impl_BestDays.spec (a0 : (List DayRow)) (a1 : Int) (y : ((List DayRow)) ⊕ ((List Int) × (List DayRow))) (H : impl_BestDays a0 a1 = some y) : Spec Try.prog 6 [(.own 0), (.v (.int .i64 a1))] [some (.arr 33 ty_DayRow a0)] (impl_BestDays.res a0 a1 y) (impl_BestDays.out a0 a1 y) := by
  have hlen : Nat.ble ([some (.arr 33 ty_DayRow a0)] : List (Option LB)).length (impl_BestDays.out a0 a1 y).length = true := by
    rcases y with y | y <;> rfl
  refine spec_intro (G25_ok.at tok []) (ct := [(4, none), (11, some [7])]) Try.func6 rfl (by kernel_rfl) (by kernel_rfl) hlen ?_
  repeat' first
    | ((with_reducible refine eqg ?_); exact rfl)
    | ((with_reducible refine KOb.mk ?_); kernel_rfl)
    | ((with_reducible intro h); (repeat (first | replace H := grd_k H | replace H := out_step H (by assumption))); first | replace H := cond_t h H | replace H := cond_f h H | exact absurd h (by decide) | skip)
    | ((with_reducible refine Ob.mk ?_); first | (with_reducible rfl) | (first | ((repeat (first | (with_reducible exact grd_p H) | (replace H := grd_k H) | (replace H := out_step H (by assumption)))); done) | rfl | ((repeat (first | exact grd_p H | replace H := grd_k H | replace H := out_step H (by assumption))); done) | ((repeat (first | exact grd_p H | (have hp := grd_p H; exact hp) | replace H := grd_k H | replace H := out_step H (by assumption) | (replace H := bind_some H; obtain ⟨_, _, H⟩ := H))); done) | (repeat (first | exact grd_p H | replace H := grd_k H | replace H := out_step H (by assumption)))))
    | (with_reducible exact True.intro)
    | ((conv => whnf); first
        | (with_reducible refine And.intro ?_ ?_)
        | (with_reducible exact True.intro)
        | ((with_reducible refine Ob.mk ?_); first | (with_reducible rfl) | (first | ((repeat (first | (with_reducible exact grd_p H) | (replace H := grd_k H) | (replace H := out_step H (by assumption)))); done) | rfl | ((repeat (first | exact grd_p H | replace H := grd_k H | replace H := out_step H (by assumption))); done) | ((repeat (first | exact grd_p H | (have hp := grd_p H; exact hp) | replace H := grd_k H | replace H := out_step H (by assumption) | (replace H := bind_some H; obtain ⟨_, _, H⟩ := H))); done) | (repeat (first | exact grd_p H | replace H := grd_k H | replace H := out_step H (by assumption)))))
        | ((with_reducible refine CallW.mk ?_); (repeat (first | replace H := grd_k H | replace H := out_step H (by assumption))); replace H := bind_some H; obtain ⟨y, hy, H⟩ := H; first | ((with_reducible have hz : impl_AreDayRows _ = some y := hy); clear hz; refine Exists.intro _ (Exists.intro _ ⟨impl_AreDayRows.call hy ?_, rfl, rfl, ?_⟩)) | ((with_reducible have hz : impl_within _ _ _ = some y := hy); clear hz; refine Exists.intro _ (Exists.intro _ ⟨impl_within.call hy ?_, rfl, rfl, ?_⟩)) | ((with_reducible have hz : slices_Clone___impl_DayRow_impl_DayRow_ _ = some y := hy); clear hz; refine Exists.intro _ (Exists.intro _ ⟨slices_Clone___impl_DayRow_impl_DayRow_.call hy ?_, rfl, rfl, ?_⟩)) | ((with_reducible have hz : slices_DeleteFunc___impl_DayRow_impl_DayRow__i1 _ = some y := hy); clear hz; rcases y with y | y <;> refine Exists.intro _ (Exists.intro _ ⟨slices_DeleteFunc___impl_DayRow_impl_DayRow__i1.call hy ?_, rfl, rfl, ?_⟩)) | ((with_reducible have hz : slices_SortStableFunc___impl_DayRow_impl_DayRow__i1 _ = some y := hy); clear hz; refine Exists.intro _ (Exists.intro _ ⟨slices_SortStableFunc___impl_DayRow_impl_DayRow__i1.call hy ?_, rfl, rfl, ?_⟩)))
        | ((repeat (first | replace H := grd_k H | replace H := out_step H (by assumption))); refine loop_iter (G25_ok.at tok []) (ct := [(4, none), (11, some [7])]) (F := (fun s1 : Nat × Int × Int × (List DayRow) × (List Int) × (List DayRow) => ⟨sl [(7, (.own 1)), (29, (.view 2 ((0 : Int).toNat) s1.1)), (30, (.v (.int .i64 s1.2.1))), (31, (.v (.int .i64 s1.2.2.1)))], [some (.arr 33 ty_DayRow s1.2.2.2.1), some (.arr 3 (.int .i64) s1.2.2.2.2.1), some (.arr 33 ty_DayRow s1.2.2.2.2.2)]⟩)) (step := (fun s : Nat × Int × Int × (List DayRow) × (List Int) × (List DayRow) => impl_BestDays_loop1 s.1 s.2.1 s.2.2.1 s.2.2.2.1 s.2.2.2.2.1 s.2.2.2.2.2)) _ H (by kernel_rfl) (sub_auto ?_) ?_; rotate_left; (intro s1 r v hr H); rotate_right)
        | ((with_reducible refine cutAt (id := 4) ?_); (repeat (first | replace H := grd_k H | replace H := out_step H (by assumption))); first | (replace H := bind_some H; obtain ⟨z, hz, H⟩ := H; have hT : Tg 1 × (List DayRow) × (List DayRow) := z; clear hT; refine CutC.mk (id := 4) ⟨sl [(1, (.v (.int .i64 a1))), (6, (.own 1))], [some (.arr 33 ty_DayRow z.2.1), some (.arr 33 ty_DayRow z.2.2)]⟩ ?_ ?_; (replace H := hz)))
        | ((repeat (first | replace H := grd_k H | replace H := out_step H (by assumption))); have H := Option.some.inj H; subst H; with_reducible refine sub_auto ?_)
        | ((repeat (first | replace H := grd_k H | replace H := out_step H (by assumption))); refine again_step H (by assumption) (sub_auto ?_))
        | ((with_reducible refine fin_mk ?_); (repeat (first | replace H := grd_k H | replace H := out_step H (by assumption))); have H := Option.some.inj H; subst H))
    | constructor
def G26 : Env := G25.add 6 [true] impl_BestDays.S
theorem G26_ok : EnvOk Try.prog G26 := G25_ok.add ent_6 fun ar h r h1 ⟨a0, a1, y, hy, e1, e2, e3, e4⟩ => by
  subst e3 e4; exact (impl_BestDays.spec a0 a1 y hy).le e1 e2
attribute [local irreducible] impl_BestDays

noncomputable def spec_l1In (a0 : Int) (a1 : Int) (a2 : Int) : Option (Bool) :=
  (cond (decide (a1 ≤ a0)) ((some (decide (a0 ≤ a2)))) ((some false)))
def spec_l1In.res (_ : Int) (_ : Int) (_ : Int) (y : Bool) : AV := (.bl y)
def spec_l1In.out (_ : Int) (_ : Int) (_ : Int) (_ : Bool) : List (Option LB) := []
def spec_l1In.S (ar : List AV) (h : List (Option LB)) (r : AV) (h1 : List (Option LB)) : Prop := ∃ a0 a1 a2 y, spec_l1In a0 a1 a2 = some y ∧ leL ar [(.v (.int .i64 a0)), (.v (.int .i64 a1)), (.v (.int .i64 a2))] ∧ leH h [] ∧ r = spec_l1In.res a0 a1 a2 y ∧ h1 = spec_l1In.out a0 a1 a2 y
theorem spec_l1In.call {ar : List AV} {h : List (Option LB)} {a0 : Int} {a1 : Int} {a2 : Int} {y : Bool} (H : spec_l1In a0 a1 a2 = some y) (h0 : leLk ar [(.v (.int .i64 a0)), (.v (.int .i64 a1)), (.v (.int .i64 a2))] (leHk h [])) : spec_l1In.S ar h (spec_l1In.res a0 a1 a2 y) (spec_l1In.out a0 a1 a2 y) := ⟨a0, a1, a2, y, H, (args_ok h0).1, (args_ok h0).2, rfl, rfl⟩
set_option maxHeartbeats 100000000 in
set_option maxRecDepth 100000 in
theorem spec_l1In.spec (a0 : Int) (a1 : Int) (a2 : Int) (y : Bool) (H : spec_l1In a0 a1 a2 = some y) : Spec Try.prog 31 [(.v (.int .i64 a0)), (.v (.int .i64 a1)), (.v (.int .i64 a2))] [] (spec_l1In.res a0 a1 a2 y) (spec_l1In.out a0 a1 a2 y) := by
  refine spec_intro (G26_ok.at tok []) (ct := []) Try.func31 rfl (by kernel_rfl) (by kernel_rfl) rfl ?_
  repeat' first
    | ((with_reducible refine eqg ?_); exact rfl)
    | ((with_reducible refine KOb.mk ?_); kernel_rfl)
    | ((with_reducible intro h); (repeat (first | replace H := grd_k H | replace H := out_step H (by assumption))); first | replace H := cond_t h H | replace H := cond_f h H | exact absurd h (by decide) | skip)
    | ((with_reducible refine Ob.mk ?_); first | (with_reducible rfl) | (first | ((repeat (first | (with_reducible exact grd_p H) | (replace H := grd_k H) | (replace H := out_step H (by assumption)))); done) | rfl | ((repeat (first | exact grd_p H | replace H := grd_k H | replace H := out_step H (by assumption))); done) | ((repeat (first | exact grd_p H | (have hp := grd_p H; exact hp) | replace H := grd_k H | replace H := out_step H (by assumption) | (replace H := bind_some H; obtain ⟨_, _, H⟩ := H))); done) | (repeat (first | exact grd_p H | replace H := grd_k H | replace H := out_step H (by assumption)))))
    | (with_reducible exact True.intro)
    | ((conv => whnf); first
        | (with_reducible refine And.intro ?_ ?_)
        | (with_reducible exact True.intro)
        | ((with_reducible refine Ob.mk ?_); first | (with_reducible rfl) | (first | ((repeat (first | (with_reducible exact grd_p H) | (replace H := grd_k H) | (replace H := out_step H (by assumption)))); done) | rfl | ((repeat (first | exact grd_p H | replace H := grd_k H | replace H := out_step H (by assumption))); done) | ((repeat (first | exact grd_p H | (have hp := grd_p H; exact hp) | replace H := grd_k H | replace H := out_step H (by assumption) | (replace H := bind_some H; obtain ⟨_, _, H⟩ := H))); done) | (repeat (first | exact grd_p H | replace H := grd_k H | replace H := out_step H (by assumption)))))
        | ((with_reducible refine fin_mk ?_); (repeat (first | replace H := grd_k H | replace H := out_step H (by assumption))); have H := Option.some.inj H; subst H))
    | constructor
def G27 : Env := G26.add 31 [] spec_l1In.S
theorem G27_ok : EnvOk Try.prog G27 := G26_ok.add ent_31 fun ar h r h1 ⟨a0, a1, a2, y, hy, e1, e2, e3, e4⟩ => by
  subst e3 e4; exact (spec_l1In.spec a0 a1 a2 y hy).le e1 e2
attribute [local irreducible] spec_l1In

noncomputable def spec_l2Word_loop1 (a0 : ByteArray) (v2 : Int) : Option (Lp (Int) ((Unit) ⊕ (Unit))) :=
  (cond (decide (v2 < (a0.size : Int))) (grd (0 ≤ v2 ∧ v2 < (a0.size : Int)) (cond (decide ((bAt a0 v2) < (97 : Int))) ((some (.out (Sum.inl ())))) (grd (0 ≤ v2 ∧ v2 < (a0.size : Int)) (cond (decide ((122 : Int) < (bAt a0 v2))) ((some (.out (Sum.inl ())))) (some (.go (w64 (v2 + (1 : Int))))))))) ((some (.out (Sum.inr ())))))
noncomputable def spec_l2Word (a0 : ByteArray) : Option (Bool) :=
  ((iter (fun s => spec_l2Word_loop1 a0 s) (0 : Int)).bind (Sum.elim (fun _ => (some false)) (fun _ => ((spec_l1In (a0.size : Int) (1 : Int) (10 : Int)).bind fun y6 => (some y6)))))
def spec_l2Word.res (_ : ByteArray) (y : Bool) : AV := (.bl y)
def spec_l2Word.out (_ : ByteArray) (_ : Bool) : List (Option LB) := []
def spec_l2Word.S (ar : List AV) (h : List (Option LB)) (r : AV) (h1 : List (Option LB)) : Prop := ∃ a0 y, spec_l2Word a0 = some y ∧ leL ar [(.v (.string a0))] ∧ leH h [] ∧ r = spec_l2Word.res a0 y ∧ h1 = spec_l2Word.out a0 y
theorem spec_l2Word.call {ar : List AV} {h : List (Option LB)} {a0 : ByteArray} {y : Bool} (H : spec_l2Word a0 = some y) (h0 : leLk ar [(.v (.string a0))] (leHk h [])) : spec_l2Word.S ar h (spec_l2Word.res a0 y) (spec_l2Word.out a0 y) := ⟨a0, y, H, (args_ok h0).1, (args_ok h0).2, rfl, rfl⟩
set_option maxHeartbeats 100000000 in
set_option maxRecDepth 100000 in
theorem spec_l2Word.spec (a0 : ByteArray) (y : Bool) (H : spec_l2Word a0 = some y) : Spec Try.prog 50 [(.v (.string a0))] [] (spec_l2Word.res a0 y) (spec_l2Word.out a0 y) := by
  refine spec_intro (G27_ok.at tok []) (ct := [(5, some [0, 3, 15, 16, 17, 18, 19])]) Try.func50 rfl (by kernel_rfl) (by kernel_rfl) rfl ?_
  repeat' first
    | ((with_reducible refine eqg ?_); exact rfl)
    | ((with_reducible refine KOb.mk ?_); kernel_rfl)
    | ((with_reducible intro h); (repeat (first | replace H := grd_k H | replace H := out_step H (by assumption))); first | replace H := cond_t h H | replace H := cond_f h H | exact absurd h (by decide) | skip)
    | ((with_reducible refine Ob.mk ?_); first | (with_reducible rfl) | (first | ((repeat (first | (with_reducible exact grd_p H) | (replace H := grd_k H) | (replace H := out_step H (by assumption)))); done) | rfl | ((repeat (first | exact grd_p H | replace H := grd_k H | replace H := out_step H (by assumption))); done) | ((repeat (first | exact grd_p H | (have hp := grd_p H; exact hp) | replace H := grd_k H | replace H := out_step H (by assumption) | (replace H := bind_some H; obtain ⟨_, _, H⟩ := H))); done) | (repeat (first | exact grd_p H | replace H := grd_k H | replace H := out_step H (by assumption)))))
    | (with_reducible exact True.intro)
    | ((conv => whnf); first
        | (with_reducible refine And.intro ?_ ?_)
        | (with_reducible exact True.intro)
        | ((with_reducible refine Ob.mk ?_); first | (with_reducible rfl) | (first | ((repeat (first | (with_reducible exact grd_p H) | (replace H := grd_k H) | (replace H := out_step H (by assumption)))); done) | rfl | ((repeat (first | exact grd_p H | replace H := grd_k H | replace H := out_step H (by assumption))); done) | ((repeat (first | exact grd_p H | (have hp := grd_p H; exact hp) | replace H := grd_k H | replace H := out_step H (by assumption) | (replace H := bind_some H; obtain ⟨_, _, H⟩ := H))); done) | (repeat (first | exact grd_p H | replace H := grd_k H | replace H := out_step H (by assumption)))))
        | ((with_reducible refine CallW.mk ?_); (repeat (first | replace H := grd_k H | replace H := out_step H (by assumption))); replace H := bind_some H; obtain ⟨y, hy, H⟩ := H; first | ((with_reducible have hz : spec_l1In _ _ _ = some y := hy); clear hz; refine Exists.intro _ (Exists.intro _ ⟨spec_l1In.call hy ?_, rfl, rfl, ?_⟩)))
        | ((repeat (first | replace H := grd_k H | replace H := out_step H (by assumption))); refine loop_iter (G27_ok.at tok []) (ct := [(5, some [0, 3, 15, 16, 17, 18, 19])]) (F := (fun s1 : Int => ⟨sl [(0, (.v (.string a0))), (3, (.v (.int .i64 s1)))], []⟩)) (step := (fun s : Int => spec_l2Word_loop1 _ s)) _ H (by kernel_rfl) (sub_auto ?_) ?_; rotate_left; (intro s1 r v hr H); rotate_right)
        | ((repeat (first | replace H := grd_k H | replace H := out_step H (by assumption))); refine again_step H (by assumption) (sub_auto ?_))
        | ((with_reducible refine fin_mk ?_); (repeat (first | replace H := grd_k H | replace H := out_step H (by assumption))); have H := Option.some.inj H; subst H))
    | constructor
def G28 : Env := G27.add 50 [] spec_l2Word.S
theorem G28_ok : EnvOk Try.prog G28 := G27_ok.add ent_50 fun ar h r h1 ⟨a0, y, hy, e1, e2, e3, e4⟩ => by
  subst e3 e4; exact (spec_l2Word.spec a0 y hy).le e1 e2
attribute [local irreducible] spec_l2Word

noncomputable def spec_l26One (a0 : DayRow) : Option (Bool) :=
  ((spec_l1In a0.1 (0 : Int) (999 : Int)).bind fun y1 => (cond (!y1) ((some false)) ((spec_l1In a0.2.1 (0 : Int) (99999 : Int)).bind fun y2 => (cond (!y2) ((some false)) ((spec_l1In a0.2.2.1 (0 : Int) (99999 : Int)).bind fun y3 => (cond (!y3) ((some false)) ((spec_l1In a0.2.2.2.1 (0 : Int) (24 : Int)).bind fun y4 => (cond (!y4) ((some false)) ((spec_l1In a0.2.2.2.2.1 (0 : Int) (99 : Int)).bind fun y5 => (cond (!y5) ((some false)) (joinx (cond (decide (a0.2.2.2.1 = (0 : Int))) (cond (decide ((0 : Int) < a0.2.1)) (outm ((some false))) (cond (decide ((0 : Int) < a0.2.2.1)) (outm ((some false))) (cond (decide ((0 : Int) < a0.2.2.2.2.1)) (outm ((some false))) ((some (.go ())))))) ((some (.go ())))) (fun (_ : Unit) => (cond (decide (a0.2.2.2.2.1 = (0 : Int))) (cond (decide (a0.2.2.2.2.2.1 = (ByteArray.mk #[]))) ((some true)) (cond (decide ((0 : Int) < a0.2.2.2.2.1)) ((spec_l2Word a0.2.2.2.2.2.1).bind fun y7 => (some y7)) ((some false)))) (cond (decide ((0 : Int) < a0.2.2.2.2.1)) ((spec_l2Word a0.2.2.2.2.2.1).bind fun y8 => (some y8)) ((some false))))))))))))))))
def spec_l26One.res (_ : DayRow) (y : Bool) : AV := (.bl y)
def spec_l26One.out (_ : DayRow) (_ : Bool) : List (Option LB) := []
def spec_l26One.S (ar : List AV) (h : List (Option LB)) (r : AV) (h1 : List (Option LB)) : Prop := ∃ a0 y, spec_l26One a0 = some y ∧ leL ar [(.agg [(.v (.int .i64 a0.1)), (.v (.int .i64 a0.2.1)), (.v (.int .i64 a0.2.2.1)), (.v (.int .i64 a0.2.2.2.1)), (.v (.int .i64 a0.2.2.2.2.1)), (.v (.string a0.2.2.2.2.2.1))])] ∧ leH h [] ∧ r = spec_l26One.res a0 y ∧ h1 = spec_l26One.out a0 y
theorem spec_l26One.call {ar : List AV} {h : List (Option LB)} {a0 : DayRow} {y : Bool} (H : spec_l26One a0 = some y) (h0 : leLk ar [(.agg [(.v (.int .i64 a0.1)), (.v (.int .i64 a0.2.1)), (.v (.int .i64 a0.2.2.1)), (.v (.int .i64 a0.2.2.2.1)), (.v (.int .i64 a0.2.2.2.2.1)), (.v (.string a0.2.2.2.2.2.1))])] (leHk h [])) : spec_l26One.S ar h (spec_l26One.res a0 y) (spec_l26One.out a0 y) := ⟨a0, y, H, (args_ok h0).1, (args_ok h0).2, rfl, rfl⟩
set_option maxHeartbeats 100000000 in
set_option maxRecDepth 100000 in
theorem spec_l26One.spec (a0 : DayRow) (y : Bool) (H : spec_l26One a0 = some y) : Spec Try.prog 43 [(.agg [(.v (.int .i64 a0.1)), (.v (.int .i64 a0.2.1)), (.v (.int .i64 a0.2.2.1)), (.v (.int .i64 a0.2.2.2.1)), (.v (.int .i64 a0.2.2.2.2.1)), (.v (.string a0.2.2.2.2.2.1))])] [] (spec_l26One.res a0 y) (spec_l26One.out a0 y) := by
  refine spec_intro (G28_ok.at tok []) (ct := [(5, none), (2, some [1, 30, 35, 36, 37, 38, 39, 40, 41, 42, 43, 44, 45, 46, 47, 53, 54, 55, 58, 59, 60, 61, 62, 63, 64, 65]), (4, some [1, 48, 53, 54, 55, 58, 59, 60, 61, 62, 63, 64, 65])]) Try.func43 rfl (by kernel_rfl) (by kernel_rfl) rfl ?_
  repeat' first
    | (with_reducible exact (outm_no H).elim)
    | ((replace H := out_step H (by assumption)); exact (outm_no H).elim)
    | ((with_reducible refine eqg ?_); exact rfl)
    | ((with_reducible refine KOb.mk ?_); kernel_rfl)
    | ((with_reducible intro h); (repeat (first | replace H := grd_k H | replace H := out_step H (by assumption) | replace H := outm_out H)); first | replace H := cond_t h H | replace H := cond_f h H | exact absurd h (by decide) | skip)
    | ((with_reducible refine Ob.mk ?_); first | (with_reducible rfl) | (first | ((repeat (first | (with_reducible exact grd_p H) | (replace H := grd_k H) | (replace H := out_step H (by assumption)) | replace H := outm_out H)); done) | rfl | ((repeat (first | exact grd_p H | replace H := grd_k H | replace H := out_step H (by assumption) | replace H := outm_out H)); done) | ((repeat (first | exact grd_p H | (have hp := grd_p H; exact hp) | replace H := grd_k H | replace H := out_step H (by assumption) | replace H := outm_out H | (replace H := bind_some H; obtain ⟨_, _, H⟩ := H))); done) | (repeat (first | exact grd_p H | replace H := grd_k H | replace H := out_step H (by assumption) | replace H := outm_out H))))
    | (with_reducible exact True.intro)
    | ((conv => whnf); first
        | (with_reducible refine And.intro ?_ ?_)
        | (with_reducible exact True.intro)
        | ((with_reducible refine Ob.mk ?_); first | (with_reducible rfl) | (first | ((repeat (first | (with_reducible exact grd_p H) | (replace H := grd_k H) | (replace H := out_step H (by assumption)) | replace H := outm_out H)); done) | rfl | ((repeat (first | exact grd_p H | replace H := grd_k H | replace H := out_step H (by assumption) | replace H := outm_out H)); done) | ((repeat (first | exact grd_p H | (have hp := grd_p H; exact hp) | replace H := grd_k H | replace H := out_step H (by assumption) | replace H := outm_out H | (replace H := bind_some H; obtain ⟨_, _, H⟩ := H))); done) | (repeat (first | exact grd_p H | replace H := grd_k H | replace H := out_step H (by assumption) | replace H := outm_out H))))
        | ((with_reducible refine CallW.mk ?_); (repeat (first | replace H := grd_k H | replace H := out_step H (by assumption) | replace H := outm_out H)); replace H := bind_some H; obtain ⟨y, hy, H⟩ := H; first | ((with_reducible have hz : spec_l1In _ _ _ = some y := hy); clear hz; refine Exists.intro _ (Exists.intro _ ⟨spec_l1In.call hy ?_, rfl, rfl, ?_⟩)) | ((with_reducible have hz : spec_l2Word _ = some y := hy); clear hz; refine Exists.intro _ (Exists.intro _ ⟨spec_l2Word.call hy ?_, rfl, rfl, ?_⟩)))
        | ((with_reducible refine cutAt (id := 5) ?_); (repeat (first | replace H := grd_k H | replace H := out_step H (by assumption) | replace H := outm_out H)); first | (replace H := joinx_some H; rcases H with ⟨z, hz, H⟩ | H; rotate_left; (with_reducible refine CutC.no ?_); rotate_right; (refine CutC.mk (id := 5) ⟨sl [(1, (.loc 0 0 0))], [some (.box 33 [(.v (.int .i64 a0.1)), (.v (.int .i64 a0.2.1)), (.v (.int .i64 a0.2.2.1)), (.v (.int .i64 a0.2.2.2.1)), (.v (.int .i64 a0.2.2.2.2.1)), (.v (.string a0.2.2.2.2.2.1))])]⟩ ?_ ?_; (replace H := hz))))
        | ((repeat (first | replace H := grd_k H | replace H := out_step H (by assumption) | replace H := outm_out H)); have H := Option.some.inj H; subst H; with_reducible refine sub_auto ?_)
        | ((repeat (first | replace H := grd_k H | replace H := out_step H (by assumption) | replace H := outm_out H)); have H := go_inj H; subst H; with_reducible refine sub_auto ?_)
        | ((repeat (first | replace H := grd_k H | replace H := out_step H (by assumption) | replace H := outm_out H)); exact (go_out H).elim)
        | ((with_reducible refine fin_mk ?_); (repeat (first | replace H := grd_k H | replace H := out_step H (by assumption) | replace H := outm_out H)); have H := Option.some.inj H; subst H))
    | constructor
def G29 : Env := G28.add 43 [] spec_l26One.S
theorem G29_ok : EnvOk Try.prog G29 := G28_ok.add ent_43 fun ar h r h1 ⟨a0, y, hy, e1, e2, e3, e4⟩ => by
  subst e3 e4; exact (spec_l26One.spec a0 y hy).le e1 e2
attribute [local irreducible] spec_l26One

noncomputable def spec_l26Good_loop1 (a0 : (List DayRow)) (v5 : Int) : Option (Lp (Int) ((Unit) ⊕ (Unit))) :=
  (cond (decide (v5 < (a0.length : Int))) (grd (0 ≤ v5 ∧ v5 < (a0.length : Int)) ((spec_l26One ((a0.getD v5.toNat d_DayRow).1, (a0.getD v5.toNat d_DayRow).2.1, (a0.getD v5.toNat d_DayRow).2.2.1, (a0.getD v5.toNat d_DayRow).2.2.2.1, (a0.getD v5.toNat d_DayRow).2.2.2.2.1, (a0.getD v5.toNat d_DayRow).2.2.2.2.2.1, ())).bind fun y6 => (cond (!y6) ((some (.out (Sum.inl ())))) (cond (decide ((0 : Int) < v5)) (grd (0 ≤ (w64 (v5 - (1 : Int))) ∧ (w64 (v5 - (1 : Int))) < (a0.length : Int)) (grd (0 ≤ v5 ∧ v5 < (a0.length : Int)) (cond (decide (((a0.getD v5.toNat d_DayRow).1) ≤ ((a0.getD ((w64 (v5 - (1 : Int))).toNat) d_DayRow).1))) ((some (.out (Sum.inl ())))) (some (.go (w64 (v5 + (1 : Int)))))))) (some (.go (w64 (v5 + (1 : Int))))))))) ((some (.out (Sum.inr ())))))
noncomputable def spec_l26Good (a0 : (List DayRow)) : Option (Bool) :=
  ((iter (fun s => spec_l26Good_loop1 a0 s) (0 : Int)).bind (Sum.elim (fun _ => (some false)) (fun _ => (some (decide ((a0.length : Int) ≤ (14 : Int)))))))
def spec_l26Good.res (_ : (List DayRow)) (y : Bool) : AV := (.bl y)
def spec_l26Good.out (_ : (List DayRow)) (_ : Bool) : List (Option LB) := []
def spec_l26Good.S (ar : List AV) (h : List (Option LB)) (r : AV) (h1 : List (Option LB)) : Prop := ∃ a0 y, spec_l26Good a0 = some y ∧ leL ar [(.tree ty_DayRow a0)] ∧ leH h [] ∧ r = spec_l26Good.res a0 y ∧ h1 = spec_l26Good.out a0 y
theorem spec_l26Good.call {ar : List AV} {h : List (Option LB)} {a0 : (List DayRow)} {y : Bool} (H : spec_l26Good a0 = some y) (h0 : leLk ar [(.tree ty_DayRow a0)] (leHk h [])) : spec_l26Good.S ar h (spec_l26Good.res a0 y) (spec_l26Good.out a0 y) := ⟨a0, y, H, (args_ok h0).1, (args_ok h0).2, rfl, rfl⟩
set_option maxHeartbeats 100000000 in
set_option maxRecDepth 100000 in
theorem spec_l26Good.spec (a0 : (List DayRow)) (y : Bool) (H : spec_l26Good a0 = some y) : Spec Try.prog 30 [(.tree ty_DayRow a0)] [] (spec_l26Good.res a0 y) (spec_l26Good.out a0 y) := by
  refine spec_intro (G29_ok.at tok []) (ct := [(5, some [0, 3, 17, 18, 19, 20, 21, 22, 23, 24, 25, 26, 27, 28, 29, 30, 31, 32, 33])]) Try.func30 rfl (by kernel_rfl) (by kernel_rfl) rfl ?_
  repeat' first
    | ((with_reducible refine eqg ?_); exact rfl)
    | ((with_reducible refine KOb.mk ?_); kernel_rfl)
    | ((with_reducible intro h); (repeat (first | replace H := grd_k H | replace H := out_step H (by assumption))); first | replace H := cond_t h H | replace H := cond_f h H | exact absurd h (by decide) | skip)
    | ((with_reducible refine Ob.mk ?_); first | (with_reducible rfl) | (first | ((repeat (first | (with_reducible exact grd_p H) | (replace H := grd_k H) | (replace H := out_step H (by assumption)))); done) | rfl | ((repeat (first | exact grd_p H | replace H := grd_k H | replace H := out_step H (by assumption))); done) | ((repeat (first | exact grd_p H | (have hp := grd_p H; exact hp) | replace H := grd_k H | replace H := out_step H (by assumption) | (replace H := bind_some H; obtain ⟨_, _, H⟩ := H))); done) | (repeat (first | exact grd_p H | replace H := grd_k H | replace H := out_step H (by assumption)))))
    | (with_reducible exact True.intro)
    | ((conv => whnf); first
        | (with_reducible refine And.intro ?_ ?_)
        | (with_reducible exact True.intro)
        | ((with_reducible refine Ob.mk ?_); first | (with_reducible rfl) | (first | ((repeat (first | (with_reducible exact grd_p H) | (replace H := grd_k H) | (replace H := out_step H (by assumption)))); done) | rfl | ((repeat (first | exact grd_p H | replace H := grd_k H | replace H := out_step H (by assumption))); done) | ((repeat (first | exact grd_p H | (have hp := grd_p H; exact hp) | replace H := grd_k H | replace H := out_step H (by assumption) | (replace H := bind_some H; obtain ⟨_, _, H⟩ := H))); done) | (repeat (first | exact grd_p H | replace H := grd_k H | replace H := out_step H (by assumption)))))
        | ((with_reducible refine CallW.mk ?_); (repeat (first | replace H := grd_k H | replace H := out_step H (by assumption))); replace H := bind_some H; obtain ⟨y, hy, H⟩ := H; first | ((with_reducible have hz : spec_l26One _ = some y := hy); clear hz; refine Exists.intro _ (Exists.intro _ ⟨spec_l26One.call hy ?_, rfl, rfl, ?_⟩)))
        | ((repeat (first | replace H := grd_k H | replace H := out_step H (by assumption))); refine loop_iter (G29_ok.at tok []) (ct := [(5, some [0, 3, 17, 18, 19, 20, 21, 22, 23, 24, 25, 26, 27, 28, 29, 30, 31, 32, 33])]) (F := (fun s1 : Int => ⟨sl [(0, (.tree ty_DayRow a0)), (3, (.v (.int .i64 s1)))], []⟩)) (step := (fun s : Int => spec_l26Good_loop1 _ s)) _ H (by kernel_rfl) (sub_auto ?_) ?_; rotate_left; (intro s1 r v hr H); rotate_right)
        | ((repeat (first | replace H := grd_k H | replace H := out_step H (by assumption))); refine again_step H (by assumption) (sub_auto ?_))
        | ((with_reducible refine fin_mk ?_); (repeat (first | replace H := grd_k H | replace H := out_step H (by assumption))); have H := Option.some.inj H; subst H))
    | constructor
def G30 : Env := G29.add 30 [] spec_l26Good.S
theorem G30_ok : EnvOk Try.prog G30 := G29_ok.add ent_30 fun ar h r h1 ⟨a0, y, hy, e1, e2, e3, e4⟩ => by
  subst e3 e4; exact (spec_l26Good.spec a0 y hy).le e1 e2
attribute [local irreducible] spec_l26Good

noncomputable def spec_BestDays_loop2 (a0 : (List DayRow)) (v20 : Int) (v21 : (List DayRow)) (v23 : Int) : Option (Lp (Int) ((Int × Int × Int × Int × Bool) ⊕ (Int))) :=
  (cond (decide ((0 : Int) < v23)) (grd (0 ≤ (w64 (v23 - (1 : Int))) ∧ (w64 (v23 - (1 : Int))) < (v21.length : Int)) (grd (0 ≤ v20 ∧ v20 < (a0.length : Int)) (cond (decide (((v21.getD ((w64 (v23 - (1 : Int))).toNat) d_DayRow).2.1) < ((a0.getD v20.toNat d_DayRow).2.1))) (some (.go (w64 (v23 - (1 : Int))))) ((some (.out (Sum.inl (v23, v23, (w64 (v23 - (1 : Int))), ((v21.getD ((w64 (v23 - (1 : Int))).toNat) d_DayRow).2.1), (decide (((v21.getD ((w64 (v23 - (1 : Int))).toNat) d_DayRow).2.1) < ((a0.getD v20.toNat d_DayRow).2.1))))))))))) ((some (.out (Sum.inr v23)))))
noncomputable def spec_BestDays_loop1 (a0 : (List DayRow)) (v20 : Int) (v21 : (List DayRow)) : Option (Lp (Int × (List DayRow)) (((List DayRow)))) :=
  (cond (decide (v20 < (a0.length : Int))) ((iter (fun s => spec_BestDays_loop2 a0 v20 v21 s) (v21.length : Int)).bind (Sum.elim (fun r25 => (grd (0 ≤ v20 ∧ v20 < (a0.length : Int)) (cond (decide ((0 : Int) < ((a0.getD v20.toNat d_DayRow).2.2.2.1))) (grd (0 ≤ (0 : Int) ∧ (0 : Int) ≤ r25.1 ∧ r25.1 ≤ (v21.length : Int)) (grd (([] : List DayRow).length + ((v21.drop ((0 : Int).toNat)).take ((r25.1 - (0 : Int)).toNat)).length ≤ 140737488355328 / 56 ∧ ([] : List DayRow).length + ((v21.drop ((0 : Int).toNat)).take ((r25.1 - (0 : Int)).toNat)).length ≤ 140737488355328) (grd (0 ≤ v20 ∧ v20 < (a0.length : Int)) (grd ((([] : List DayRow) ++ ((v21.drop ((0 : Int).toNat)).take ((r25.1 - (0 : Int)).toNat))).length + [((a0.getD v20.toNat d_DayRow).1, (a0.getD v20.toNat d_DayRow).2.1, (a0.getD v20.toNat d_DayRow).2.2.1, (a0.getD v20.toNat d_DayRow).2.2.2.1, (a0.getD v20.toNat d_DayRow).2.2.2.2.1, (a0.getD v20.toNat d_DayRow).2.2.2.2.2.1, ())].length ≤ 140737488355328 / 56 ∧ (([] : List DayRow) ++ ((v21.drop ((0 : Int).toNat)).take ((r25.1 - (0 : Int)).toNat))).length + [((a0.getD v20.toNat d_DayRow).1, (a0.getD v20.toNat d_DayRow).2.1, (a0.getD v20.toNat d_DayRow).2.2.1, (a0.getD v20.toNat d_DayRow).2.2.2.1, (a0.getD v20.toNat d_DayRow).2.2.2.2.1, (a0.getD v20.toNat d_DayRow).2.2.2.2.2.1, ())].length ≤ 140737488355328) (grd (0 ≤ r25.1 ∧ r25.1 ≤ (v21.length : Int) ∧ (v21.length : Int) ≤ (v21.length : Int)) (grd (((([] : List DayRow) ++ ((v21.drop ((0 : Int).toNat)).take ((r25.1 - (0 : Int)).toNat))) ++ [((a0.getD v20.toNat d_DayRow).1, (a0.getD v20.toNat d_DayRow).2.1, (a0.getD v20.toNat d_DayRow).2.2.1, (a0.getD v20.toNat d_DayRow).2.2.2.1, (a0.getD v20.toNat d_DayRow).2.2.2.2.1, (a0.getD v20.toNat d_DayRow).2.2.2.2.2.1, ())]).length + ((v21.drop r25.1.toNat).take (((v21.length : Int) - r25.1).toNat)).length ≤ 140737488355328 / 56 ∧ ((([] : List DayRow) ++ ((v21.drop ((0 : Int).toNat)).take ((r25.1 - (0 : Int)).toNat))) ++ [((a0.getD v20.toNat d_DayRow).1, (a0.getD v20.toNat d_DayRow).2.1, (a0.getD v20.toNat d_DayRow).2.2.1, (a0.getD v20.toNat d_DayRow).2.2.2.1, (a0.getD v20.toNat d_DayRow).2.2.2.2.1, (a0.getD v20.toNat d_DayRow).2.2.2.2.2.1, ())]).length + ((v21.drop r25.1.toNat).take (((v21.length : Int) - r25.1).toNat)).length ≤ 140737488355328) (some (.go ((w64 (v20 + (1 : Int))), (((([] : List DayRow) ++ ((v21.drop ((0 : Int).toNat)).take ((r25.1 - (0 : Int)).toNat))) ++ [((a0.getD v20.toNat d_DayRow).1, (a0.getD v20.toNat d_DayRow).2.1, (a0.getD v20.toNat d_DayRow).2.2.1, (a0.getD v20.toNat d_DayRow).2.2.2.1, (a0.getD v20.toNat d_DayRow).2.2.2.2.1, (a0.getD v20.toNat d_DayRow).2.2.2.2.2.1, ())]) ++ ((v21.drop r25.1.toNat).take (((v21.length : Int) - r25.1).toNat)))))))))))) (some (.go ((w64 (v20 + (1 : Int))), v21)))))) (fun r26 => (grd (0 ≤ v20 ∧ v20 < (a0.length : Int)) (cond (decide ((0 : Int) < ((a0.getD v20.toNat d_DayRow).2.2.2.1))) (grd (0 ≤ (0 : Int) ∧ (0 : Int) ≤ r26 ∧ r26 ≤ (v21.length : Int)) (grd (([] : List DayRow).length + ((v21.drop ((0 : Int).toNat)).take ((r26 - (0 : Int)).toNat)).length ≤ 140737488355328 / 56 ∧ ([] : List DayRow).length + ((v21.drop ((0 : Int).toNat)).take ((r26 - (0 : Int)).toNat)).length ≤ 140737488355328) (grd (0 ≤ v20 ∧ v20 < (a0.length : Int)) (grd ((([] : List DayRow) ++ ((v21.drop ((0 : Int).toNat)).take ((r26 - (0 : Int)).toNat))).length + [((a0.getD v20.toNat d_DayRow).1, (a0.getD v20.toNat d_DayRow).2.1, (a0.getD v20.toNat d_DayRow).2.2.1, (a0.getD v20.toNat d_DayRow).2.2.2.1, (a0.getD v20.toNat d_DayRow).2.2.2.2.1, (a0.getD v20.toNat d_DayRow).2.2.2.2.2.1, ())].length ≤ 140737488355328 / 56 ∧ (([] : List DayRow) ++ ((v21.drop ((0 : Int).toNat)).take ((r26 - (0 : Int)).toNat))).length + [((a0.getD v20.toNat d_DayRow).1, (a0.getD v20.toNat d_DayRow).2.1, (a0.getD v20.toNat d_DayRow).2.2.1, (a0.getD v20.toNat d_DayRow).2.2.2.1, (a0.getD v20.toNat d_DayRow).2.2.2.2.1, (a0.getD v20.toNat d_DayRow).2.2.2.2.2.1, ())].length ≤ 140737488355328) (grd (0 ≤ r26 ∧ r26 ≤ (v21.length : Int) ∧ (v21.length : Int) ≤ (v21.length : Int)) (grd (((([] : List DayRow) ++ ((v21.drop ((0 : Int).toNat)).take ((r26 - (0 : Int)).toNat))) ++ [((a0.getD v20.toNat d_DayRow).1, (a0.getD v20.toNat d_DayRow).2.1, (a0.getD v20.toNat d_DayRow).2.2.1, (a0.getD v20.toNat d_DayRow).2.2.2.1, (a0.getD v20.toNat d_DayRow).2.2.2.2.1, (a0.getD v20.toNat d_DayRow).2.2.2.2.2.1, ())]).length + ((v21.drop r26.toNat).take (((v21.length : Int) - r26).toNat)).length ≤ 140737488355328 / 56 ∧ ((([] : List DayRow) ++ ((v21.drop ((0 : Int).toNat)).take ((r26 - (0 : Int)).toNat))) ++ [((a0.getD v20.toNat d_DayRow).1, (a0.getD v20.toNat d_DayRow).2.1, (a0.getD v20.toNat d_DayRow).2.2.1, (a0.getD v20.toNat d_DayRow).2.2.2.1, (a0.getD v20.toNat d_DayRow).2.2.2.2.1, (a0.getD v20.toNat d_DayRow).2.2.2.2.2.1, ())]).length + ((v21.drop r26.toNat).take (((v21.length : Int) - r26).toNat)).length ≤ 140737488355328) (some (.go ((w64 (v20 + (1 : Int))), (((([] : List DayRow) ++ ((v21.drop ((0 : Int).toNat)).take ((r26 - (0 : Int)).toNat))) ++ [((a0.getD v20.toNat d_DayRow).1, (a0.getD v20.toNat d_DayRow).2.1, (a0.getD v20.toNat d_DayRow).2.2.1, (a0.getD v20.toNat d_DayRow).2.2.2.1, (a0.getD v20.toNat d_DayRow).2.2.2.2.1, (a0.getD v20.toNat d_DayRow).2.2.2.2.2.1, ())]) ++ ((v21.drop r26.toNat).take (((v21.length : Int) - r26).toNat)))))))))))) (some (.go ((w64 (v20 + (1 : Int))), v21)))))))) ((some (.out v21))))
noncomputable def spec_BestDays_loop3 (a1 : Int) (v33 : Int) (v34 : (List Int)) (v35 : (List DayRow)) : Option (Lp (Int × (List Int) × (List DayRow)) (((List Int)))) :=
  (cond (decide (v33 < (v35.length : Int))) (cond (decide (v33 < a1)) (grd (0 ≤ v33 ∧ v33 < (v35.length : Int)) (grd (v34.length + [(v35.getD v33.toNat d_DayRow).1].length ≤ 140737488355328 / 8 ∧ v34.length + [(v35.getD v33.toNat d_DayRow).1].length ≤ 140737488355328) (some (.go ((w64 (v33 + (1 : Int))), (v34 ++ [(v35.getD v33.toNat d_DayRow).1]), v35))))) ((some (.out v34)))) ((some (.out v34))))
noncomputable def spec_BestDays (a0 : (List DayRow)) (a1 : Int) : Option ((List Int) × Bool) :=
  ((spec_l26Good a0).bind fun y1 => (cond (!y1) ((some (([] : List Int), false))) ((spec_l1In a1 (0 : Int) (14 : Int)).bind fun y2 => (cond (!y2) ((some (([] : List Int), false))) ((iter (fun s => spec_BestDays_loop1 a0 s.1 s.2) ((0 : Int), ([] : List DayRow))).bind (fun r27 => ((iter (fun s => spec_BestDays_loop3 a1 s.1 s.2.1 s.2.2) ((0 : Int), ([] : List Int), r27)).bind (fun r36 => (some (r36, true))))))))))
def spec_BestDays.res (_ : (List DayRow)) (_ : Int) (y : (List Int) × Bool) : AV := (.tup [(.own 0), (.bl y.2)])
def spec_BestDays.out (_ : (List DayRow)) (_ : Int) (y : (List Int) × Bool) : List (Option LB) := [some (.arr 3 (.int .i64) y.1)]
def spec_BestDays.S (ar : List AV) (h : List (Option LB)) (r : AV) (h1 : List (Option LB)) : Prop := ∃ a0 a1 y, spec_BestDays a0 a1 = some y ∧ leL ar [(.tree ty_DayRow a0), (.v (.int .i64 a1))] ∧ leH h [] ∧ r = spec_BestDays.res a0 a1 y ∧ h1 = spec_BestDays.out a0 a1 y
theorem spec_BestDays.call {ar : List AV} {h : List (Option LB)} {a0 : (List DayRow)} {a1 : Int} {y : (List Int) × Bool} (H : spec_BestDays a0 a1 = some y) (h0 : leLk ar [(.tree ty_DayRow a0), (.v (.int .i64 a1))] (leHk h [])) : spec_BestDays.S ar h (spec_BestDays.res a0 a1 y) (spec_BestDays.out a0 a1 y) := ⟨a0, a1, y, H, (args_ok h0).1, (args_ok h0).2, rfl, rfl⟩
set_option maxHeartbeats 100000000 in
set_option maxRecDepth 100000 in
theorem spec_BestDays.spec (a0 : (List DayRow)) (a1 : Int) (y : (List Int) × Bool) (H : spec_BestDays a0 a1 = some y) : Spec Try.prog 7 [(.tree ty_DayRow a0), (.v (.int .i64 a1))] [] (spec_BestDays.res a0 a1 y) (spec_BestDays.out a0 a1 y) := by
  refine spec_intro (G30_ok.at tok []) (ct := [(4, some [0, 1, 6, 33, 34, 35, 36, 37, 38, 39, 40, 41, 42, 43, 44, 74, 75, 76]), (7, some [0, 1, 6, 7, 8, 33, 34, 35, 36, 37, 38, 39, 40, 41, 42, 43, 44, 74, 75, 76]), (10, some [0, 1, 6, 7, 8, 9, 33, 34, 35, 36, 37, 38, 39, 40, 41, 42, 43, 44, 74, 75, 76]), (12, some [0, 1, 6, 7, 8, 9, 33, 34, 35, 36, 37, 38, 39, 40, 41, 42, 43, 44, 53, 74, 75, 76]), (15, some [1, 6, 7, 10, 74, 75, 76])]) Try.func7 rfl (by kernel_rfl) (by kernel_rfl) rfl ?_
  repeat' first
    | ((with_reducible refine eqg ?_); exact rfl)
    | ((with_reducible refine KOb.mk ?_); kernel_rfl)
    | ((with_reducible intro h); (repeat (first | replace H := grd_k H | replace H := out_step H (by assumption))); first | replace H := cond_t h H | replace H := cond_f h H | exact absurd h (by decide) | skip)
    | ((with_reducible refine Ob.mk ?_); first | (with_reducible rfl) | (first | ((repeat (first | (with_reducible exact grd_p H) | (replace H := grd_k H) | (replace H := out_step H (by assumption)))); done) | rfl | ((repeat (first | exact grd_p H | replace H := grd_k H | replace H := out_step H (by assumption))); done) | ((repeat (first | exact grd_p H | (have hp := grd_p H; exact hp) | replace H := grd_k H | replace H := out_step H (by assumption) | (replace H := bind_some H; obtain ⟨_, _, H⟩ := H))); done) | (repeat (first | exact grd_p H | replace H := grd_k H | replace H := out_step H (by assumption)))))
    | (with_reducible exact True.intro)
    | ((conv => whnf); first
        | (with_reducible refine And.intro ?_ ?_)
        | (with_reducible exact True.intro)
        | ((with_reducible refine Ob.mk ?_); first | (with_reducible rfl) | (first | ((repeat (first | (with_reducible exact grd_p H) | (replace H := grd_k H) | (replace H := out_step H (by assumption)))); done) | rfl | ((repeat (first | exact grd_p H | replace H := grd_k H | replace H := out_step H (by assumption))); done) | ((repeat (first | exact grd_p H | (have hp := grd_p H; exact hp) | replace H := grd_k H | replace H := out_step H (by assumption) | (replace H := bind_some H; obtain ⟨_, _, H⟩ := H))); done) | (repeat (first | exact grd_p H | replace H := grd_k H | replace H := out_step H (by assumption)))))
        | ((with_reducible refine CallW.mk ?_); (repeat (first | replace H := grd_k H | replace H := out_step H (by assumption))); replace H := bind_some H; obtain ⟨y, hy, H⟩ := H; first | ((with_reducible have hz : spec_l26Good _ = some y := hy); clear hz; refine Exists.intro _ (Exists.intro _ ⟨spec_l26Good.call hy ?_, rfl, rfl, ?_⟩)) | ((with_reducible have hz : spec_l1In _ _ _ = some y := hy); clear hz; refine Exists.intro _ (Exists.intro _ ⟨spec_l1In.call hy ?_, rfl, rfl, ?_⟩)))
        | ((repeat (first | replace H := grd_k H | replace H := out_step H (by assumption))); refine loop_iter (G30_ok.at tok []) (ct := [(4, some [0, 1, 6, 33, 34, 35, 36, 37, 38, 39, 40, 41, 42, 43, 44, 74, 75, 76]), (7, some [0, 1, 6, 7, 8, 33, 34, 35, 36, 37, 38, 39, 40, 41, 42, 43, 44, 74, 75, 76]), (10, some [0, 1, 6, 7, 8, 9, 33, 34, 35, 36, 37, 38, 39, 40, 41, 42, 43, 44, 74, 75, 76]), (12, some [0, 1, 6, 7, 8, 9, 33, 34, 35, 36, 37, 38, 39, 40, 41, 42, 43, 44, 53, 74, 75, 76]), (15, some [1, 6, 7, 10, 74, 75, 76])]) (F := (fun s1 : Int × (List DayRow) => ⟨sl [(0, (.tree ty_DayRow a0)), (1, (.v (.int .i64 a1))), (6, (.own 0)), (7, (.own 1)), (8, (.v (.int .i64 s1.1)))], [some (.arr 3 (.int .i64) ([] : List Int)), some (.arr 33 ty_DayRow s1.2)]⟩)) (step := (fun s : Int × (List DayRow) => spec_BestDays_loop1 _ s.1 s.2)) _ H (by kernel_rfl) (sub_auto ?_) ?_; rotate_left; (intro s1 r v hr H); rotate_right)
        | ((repeat (first | replace H := grd_k H | replace H := out_step H (by assumption))); refine loop_iter (G30_ok.at tok []) (ct := [(4, some [0, 1, 6, 33, 34, 35, 36, 37, 38, 39, 40, 41, 42, 43, 44, 74, 75, 76]), (7, some [0, 1, 6, 7, 8, 33, 34, 35, 36, 37, 38, 39, 40, 41, 42, 43, 44, 74, 75, 76]), (10, some [0, 1, 6, 7, 8, 9, 33, 34, 35, 36, 37, 38, 39, 40, 41, 42, 43, 44, 74, 75, 76]), (12, some [0, 1, 6, 7, 8, 9, 33, 34, 35, 36, 37, 38, 39, 40, 41, 42, 43, 44, 53, 74, 75, 76]), (15, some [1, 6, 7, 10, 74, 75, 76])]) (F := (fun s2 : Int => ⟨sl [(0, (.tree ty_DayRow a0)), (1, (.v (.int .i64 a1))), (6, (.own 0)), (7, (.own 1)), (8, (.v (.int .i64 s1.1))), (9, (.v (.int .i64 s2)))], [some (.arr 3 (.int .i64) ([] : List Int)), some (.arr 33 ty_DayRow s1.2)]⟩)) (step := (fun s : Int => spec_BestDays_loop2 _ _ _ s)) _ H (by kernel_rfl) (sub_auto ?_) ?_; rotate_left; (intro s2 r v hr H); rotate_right)
        | ((repeat (first | replace H := grd_k H | replace H := out_step H (by assumption))); refine loop_iter (G30_ok.at tok []) (ct := [(4, some [0, 1, 6, 33, 34, 35, 36, 37, 38, 39, 40, 41, 42, 43, 44, 74, 75, 76]), (7, some [0, 1, 6, 7, 8, 33, 34, 35, 36, 37, 38, 39, 40, 41, 42, 43, 44, 74, 75, 76]), (10, some [0, 1, 6, 7, 8, 9, 33, 34, 35, 36, 37, 38, 39, 40, 41, 42, 43, 44, 74, 75, 76]), (12, some [0, 1, 6, 7, 8, 9, 33, 34, 35, 36, 37, 38, 39, 40, 41, 42, 43, 44, 53, 74, 75, 76]), (15, some [1, 6, 7, 10, 74, 75, 76])]) (F := (fun s3 : Int × (List Int) × (List DayRow) => ⟨sl [(1, (.v (.int .i64 a1))), (6, (.own 0)), (7, (.own 1)), (10, (.v (.int .i64 s3.1)))], [some (.arr 3 (.int .i64) s3.2.1), some (.arr 33 ty_DayRow s3.2.2)]⟩)) (step := (fun s : Int × (List Int) × (List DayRow) => spec_BestDays_loop3 _ s.1 s.2.1 s.2.2)) _ H (by kernel_rfl) (sub_auto ?_) ?_; rotate_left; (intro s3 r v hr H); rotate_right)
        | ((repeat (first | replace H := grd_k H | replace H := out_step H (by assumption))); refine again_step H (by assumption) (sub_auto ?_))
        | ((with_reducible refine fin_mk ?_); (repeat (first | replace H := grd_k H | replace H := out_step H (by assumption))); have H := Option.some.inj H; subst H))
    | constructor
def G31 : Env := G30.add 7 [] spec_BestDays.S
theorem G31_ok : EnvOk Try.prog G31 := G30_ok.add ent_7 fun ar h r h1 ⟨a0, a1, y, hy, e1, e2, e3, e4⟩ => by
  subst e3 e4; exact (spec_BestDays.spec a0 a1 y hy).le e1 e2
attribute [local irreducible] spec_BestDays

noncomputable def laws_rInts_loop1 (a0 : (List Int)) (a1 : (List Int)) (v2 : Int) : Option (Lp (Int) ((Unit) ⊕ (Unit))) :=
  (cond (decide (v2 < (a0.length : Int))) (grd (0 ≤ v2 ∧ v2 < (a0.length : Int)) (grd (0 ≤ v2 ∧ v2 < (a1.length : Int)) (cond (!decide ((a0.getD v2.toNat 0) = (a1.getD v2.toNat 0))) ((some (.out (Sum.inl ())))) (some (.go (w64 (v2 + (1 : Int)))))))) ((some (.out (Sum.inr ())))))
noncomputable def laws_rInts (a0 : (List Int)) (a1 : (List Int)) : Option (Bool) :=
  (cond (!decide ((a0.length : Int) = (a1.length : Int))) ((some false)) ((iter (fun s => laws_rInts_loop1 a0 a1 s) (0 : Int)).bind (Sum.elim (fun _ => (some false)) (fun _ => (some true)))))
def laws_rInts.res (_ : (List Int)) (_ : (List Int)) (y : Bool) : AV := (.bl y)
def laws_rInts.out (_ : (List Int)) (_ : (List Int)) (_ : Bool) : List (Option LB) := []
def laws_rInts.S (ar : List AV) (h : List (Option LB)) (r : AV) (h1 : List (Option LB)) : Prop := ∃ a0 a1 y, laws_rInts a0 a1 = some y ∧ leL ar [(.tree (.int .i64) a0), (.tree (.int .i64) a1)] ∧ leH h [] ∧ r = laws_rInts.res a0 a1 y ∧ h1 = laws_rInts.out a0 a1 y
theorem laws_rInts.call {ar : List AV} {h : List (Option LB)} {a0 : (List Int)} {a1 : (List Int)} {y : Bool} (H : laws_rInts a0 a1 = some y) (h0 : leLk ar [(.tree (.int .i64) a0), (.tree (.int .i64) a1)] (leHk h [])) : laws_rInts.S ar h (laws_rInts.res a0 a1 y) (laws_rInts.out a0 a1 y) := ⟨a0, a1, y, H, (args_ok h0).1, (args_ok h0).2, rfl, rfl⟩
set_option maxHeartbeats 100000000 in
set_option maxRecDepth 100000 in
theorem laws_rInts.spec (a0 : (List Int)) (a1 : (List Int)) (y : Bool) (H : laws_rInts a0 a1 = some y) : Spec Try.prog 8 [(.tree (.int .i64) a0), (.tree (.int .i64) a1)] [] (laws_rInts.res a0 a1 y) (laws_rInts.out a0 a1 y) := by
  refine spec_intro (G31_ok.at tok []) (ct := [(5, some [0, 1, 5])]) Try.func8 rfl (by kernel_rfl) (by kernel_rfl) rfl ?_
  repeat' first
    | ((with_reducible refine eqg ?_); exact rfl)
    | ((with_reducible refine KOb.mk ?_); kernel_rfl)
    | ((with_reducible intro h); (repeat (first | replace H := grd_k H | replace H := out_step H (by assumption))); first | replace H := cond_t h H | replace H := cond_f h H | exact absurd h (by decide) | skip)
    | ((with_reducible refine Ob.mk ?_); first | (with_reducible rfl) | (first | ((repeat (first | (with_reducible exact grd_p H) | (replace H := grd_k H) | (replace H := out_step H (by assumption)))); done) | rfl | ((repeat (first | exact grd_p H | replace H := grd_k H | replace H := out_step H (by assumption))); done) | ((repeat (first | exact grd_p H | (have hp := grd_p H; exact hp) | replace H := grd_k H | replace H := out_step H (by assumption) | (replace H := bind_some H; obtain ⟨_, _, H⟩ := H))); done) | (repeat (first | exact grd_p H | replace H := grd_k H | replace H := out_step H (by assumption)))))
    | (with_reducible exact True.intro)
    | ((conv => whnf); first
        | (with_reducible refine And.intro ?_ ?_)
        | (with_reducible exact True.intro)
        | ((with_reducible refine Ob.mk ?_); first | (with_reducible rfl) | (first | ((repeat (first | (with_reducible exact grd_p H) | (replace H := grd_k H) | (replace H := out_step H (by assumption)))); done) | rfl | ((repeat (first | exact grd_p H | replace H := grd_k H | replace H := out_step H (by assumption))); done) | ((repeat (first | exact grd_p H | (have hp := grd_p H; exact hp) | replace H := grd_k H | replace H := out_step H (by assumption) | (replace H := bind_some H; obtain ⟨_, _, H⟩ := H))); done) | (repeat (first | exact grd_p H | replace H := grd_k H | replace H := out_step H (by assumption)))))
        | ((repeat (first | replace H := grd_k H | replace H := out_step H (by assumption))); refine loop_iter (G31_ok.at tok []) (ct := [(5, some [0, 1, 5])]) (F := (fun s1 : Int => ⟨sl [(0, (.tree (.int .i64) a0)), (1, (.tree (.int .i64) a1)), (5, (.v (.int .i64 s1)))], []⟩)) (step := (fun s : Int => laws_rInts_loop1 _ _ s)) _ H (by kernel_rfl) (sub_auto ?_) ?_; rotate_left; (intro s1 r v hr H); rotate_right)
        | ((repeat (first | replace H := grd_k H | replace H := out_step H (by assumption))); refine again_step H (by assumption) (sub_auto ?_))
        | ((with_reducible refine fin_mk ?_); (repeat (first | replace H := grd_k H | replace H := out_step H (by assumption))); have H := Option.some.inj H; subst H))
    | constructor
def G32 : Env := G31.add 8 [] laws_rInts.S
theorem G32_ok : EnvOk Try.prog G32 := G31_ok.add ent_8 fun ar h r h1 ⟨a0, a1, y, hy, e1, e2, e3, e4⟩ => by
  subst e3 e4; exact (laws_rInts.spec a0 a1 y hy).le e1 e2
attribute [local irreducible] laws_rInts

noncomputable def laws_rHas_loop1 (a0 : (List Int)) (a1 : Int) (v2 : Int) : Option (Lp (Int) ((Unit) ⊕ (Unit))) :=
  (cond (decide (v2 < (a0.length : Int))) (grd (0 ≤ v2 ∧ v2 < (a0.length : Int)) (cond (decide ((a0.getD v2.toNat 0) = a1)) ((some (.out (Sum.inl ())))) (some (.go (w64 (v2 + (1 : Int))))))) ((some (.out (Sum.inr ())))))
noncomputable def laws_rHas (a0 : (List Int)) (a1 : Int) : Option (Bool) :=
  ((iter (fun s => laws_rHas_loop1 a0 a1 s) (0 : Int)).bind (Sum.elim (fun _ => (some true)) (fun _ => (some false))))
def laws_rHas.res (_ : (List Int)) (_ : Int) (y : Bool) : AV := (.bl y)
def laws_rHas.out (_ : (List Int)) (_ : Int) (_ : Bool) : List (Option LB) := []
def laws_rHas.S (ar : List AV) (h : List (Option LB)) (r : AV) (h1 : List (Option LB)) : Prop := ∃ a0 a1 y, laws_rHas a0 a1 = some y ∧ leL ar [(.tree (.int .i64) a0), (.v (.int .i64 a1))] ∧ leH h [] ∧ r = laws_rHas.res a0 a1 y ∧ h1 = laws_rHas.out a0 a1 y
theorem laws_rHas.call {ar : List AV} {h : List (Option LB)} {a0 : (List Int)} {a1 : Int} {y : Bool} (H : laws_rHas a0 a1 = some y) (h0 : leLk ar [(.tree (.int .i64) a0), (.v (.int .i64 a1))] (leHk h [])) : laws_rHas.S ar h (laws_rHas.res a0 a1 y) (laws_rHas.out a0 a1 y) := ⟨a0, a1, y, H, (args_ok h0).1, (args_ok h0).2, rfl, rfl⟩
set_option maxHeartbeats 100000000 in
set_option maxRecDepth 100000 in
theorem laws_rHas.spec (a0 : (List Int)) (a1 : Int) (y : Bool) (H : laws_rHas a0 a1 = some y) : Spec Try.prog 9 [(.tree (.int .i64) a0), (.v (.int .i64 a1))] [] (laws_rHas.res a0 a1 y) (laws_rHas.out a0 a1 y) := by
  refine spec_intro (G32_ok.at tok []) (ct := []) Try.func9 rfl (by kernel_rfl) (by kernel_rfl) rfl ?_
  repeat' first
    | ((with_reducible refine eqg ?_); exact rfl)
    | ((with_reducible refine KOb.mk ?_); kernel_rfl)
    | ((with_reducible intro h); (repeat (first | replace H := grd_k H | replace H := out_step H (by assumption))); first | replace H := cond_t h H | replace H := cond_f h H | exact absurd h (by decide) | skip)
    | ((with_reducible refine Ob.mk ?_); first | (with_reducible rfl) | (first | ((repeat (first | (with_reducible exact grd_p H) | (replace H := grd_k H) | (replace H := out_step H (by assumption)))); done) | rfl | ((repeat (first | exact grd_p H | replace H := grd_k H | replace H := out_step H (by assumption))); done) | ((repeat (first | exact grd_p H | (have hp := grd_p H; exact hp) | replace H := grd_k H | replace H := out_step H (by assumption) | (replace H := bind_some H; obtain ⟨_, _, H⟩ := H))); done) | (repeat (first | exact grd_p H | replace H := grd_k H | replace H := out_step H (by assumption)))))
    | (with_reducible exact True.intro)
    | ((conv => whnf); first
        | (with_reducible refine And.intro ?_ ?_)
        | (with_reducible exact True.intro)
        | ((with_reducible refine Ob.mk ?_); first | (with_reducible rfl) | (first | ((repeat (first | (with_reducible exact grd_p H) | (replace H := grd_k H) | (replace H := out_step H (by assumption)))); done) | rfl | ((repeat (first | exact grd_p H | replace H := grd_k H | replace H := out_step H (by assumption))); done) | ((repeat (first | exact grd_p H | (have hp := grd_p H; exact hp) | replace H := grd_k H | replace H := out_step H (by assumption) | (replace H := bind_some H; obtain ⟨_, _, H⟩ := H))); done) | (repeat (first | exact grd_p H | replace H := grd_k H | replace H := out_step H (by assumption)))))
        | ((repeat (first | replace H := grd_k H | replace H := out_step H (by assumption))); refine loop_iter (G32_ok.at tok []) (ct := []) (F := (fun s1 : Int => ⟨sl [(0, (.tree (.int .i64) a0)), (1, (.v (.int .i64 a1))), (5, (.v (.int .i64 s1)))], []⟩)) (step := (fun s : Int => laws_rHas_loop1 _ _ s)) _ H (by kernel_rfl) (sub_auto ?_) ?_; rotate_left; (intro s1 r v hr H); rotate_right)
        | ((repeat (first | replace H := grd_k H | replace H := out_step H (by assumption))); refine again_step H (by assumption) (sub_auto ?_))
        | ((with_reducible refine fin_mk ?_); (repeat (first | replace H := grd_k H | replace H := out_step H (by assumption))); have H := Option.some.inj H; subst H))
    | constructor
def G33 : Env := G32.add 9 [] laws_rHas.S
theorem G33_ok : EnvOk Try.prog G33 := G32_ok.add ent_9 fun ar h r h1 ⟨a0, a1, y, hy, e1, e2, e3, e4⟩ => by
  subst e3 e4; exact (laws_rHas.spec a0 a1 y hy).le e1 e2
attribute [local irreducible] laws_rHas

noncomputable def spec_DrawAreDayRows (a0 : (List Int)) : Option ((List DayRow)) :=
  ((spec_l1Cur_dayRows (a0, (0 : Int), (0 : Int), ())).bind fun y1 => (some y1.1))
def spec_DrawAreDayRows.res (_ : (List Int)) (_ : (List DayRow)) : AV := (.own 0)
def spec_DrawAreDayRows.out (_ : (List Int)) (y : (List DayRow)) : List (Option LB) := [some (.arr 33 ty_DayRow y)]
def spec_DrawAreDayRows.S (ar : List AV) (h : List (Option LB)) (r : AV) (h1 : List (Option LB)) : Prop := ∃ a0 y, spec_DrawAreDayRows a0 = some y ∧ leL ar [(.tree (.int .u8) a0)] ∧ leH h [] ∧ r = spec_DrawAreDayRows.res a0 y ∧ h1 = spec_DrawAreDayRows.out a0 y
theorem spec_DrawAreDayRows.call {ar : List AV} {h : List (Option LB)} {a0 : (List Int)} {y : (List DayRow)} (H : spec_DrawAreDayRows a0 = some y) (h0 : leLk ar [(.tree (.int .u8) a0)] (leHk h [])) : spec_DrawAreDayRows.S ar h (spec_DrawAreDayRows.res a0 y) (spec_DrawAreDayRows.out a0 y) := ⟨a0, y, H, (args_ok h0).1, (args_ok h0).2, rfl, rfl⟩
set_option maxHeartbeats 100000000 in
set_option maxRecDepth 100000 in
theorem spec_DrawAreDayRows.spec (a0 : (List Int)) (y : (List DayRow)) (H : spec_DrawAreDayRows a0 = some y) : Spec Try.prog 32 [(.tree (.int .u8) a0)] [] (spec_DrawAreDayRows.res a0 y) (spec_DrawAreDayRows.out a0 y) := by
  refine spec_intro (G33_ok.at tok []) (ct := []) Try.func32 rfl (by kernel_rfl) (by kernel_rfl) rfl ?_
  repeat' first
    | ((with_reducible refine eqg ?_); exact rfl)
    | ((with_reducible refine KOb.mk ?_); kernel_rfl)
    | ((with_reducible intro h); (repeat (first | replace H := grd_k H | replace H := out_step H (by assumption))); first | replace H := cond_t h H | replace H := cond_f h H | exact absurd h (by decide) | skip)
    | ((with_reducible refine Ob.mk ?_); first | (with_reducible rfl) | (first | ((repeat (first | (with_reducible exact grd_p H) | (replace H := grd_k H) | (replace H := out_step H (by assumption)))); done) | rfl | ((repeat (first | exact grd_p H | replace H := grd_k H | replace H := out_step H (by assumption))); done) | ((repeat (first | exact grd_p H | (have hp := grd_p H; exact hp) | replace H := grd_k H | replace H := out_step H (by assumption) | (replace H := bind_some H; obtain ⟨_, _, H⟩ := H))); done) | (repeat (first | exact grd_p H | replace H := grd_k H | replace H := out_step H (by assumption)))))
    | (with_reducible exact True.intro)
    | ((conv => whnf); first
        | (with_reducible refine And.intro ?_ ?_)
        | (with_reducible exact True.intro)
        | ((with_reducible refine Ob.mk ?_); first | (with_reducible rfl) | (first | ((repeat (first | (with_reducible exact grd_p H) | (replace H := grd_k H) | (replace H := out_step H (by assumption)))); done) | rfl | ((repeat (first | exact grd_p H | replace H := grd_k H | replace H := out_step H (by assumption))); done) | ((repeat (first | exact grd_p H | (have hp := grd_p H; exact hp) | replace H := grd_k H | replace H := out_step H (by assumption) | (replace H := bind_some H; obtain ⟨_, _, H⟩ := H))); done) | (repeat (first | exact grd_p H | replace H := grd_k H | replace H := out_step H (by assumption)))))
        | ((with_reducible refine CallW.mk ?_); (repeat (first | replace H := grd_k H | replace H := out_step H (by assumption))); replace H := bind_some H; obtain ⟨y, hy, H⟩ := H; first | ((with_reducible have hz : spec_l1Cur_dayRows _ = some y := hy); clear hz; refine Exists.intro _ (Exists.intro _ ⟨spec_l1Cur_dayRows.call hy ?_, rfl, rfl, ?_⟩)))
        | ((with_reducible refine fin_mk ?_); (repeat (first | replace H := grd_k H | replace H := out_step H (by assumption))); have H := Option.some.inj H; subst H))
    | constructor
def G34 : Env := G33.add 32 [] spec_DrawAreDayRows.S
theorem G34_ok : EnvOk Try.prog G34 := G33_ok.add ent_32 fun ar h r h1 ⟨a0, y, hy, e1, e2, e3, e4⟩ => by
  subst e3 e4; exact (spec_DrawAreDayRows.spec a0 y hy).le e1 e2
attribute [local irreducible] spec_DrawAreDayRows

noncomputable def spec_DrawMainReason (a0 : (List Int)) : Option ((List DayRow)) :=
  ((spec_DrawAreDayRows a0).bind fun y1 => (some y1))
def spec_DrawMainReason.res (_ : (List Int)) (_ : (List DayRow)) : AV := (.own 0)
def spec_DrawMainReason.out (_ : (List Int)) (y : (List DayRow)) : List (Option LB) := [some (.arr 33 ty_DayRow y)]
def spec_DrawMainReason.S (ar : List AV) (h : List (Option LB)) (r : AV) (h1 : List (Option LB)) : Prop := ∃ a0 y, spec_DrawMainReason a0 = some y ∧ leL ar [(.tree (.int .u8) a0)] ∧ leH h [] ∧ r = spec_DrawMainReason.res a0 y ∧ h1 = spec_DrawMainReason.out a0 y
theorem spec_DrawMainReason.call {ar : List AV} {h : List (Option LB)} {a0 : (List Int)} {y : (List DayRow)} (H : spec_DrawMainReason a0 = some y) (h0 : leLk ar [(.tree (.int .u8) a0)] (leHk h [])) : spec_DrawMainReason.S ar h (spec_DrawMainReason.res a0 y) (spec_DrawMainReason.out a0 y) := ⟨a0, y, H, (args_ok h0).1, (args_ok h0).2, rfl, rfl⟩
set_option maxHeartbeats 100000000 in
set_option maxRecDepth 100000 in
theorem spec_DrawMainReason.spec (a0 : (List Int)) (y : (List DayRow)) (H : spec_DrawMainReason a0 = some y) : Spec Try.prog 10 [(.tree (.int .u8) a0)] [] (spec_DrawMainReason.res a0 y) (spec_DrawMainReason.out a0 y) := by
  refine spec_intro (G34_ok.at tok []) (ct := []) Try.func10 rfl (by kernel_rfl) (by kernel_rfl) rfl ?_
  repeat' first
    | ((with_reducible refine eqg ?_); exact rfl)
    | ((with_reducible refine KOb.mk ?_); kernel_rfl)
    | ((with_reducible intro h); (repeat (first | replace H := grd_k H | replace H := out_step H (by assumption))); first | replace H := cond_t h H | replace H := cond_f h H | exact absurd h (by decide) | skip)
    | ((with_reducible refine Ob.mk ?_); first | (with_reducible rfl) | (first | ((repeat (first | (with_reducible exact grd_p H) | (replace H := grd_k H) | (replace H := out_step H (by assumption)))); done) | rfl | ((repeat (first | exact grd_p H | replace H := grd_k H | replace H := out_step H (by assumption))); done) | ((repeat (first | exact grd_p H | (have hp := grd_p H; exact hp) | replace H := grd_k H | replace H := out_step H (by assumption) | (replace H := bind_some H; obtain ⟨_, _, H⟩ := H))); done) | (repeat (first | exact grd_p H | replace H := grd_k H | replace H := out_step H (by assumption)))))
    | (with_reducible exact True.intro)
    | ((conv => whnf); first
        | (with_reducible refine And.intro ?_ ?_)
        | (with_reducible exact True.intro)
        | ((with_reducible refine Ob.mk ?_); first | (with_reducible rfl) | (first | ((repeat (first | (with_reducible exact grd_p H) | (replace H := grd_k H) | (replace H := out_step H (by assumption)))); done) | rfl | ((repeat (first | exact grd_p H | replace H := grd_k H | replace H := out_step H (by assumption))); done) | ((repeat (first | exact grd_p H | (have hp := grd_p H; exact hp) | replace H := grd_k H | replace H := out_step H (by assumption) | (replace H := bind_some H; obtain ⟨_, _, H⟩ := H))); done) | (repeat (first | exact grd_p H | replace H := grd_k H | replace H := out_step H (by assumption)))))
        | ((with_reducible refine CallW.mk ?_); (repeat (first | replace H := grd_k H | replace H := out_step H (by assumption))); replace H := bind_some H; obtain ⟨y, hy, H⟩ := H; first | ((with_reducible have hz : spec_DrawAreDayRows _ = some y := hy); clear hz; refine Exists.intro _ (Exists.intro _ ⟨spec_DrawAreDayRows.call hy ?_, rfl, rfl, ?_⟩)))
        | ((with_reducible refine fin_mk ?_); (repeat (first | replace H := grd_k H | replace H := out_step H (by assumption))); have H := Option.some.inj H; subst H))
    | constructor
def G35 : Env := G34.add 10 [] spec_DrawMainReason.S
theorem G35_ok : EnvOk Try.prog G35 := G34_ok.add ent_10 fun ar h r h1 ⟨a0, y, hy, e1, e2, e3, e4⟩ => by
  subst e3 e4; exact (spec_DrawMainReason.spec a0 y hy).le e1 e2
attribute [local irreducible] spec_DrawMainReason

noncomputable def impl_MainReason_loop2 (a0 : (List DayRow)) (v22 : Int) (v25 : Int) (v26 : Int) : Option (Lp (Int × Int) ((Int))) :=
  (cond (decide (v26 < (a0.length : Int))) (grd (0 ≤ v26 ∧ v26 < (a0.length : Int)) (cond (decide (((a0.getD v26.toNat d_DayRow).2.2.2.2.2.1) = ((a0.getD v22.toNat d_DayRow).2.2.2.2.2.1))) (some (.go ((w64 (v25 + ((a0.getD v26.toNat d_DayRow).2.2.2.2.1))), (w64 (v26 + (1 : Int)))))) (some (.go (v25, (w64 (v26 + (1 : Int)))))))) ((some (.out v25))))
noncomputable def impl_MainReason_loop1 (a0 : (List DayRow)) (v20 : ByteArray) (v21 : Int) (v22 : Int) : Option (Lp (ByteArray × Int × Int) ((ByteArray × Int))) :=
  (cond (decide (v22 < (a0.length : Int))) (grd (0 ≤ v22 ∧ v22 < (a0.length : Int)) ((iter (fun s => impl_MainReason_loop2 a0 v22 s.1 s.2) ((0 : Int), (0 : Int))).bind (fun r27 => (cond (decide (v21 < r27)) (some (.go (((a0.getD v22.toNat d_DayRow).2.2.2.2.2.1), r27, (w64 (v22 + (1 : Int)))))) (cond (decide (r27 = v21)) (cond (decide ((0 : Int) < r27)) (cond (Op.bytesLess ((a0.getD v22.toNat d_DayRow).2.2.2.2.2.1).toList v20.toList) (some (.go (((a0.getD v22.toNat d_DayRow).2.2.2.2.2.1), r27, (w64 (v22 + (1 : Int)))))) (some (.go (v20, v21, (w64 (v22 + (1 : Int))))))) (some (.go (v20, v21, (w64 (v22 + (1 : Int))))))) (some (.go (v20, v21, (w64 (v22 + (1 : Int))))))))))) ((some (.out (v20, v21)))))
noncomputable def impl_MainReason (a0 : (List DayRow)) : Option (ByteArray × Int × Bool) :=
  ((impl_AreDayRows a0).bind fun y1 => (cond (!y1) ((some ((ByteArray.mk #[]), (0 : Int), false))) ((iter (fun s => impl_MainReason_loop1 a0 s.1 s.2.1 s.2.2) ((ByteArray.mk #[]), (0 : Int), (0 : Int))).bind (fun r28 => (some (r28.1, r28.2, (decide ((0 : Int) < r28.2))))))))
def impl_MainReason.res (_ : (List DayRow)) (y : ByteArray × Int × Bool) : AV := (.tup [(.v (.string y.1)), (.v (.int .i64 y.2.1)), (.bl y.2.2)])
def impl_MainReason.out (_ : (List DayRow)) (_ : ByteArray × Int × Bool) : List (Option LB) := []
def impl_MainReason.S (ar : List AV) (h : List (Option LB)) (r : AV) (h1 : List (Option LB)) : Prop := ∃ a0 y, impl_MainReason a0 = some y ∧ leL ar [(.tree ty_DayRow a0)] ∧ leH h [] ∧ r = impl_MainReason.res a0 y ∧ h1 = impl_MainReason.out a0 y
theorem impl_MainReason.call {ar : List AV} {h : List (Option LB)} {a0 : (List DayRow)} {y : ByteArray × Int × Bool} (H : impl_MainReason a0 = some y) (h0 : leLk ar [(.tree ty_DayRow a0)] (leHk h [])) : impl_MainReason.S ar h (impl_MainReason.res a0 y) (impl_MainReason.out a0 y) := ⟨a0, y, H, (args_ok h0).1, (args_ok h0).2, rfl, rfl⟩
set_option maxHeartbeats 100000000 in
set_option maxRecDepth 100000 in
theorem impl_MainReason.spec (a0 : (List DayRow)) (y : ByteArray × Int × Bool) (H : impl_MainReason a0 = some y) : Spec Try.prog 11 [(.tree ty_DayRow a0)] [] (impl_MainReason.res a0 y) (impl_MainReason.out a0 y) := by
  refine spec_intro (G35_ok.at tok []) (ct := [(5, some [0, 5, 6, 15, 16, 17, 41, 42, 43, 44, 45, 46, 47, 48, 49, 50, 51, 52, 53]), (13, some [0, 5, 6, 8, 9, 15, 16, 17, 21, 22, 23, 41, 42, 43, 44, 45, 46, 47, 48, 49, 50, 51, 52, 53]), (15, some [0, 5, 6, 8, 9, 15, 16, 17, 41, 42, 43, 44, 45, 46, 47, 48, 49, 50, 51, 52, 53, 54])]) Try.func11 rfl (by kernel_rfl) (by kernel_rfl) rfl ?_
  repeat' first
    | ((with_reducible refine eqg ?_); exact rfl)
    | ((with_reducible refine KOb.mk ?_); kernel_rfl)
    | ((with_reducible intro h); (repeat (first | replace H := grd_k H | replace H := out_step H (by assumption))); first | replace H := cond_t h H | replace H := cond_f h H | exact absurd h (by decide) | skip)
    | ((with_reducible refine Ob.mk ?_); first | (with_reducible rfl) | (first | ((repeat (first | (with_reducible exact grd_p H) | (replace H := grd_k H) | (replace H := out_step H (by assumption)))); done) | rfl | ((repeat (first | exact grd_p H | replace H := grd_k H | replace H := out_step H (by assumption))); done) | ((repeat (first | exact grd_p H | (have hp := grd_p H; exact hp) | replace H := grd_k H | replace H := out_step H (by assumption) | (replace H := bind_some H; obtain ⟨_, _, H⟩ := H))); done) | (repeat (first | exact grd_p H | replace H := grd_k H | replace H := out_step H (by assumption)))))
    | (with_reducible exact True.intro)
    | ((conv => whnf); first
        | (with_reducible refine And.intro ?_ ?_)
        | (with_reducible exact True.intro)
        | ((with_reducible refine Ob.mk ?_); first | (with_reducible rfl) | (first | ((repeat (first | (with_reducible exact grd_p H) | (replace H := grd_k H) | (replace H := out_step H (by assumption)))); done) | rfl | ((repeat (first | exact grd_p H | replace H := grd_k H | replace H := out_step H (by assumption))); done) | ((repeat (first | exact grd_p H | (have hp := grd_p H; exact hp) | replace H := grd_k H | replace H := out_step H (by assumption) | (replace H := bind_some H; obtain ⟨_, _, H⟩ := H))); done) | (repeat (first | exact grd_p H | replace H := grd_k H | replace H := out_step H (by assumption)))))
        | ((with_reducible refine CallW.mk ?_); (repeat (first | replace H := grd_k H | replace H := out_step H (by assumption))); replace H := bind_some H; obtain ⟨y, hy, H⟩ := H; first | ((with_reducible have hz : impl_AreDayRows _ = some y := hy); clear hz; refine Exists.intro _ (Exists.intro _ ⟨impl_AreDayRows.call hy ?_, rfl, rfl, ?_⟩)))
        | ((repeat (first | replace H := grd_k H | replace H := out_step H (by assumption))); refine loop_iter (G35_ok.at tok []) (ct := [(5, some [0, 5, 6, 15, 16, 17, 41, 42, 43, 44, 45, 46, 47, 48, 49, 50, 51, 52, 53]), (13, some [0, 5, 6, 8, 9, 15, 16, 17, 21, 22, 23, 41, 42, 43, 44, 45, 46, 47, 48, 49, 50, 51, 52, 53]), (15, some [0, 5, 6, 8, 9, 15, 16, 17, 41, 42, 43, 44, 45, 46, 47, 48, 49, 50, 51, 52, 53, 54])]) (F := (fun s1 : ByteArray × Int × Int => ⟨sl [(0, (.tree ty_DayRow a0)), (5, (.v (.string s1.1))), (6, (.v (.int .i64 s1.2.1))), (15, (.tree ty_DayRow a0)), (16, (.v (.int .i64 (a0.length : Int)))), (17, (.v (.int .i64 s1.2.2)))], []⟩)) (step := (fun s : ByteArray × Int × Int => impl_MainReason_loop1 _ s.1 s.2.1 s.2.2)) _ H (by kernel_rfl) (sub_auto ?_) ?_; rotate_left; (intro s1 r v hr H); rotate_right)
        | ((repeat (first | replace H := grd_k H | replace H := out_step H (by assumption))); refine loop_iter (G35_ok.at tok []) (ct := [(5, some [0, 5, 6, 15, 16, 17, 41, 42, 43, 44, 45, 46, 47, 48, 49, 50, 51, 52, 53]), (13, some [0, 5, 6, 8, 9, 15, 16, 17, 21, 22, 23, 41, 42, 43, 44, 45, 46, 47, 48, 49, 50, 51, 52, 53]), (15, some [0, 5, 6, 8, 9, 15, 16, 17, 41, 42, 43, 44, 45, 46, 47, 48, 49, 50, 51, 52, 53, 54])]) (F := (fun s2 : Int × Int => ⟨sl [(0, (.tree ty_DayRow a0)), (5, (.v (.string s1.1))), (6, (.v (.int .i64 s1.2.1))), (8, (.loc 0 0 0)), (9, (.v (.int .i64 s2.1))), (15, (.tree ty_DayRow a0)), (16, (.v (.int .i64 (a0.length : Int)))), (17, (.v (.int .i64 s1.2.2))), (21, (.tree ty_DayRow a0)), (22, (.v (.int .i64 (a0.length : Int)))), (23, (.v (.int .i64 s2.2)))], [some (.box 33 [(.v (.int .i64 ((a0.getD s1.2.2.toNat d_DayRow).1))), (.v (.int .i64 ((a0.getD s1.2.2.toNat d_DayRow).2.1))), (.v (.int .i64 ((a0.getD s1.2.2.toNat d_DayRow).2.2.1))), (.v (.int .i64 ((a0.getD s1.2.2.toNat d_DayRow).2.2.2.1))), (.v (.int .i64 ((a0.getD s1.2.2.toNat d_DayRow).2.2.2.2.1))), (.v (.string ((a0.getD s1.2.2.toNat d_DayRow).2.2.2.2.2.1)))])]⟩)) (step := (fun s : Int × Int => impl_MainReason_loop2 _ _ s.1 s.2)) _ H (by kernel_rfl) (sub_auto ?_) ?_; rotate_left; (intro s2 r v hr H); rotate_right)
        | ((repeat (first | replace H := grd_k H | replace H := out_step H (by assumption))); refine again_step H (by assumption) (sub_auto ?_))
        | ((with_reducible refine fin_mk ?_); (repeat (first | replace H := grd_k H | replace H := out_step H (by assumption))); have H := Option.some.inj H; subst H))
    | constructor
def G36 : Env := G35.add 11 [] impl_MainReason.S
theorem G36_ok : EnvOk Try.prog G36 := G35_ok.add ent_11 fun ar h r h1 ⟨a0, y, hy, e1, e2, e3, e4⟩ => by
  subst e3 e4; exact (impl_MainReason.spec a0 y hy).le e1 e2
attribute [local irreducible] impl_MainReason

end Go.Proofs.Ytppiaacfnoifkaa
