/-
  Contracts, printed by a program.
-/
import Derived.Test.YteckiilljhdkpaaC352
namespace Go.Proofs.Yteckiilljhdkpaa
open Go.RowKit
attribute [local irreducible] Ob loopwp Sub Spec Fin Again CallW CutC KOb iter joinx outm

attribute [local irreducible] laws_szDayRow laws_szDayRowS laws_toDayRow laws_toDayRowS spec_l1In spec_l2Word spec_l26One spec_l26Good spec_BestDays impl_within impl_isDay impl_isWord impl_IsDayRow impl_AreDayRows slices_Clone___impl_DayRow_impl_DayRow_ impl_BestDays_1

noncomputable def cmp_isNaN_int_ (a0 : Int) : Option (Bool) :=
  (some (!decide (a0 = a0)))
def cmp_isNaN_int_.res (_ : Int) (y : Bool) : AV := (.bl y)
def cmp_isNaN_int_.out (_ : Int) (_ : Bool) : List (Option LB) := []
def cmp_isNaN_int_.S (ar : List AV) (h : List (Option LB)) (r : AV) (h1 : List (Option LB)) : Prop := ∃ a0 y, cmp_isNaN_int_ a0 = some y ∧ leL ar [(.v (.int .i64 a0))] ∧ leH h [] ∧ r = cmp_isNaN_int_.res a0 y ∧ h1 = cmp_isNaN_int_.out a0 y
theorem cmp_isNaN_int_.call {ar : List AV} {h : List (Option LB)} {a0 : Int} {y : Bool} (H : cmp_isNaN_int_ a0 = some y) (h0 : leLk ar [(.v (.int .i64 a0))] (leHk h [])) : cmp_isNaN_int_.S ar h (cmp_isNaN_int_.res a0 y) (cmp_isNaN_int_.out a0 y) := ⟨a0, y, H, (args_ok h0).1, (args_ok h0).2, rfl, rfl⟩
set_option maxHeartbeats 100000000 in
set_option maxRecDepth 100000 in
theorem cmp_isNaN_int_.spec (a0 : Int) (y : Bool) (H : cmp_isNaN_int_ a0 = some y) : Spec Try.prog 57 [(.v (.int .i64 a0))] [] (cmp_isNaN_int_.res a0 y) (cmp_isNaN_int_.out a0 y) := by
  refine spec_intro (G16_ok.at tok []) (ct := []) Try.func57 rfl (by kernel_rfl) (by kernel_rfl) rfl ?_
  repeat' first
    | ((with_reducible refine eqg ?_); exact rfl)
    | ((with_reducible refine KOb.mk ?_); kernel_rfl)
    | ((with_reducible intro h); (repeat (first | replace H := grd_k H | replace H := out_step H (by assumption))); first | replace H := cond_t h H | replace H := cond_f h H | exact absurd h (by decide) | skip)
    | ((with_reducible refine Ob.mk ?_); first | (with_reducible rfl) | (first | ((repeat (first | (with_reducible exact grd_p H) | (replace H := grd_k H) | (replace H := out_step H (by assumption)))); done) | rfl | ((repeat (first | exact grd_p H | replace H := grd_k H | replace H := out_step H (by assumption))); done) | ((repeat (first | exact grd_p H | (have hp := grd_p H; exact hp) | replace H := grd_k H | replace H := out_step H (by assumption) | (replace H := bind_some H; obtain ⟨_, _, H⟩ := H))); done) | (repeat (first | exact grd_p H | replace H := grd_k H | replace H := out_step H (by assumption)))))
    | (with_reducible exact True.intro)
    | constructor
    | ((conv => whnf); first
        | ((with_reducible refine Ob.mk ?_); first | (with_reducible rfl) | (first | ((repeat (first | (with_reducible exact grd_p H) | (replace H := grd_k H) | (replace H := out_step H (by assumption)))); done) | rfl | ((repeat (first | exact grd_p H | replace H := grd_k H | replace H := out_step H (by assumption))); done) | ((repeat (first | exact grd_p H | (have hp := grd_p H; exact hp) | replace H := grd_k H | replace H := out_step H (by assumption) | (replace H := bind_some H; obtain ⟨_, _, H⟩ := H))); done) | (repeat (first | exact grd_p H | replace H := grd_k H | replace H := out_step H (by assumption)))))
        | ((with_reducible refine fin_mk ?_); (repeat (first | replace H := grd_k H | replace H := out_step H (by assumption))); have H := Option.some.inj H; subst H))
def G17 : Env := G16.add 57 [] cmp_isNaN_int_.S
theorem G17_ok : EnvOk Try.prog G17 := G16_ok.add ent_57 fun ar h r h1 ⟨a0, y, hy, e1, e2, e3, e4⟩ => by
  subst e3 e4; exact (cmp_isNaN_int_.spec a0 y hy).le e1 e2
attribute [local irreducible] cmp_isNaN_int_

noncomputable def cmp_Compare_int_ (a0 : Int) (a1 : Int) : Option (Int) :=
  ((cmp_isNaN_int_ a0).bind fun y1 => ((cmp_isNaN_int_ a1).bind fun y2 => (cond y1 (cond y2 ((some (0 : Int))) ((some ((-1) : Int)))) (cond y2 ((some (1 : Int))) (cond (decide (a0 < a1)) ((some ((-1) : Int))) (cond (decide (a1 < a0)) ((some (1 : Int))) ((some (0 : Int)))))))))
def cmp_Compare_int_.res (_ : Int) (_ : Int) (y : Int) : AV := (.v (.int .i64 y))
def cmp_Compare_int_.out (_ : Int) (_ : Int) (_ : Int) : List (Option LB) := []
def cmp_Compare_int_.S (ar : List AV) (h : List (Option LB)) (r : AV) (h1 : List (Option LB)) : Prop := ∃ a0 a1 y, cmp_Compare_int_ a0 a1 = some y ∧ leL ar [(.v (.int .i64 a0)), (.v (.int .i64 a1))] ∧ leH h [] ∧ r = cmp_Compare_int_.res a0 a1 y ∧ h1 = cmp_Compare_int_.out a0 a1 y
theorem cmp_Compare_int_.call {ar : List AV} {h : List (Option LB)} {a0 : Int} {a1 : Int} {y : Int} (H : cmp_Compare_int_ a0 a1 = some y) (h0 : leLk ar [(.v (.int .i64 a0)), (.v (.int .i64 a1))] (leHk h [])) : cmp_Compare_int_.S ar h (cmp_Compare_int_.res a0 a1 y) (cmp_Compare_int_.out a0 a1 y) := ⟨a0, a1, y, H, (args_ok h0).1, (args_ok h0).2, rfl, rfl⟩
set_option maxHeartbeats 100000000 in
set_option maxRecDepth 100000 in
theorem cmp_Compare_int_.spec (a0 : Int) (a1 : Int) (y : Int) (H : cmp_Compare_int_ a0 a1 = some y) : Spec Try.prog 47 [(.v (.int .i64 a0)), (.v (.int .i64 a1))] [] (cmp_Compare_int_.res a0 a1 y) (cmp_Compare_int_.out a0 a1 y) := by
  refine spec_intro (G17_ok.at tok []) (ct := [(10, some [0, 1, 16])]) Try.func47 rfl (by kernel_rfl) (by kernel_rfl) rfl ?_
  repeat' first
    | ((with_reducible refine eqg ?_); exact rfl)
    | ((with_reducible refine KOb.mk ?_); kernel_rfl)
    | ((with_reducible intro h); (repeat (first | replace H := grd_k H | replace H := out_step H (by assumption))); first | replace H := cond_t h H | replace H := cond_f h H | exact absurd h (by decide) | skip)
    | ((with_reducible refine Ob.mk ?_); first | (with_reducible rfl) | (first | ((repeat (first | (with_reducible exact grd_p H) | (replace H := grd_k H) | (replace H := out_step H (by assumption)))); done) | rfl | ((repeat (first | exact grd_p H | replace H := grd_k H | replace H := out_step H (by assumption))); done) | ((repeat (first | exact grd_p H | (have hp := grd_p H; exact hp) | replace H := grd_k H | replace H := out_step H (by assumption) | (replace H := bind_some H; obtain ⟨_, _, H⟩ := H))); done) | (repeat (first | exact grd_p H | replace H := grd_k H | replace H := out_step H (by assumption)))))
    | (with_reducible exact True.intro)
    | constructor
    | ((conv => whnf); first
        | ((with_reducible refine Ob.mk ?_); first | (with_reducible rfl) | (first | ((repeat (first | (with_reducible exact grd_p H) | (replace H := grd_k H) | (replace H := out_step H (by assumption)))); done) | rfl | ((repeat (first | exact grd_p H | replace H := grd_k H | replace H := out_step H (by assumption))); done) | ((repeat (first | exact grd_p H | (have hp := grd_p H; exact hp) | replace H := grd_k H | replace H := out_step H (by assumption) | (replace H := bind_some H; obtain ⟨_, _, H⟩ := H))); done) | (repeat (first | exact grd_p H | replace H := grd_k H | replace H := out_step H (by assumption)))))
        | ((with_reducible refine CallW.mk ?_); (repeat (first | replace H := grd_k H | replace H := out_step H (by assumption))); replace H := bind_some H; obtain ⟨y, hy, H⟩ := H; first | ((with_reducible have hz : cmp_isNaN_int_ _ = some y := hy); clear hz; refine Exists.intro _ (Exists.intro _ ⟨cmp_isNaN_int_.call hy ?_, rfl, rfl, ?_⟩)))
        | ((with_reducible refine fin_mk ?_); (repeat (first | replace H := grd_k H | replace H := out_step H (by assumption))); have H := Option.some.inj H; subst H))
def G18 : Env := G17.add 47 [] cmp_Compare_int_.S
theorem G18_ok : EnvOk Try.prog G18 := G17_ok.add ent_47 fun ar h r h1 ⟨a0, a1, y, hy, e1, e2, e3, e4⟩ => by
  subst e3 e4; exact (cmp_Compare_int_.spec a0 a1 y hy).le e1 e2
attribute [local irreducible] cmp_Compare_int_

noncomputable def impl_BestDays_2 (a0 : DayRow) (a1 : DayRow) : Option (Int) :=
  ((cmp_Compare_int_ a1.2.1 a0.2.1).bind fun y1 => (some y1))
def impl_BestDays_2.res (_ : DayRow) (_ : DayRow) (y : Int) : AV := (.v (.int .i64 y))
def impl_BestDays_2.out (_ : DayRow) (_ : DayRow) (_ : Int) : List (Option LB) := []
def impl_BestDays_2.S (ar : List AV) (h : List (Option LB)) (r : AV) (h1 : List (Option LB)) : Prop := ∃ a0 a1 y, impl_BestDays_2 a0 a1 = some y ∧ leL ar [(.agg [(.v (.int .i64 a0.1)), (.v (.int .i64 a0.2.1)), (.v (.int .i64 a0.2.2.1)), (.v (.int .i64 a0.2.2.2.1)), (.v (.int .i64 a0.2.2.2.2.1)), (.v (.string a0.2.2.2.2.2.1))]), (.agg [(.v (.int .i64 a1.1)), (.v (.int .i64 a1.2.1)), (.v (.int .i64 a1.2.2.1)), (.v (.int .i64 a1.2.2.2.1)), (.v (.int .i64 a1.2.2.2.2.1)), (.v (.string a1.2.2.2.2.2.1))])] ∧ leH h [] ∧ r = impl_BestDays_2.res a0 a1 y ∧ h1 = impl_BestDays_2.out a0 a1 y
theorem impl_BestDays_2.call {ar : List AV} {h : List (Option LB)} {a0 : DayRow} {a1 : DayRow} {y : Int} (H : impl_BestDays_2 a0 a1 = some y) (h0 : leLk ar [(.agg [(.v (.int .i64 a0.1)), (.v (.int .i64 a0.2.1)), (.v (.int .i64 a0.2.2.1)), (.v (.int .i64 a0.2.2.2.1)), (.v (.int .i64 a0.2.2.2.2.1)), (.v (.string a0.2.2.2.2.2.1))]), (.agg [(.v (.int .i64 a1.1)), (.v (.int .i64 a1.2.1)), (.v (.int .i64 a1.2.2.1)), (.v (.int .i64 a1.2.2.2.1)), (.v (.int .i64 a1.2.2.2.2.1)), (.v (.string a1.2.2.2.2.2.1))])] (leHk h [])) : impl_BestDays_2.S ar h (impl_BestDays_2.res a0 a1 y) (impl_BestDays_2.out a0 a1 y) := ⟨a0, a1, y, H, (args_ok h0).1, (args_ok h0).2, rfl, rfl⟩
set_option maxHeartbeats 100000000 in
set_option maxRecDepth 100000 in
theorem impl_BestDays_2.spec (a0 : DayRow) (a1 : DayRow) (y : Int) (H : impl_BestDays_2 a0 a1 = some y) : Spec Try.prog 46 [(.agg [(.v (.int .i64 a0.1)), (.v (.int .i64 a0.2.1)), (.v (.int .i64 a0.2.2.1)), (.v (.int .i64 a0.2.2.2.1)), (.v (.int .i64 a0.2.2.2.2.1)), (.v (.string a0.2.2.2.2.2.1))]), (.agg [(.v (.int .i64 a1.1)), (.v (.int .i64 a1.2.1)), (.v (.int .i64 a1.2.2.1)), (.v (.int .i64 a1.2.2.2.1)), (.v (.int .i64 a1.2.2.2.2.1)), (.v (.string a1.2.2.2.2.2.1))])] [] (impl_BestDays_2.res a0 a1 y) (impl_BestDays_2.out a0 a1 y) := by
  refine spec_intro (G18_ok.at tok []) (ct := []) Try.func46 rfl (by kernel_rfl) (by kernel_rfl) rfl ?_
  repeat' first
    | ((with_reducible refine eqg ?_); exact rfl)
    | ((with_reducible refine KOb.mk ?_); kernel_rfl)
    | ((with_reducible intro h); (repeat (first | replace H := grd_k H | replace H := out_step H (by assumption))); first | replace H := cond_t h H | replace H := cond_f h H | exact absurd h (by decide) | skip)
    | ((with_reducible refine Ob.mk ?_); first | (with_reducible rfl) | (first | ((repeat (first | (with_reducible exact grd_p H) | (replace H := grd_k H) | (replace H := out_step H (by assumption)))); done) | rfl | ((repeat (first | exact grd_p H | replace H := grd_k H | replace H := out_step H (by assumption))); done) | ((repeat (first | exact grd_p H | (have hp := grd_p H; exact hp) | replace H := grd_k H | replace H := out_step H (by assumption) | (replace H := bind_some H; obtain ⟨_, _, H⟩ := H))); done) | (repeat (first | exact grd_p H | replace H := grd_k H | replace H := out_step H (by assumption)))))
    | (with_reducible exact True.intro)
    | constructor
    | ((conv => whnf); first
        | ((with_reducible refine Ob.mk ?_); first | (with_reducible rfl) | (first | ((repeat (first | (with_reducible exact grd_p H) | (replace H := grd_k H) | (replace H := out_step H (by assumption)))); done) | rfl | ((repeat (first | exact grd_p H | replace H := grd_k H | replace H := out_step H (by assumption))); done) | ((repeat (first | exact grd_p H | (have hp := grd_p H; exact hp) | replace H := grd_k H | replace H := out_step H (by assumption) | (replace H := bind_some H; obtain ⟨_, _, H⟩ := H))); done) | (repeat (first | exact grd_p H | replace H := grd_k H | replace H := out_step H (by assumption)))))
        | ((with_reducible refine CallW.mk ?_); (repeat (first | replace H := grd_k H | replace H := out_step H (by assumption))); replace H := bind_some H; obtain ⟨y, hy, H⟩ := H; first | ((with_reducible have hz : cmp_Compare_int_ _ _ = some y := hy); clear hz; refine Exists.intro _ (Exists.intro _ ⟨cmp_Compare_int_.call hy ?_, rfl, rfl, ?_⟩)))
        | ((with_reducible refine fin_mk ?_); (repeat (first | replace H := grd_k H | replace H := out_step H (by assumption))); have H := Option.some.inj H; subst H))
def G19 : Env := G18.add 46 [] impl_BestDays_2.S
theorem G19_ok : EnvOk Try.prog G19 := G18_ok.add ent_46 fun ar h r h1 ⟨a0, a1, y, hy, e1, e2, e3, e4⟩ => by
  subst e3 e4; exact (impl_BestDays_2.spec a0 a1 y hy).le e1 e2
attribute [local irreducible] impl_BestDays_2

noncomputable def slices_IndexFunc___impl_DayRow_impl_DayRow__i1_loop1 (a0 : (List DayRow)) (v4 : Int) : Option (Lp (Int) ((Int) ⊕ (Unit))) :=
  (cond (decide (v4 < (a0.length : Int))) (grd (0 ≤ v4 ∧ v4 < (a0.length : Int)) ((impl_BestDays_1 ((a0.getD v4.toNat d_DayRow).1, (a0.getD v4.toNat d_DayRow).2.1, (a0.getD v4.toNat d_DayRow).2.2.1, (a0.getD v4.toNat d_DayRow).2.2.2.1, (a0.getD v4.toNat d_DayRow).2.2.2.2.1, (a0.getD v4.toNat d_DayRow).2.2.2.2.2.1, ())).bind fun y5 => (cond y5 ((some (.out (Sum.inl v4)))) (some (.go (w64 (v4 + (1 : Int)))))))) ((some (.out (Sum.inr ())))))
noncomputable def slices_IndexFunc___impl_DayRow_impl_DayRow__i1 (a0 : (List DayRow)) : Option (Int) :=
  ((iter (fun s => slices_IndexFunc___impl_DayRow_impl_DayRow__i1_loop1 a0 s) (0 : Int)).bind (Sum.elim (fun r7 => (some r7)) (fun _ => (some ((-1) : Int)))))
def slices_IndexFunc___impl_DayRow_impl_DayRow__i1.res (_ : (List DayRow)) (y : Int) : AV := (.v (.int .i64 y))
def slices_IndexFunc___impl_DayRow_impl_DayRow__i1.out (_ : (List DayRow)) (_ : Int) : List (Option LB) := []
def slices_IndexFunc___impl_DayRow_impl_DayRow__i1.S (ar : List AV) (h : List (Option LB)) (r : AV) (h1 : List (Option LB)) : Prop := ∃ a0 y, slices_IndexFunc___impl_DayRow_impl_DayRow__i1 a0 = some y ∧ leL ar [(.tree ty_DayRow a0), (.fn 44 [])] ∧ leH h [] ∧ r = slices_IndexFunc___impl_DayRow_impl_DayRow__i1.res a0 y ∧ h1 = slices_IndexFunc___impl_DayRow_impl_DayRow__i1.out a0 y
theorem slices_IndexFunc___impl_DayRow_impl_DayRow__i1.call {ar : List AV} {h : List (Option LB)} {a0 : (List DayRow)} {y : Int} (H : slices_IndexFunc___impl_DayRow_impl_DayRow__i1 a0 = some y) (h0 : leLk ar [(.tree ty_DayRow a0), (.fn 44 [])] (leHk h [])) : slices_IndexFunc___impl_DayRow_impl_DayRow__i1.S ar h (slices_IndexFunc___impl_DayRow_impl_DayRow__i1.res a0 y) (slices_IndexFunc___impl_DayRow_impl_DayRow__i1.out a0 y) := ⟨a0, y, H, (args_ok h0).1, (args_ok h0).2, rfl, rfl⟩
set_option maxHeartbeats 100000000 in
set_option maxRecDepth 100000 in
theorem slices_IndexFunc___impl_DayRow_impl_DayRow__i1.spec (a0 : (List DayRow)) (y : Int) (H : slices_IndexFunc___impl_DayRow_impl_DayRow__i1 a0 = some y) : Spec Try.prog 55 [(.tree ty_DayRow a0), (.fn 44 [])] [] (slices_IndexFunc___impl_DayRow_impl_DayRow__i1.res a0 y) (slices_IndexFunc___impl_DayRow_impl_DayRow__i1.out a0 y) := by
  refine spec_intro (G19_ok.at tok []) (ct := []) Try.func55 rfl (by kernel_rfl) (by kernel_rfl) rfl ?_
  repeat' first
    | ((with_reducible refine eqg ?_); exact rfl)
    | ((with_reducible refine KOb.mk ?_); kernel_rfl)
    | ((with_reducible intro h); (repeat (first | replace H := grd_k H | replace H := out_step H (by assumption))); first | replace H := cond_t h H | replace H := cond_f h H | exact absurd h (by decide) | skip)
    | ((with_reducible refine Ob.mk ?_); first | (with_reducible rfl) | (first | ((repeat (first | (with_reducible exact grd_p H) | (replace H := grd_k H) | (replace H := out_step H (by assumption)))); done) | rfl | ((repeat (first | exact grd_p H | replace H := grd_k H | replace H := out_step H (by assumption))); done) | ((repeat (first | exact grd_p H | (have hp := grd_p H; exact hp) | replace H := grd_k H | replace H := out_step H (by assumption) | (replace H := bind_some H; obtain ⟨_, _, H⟩ := H))); done) | (repeat (first | exact grd_p H | replace H := grd_k H | replace H := out_step H (by assumption)))))
    | (with_reducible exact True.intro)
    | constructor
    | ((conv => whnf); first
        | ((with_reducible refine Ob.mk ?_); first | (with_reducible rfl) | (first | ((repeat (first | (with_reducible exact grd_p H) | (replace H := grd_k H) | (replace H := out_step H (by assumption)))); done) | rfl | ((repeat (first | exact grd_p H | replace H := grd_k H | replace H := out_step H (by assumption))); done) | ((repeat (first | exact grd_p H | (have hp := grd_p H; exact hp) | replace H := grd_k H | replace H := out_step H (by assumption) | (replace H := bind_some H; obtain ⟨_, _, H⟩ := H))); done) | (repeat (first | exact grd_p H | replace H := grd_k H | replace H := out_step H (by assumption)))))
        | ((with_reducible refine CallW.mk ?_); (repeat (first | replace H := grd_k H | replace H := out_step H (by assumption))); replace H := bind_some H; obtain ⟨y, hy, H⟩ := H; first | ((with_reducible have hz : impl_BestDays_1 _ = some y := hy); clear hz; refine Exists.intro _ (Exists.intro _ ⟨impl_BestDays_1.call hy ?_, rfl, rfl, ?_⟩)))
        | ((repeat (first | replace H := grd_k H | replace H := out_step H (by assumption))); refine loop_iter (G19_ok.at tok []) (ct := []) (F := (fun s1 : Int => ⟨sl [(0, (.tree ty_DayRow a0)), (1, (.fn 44 [])), (7, (.v (.int .i64 (a0.length : Int)))), (8, (.v (.int .i64 s1)))], []⟩)) (step := (fun s : Int => slices_IndexFunc___impl_DayRow_impl_DayRow__i1_loop1 _ s)) _ H (by kernel_rfl) (sub_auto ?_) ?_; rotate_left; (intro s1 r v hr H); rotate_right)
        | ((repeat (first | replace H := grd_k H | replace H := out_step H (by assumption))); refine again_step H (by assumption) (sub_auto ?_))
        | ((with_reducible refine fin_mk ?_); (repeat (first | replace H := grd_k H | replace H := out_step H (by assumption))); have H := Option.some.inj H; subst H))
  all_goals exact viewz _ _
def G20 : Env := G19.add 55 [] slices_IndexFunc___impl_DayRow_impl_DayRow__i1.S
theorem G20_ok : EnvOk Try.prog G20 := G19_ok.add ent_55 fun ar h r h1 ⟨a0, y, hy, e1, e2, e3, e4⟩ => by
  subst e3 e4; exact (slices_IndexFunc___impl_DayRow_impl_DayRow__i1.spec a0 y hy).le e1 e2
attribute [local irreducible] slices_IndexFunc___impl_DayRow_impl_DayRow__i1

noncomputable def slices_DeleteFunc___impl_DayRow_impl_DayRow__i1_loop1  (v9 : Int) (v10 : Int) (v11 : (List DayRow)) : Option (Lp (Int × Int × (List DayRow)) ((Int × (List DayRow)))) :=
  (cond (decide (v10 < (v11.length : Int))) (grd (0 ≤ v10 ∧ v10 < (v11.length : Int)) ((impl_BestDays_1 ((v11.getD v10.toNat d_DayRow).1, (v11.getD v10.toNat d_DayRow).2.1, (v11.getD v10.toNat d_DayRow).2.2.1, (v11.getD v10.toNat d_DayRow).2.2.2.1, (v11.getD v10.toNat d_DayRow).2.2.2.2.1, (v11.getD v10.toNat d_DayRow).2.2.2.2.2.1, ())).bind fun y12 => (cond (!y12) (grd (0 ≤ v9 ∧ v9 < (v11.length : Int)) (some (.go ((w64 (v9 + (1 : Int))), (w64 (v10 + (1 : Int))), (v11.set v9.toNat ((v11.getD v10.toNat d_DayRow).1, (v11.getD v10.toNat d_DayRow).2.1, (v11.getD v10.toNat d_DayRow).2.2.1, (v11.getD v10.toNat d_DayRow).2.2.2.1, (v11.getD v10.toNat d_DayRow).2.2.2.2.1, (v11.getD v10.toNat d_DayRow).2.2.2.2.2.1, ())))))) (some (.go (v9, (w64 (v10 + (1 : Int))), v11)))))) ((some (.out (v9, v11)))))
noncomputable def slices_DeleteFunc___impl_DayRow_impl_DayRow__i1 (a0 : (List DayRow)) : Option (((List DayRow) × (List DayRow)) ⊕ ((List DayRow))) :=
  ((slices_IndexFunc___impl_DayRow_impl_DayRow__i1 a0).bind fun y1 => (cond (decide (y1 = ((-1) : Int))) ((some (Sum.inl (a0, a0)))) ((iter (fun s => slices_DeleteFunc___impl_DayRow_impl_DayRow__i1_loop1 s.1 s.2.1 s.2.2) (y1, (w64 (y1 + (1 : Int))), a0)).bind (fun r13 => (grd (0 ≤ r13.1 ∧ r13.1 ≤ (r13.2.length : Int) ∧ (r13.2.length : Int) ≤ (r13.2.length : Int)) (grd (0 ≤ (0 : Int) ∧ (0 : Int) ≤ r13.1 ∧ r13.1 ≤ ((clr r13.2 r13.1.toNat (((r13.2.length : Int) - r13.1).toNat) ((0 : Int), (0 : Int), (0 : Int), (0 : Int), (0 : Int), (ByteArray.mk #[]), ())).length : Int)) ((some (Sum.inr ((clr r13.2 r13.1.toNat (((r13.2.length : Int) - r13.1).toNat) ((0 : Int), (0 : Int), (0 : Int), (0 : Int), (0 : Int), (ByteArray.mk #[]), ())).take r13.1.toNat))))))))))
def slices_DeleteFunc___impl_DayRow_impl_DayRow__i1.res (_ : (List DayRow)) (y : ((List DayRow) × (List DayRow)) ⊕ ((List DayRow))) : AV := match y with
  | (.inl y) => (.own 0)
  | (.inr y) => (.own 1)
def slices_DeleteFunc___impl_DayRow_impl_DayRow__i1.out (_ : (List DayRow)) (y : ((List DayRow) × (List DayRow)) ⊕ ((List DayRow))) : List (Option LB) := match y with
  | (.inl y) => [some (.arr 57 ty_DayRow y.2)]
  | (.inr y) => [none, some (.arr 57 ty_DayRow y)]
def slices_DeleteFunc___impl_DayRow_impl_DayRow__i1.S (ar : List AV) (h : List (Option LB)) (r : AV) (h1 : List (Option LB)) : Prop := ∃ a0 y, slices_DeleteFunc___impl_DayRow_impl_DayRow__i1 a0 = some y ∧ leL ar [(.own 0), (.fn 44 [])] ∧ leH h [some (.arr 57 ty_DayRow a0)] ∧ r = slices_DeleteFunc___impl_DayRow_impl_DayRow__i1.res a0 y ∧ h1 = slices_DeleteFunc___impl_DayRow_impl_DayRow__i1.out a0 y
theorem slices_DeleteFunc___impl_DayRow_impl_DayRow__i1.call {ar : List AV} {h : List (Option LB)} {a0 : (List DayRow)} {y : ((List DayRow) × (List DayRow)) ⊕ ((List DayRow))} (H : slices_DeleteFunc___impl_DayRow_impl_DayRow__i1 a0 = some y) (h0 : leLk ar [(.own 0), (.fn 44 [])] (leHk h [some (.arr 57 ty_DayRow a0)])) : slices_DeleteFunc___impl_DayRow_impl_DayRow__i1.S ar h (slices_DeleteFunc___impl_DayRow_impl_DayRow__i1.res a0 y) (slices_DeleteFunc___impl_DayRow_impl_DayRow__i1.out a0 y) := ⟨a0, y, H, (args_ok h0).1, (args_ok h0).2, rfl, rfl⟩
set_option maxHeartbeats 100000000 in
set_option maxRecDepth 100000 in
theorem slices_DeleteFunc___impl_DayRow_impl_DayRow__i1.spec (a0 : (List DayRow)) (y : ((List DayRow) × (List DayRow)) ⊕ ((List DayRow))) (H : slices_DeleteFunc___impl_DayRow_impl_DayRow__i1 a0 = some y) : Spec Try.prog 42 [(.own 0), (.fn 44 [])] [some (.arr 57 ty_DayRow a0)] (slices_DeleteFunc___impl_DayRow_impl_DayRow__i1.res a0 y) (slices_DeleteFunc___impl_DayRow_impl_DayRow__i1.out a0 y) := by
  have hlen : Nat.ble ([some (.arr 57 ty_DayRow a0)] : List (Option LB)).length (slices_DeleteFunc___impl_DayRow_impl_DayRow__i1.out a0 y).length = true := by
    rcases y with y | y <;> rfl
  refine spec_intro (G20_ok.at tok [41]) (ct := [(10, some [0, 1, 5, 6]), (11, some [0, 5])]) Try.func42 rfl (by kernel_rfl) (by kernel_rfl) hlen ?_
  repeat' first
    | ((with_reducible refine eqg ?_); exact rfl)
    | ((with_reducible refine KOb.mk ?_); kernel_rfl)
    | ((with_reducible intro h); (repeat (first | replace H := grd_k H | replace H := out_step H (by assumption))); first | replace H := cond_t h H | replace H := cond_f h H | exact absurd h (by decide) | skip)
    | ((with_reducible refine Ob.mk ?_); first | (with_reducible rfl) | (first | ((repeat (first | (with_reducible exact grd_p H) | (replace H := grd_k H) | (replace H := out_step H (by assumption)))); done) | rfl | ((repeat (first | exact grd_p H | replace H := grd_k H | replace H := out_step H (by assumption))); done) | ((repeat (first | exact grd_p H | (have hp := grd_p H; exact hp) | replace H := grd_k H | replace H := out_step H (by assumption) | (replace H := bind_some H; obtain ⟨_, _, H⟩ := H))); done) | (repeat (first | exact grd_p H | replace H := grd_k H | replace H := out_step H (by assumption)))))
    | (with_reducible exact True.intro)
    | constructor
    | ((conv => whnf); first
        | ((with_reducible refine Ob.mk ?_); first | (with_reducible rfl) | (first | ((repeat (first | (with_reducible exact grd_p H) | (replace H := grd_k H) | (replace H := out_step H (by assumption)))); done) | rfl | ((repeat (first | exact grd_p H | replace H := grd_k H | replace H := out_step H (by assumption))); done) | ((repeat (first | exact grd_p H | (have hp := grd_p H; exact hp) | replace H := grd_k H | replace H := out_step H (by assumption) | (replace H := bind_some H; obtain ⟨_, _, H⟩ := H))); done) | (repeat (first | exact grd_p H | replace H := grd_k H | replace H := out_step H (by assumption)))))
        | ((with_reducible refine CallW.mk ?_); (repeat (first | replace H := grd_k H | replace H := out_step H (by assumption))); replace H := bind_some H; obtain ⟨y, hy, H⟩ := H; first | ((with_reducible have hz : slices_IndexFunc___impl_DayRow_impl_DayRow__i1 _ = some y := hy); clear hz; refine Exists.intro _ (Exists.intro _ ⟨slices_IndexFunc___impl_DayRow_impl_DayRow__i1.call hy ?_, rfl, rfl, ?_⟩)) | ((with_reducible have hz : impl_BestDays_1 _ = some y := hy); clear hz; refine Exists.intro _ (Exists.intro _ ⟨impl_BestDays_1.call hy ?_, rfl, rfl, ?_⟩)))
        | ((repeat (first | replace H := grd_k H | replace H := out_step H (by assumption))); refine loop_iter (G20_ok.at tok [41]) (ct := [(10, some [0, 1, 5, 6]), (11, some [0, 5])]) (F := (fun s1 : Int × Int × (List DayRow) => ⟨sl [(0, (.own 0)), (1, (.fn 44 [])), (5, (.v (.int .i64 s1.1))), (6, (.v (.int .i64 s1.2.1)))], [some (.arr 57 ty_DayRow s1.2.2)]⟩)) (step := (fun s : Int × Int × (List DayRow) => slices_DeleteFunc___impl_DayRow_impl_DayRow__i1_loop1 s.1 s.2.1 s.2.2)) _ H (by kernel_rfl) (sub_auto ?_) ?_; rotate_left; (intro s1 r v hr H); rotate_right)
        | ((repeat (first | replace H := grd_k H | replace H := out_step H (by assumption))); refine again_step H (by assumption) (sub_auto ?_))
        | ((with_reducible refine fin_mk ?_); (repeat (first | replace H := grd_k H | replace H := out_step H (by assumption))); have H := Option.some.inj H; subst H))
  all_goals exact viewz _ _
def G21 : Env := G20.add 42 [true] slices_DeleteFunc___impl_DayRow_impl_DayRow__i1.S
theorem G21_ok : EnvOk Try.prog G21 := G20_ok.add ent_42 fun ar h r h1 ⟨a0, y, hy, e1, e2, e3, e4⟩ => by
  subst e3 e4; exact (slices_DeleteFunc___impl_DayRow_impl_DayRow__i1.spec a0 y hy).le e1 e2
attribute [local irreducible] slices_DeleteFunc___impl_DayRow_impl_DayRow__i1

noncomputable def slices_insertionSortCmpFunc_impl_DayRow__i1_loop2 (a1 : Int) (v43 : Int) (v44 : (List DayRow)) : Option (Lp (Int × (List DayRow)) ((Int × Int × Int × Int × Int × Int × ByteArray × Int × Int × Int × Int × Int × Int × Int × ByteArray × Int × Bool × (List DayRow)) ⊕ ((List DayRow)))) :=
  (cond (decide (a1 < v43)) (grd (0 ≤ v43 ∧ v43 < (v44.length : Int)) (grd (0 ≤ (w64 (v43 - (1 : Int))) ∧ (w64 (v43 - (1 : Int))) < (v44.length : Int)) ((impl_BestDays_2 ((v44.getD v43.toNat d_DayRow).1, (v44.getD v43.toNat d_DayRow).2.1, (v44.getD v43.toNat d_DayRow).2.2.1, (v44.getD v43.toNat d_DayRow).2.2.2.1, (v44.getD v43.toNat d_DayRow).2.2.2.2.1, (v44.getD v43.toNat d_DayRow).2.2.2.2.2.1, ()) ((v44.getD ((w64 (v43 - (1 : Int))).toNat) d_DayRow).1, (v44.getD ((w64 (v43 - (1 : Int))).toNat) d_DayRow).2.1, (v44.getD ((w64 (v43 - (1 : Int))).toNat) d_DayRow).2.2.1, (v44.getD ((w64 (v43 - (1 : Int))).toNat) d_DayRow).2.2.2.1, (v44.getD ((w64 (v43 - (1 : Int))).toNat) d_DayRow).2.2.2.2.1, (v44.getD ((w64 (v43 - (1 : Int))).toNat) d_DayRow).2.2.2.2.2.1, ())).bind fun y45 => (cond (decide (y45 < (0 : Int))) (grd (0 ≤ (w64 (v43 - (1 : Int))) ∧ (w64 (v43 - (1 : Int))) < (v44.length : Int)) (grd (0 ≤ v43 ∧ v43 < (v44.length : Int)) (grd (0 ≤ v43 ∧ v43 < (v44.length : Int)) (grd (0 ≤ (w64 (v43 - (1 : Int))) ∧ (w64 (v43 - (1 : Int))) < ((v44.set v43.toNat ((v44.getD ((w64 (v43 - (1 : Int))).toNat) d_DayRow).1, (v44.getD ((w64 (v43 - (1 : Int))).toNat) d_DayRow).2.1, (v44.getD ((w64 (v43 - (1 : Int))).toNat) d_DayRow).2.2.1, (v44.getD ((w64 (v43 - (1 : Int))).toNat) d_DayRow).2.2.2.1, (v44.getD ((w64 (v43 - (1 : Int))).toNat) d_DayRow).2.2.2.2.1, (v44.getD ((w64 (v43 - (1 : Int))).toNat) d_DayRow).2.2.2.2.2.1, ())).length : Int)) (some (.go ((w64 (v43 - (1 : Int))), ((v44.set v43.toNat ((v44.getD ((w64 (v43 - (1 : Int))).toNat) d_DayRow).1, (v44.getD ((w64 (v43 - (1 : Int))).toNat) d_DayRow).2.1, (v44.getD ((w64 (v43 - (1 : Int))).toNat) d_DayRow).2.2.1, (v44.getD ((w64 (v43 - (1 : Int))).toNat) d_DayRow).2.2.2.1, (v44.getD ((w64 (v43 - (1 : Int))).toNat) d_DayRow).2.2.2.2.1, (v44.getD ((w64 (v43 - (1 : Int))).toNat) d_DayRow).2.2.2.2.2.1, ())).set ((w64 (v43 - (1 : Int))).toNat) ((v44.getD v43.toNat d_DayRow).1, (v44.getD v43.toNat d_DayRow).2.1, (v44.getD v43.toNat d_DayRow).2.2.1, (v44.getD v43.toNat d_DayRow).2.2.2.1, (v44.getD v43.toNat d_DayRow).2.2.2.2.1, (v44.getD v43.toNat d_DayRow).2.2.2.2.2.1, ()))))))))) ((some (.out (Sum.inl (v43, ((v44.getD v43.toNat d_DayRow).1), ((v44.getD v43.toNat d_DayRow).2.1), ((v44.getD v43.toNat d_DayRow).2.2.1), ((v44.getD v43.toNat d_DayRow).2.2.2.1), ((v44.getD v43.toNat d_DayRow).2.2.2.2.1), ((v44.getD v43.toNat d_DayRow).2.2.2.2.2.1), v43, (w64 (v43 - (1 : Int))), ((v44.getD ((w64 (v43 - (1 : Int))).toNat) d_DayRow).1), ((v44.getD ((w64 (v43 - (1 : Int))).toNat) d_DayRow).2.1), ((v44.getD ((w64 (v43 - (1 : Int))).toNat) d_DayRow).2.2.1), ((v44.getD ((w64 (v43 - (1 : Int))).toNat) d_DayRow).2.2.2.1), ((v44.getD ((w64 (v43 - (1 : Int))).toNat) d_DayRow).2.2.2.2.1), ((v44.getD ((w64 (v43 - (1 : Int))).toNat) d_DayRow).2.2.2.2.2.1), y45, (decide (y45 < (0 : Int))), v44))))))))) ((some (.out (Sum.inr v44)))))
noncomputable def slices_insertionSortCmpFunc_impl_DayRow__i1_loop1 (a1 : Int) (a2 : Int) (v36 : Int) (v37 : (List DayRow)) : Option (Lp (Int × (List DayRow)) (((List DayRow)))) :=
  (cond (decide (v36 < a2)) ((iter (fun s => slices_insertionSortCmpFunc_impl_DayRow__i1_loop2 a1 s.1 s.2) (v36, v37)).bind (Sum.elim (fun r47 => (some (.go ((w64 (v36 + (1 : Int))), r47.2.2.2.2.2.2.2.2.2.2.2.2.2.2.2.2.2)))) (fun r48 => (some (.go ((w64 (v36 + (1 : Int))), r48)))))) ((some (.out v37))))
noncomputable def slices_insertionSortCmpFunc_impl_DayRow__i1 (a0 : (List DayRow)) (a1 : Int) (a2 : Int) : Option ((List DayRow)) :=
  ((iter (fun s => slices_insertionSortCmpFunc_impl_DayRow__i1_loop1 a1 a2 s.1 s.2) ((w64 (a1 + (1 : Int))), a0)).bind (fun r49 => (some r49)))
def slices_insertionSortCmpFunc_impl_DayRow__i1.res (_ : (List DayRow)) (_ : Int) (_ : Int) (_ : (List DayRow)) : AV := (.tup [])
def slices_insertionSortCmpFunc_impl_DayRow__i1.out (_ : (List DayRow)) (_ : Int) (_ : Int) (y : (List DayRow)) : List (Option LB) := [some (.arr 57 ty_DayRow y)]
def slices_insertionSortCmpFunc_impl_DayRow__i1.S (ar : List AV) (h : List (Option LB)) (r : AV) (h1 : List (Option LB)) : Prop := ∃ a0 a1 a2 y, slices_insertionSortCmpFunc_impl_DayRow__i1 a0 a1 a2 = some y ∧ leL ar [(.own 0), (.v (.int .i64 a1)), (.v (.int .i64 a2)), (.fn 46 [])] ∧ leH h [some (.arr 57 ty_DayRow a0)] ∧ r = slices_insertionSortCmpFunc_impl_DayRow__i1.res a0 a1 a2 y ∧ h1 = slices_insertionSortCmpFunc_impl_DayRow__i1.out a0 a1 a2 y
theorem slices_insertionSortCmpFunc_impl_DayRow__i1.call {ar : List AV} {h : List (Option LB)} {a0 : (List DayRow)} {a1 : Int} {a2 : Int} {y : (List DayRow)} (H : slices_insertionSortCmpFunc_impl_DayRow__i1 a0 a1 a2 = some y) (h0 : leLk ar [(.own 0), (.v (.int .i64 a1)), (.v (.int .i64 a2)), (.fn 46 [])] (leHk h [some (.arr 57 ty_DayRow a0)])) : slices_insertionSortCmpFunc_impl_DayRow__i1.S ar h (slices_insertionSortCmpFunc_impl_DayRow__i1.res a0 a1 a2 y) (slices_insertionSortCmpFunc_impl_DayRow__i1.out a0 a1 a2 y) := ⟨a0, a1, a2, y, H, (args_ok h0).1, (args_ok h0).2, rfl, rfl⟩
set_option maxHeartbeats 100000000 in
set_option maxRecDepth 100000 in
theorem slices_insertionSortCmpFunc_impl_DayRow__i1.spec (a0 : (List DayRow)) (a1 : Int) (a2 : Int) (y : (List DayRow)) (H : slices_insertionSortCmpFunc_impl_DayRow__i1 a0 a1 a2 = some y) : Spec Try.prog 66 [(.own 0), (.v (.int .i64 a1)), (.v (.int .i64 a2)), (.fn 46 [])] [some (.arr 57 ty_DayRow a0)] (slices_insertionSortCmpFunc_impl_DayRow__i1.res a0 a1 a2 y) (slices_insertionSortCmpFunc_impl_DayRow__i1.out a0 a1 a2 y) := by
  refine spec_intro (G21_ok.at tok []) (ct := [(5, some [0, 1, 2, 3, 8, 9, 22, 23, 24, 25, 26, 27, 28, 29, 30, 31, 32, 33]), (6, some [0, 1, 2, 3, 8, 9, 22, 23, 24, 25, 26, 27, 28, 29, 30, 31, 32, 33])]) Try.func66 rfl (by kernel_rfl) (by kernel_rfl) rfl ?_
  repeat' first
    | ((with_reducible refine eqg ?_); exact rfl)
    | ((with_reducible refine KOb.mk ?_); kernel_rfl)
    | ((with_reducible intro h); (repeat (first | replace H := grd_k H | replace H := out_step H (by assumption))); first | replace H := cond_t h H | replace H := cond_f h H | exact absurd h (by decide) | skip)
    | ((with_reducible refine Ob.mk ?_); first | (with_reducible rfl) | (first | ((repeat (first | (with_reducible exact grd_p H) | (replace H := grd_k H) | (replace H := out_step H (by assumption)))); done) | rfl | ((repeat (first | exact grd_p H | replace H := grd_k H | replace H := out_step H (by assumption))); done) | ((repeat (first | exact grd_p H | (have hp := grd_p H; exact hp) | replace H := grd_k H | replace H := out_step H (by assumption) | (replace H := bind_some H; obtain ⟨_, _, H⟩ := H))); done) | (repeat (first | exact grd_p H | replace H := grd_k H | replace H := out_step H (by assumption)))))
    | (with_reducible exact True.intro)
    | constructor
    | ((conv => whnf); first
        | ((with_reducible refine Ob.mk ?_); first | (with_reducible rfl) | (first | ((repeat (first | (with_reducible exact grd_p H) | (replace H := grd_k H) | (replace H := out_step H (by assumption)))); done) | rfl | ((repeat (first | exact grd_p H | replace H := grd_k H | replace H := out_step H (by assumption))); done) | ((repeat (first | exact grd_p H | (have hp := grd_p H; exact hp) | replace H := grd_k H | replace H := out_step H (by assumption) | (replace H := bind_some H; obtain ⟨_, _, H⟩ := H))); done) | (repeat (first | exact grd_p H | replace H := grd_k H | replace H := out_step H (by assumption)))))
        | ((with_reducible refine CallW.mk ?_); (repeat (first | replace H := grd_k H | replace H := out_step H (by assumption))); replace H := bind_some H; obtain ⟨y, hy, H⟩ := H; first | ((with_reducible have hz : impl_BestDays_2 _ _ = some y := hy); clear hz; refine Exists.intro _ (Exists.intro _ ⟨impl_BestDays_2.call hy ?_, rfl, rfl, ?_⟩)))
        | ((repeat (first | replace H := grd_k H | replace H := out_step H (by assumption))); refine loop_iter (G21_ok.at tok []) (ct := [(5, some [0, 1, 2, 3, 8, 9, 22, 23, 24, 25, 26, 27, 28, 29, 30, 31, 32, 33]), (6, some [0, 1, 2, 3, 8, 9, 22, 23, 24, 25, 26, 27, 28, 29, 30, 31, 32, 33])]) (F := (fun s1 : Int × (List DayRow) => ⟨sl [(0, (.own 0)), (1, (.v (.int .i64 a1))), (2, (.v (.int .i64 a2))), (3, (.fn 46 [])), (8, (.v (.int .i64 s1.1)))], [some (.arr 57 ty_DayRow s1.2)]⟩)) (step := (fun s : Int × (List DayRow) => slices_insertionSortCmpFunc_impl_DayRow__i1_loop1 _ _ s.1 s.2)) _ H (by kernel_rfl) (sub_auto ?_) ?_; rotate_left; (intro s1 r v hr H); rotate_right)
        | ((repeat (first | replace H := grd_k H | replace H := out_step H (by assumption))); refine loop_iter (G21_ok.at tok []) (ct := [(5, some [0, 1, 2, 3, 8, 9, 22, 23, 24, 25, 26, 27, 28, 29, 30, 31, 32, 33]), (6, some [0, 1, 2, 3, 8, 9, 22, 23, 24, 25, 26, 27, 28, 29, 30, 31, 32, 33])]) (F := (fun s2 : Int × (List DayRow) => ⟨sl [(0, (.own 0)), (1, (.v (.int .i64 a1))), (2, (.v (.int .i64 a2))), (3, (.fn 46 [])), (8, (.v (.int .i64 s1.1))), (9, (.v (.int .i64 s2.1)))], [some (.arr 57 ty_DayRow s2.2)]⟩)) (step := (fun s : Int × (List DayRow) => slices_insertionSortCmpFunc_impl_DayRow__i1_loop2 _ s.1 s.2)) _ H (by kernel_rfl) (sub_auto ?_) ?_; rotate_left; (intro s2 r v hr H); rotate_right)
        | ((repeat (first | replace H := grd_k H | replace H := out_step H (by assumption))); refine again_step H (by assumption) (sub_auto ?_))
        | ((with_reducible refine fin_mk ?_); (repeat (first | replace H := grd_k H | replace H := out_step H (by assumption))); have H := Option.some.inj H; subst H))
  all_goals exact viewz _ _
def G22 : Env := G21.add 66 [true] slices_insertionSortCmpFunc_impl_DayRow__i1.S
theorem G22_ok : EnvOk Try.prog G22 := G21_ok.add ent_66 fun ar h r h1 ⟨a0, a1, a2, y, hy, e1, e2, e3, e4⟩ => by
  subst e3 e4; exact (slices_insertionSortCmpFunc_impl_DayRow__i1.spec a0 a1 a2 y hy).le e1 e2
attribute [local irreducible] slices_insertionSortCmpFunc_impl_DayRow__i1

noncomputable def slices_symMergeCmpFunc_impl_DayRow__i1 (_ : (List DayRow)) (_ : Int) (_ : Int) (_ : Int) : Option (Unit) :=
  none
def slices_symMergeCmpFunc_impl_DayRow__i1.res (_ : (List DayRow)) (_ : Int) (_ : Int) (_ : Int) (_ : Unit) : AV := (.tup [])
def slices_symMergeCmpFunc_impl_DayRow__i1.out (_ : (List DayRow)) (_ : Int) (_ : Int) (_ : Int) (_ : Unit) : List (Option LB) := []
def slices_symMergeCmpFunc_impl_DayRow__i1.S (ar : List AV) (h : List (Option LB)) (r : AV) (h1 : List (Option LB)) : Prop := ∃ a0 a1 a2 a3 y, slices_symMergeCmpFunc_impl_DayRow__i1 a0 a1 a2 a3 = some y ∧ leL ar [(.tree ty_DayRow a0), (.v (.int .i64 a1)), (.v (.int .i64 a2)), (.v (.int .i64 a3)), (.fn 46 [])] ∧ leH h [] ∧ r = slices_symMergeCmpFunc_impl_DayRow__i1.res a0 a1 a2 a3 y ∧ h1 = slices_symMergeCmpFunc_impl_DayRow__i1.out a0 a1 a2 a3 y
theorem slices_symMergeCmpFunc_impl_DayRow__i1.call {ar : List AV} {h : List (Option LB)} {a0 : (List DayRow)} {a1 : Int} {a2 : Int} {a3 : Int} {y : Unit} (H : slices_symMergeCmpFunc_impl_DayRow__i1 a0 a1 a2 a3 = some y) (h0 : leLk ar [(.tree ty_DayRow a0), (.v (.int .i64 a1)), (.v (.int .i64 a2)), (.v (.int .i64 a3)), (.fn 46 [])] (leHk h [])) : slices_symMergeCmpFunc_impl_DayRow__i1.S ar h (slices_symMergeCmpFunc_impl_DayRow__i1.res a0 a1 a2 a3 y) (slices_symMergeCmpFunc_impl_DayRow__i1.out a0 a1 a2 a3 y) := ⟨a0, a1, a2, a3, y, H, (args_ok h0).1, (args_ok h0).2, rfl, rfl⟩
theorem slices_symMergeCmpFunc_impl_DayRow__i1.spec (a0 : (List DayRow)) (a1 : Int) (a2 : Int) (a3 : Int) (y : Unit) (H : slices_symMergeCmpFunc_impl_DayRow__i1 a0 a1 a2 a3 = some y) : Spec Try.prog 67 [(.tree ty_DayRow a0), (.v (.int .i64 a1)), (.v (.int .i64 a2)), (.v (.int .i64 a3)), (.fn 46 [])] [] (slices_symMergeCmpFunc_impl_DayRow__i1.res a0 a1 a2 a3 y) (slices_symMergeCmpFunc_impl_DayRow__i1.out a0 a1 a2 a3 y) := by
  unfold slices_symMergeCmpFunc_impl_DayRow__i1 at H
  cases H
def G23 : Env := G22.add 67 [] slices_symMergeCmpFunc_impl_DayRow__i1.S
theorem G23_ok : EnvOk Try.prog G23 := G22_ok.add ent_67 fun ar h r h1 ⟨a0, a1, a2, a3, y, hy, e1, e2, e3, e4⟩ => by
  subst e3 e4; exact (slices_symMergeCmpFunc_impl_DayRow__i1.spec a0 a1 a2 a3 y hy).le e1 e2
attribute [local irreducible] slices_symMergeCmpFunc_impl_DayRow__i1

noncomputable def slices_stableCmpFunc_impl_DayRow__i1_loop1 (a1 : Int) (v6 : Int) (v7 : Int) (v8 : (List DayRow)) : Option (Lp (Int × Int × (List DayRow)) ((Int × (List DayRow)))) :=
  (cond (decide (v7 ≤ a1)) ((slices_insertionSortCmpFunc_impl_DayRow__i1 v8 v6 v7).bind fun y9 => (some (.go (v7, (w64 (v7 + (20 : Int))), y9)))) ((some (.out (v6, v8)))))
noncomputable def slices_stableCmpFunc_impl_DayRow__i1_loop3 (a1 : Int) (v33 : Int) (v34 : (List DayRow)) (v39 : Int) (v40 : Int) : Option (Lp (Int × Int) ((Int))) :=
  (cond (decide (v40 ≤ a1)) ((slices_symMergeCmpFunc_impl_DayRow__i1 v34 v39 (w64 (v39 + v33)) v40).bind fun _ => (some (.go (v40, (w64 (v40 + (w64 ((2 : Int) * v33)))))))) ((some (.out v39))))
noncomputable def slices_stableCmpFunc_impl_DayRow__i1_loop2 (a1 : Int) (v33 : Int) (v34 : (List DayRow)) : Option (Lp (Int × (List DayRow)) (((List DayRow)))) :=
  (cond (decide (v33 < a1)) ((iter (fun s => slices_stableCmpFunc_impl_DayRow__i1_loop3 a1 v33 v34 s.1 s.2) ((0 : Int), (w64 ((2 : Int) * v33)))).bind (fun r42 => (cond (decide ((w64 (r42 + v33)) < a1)) ((slices_symMergeCmpFunc_impl_DayRow__i1 v34 r42 (w64 (r42 + v33)) a1).bind fun _ => (some (.go ((w64 (v33 * (2 : Int))), v34)))) (some (.go ((w64 (v33 * (2 : Int))), v34)))))) ((some (.out v34))))
noncomputable def slices_stableCmpFunc_impl_DayRow__i1 (a0 : (List DayRow)) (a1 : Int) : Option ((List DayRow)) :=
  ((iter (fun s => slices_stableCmpFunc_impl_DayRow__i1_loop1 a1 s.1 s.2.1 s.2.2) ((0 : Int), (20 : Int), a0)).bind (fun r10 => ((slices_insertionSortCmpFunc_impl_DayRow__i1 r10.2 r10.1 a1).bind fun y11 => ((iter (fun s => slices_stableCmpFunc_impl_DayRow__i1_loop2 a1 s.1 s.2) ((20 : Int), y11)).bind (fun r44 => (some r44))))))
def slices_stableCmpFunc_impl_DayRow__i1.res (_ : (List DayRow)) (_ : Int) (_ : (List DayRow)) : AV := (.tup [])
def slices_stableCmpFunc_impl_DayRow__i1.out (_ : (List DayRow)) (_ : Int) (y : (List DayRow)) : List (Option LB) := [some (.arr 57 ty_DayRow y)]
def slices_stableCmpFunc_impl_DayRow__i1.S (ar : List AV) (h : List (Option LB)) (r : AV) (h1 : List (Option LB)) : Prop := ∃ a0 a1 y, slices_stableCmpFunc_impl_DayRow__i1 a0 a1 = some y ∧ leL ar [(.own 0), (.v (.int .i64 a1)), (.fn 46 [])] ∧ leH h [some (.arr 57 ty_DayRow a0)] ∧ r = slices_stableCmpFunc_impl_DayRow__i1.res a0 a1 y ∧ h1 = slices_stableCmpFunc_impl_DayRow__i1.out a0 a1 y
theorem slices_stableCmpFunc_impl_DayRow__i1.call {ar : List AV} {h : List (Option LB)} {a0 : (List DayRow)} {a1 : Int} {y : (List DayRow)} (H : slices_stableCmpFunc_impl_DayRow__i1 a0 a1 = some y) (h0 : leLk ar [(.own 0), (.v (.int .i64 a1)), (.fn 46 [])] (leHk h [some (.arr 57 ty_DayRow a0)])) : slices_stableCmpFunc_impl_DayRow__i1.S ar h (slices_stableCmpFunc_impl_DayRow__i1.res a0 a1 y) (slices_stableCmpFunc_impl_DayRow__i1.out a0 a1 y) := ⟨a0, a1, y, H, (args_ok h0).1, (args_ok h0).2, rfl, rfl⟩
set_option maxHeartbeats 100000000 in
set_option maxRecDepth 100000 in
theorem slices_stableCmpFunc_impl_DayRow__i1.spec (a0 : (List DayRow)) (a1 : Int) (y : (List DayRow)) (H : slices_stableCmpFunc_impl_DayRow__i1 a0 a1 = some y) : Spec Try.prog 56 [(.own 0), (.v (.int .i64 a1)), (.fn 46 [])] [some (.arr 57 ty_DayRow a0)] (slices_stableCmpFunc_impl_DayRow__i1.res a0 a1 y) (slices_stableCmpFunc_impl_DayRow__i1.out a0 a1 y) := by
  refine spec_intro (G23_ok.at tok []) (ct := [(15, some [0, 1, 2, 6, 7, 9, 54])]) Try.func56 rfl (by kernel_rfl) (by kernel_rfl) rfl ?_
  repeat' first
    | ((with_reducible refine eqg ?_); exact rfl)
    | ((with_reducible refine KOb.mk ?_); kernel_rfl)
    | ((with_reducible intro h); (repeat (first | replace H := grd_k H | replace H := out_step H (by assumption))); first | replace H := cond_t h H | replace H := cond_f h H | exact absurd h (by decide) | skip)
    | ((with_reducible refine Ob.mk ?_); first | (with_reducible rfl) | (first | ((repeat (first | (with_reducible exact grd_p H) | (replace H := grd_k H) | (replace H := out_step H (by assumption)))); done) | rfl | ((repeat (first | exact grd_p H | replace H := grd_k H | replace H := out_step H (by assumption))); done) | ((repeat (first | exact grd_p H | (have hp := grd_p H; exact hp) | replace H := grd_k H | replace H := out_step H (by assumption) | (replace H := bind_some H; obtain ⟨_, _, H⟩ := H))); done) | (repeat (first | exact grd_p H | replace H := grd_k H | replace H := out_step H (by assumption)))))
    | (with_reducible exact True.intro)
    | constructor
    | ((conv => whnf); first
        | ((with_reducible refine Ob.mk ?_); first | (with_reducible rfl) | (first | ((repeat (first | (with_reducible exact grd_p H) | (replace H := grd_k H) | (replace H := out_step H (by assumption)))); done) | rfl | ((repeat (first | exact grd_p H | replace H := grd_k H | replace H := out_step H (by assumption))); done) | ((repeat (first | exact grd_p H | (have hp := grd_p H; exact hp) | replace H := grd_k H | replace H := out_step H (by assumption) | (replace H := bind_some H; obtain ⟨_, _, H⟩ := H))); done) | (repeat (first | exact grd_p H | replace H := grd_k H | replace H := out_step H (by assumption)))))
        | ((with_reducible refine CallW.mk ?_); (repeat (first | replace H := grd_k H | replace H := out_step H (by assumption))); replace H := bind_some H; obtain ⟨y, hy, H⟩ := H; first | ((with_reducible have hz : slices_insertionSortCmpFunc_impl_DayRow__i1 _ _ _ = some y := hy); clear hz; refine Exists.intro _ (Exists.intro _ ⟨slices_insertionSortCmpFunc_impl_DayRow__i1.call hy ?_, rfl, rfl, ?_⟩)) | ((with_reducible have hz : slices_symMergeCmpFunc_impl_DayRow__i1 _ _ _ _ = some y := hy); clear hz; refine Exists.intro _ (Exists.intro _ ⟨slices_symMergeCmpFunc_impl_DayRow__i1.call hy ?_, rfl, rfl, ?_⟩)))
        | ((repeat (first | replace H := grd_k H | replace H := out_step H (by assumption))); refine loop_iter (G23_ok.at tok []) (ct := [(15, some [0, 1, 2, 6, 7, 9, 54])]) (F := (fun s1 : Int × Int × (List DayRow) => ⟨sl [(0, (.own 0)), (1, (.v (.int .i64 a1))), (2, (.fn 46 [])), (6, (.v (.int .i64 (20 : Int)))), (7, (.v (.int .i64 s1.1))), (8, (.v (.int .i64 s1.2.1)))], [some (.arr 57 ty_DayRow s1.2.2)]⟩)) (step := (fun s : Int × Int × (List DayRow) => slices_stableCmpFunc_impl_DayRow__i1_loop1 _ s.1 s.2.1 s.2.2)) _ H (by kernel_rfl) (sub_auto ?_) ?_; rotate_left; (intro s1 r v hr H); rotate_right)
        | ((repeat (first | replace H := grd_k H | replace H := out_step H (by assumption))); refine loop_iter (G23_ok.at tok []) (ct := [(15, some [0, 1, 2, 6, 7, 9, 54])]) (F := (fun s2 : Int × (List DayRow) => ⟨sl [(0, (.own 0)), (1, (.v (.int .i64 a1))), (2, (.fn 46 [])), (6, (.v (.int .i64 s2.1)))], [some (.arr 57 ty_DayRow s2.2)]⟩)) (step := (fun s : Int × (List DayRow) => slices_stableCmpFunc_impl_DayRow__i1_loop2 _ s.1 s.2)) _ H (by kernel_rfl) (sub_auto ?_) ?_; rotate_left; (intro s2 r v hr H); rotate_right)
        | ((repeat (first | replace H := grd_k H | replace H := out_step H (by assumption))); refine loop_iter (G23_ok.at tok []) (ct := [(15, some [0, 1, 2, 6, 7, 9, 54])]) (F := (fun s3 : Int × Int => ⟨sl [(0, (.own 0)), (1, (.v (.int .i64 a1))), (2, (.fn 46 [])), (6, (.v (.int .i64 s2.1))), (7, (.v (.int .i64 s3.1))), (8, (.v (.int .i64 s3.2)))], [some (.arr 57 ty_DayRow s2.2)]⟩)) (step := (fun s : Int × Int => slices_stableCmpFunc_impl_DayRow__i1_loop3 _ _ _ s.1 s.2)) _ H (by kernel_rfl) (sub_auto ?_) ?_; rotate_left; (intro s3 r v hr H); rotate_right)
        | ((repeat (first | replace H := grd_k H | replace H := out_step H (by assumption))); refine again_step H (by assumption) (sub_auto ?_))
        | ((with_reducible refine fin_mk ?_); (repeat (first | replace H := grd_k H | replace H := out_step H (by assumption))); have H := Option.some.inj H; subst H))
  all_goals exact viewz _ _
def G24 : Env := G23.add 56 [true] slices_stableCmpFunc_impl_DayRow__i1.S
theorem G24_ok : EnvOk Try.prog G24 := G23_ok.add ent_56 fun ar h r h1 ⟨a0, a1, y, hy, e1, e2, e3, e4⟩ => by
  subst e3 e4; exact (slices_stableCmpFunc_impl_DayRow__i1.spec a0 a1 y hy).le e1 e2
attribute [local irreducible] slices_stableCmpFunc_impl_DayRow__i1

end Go.Proofs.Yteckiilljhdkpaa
