/-
  Contracts, printed by a program.
-/
import Derived.Test.YtpopcdnjnligiaaC601
namespace Go.Proofs.Ytpopcdnjnligiaa
open Go.RowKit
attribute [local irreducible] Ob loopwp Sub Spec Fin Again CallW CutC KOb iter joinx outm

attribute [local irreducible] laws_vBig spec_l1Cur_next spec_l1Cur_pick spec_l1Cur_among spec_l1Cur_sensors spec_DrawVoteOf impl_within impl_allIn slices_Clone___int_int_ impl_voteOf_1 math_bits_Len32 math_bits_Len64

noncomputable def math_bits_Len (a0 : Int) : Option (Int) :=
  ((math_bits_Len64 a0).bind fun y1 => (some y1))
def math_bits_Len.res (_ : Int) (y : Int) : AV := (.v (.int .i64 y))
def math_bits_Len.out (_ : Int) (_ : Int) : List (Option LB) := []
def math_bits_Len.S (ar : List AV) (h : List (Option LB)) (r : AV) (h1 : List (Option LB)) : Prop := ∃ a0 y, math_bits_Len a0 = some y ∧ leL ar [(.v (.int .u64 a0))] ∧ leH h [] ∧ r = math_bits_Len.res a0 y ∧ h1 = math_bits_Len.out a0 y
theorem math_bits_Len.call {ar : List AV} {h : List (Option LB)} {a0 : Int} {y : Int} (H : math_bits_Len a0 = some y) (h0 : leLk ar [(.v (.int .u64 a0))] (leHk h [])) : math_bits_Len.S ar h (math_bits_Len.res a0 y) (math_bits_Len.out a0 y) := ⟨a0, y, H, (args_ok h0).1, (args_ok h0).2, rfl, rfl⟩
set_option maxHeartbeats 100000000 in
set_option maxRecDepth 100000 in
theorem math_bits_Len.spec (a0 : Int) (y : Int) (H : math_bits_Len a0 = some y) : Spec Try.prog 181 [(.v (.int .u64 a0))] [] (math_bits_Len.res a0 y) (math_bits_Len.out a0 y) := by
  refine spec_intro (G12_ok.at tok []) (ct := []) Try.func181 rfl (by kernel_rfl) (by kernel_rfl) rfl ?_
  repeat' first
    | ((with_reducible refine eqg ?_); exact rfl)
    | ((with_reducible refine KOb.mk ?_); kernel_rfl)
    | ((with_reducible intro h); (repeat (first | replace H := grd_k H | replace H := out_step H (by assumption))); first | replace H := cond_t h H | replace H := cond_f h H | exact absurd h (by decide) | skip)
    | ((with_reducible refine Ob.mk ?_); first | (with_reducible rfl) | (first | ((repeat (first | (with_reducible exact grd_p H) | (replace H := grd_k H) | (replace H := out_step H (by assumption)))); done) | rfl | ((repeat (first | exact grd_p H | replace H := grd_k H | replace H := out_step H (by assumption))); done) | ((repeat (first | exact grd_p H | (have hp := grd_p H; exact hp) | replace H := grd_k H | replace H := out_step H (by assumption) | (replace H := bind_some H; obtain ⟨_, _, H⟩ := H))); done) | (repeat (first | exact grd_p H | replace H := grd_k H | replace H := out_step H (by assumption)))))
    | (with_reducible exact True.intro)
    | ((conv => whnf); first
        | (with_reducible refine And.intro ?_ ?_)
        | (with_reducible exact True.intro)
        | ((with_reducible refine Ob.mk ?_); first | (with_reducible rfl) | (first | ((repeat (first | (with_reducible exact grd_p H) | (replace H := grd_k H) | (replace H := out_step H (by assumption)))); done) | rfl | ((repeat (first | exact grd_p H | replace H := grd_k H | replace H := out_step H (by assumption))); done) | ((repeat (first | exact grd_p H | (have hp := grd_p H; exact hp) | replace H := grd_k H | replace H := out_step H (by assumption) | (replace H := bind_some H; obtain ⟨_, _, H⟩ := H))); done) | (repeat (first | exact grd_p H | replace H := grd_k H | replace H := out_step H (by assumption)))))
        | ((with_reducible refine CallW.mk ?_); (repeat (first | replace H := grd_k H | replace H := out_step H (by assumption))); replace H := bind_some H; obtain ⟨y, hy, H⟩ := H; first | ((with_reducible have hz : math_bits_Len64 _ = some y := hy); clear hz; refine Exists.intro _ (Exists.intro _ ⟨math_bits_Len64.call hy ?_, rfl, rfl, ?_⟩)))
        | ((with_reducible refine fin_mk ?_); (repeat (first | replace H := grd_k H | replace H := out_step H (by assumption))); have H := Option.some.inj H; subst H))
    | constructor
def G13 : Env := G12.add 181 [] math_bits_Len.S
theorem G13_ok : EnvOk Try.prog G13 := G12_ok.add ent_181 fun ar h r h1 ⟨a0, y, hy, e1, e2, e3, e4⟩ => by
  subst e3 e4; exact (math_bits_Len.spec a0 y hy).le e1 e2
attribute [local irreducible] math_bits_Len

noncomputable def cmp_isNaN_int_ (a0 : Int) : Option (Bool) :=
  (some (!decide (a0 = a0)))
def cmp_isNaN_int_.res (_ : Int) (y : Bool) : AV := (.bl y)
def cmp_isNaN_int_.out (_ : Int) (_ : Bool) : List (Option LB) := []
def cmp_isNaN_int_.S (ar : List AV) (h : List (Option LB)) (r : AV) (h1 : List (Option LB)) : Prop := ∃ a0 y, cmp_isNaN_int_ a0 = some y ∧ leL ar [(.v (.int .i64 a0))] ∧ leH h [] ∧ r = cmp_isNaN_int_.res a0 y ∧ h1 = cmp_isNaN_int_.out a0 y
theorem cmp_isNaN_int_.call {ar : List AV} {h : List (Option LB)} {a0 : Int} {y : Bool} (H : cmp_isNaN_int_ a0 = some y) (h0 : leLk ar [(.v (.int .i64 a0))] (leHk h [])) : cmp_isNaN_int_.S ar h (cmp_isNaN_int_.res a0 y) (cmp_isNaN_int_.out a0 y) := ⟨a0, y, H, (args_ok h0).1, (args_ok h0).2, rfl, rfl⟩
set_option maxHeartbeats 100000000 in
set_option maxRecDepth 100000 in
theorem cmp_isNaN_int_.spec (a0 : Int) (y : Bool) (H : cmp_isNaN_int_ a0 = some y) : Spec Try.prog 201 [(.v (.int .i64 a0))] [] (cmp_isNaN_int_.res a0 y) (cmp_isNaN_int_.out a0 y) := by
  refine spec_intro (G13_ok.at tok []) (ct := []) Try.func201 rfl (by kernel_rfl) (by kernel_rfl) rfl ?_
  repeat' first
    | ((with_reducible refine eqg ?_); exact rfl)
    | ((with_reducible refine KOb.mk ?_); kernel_rfl)
    | ((with_reducible intro h); (repeat (first | replace H := grd_k H | replace H := out_step H (by assumption))); first | replace H := cond_t h H | replace H := cond_f h H | exact absurd h (by decide) | skip)
    | ((with_reducible refine Ob.mk ?_); first | (with_reducible rfl) | (first | ((repeat (first | (with_reducible exact grd_p H) | (replace H := grd_k H) | (replace H := out_step H (by assumption)))); done) | rfl | ((repeat (first | exact grd_p H | replace H := grd_k H | replace H := out_step H (by assumption))); done) | ((repeat (first | exact grd_p H | (have hp := grd_p H; exact hp) | replace H := grd_k H | replace H := out_step H (by assumption) | (replace H := bind_some H; obtain ⟨_, _, H⟩ := H))); done) | (repeat (first | exact grd_p H | replace H := grd_k H | replace H := out_step H (by assumption)))))
    | (with_reducible exact True.intro)
    | ((conv => whnf); first
        | (with_reducible refine And.intro ?_ ?_)
        | (with_reducible exact True.intro)
        | ((with_reducible refine Ob.mk ?_); first | (with_reducible rfl) | (first | ((repeat (first | (with_reducible exact grd_p H) | (replace H := grd_k H) | (replace H := out_step H (by assumption)))); done) | rfl | ((repeat (first | exact grd_p H | replace H := grd_k H | replace H := out_step H (by assumption))); done) | ((repeat (first | exact grd_p H | (have hp := grd_p H; exact hp) | replace H := grd_k H | replace H := out_step H (by assumption) | (replace H := bind_some H; obtain ⟨_, _, H⟩ := H))); done) | (repeat (first | exact grd_p H | replace H := grd_k H | replace H := out_step H (by assumption)))))
        | ((with_reducible refine fin_mk ?_); (repeat (first | replace H := grd_k H | replace H := out_step H (by assumption))); have H := Option.some.inj H; subst H))
    | constructor
def G14 : Env := G13.add 201 [] cmp_isNaN_int_.S
theorem G14_ok : EnvOk Try.prog G14 := G13_ok.add ent_201 fun ar h r h1 ⟨a0, y, hy, e1, e2, e3, e4⟩ => by
  subst e3 e4; exact (cmp_isNaN_int_.spec a0 y hy).le e1 e2
attribute [local irreducible] cmp_isNaN_int_

noncomputable def cmp_Less_int_ (a0 : Int) (a1 : Int) : Option (Bool) :=
  ((cmp_isNaN_int_ a0).bind fun y1 => (cond y1 ((cmp_isNaN_int_ a1).bind fun y2 => (cond (!y2) ((some true)) ((some (decide (a0 < a1)))))) ((some (decide (a0 < a1))))))
def cmp_Less_int_.res (_ : Int) (_ : Int) (y : Bool) : AV := (.bl y)
def cmp_Less_int_.out (_ : Int) (_ : Int) (_ : Bool) : List (Option LB) := []
def cmp_Less_int_.S (ar : List AV) (h : List (Option LB)) (r : AV) (h1 : List (Option LB)) : Prop := ∃ a0 a1 y, cmp_Less_int_ a0 a1 = some y ∧ leL ar [(.v (.int .i64 a0)), (.v (.int .i64 a1))] ∧ leH h [] ∧ r = cmp_Less_int_.res a0 a1 y ∧ h1 = cmp_Less_int_.out a0 a1 y
theorem cmp_Less_int_.call {ar : List AV} {h : List (Option LB)} {a0 : Int} {a1 : Int} {y : Bool} (H : cmp_Less_int_ a0 a1 = some y) (h0 : leLk ar [(.v (.int .i64 a0)), (.v (.int .i64 a1))] (leHk h [])) : cmp_Less_int_.S ar h (cmp_Less_int_.res a0 a1 y) (cmp_Less_int_.out a0 a1 y) := ⟨a0, a1, y, H, (args_ok h0).1, (args_ok h0).2, rfl, rfl⟩
set_option maxHeartbeats 100000000 in
set_option maxRecDepth 100000 in
theorem cmp_Less_int_.spec (a0 : Int) (a1 : Int) (y : Bool) (H : cmp_Less_int_ a0 a1 = some y) : Spec Try.prog 191 [(.v (.int .i64 a0)), (.v (.int .i64 a1))] [] (cmp_Less_int_.res a0 a1 y) (cmp_Less_int_.out a0 a1 y) := by
  refine spec_intro (G14_ok.at tok []) (ct := []) Try.func191 rfl (by kernel_rfl) (by kernel_rfl) rfl ?_
  repeat' first
    | ((with_reducible refine eqg ?_); exact rfl)
    | ((with_reducible refine KOb.mk ?_); kernel_rfl)
    | ((with_reducible intro h); (repeat (first | replace H := grd_k H | replace H := out_step H (by assumption))); first | replace H := cond_t h H | replace H := cond_f h H | exact absurd h (by decide) | skip)
    | ((with_reducible refine Ob.mk ?_); first | (with_reducible rfl) | (first | ((repeat (first | (with_reducible exact grd_p H) | (replace H := grd_k H) | (replace H := out_step H (by assumption)))); done) | rfl | ((repeat (first | exact grd_p H | replace H := grd_k H | replace H := out_step H (by assumption))); done) | ((repeat (first | exact grd_p H | (have hp := grd_p H; exact hp) | replace H := grd_k H | replace H := out_step H (by assumption) | (replace H := bind_some H; obtain ⟨_, _, H⟩ := H))); done) | (repeat (first | exact grd_p H | replace H := grd_k H | replace H := out_step H (by assumption)))))
    | (with_reducible exact True.intro)
    | ((conv => whnf); first
        | (with_reducible refine And.intro ?_ ?_)
        | (with_reducible exact True.intro)
        | ((with_reducible refine Ob.mk ?_); first | (with_reducible rfl) | (first | ((repeat (first | (with_reducible exact grd_p H) | (replace H := grd_k H) | (replace H := out_step H (by assumption)))); done) | rfl | ((repeat (first | exact grd_p H | replace H := grd_k H | replace H := out_step H (by assumption))); done) | ((repeat (first | exact grd_p H | (have hp := grd_p H; exact hp) | replace H := grd_k H | replace H := out_step H (by assumption) | (replace H := bind_some H; obtain ⟨_, _, H⟩ := H))); done) | (repeat (first | exact grd_p H | replace H := grd_k H | replace H := out_step H (by assumption)))))
        | ((with_reducible refine CallW.mk ?_); (repeat (first | replace H := grd_k H | replace H := out_step H (by assumption))); replace H := bind_some H; obtain ⟨y, hy, H⟩ := H; first | ((with_reducible have hz : cmp_isNaN_int_ _ = some y := hy); clear hz; refine Exists.intro _ (Exists.intro _ ⟨cmp_isNaN_int_.call hy ?_, rfl, rfl, ?_⟩)))
        | ((with_reducible refine fin_mk ?_); (repeat (first | replace H := grd_k H | replace H := out_step H (by assumption))); have H := Option.some.inj H; subst H))
    | constructor
def G15 : Env := G14.add 191 [] cmp_Less_int_.S
theorem G15_ok : EnvOk Try.prog G15 := G14_ok.add ent_191 fun ar h r h1 ⟨a0, a1, y, hy, e1, e2, e3, e4⟩ => by
  subst e3 e4; exact (cmp_Less_int_.spec a0 a1 y hy).le e1 e2
attribute [local irreducible] cmp_Less_int_

noncomputable def slices_insertionSortOrdered_int__loop2 (a1 : Int) (v43 : Int) (v44 : (List Int)) : Option (Lp (Int × (List Int)) ((Int × Int × Int × Int × Int × Bool × (List Int)) ⊕ ((List Int)))) :=
  (cond (decide (a1 < v43)) (grd (0 ≤ v43 ∧ v43 < (v44.length : Int)) (grd (0 ≤ (w64 (v43 - (1 : Int))) ∧ (w64 (v43 - (1 : Int))) < (v44.length : Int)) ((cmp_Less_int_ (v44.getD v43.toNat 0) (v44.getD ((w64 (v43 - (1 : Int))).toNat) 0)).bind fun y45 => (cond y45 (grd (0 ≤ (w64 (v43 - (1 : Int))) ∧ (w64 (v43 - (1 : Int))) < (v44.length : Int)) (grd (0 ≤ v43 ∧ v43 < (v44.length : Int)) (grd (0 ≤ v43 ∧ v43 < (v44.length : Int)) (grd (0 ≤ (w64 (v43 - (1 : Int))) ∧ (w64 (v43 - (1 : Int))) < ((v44.set v43.toNat (v44.getD ((w64 (v43 - (1 : Int))).toNat) 0)).length : Int)) (some (.go ((w64 (v43 - (1 : Int))), ((v44.set v43.toNat (v44.getD ((w64 (v43 - (1 : Int))).toNat) 0)).set ((w64 (v43 - (1 : Int))).toNat) (v44.getD v43.toNat 0))))))))) ((some (.out (Sum.inl (v43, (v44.getD v43.toNat 0), v43, (w64 (v43 - (1 : Int))), (v44.getD ((w64 (v43 - (1 : Int))).toNat) 0), y45, v44))))))))) ((some (.out (Sum.inr v44)))))
noncomputable def slices_insertionSortOrdered_int__loop1 (a1 : Int) (a2 : Int) (v36 : Int) (v37 : (List Int)) : Option (Lp (Int × (List Int)) (((List Int)))) :=
  (cond (decide (v36 < a2)) ((iter (fun s => slices_insertionSortOrdered_int__loop2 a1 s.1 s.2) (v36, v37)).bind (Sum.elim (fun r47 => (some (.go ((w64 (v36 + (1 : Int))), r47.2.2.2.2.2.2)))) (fun r48 => (some (.go ((w64 (v36 + (1 : Int))), r48)))))) ((some (.out v37))))
noncomputable def slices_insertionSortOrdered_int_ (a0 : (List Int)) (a1 : Int) (a2 : Int) : Option ((List Int)) :=
  ((iter (fun s => slices_insertionSortOrdered_int__loop1 a1 a2 s.1 s.2) ((w64 (a1 + (1 : Int))), a0)).bind (fun r49 => (some r49)))
def slices_insertionSortOrdered_int_.res (_ : (List Int)) (_ : Int) (_ : Int) (_ : (List Int)) : AV := (.tup [])
def slices_insertionSortOrdered_int_.out (_ : (List Int)) (_ : Int) (_ : Int) (y : (List Int)) : List (Option LB) := [some (.arr 3 (.int .i64) y)]
def slices_insertionSortOrdered_int_.S (ar : List AV) (h : List (Option LB)) (r : AV) (h1 : List (Option LB)) : Prop := ∃ a0 a1 a2 y, slices_insertionSortOrdered_int_ a0 a1 a2 = some y ∧ leL ar [(.own 0), (.v (.int .i64 a1)), (.v (.int .i64 a2))] ∧ leH h [some (.arr 3 (.int .i64) a0)] ∧ r = slices_insertionSortOrdered_int_.res a0 a1 a2 y ∧ h1 = slices_insertionSortOrdered_int_.out a0 a1 a2 y
theorem slices_insertionSortOrdered_int_.call {ar : List AV} {h : List (Option LB)} {a0 : (List Int)} {a1 : Int} {a2 : Int} {y : (List Int)} (H : slices_insertionSortOrdered_int_ a0 a1 a2 = some y) (h0 : leLk ar [(.own 0), (.v (.int .i64 a1)), (.v (.int .i64 a2))] (leHk h [some (.arr 3 (.int .i64) a0)])) : slices_insertionSortOrdered_int_.S ar h (slices_insertionSortOrdered_int_.res a0 a1 a2 y) (slices_insertionSortOrdered_int_.out a0 a1 a2 y) := ⟨a0, a1, a2, y, H, (args_ok h0).1, (args_ok h0).2, rfl, rfl⟩
set_option maxHeartbeats 100000000 in
set_option maxRecDepth 100000 in
theorem slices_insertionSortOrdered_int_.spec (a0 : (List Int)) (a1 : Int) (a2 : Int) (y : (List Int)) (H : slices_insertionSortOrdered_int_ a0 a1 a2 = some y) : Spec Try.prog 185 [(.own 0), (.v (.int .i64 a1)), (.v (.int .i64 a2))] [some (.arr 3 (.int .i64) a0)] (slices_insertionSortOrdered_int_.res a0 a1 a2 y) (slices_insertionSortOrdered_int_.out a0 a1 a2 y) := by
  refine spec_intro (G15_ok.at tok []) (ct := [(5, some [0, 1, 2, 6, 7, 20, 21, 22, 23, 24, 25, 26, 27, 28, 29]), (6, some [0, 1, 2, 6, 7, 20, 21, 22, 23, 24, 25, 26, 27, 28, 29])]) Try.func185 rfl (by kernel_rfl) (by kernel_rfl) rfl ?_
  repeat' first
    | ((with_reducible refine eqg ?_); exact rfl)
    | ((with_reducible refine KOb.mk ?_); kernel_rfl)
    | ((with_reducible intro h); (repeat (first | replace H := grd_k H | replace H := out_step H (by assumption))); first | replace H := cond_t h H | replace H := cond_f h H | exact absurd h (by decide) | skip)
    | ((with_reducible refine Ob.mk ?_); first | (with_reducible rfl) | (first | ((repeat (first | (with_reducible exact grd_p H) | (replace H := grd_k H) | (replace H := out_step H (by assumption)))); done) | rfl | ((repeat (first | exact grd_p H | replace H := grd_k H | replace H := out_step H (by assumption))); done) | ((repeat (first | exact grd_p H | (have hp := grd_p H; exact hp) | replace H := grd_k H | replace H := out_step H (by assumption) | (replace H := bind_some H; obtain ⟨_, _, H⟩ := H))); done) | (repeat (first | exact grd_p H | replace H := grd_k H | replace H := out_step H (by assumption)))))
    | (with_reducible exact True.intro)
    | ((conv => whnf); first
        | (with_reducible refine And.intro ?_ ?_)
        | (with_reducible exact True.intro)
        | ((with_reducible refine Ob.mk ?_); first | (with_reducible rfl) | (first | ((repeat (first | (with_reducible exact grd_p H) | (replace H := grd_k H) | (replace H := out_step H (by assumption)))); done) | rfl | ((repeat (first | exact grd_p H | replace H := grd_k H | replace H := out_step H (by assumption))); done) | ((repeat (first | exact grd_p H | (have hp := grd_p H; exact hp) | replace H := grd_k H | replace H := out_step H (by assumption) | (replace H := bind_some H; obtain ⟨_, _, H⟩ := H))); done) | (repeat (first | exact grd_p H | replace H := grd_k H | replace H := out_step H (by assumption)))))
        | ((with_reducible refine CallW.mk ?_); (repeat (first | replace H := grd_k H | replace H := out_step H (by assumption))); replace H := bind_some H; obtain ⟨y, hy, H⟩ := H; first | ((with_reducible have hz : cmp_Less_int_ _ _ = some y := hy); clear hz; refine Exists.intro _ (Exists.intro _ ⟨cmp_Less_int_.call hy ?_, rfl, rfl, ?_⟩)))
        | ((repeat (first | replace H := grd_k H | replace H := out_step H (by assumption))); refine loop_iter (G15_ok.at tok []) (ct := [(5, some [0, 1, 2, 6, 7, 20, 21, 22, 23, 24, 25, 26, 27, 28, 29]), (6, some [0, 1, 2, 6, 7, 20, 21, 22, 23, 24, 25, 26, 27, 28, 29])]) (F := (fun s1 : Int × (List Int) => ⟨sl [(0, (.own 0)), (1, (.v (.int .i64 a1))), (2, (.v (.int .i64 a2))), (6, (.v (.int .i64 s1.1)))], [some (.arr 3 (.int .i64) s1.2)]⟩)) (step := (fun s : Int × (List Int) => slices_insertionSortOrdered_int__loop1 _ _ s.1 s.2)) _ H (by kernel_rfl) (sub_auto ?_) ?_; rotate_left; (intro s1 r v hr H); rotate_right)
        | ((repeat (first | replace H := grd_k H | replace H := out_step H (by assumption))); refine loop_iter (G15_ok.at tok []) (ct := [(5, some [0, 1, 2, 6, 7, 20, 21, 22, 23, 24, 25, 26, 27, 28, 29]), (6, some [0, 1, 2, 6, 7, 20, 21, 22, 23, 24, 25, 26, 27, 28, 29])]) (F := (fun s2 : Int × (List Int) => ⟨sl [(0, (.own 0)), (1, (.v (.int .i64 a1))), (2, (.v (.int .i64 a2))), (6, (.v (.int .i64 s1.1))), (7, (.v (.int .i64 s2.1)))], [some (.arr 3 (.int .i64) s2.2)]⟩)) (step := (fun s : Int × (List Int) => slices_insertionSortOrdered_int__loop2 _ s.1 s.2)) _ H (by kernel_rfl) (sub_auto ?_) ?_; rotate_left; (intro s2 r v hr H); rotate_right)
        | ((repeat (first | replace H := grd_k H | replace H := out_step H (by assumption))); refine again_step H (by assumption) (sub_auto ?_))
        | ((with_reducible refine fin_mk ?_); (repeat (first | replace H := grd_k H | replace H := out_step H (by assumption))); have H := Option.some.inj H; subst H))
    | constructor
  all_goals exact viewz _ _
def G16 : Env := G15.add 185 [true] slices_insertionSortOrdered_int_.S
theorem G16_ok : EnvOk Try.prog G16 := G15_ok.add ent_185 fun ar h r h1 ⟨a0, a1, a2, y, hy, e1, e2, e3, e4⟩ => by
  subst e3 e4; exact (slices_insertionSortOrdered_int_.spec a0 a1 a2 y hy).le e1 e2
attribute [local irreducible] slices_insertionSortOrdered_int_

noncomputable def slices_siftDownOrdered_int__loop1 (a2 : Int) (a3 : Int) (v15 : Int) (v16 : (List Int)) : Option (Lp (Int × (List Int)) (((List Int)) ⊕ ((List Int)))) :=
  (cond (decide (a2 ≤ (w64 ((w64 ((2 : Int) * v15)) + (1 : Int))))) ((some (.out (Sum.inl v16)))) (cond (decide ((w64 ((w64 ((w64 ((2 : Int) * v15)) + (1 : Int))) + (1 : Int))) < a2)) (grd (0 ≤ (w64 (a3 + (w64 ((w64 ((2 : Int) * v15)) + (1 : Int))))) ∧ (w64 (a3 + (w64 ((w64 ((2 : Int) * v15)) + (1 : Int))))) < (v16.length : Int)) (grd (0 ≤ (w64 ((w64 (a3 + (w64 ((w64 ((2 : Int) * v15)) + (1 : Int))))) + (1 : Int))) ∧ (w64 ((w64 (a3 + (w64 ((w64 ((2 : Int) * v15)) + (1 : Int))))) + (1 : Int))) < (v16.length : Int)) ((cmp_Less_int_ (v16.getD ((w64 (a3 + (w64 ((w64 ((2 : Int) * v15)) + (1 : Int))))).toNat) 0) (v16.getD ((w64 ((w64 (a3 + (w64 ((w64 ((2 : Int) * v15)) + (1 : Int))))) + (1 : Int))).toNat) 0)).bind fun y17 => (cond y17 (grd (0 ≤ (w64 (a3 + v15)) ∧ (w64 (a3 + v15)) < (v16.length : Int)) (grd (0 ≤ (w64 (a3 + (w64 ((w64 ((w64 ((2 : Int) * v15)) + (1 : Int))) + (1 : Int))))) ∧ (w64 (a3 + (w64 ((w64 ((w64 ((2 : Int) * v15)) + (1 : Int))) + (1 : Int))))) < (v16.length : Int)) ((cmp_Less_int_ (v16.getD ((w64 (a3 + v15)).toNat) 0) (v16.getD ((w64 (a3 + (w64 ((w64 ((w64 ((2 : Int) * v15)) + (1 : Int))) + (1 : Int))))).toNat) 0)).bind fun y18 => (cond (!y18) ((some (.out (Sum.inr v16)))) (grd (0 ≤ (w64 (a3 + (w64 ((w64 ((w64 ((2 : Int) * v15)) + (1 : Int))) + (1 : Int))))) ∧ (w64 (a3 + (w64 ((w64 ((w64 ((2 : Int) * v15)) + (1 : Int))) + (1 : Int))))) < (v16.length : Int)) (grd (0 ≤ (w64 (a3 + v15)) ∧ (w64 (a3 + v15)) < (v16.length : Int)) (grd (0 ≤ (w64 (a3 + v15)) ∧ (w64 (a3 + v15)) < (v16.length : Int)) (grd (0 ≤ (w64 (a3 + (w64 ((w64 ((w64 ((2 : Int) * v15)) + (1 : Int))) + (1 : Int))))) ∧ (w64 (a3 + (w64 ((w64 ((w64 ((2 : Int) * v15)) + (1 : Int))) + (1 : Int))))) < ((v16.set ((w64 (a3 + v15)).toNat) (v16.getD ((w64 (a3 + (w64 ((w64 ((w64 ((2 : Int) * v15)) + (1 : Int))) + (1 : Int))))).toNat) 0)).length : Int)) (some (.go ((w64 ((w64 ((w64 ((2 : Int) * v15)) + (1 : Int))) + (1 : Int))), ((v16.set ((w64 (a3 + v15)).toNat) (v16.getD ((w64 (a3 + (w64 ((w64 ((w64 ((2 : Int) * v15)) + (1 : Int))) + (1 : Int))))).toNat) 0)).set ((w64 (a3 + (w64 ((w64 ((w64 ((2 : Int) * v15)) + (1 : Int))) + (1 : Int))))).toNat) (v16.getD ((w64 (a3 + v15)).toNat) 0))))))))))))) (grd (0 ≤ (w64 (a3 + v15)) ∧ (w64 (a3 + v15)) < (v16.length : Int)) (grd (0 ≤ (w64 (a3 + (w64 ((w64 ((2 : Int) * v15)) + (1 : Int))))) ∧ (w64 (a3 + (w64 ((w64 ((2 : Int) * v15)) + (1 : Int))))) < (v16.length : Int)) ((cmp_Less_int_ (v16.getD ((w64 (a3 + v15)).toNat) 0) (v16.getD ((w64 (a3 + (w64 ((w64 ((2 : Int) * v15)) + (1 : Int))))).toNat) 0)).bind fun y19 => (cond (!y19) ((some (.out (Sum.inr v16)))) (grd (0 ≤ (w64 (a3 + (w64 ((w64 ((2 : Int) * v15)) + (1 : Int))))) ∧ (w64 (a3 + (w64 ((w64 ((2 : Int) * v15)) + (1 : Int))))) < (v16.length : Int)) (grd (0 ≤ (w64 (a3 + v15)) ∧ (w64 (a3 + v15)) < (v16.length : Int)) (grd (0 ≤ (w64 (a3 + v15)) ∧ (w64 (a3 + v15)) < (v16.length : Int)) (grd (0 ≤ (w64 (a3 + (w64 ((w64 ((2 : Int) * v15)) + (1 : Int))))) ∧ (w64 (a3 + (w64 ((w64 ((2 : Int) * v15)) + (1 : Int))))) < ((v16.set ((w64 (a3 + v15)).toNat) (v16.getD ((w64 (a3 + (w64 ((w64 ((2 : Int) * v15)) + (1 : Int))))).toNat) 0)).length : Int)) (some (.go ((w64 ((w64 ((2 : Int) * v15)) + (1 : Int))), ((v16.set ((w64 (a3 + v15)).toNat) (v16.getD ((w64 (a3 + (w64 ((w64 ((2 : Int) * v15)) + (1 : Int))))).toNat) 0)).set ((w64 (a3 + (w64 ((w64 ((2 : Int) * v15)) + (1 : Int))))).toNat) (v16.getD ((w64 (a3 + v15)).toNat) 0))))))))))))))))) (grd (0 ≤ (w64 (a3 + v15)) ∧ (w64 (a3 + v15)) < (v16.length : Int)) (grd (0 ≤ (w64 (a3 + (w64 ((w64 ((2 : Int) * v15)) + (1 : Int))))) ∧ (w64 (a3 + (w64 ((w64 ((2 : Int) * v15)) + (1 : Int))))) < (v16.length : Int)) ((cmp_Less_int_ (v16.getD ((w64 (a3 + v15)).toNat) 0) (v16.getD ((w64 (a3 + (w64 ((w64 ((2 : Int) * v15)) + (1 : Int))))).toNat) 0)).bind fun y20 => (cond (!y20) ((some (.out (Sum.inr v16)))) (grd (0 ≤ (w64 (a3 + (w64 ((w64 ((2 : Int) * v15)) + (1 : Int))))) ∧ (w64 (a3 + (w64 ((w64 ((2 : Int) * v15)) + (1 : Int))))) < (v16.length : Int)) (grd (0 ≤ (w64 (a3 + v15)) ∧ (w64 (a3 + v15)) < (v16.length : Int)) (grd (0 ≤ (w64 (a3 + v15)) ∧ (w64 (a3 + v15)) < (v16.length : Int)) (grd (0 ≤ (w64 (a3 + (w64 ((w64 ((2 : Int) * v15)) + (1 : Int))))) ∧ (w64 (a3 + (w64 ((w64 ((2 : Int) * v15)) + (1 : Int))))) < ((v16.set ((w64 (a3 + v15)).toNat) (v16.getD ((w64 (a3 + (w64 ((w64 ((2 : Int) * v15)) + (1 : Int))))).toNat) 0)).length : Int)) (some (.go ((w64 ((w64 ((2 : Int) * v15)) + (1 : Int))), ((v16.set ((w64 (a3 + v15)).toNat) (v16.getD ((w64 (a3 + (w64 ((w64 ((2 : Int) * v15)) + (1 : Int))))).toNat) 0)).set ((w64 (a3 + (w64 ((w64 ((2 : Int) * v15)) + (1 : Int))))).toNat) (v16.getD ((w64 (a3 + v15)).toNat) 0)))))))))))))))
noncomputable def slices_siftDownOrdered_int_ (a0 : (List Int)) (a1 : Int) (a2 : Int) (a3 : Int) : Option ((List Int)) :=
  ((iter (fun s => slices_siftDownOrdered_int__loop1 a2 a3 s.1 s.2) (a1, a0)).bind (Sum.elim (fun r22 => (some r22)) (fun r23 => (some r23))))
def slices_siftDownOrdered_int_.res (_ : (List Int)) (_ : Int) (_ : Int) (_ : Int) (_ : (List Int)) : AV := (.tup [])
def slices_siftDownOrdered_int_.out (_ : (List Int)) (_ : Int) (_ : Int) (_ : Int) (y : (List Int)) : List (Option LB) := [some (.arr 3 (.int .i64) y)]
def slices_siftDownOrdered_int_.S (ar : List AV) (h : List (Option LB)) (r : AV) (h1 : List (Option LB)) : Prop := ∃ a0 a1 a2 a3 y, slices_siftDownOrdered_int_ a0 a1 a2 a3 = some y ∧ leL ar [(.own 0), (.v (.int .i64 a1)), (.v (.int .i64 a2)), (.v (.int .i64 a3))] ∧ leH h [some (.arr 3 (.int .i64) a0)] ∧ r = slices_siftDownOrdered_int_.res a0 a1 a2 a3 y ∧ h1 = slices_siftDownOrdered_int_.out a0 a1 a2 a3 y
theorem slices_siftDownOrdered_int_.call {ar : List AV} {h : List (Option LB)} {a0 : (List Int)} {a1 : Int} {a2 : Int} {a3 : Int} {y : (List Int)} (H : slices_siftDownOrdered_int_ a0 a1 a2 a3 = some y) (h0 : leLk ar [(.own 0), (.v (.int .i64 a1)), (.v (.int .i64 a2)), (.v (.int .i64 a3))] (leHk h [some (.arr 3 (.int .i64) a0)])) : slices_siftDownOrdered_int_.S ar h (slices_siftDownOrdered_int_.res a0 a1 a2 a3 y) (slices_siftDownOrdered_int_.out a0 a1 a2 a3 y) := ⟨a0, a1, a2, a3, y, H, (args_ok h0).1, (args_ok h0).2, rfl, rfl⟩
set_option maxHeartbeats 100000000 in
set_option maxRecDepth 100000 in
theorem slices_siftDownOrdered_int_.spec (a0 : (List Int)) (a1 : Int) (a2 : Int) (a3 : Int) (y : (List Int)) (H : slices_siftDownOrdered_int_ a0 a1 a2 a3 = some y) : Spec Try.prog 196 [(.own 0), (.v (.int .i64 a1)), (.v (.int .i64 a2)), (.v (.int .i64 a3))] [some (.arr 3 (.int .i64) a0)] (slices_siftDownOrdered_int_.res a0 a1 a2 a3 y) (slices_siftDownOrdered_int_.out a0 a1 a2 a3 y) := by
  refine spec_intro (G16_ok.at tok []) (ct := [(4, some [0, 2, 3, 8, 9, 22, 23, 24, 25, 26, 27, 28, 29, 30, 31, 32, 33, 34, 35, 36]), (6, some [0, 2, 3, 8, 9, 22, 23, 24, 25, 26, 27, 28, 29, 30, 31, 32, 33, 34, 35]), (7, some [0, 2, 3, 9, 22, 23, 24, 25, 26, 27, 28, 29, 30, 31, 32, 33, 34, 35])]) Try.func196 rfl (by kernel_rfl) (by kernel_rfl) rfl ?_
  repeat' first
    | ((with_reducible refine eqg ?_); exact rfl)
    | ((with_reducible refine KOb.mk ?_); kernel_rfl)
    | ((with_reducible intro h); (repeat (first | replace H := grd_k H | replace H := out_step H (by assumption))); first | replace H := cond_t h H | replace H := cond_f h H | exact absurd h (by decide) | skip)
    | ((with_reducible refine Ob.mk ?_); first | (with_reducible rfl) | (first | ((repeat (first | (with_reducible exact grd_p H) | (replace H := grd_k H) | (replace H := out_step H (by assumption)))); done) | rfl | ((repeat (first | exact grd_p H | replace H := grd_k H | replace H := out_step H (by assumption))); done) | ((repeat (first | exact grd_p H | (have hp := grd_p H; exact hp) | replace H := grd_k H | replace H := out_step H (by assumption) | (replace H := bind_some H; obtain ⟨_, _, H⟩ := H))); done) | (repeat (first | exact grd_p H | replace H := grd_k H | replace H := out_step H (by assumption)))))
    | (with_reducible exact True.intro)
    | ((conv => whnf); first
        | (with_reducible refine And.intro ?_ ?_)
        | (with_reducible exact True.intro)
        | ((with_reducible refine Ob.mk ?_); first | (with_reducible rfl) | (first | ((repeat (first | (with_reducible exact grd_p H) | (replace H := grd_k H) | (replace H := out_step H (by assumption)))); done) | rfl | ((repeat (first | exact grd_p H | replace H := grd_k H | replace H := out_step H (by assumption))); done) | ((repeat (first | exact grd_p H | (have hp := grd_p H; exact hp) | replace H := grd_k H | replace H := out_step H (by assumption) | (replace H := bind_some H; obtain ⟨_, _, H⟩ := H))); done) | (repeat (first | exact grd_p H | replace H := grd_k H | replace H := out_step H (by assumption)))))
        | ((with_reducible refine CallW.mk ?_); (repeat (first | replace H := grd_k H | replace H := out_step H (by assumption))); replace H := bind_some H; obtain ⟨y, hy, H⟩ := H; first | ((with_reducible have hz : cmp_Less_int_ _ _ = some y := hy); clear hz; refine Exists.intro _ (Exists.intro _ ⟨cmp_Less_int_.call hy ?_, rfl, rfl, ?_⟩)))
        | ((repeat (first | replace H := grd_k H | replace H := out_step H (by assumption))); refine loop_iter (G16_ok.at tok []) (ct := [(4, some [0, 2, 3, 8, 9, 22, 23, 24, 25, 26, 27, 28, 29, 30, 31, 32, 33, 34, 35, 36]), (6, some [0, 2, 3, 8, 9, 22, 23, 24, 25, 26, 27, 28, 29, 30, 31, 32, 33, 34, 35]), (7, some [0, 2, 3, 9, 22, 23, 24, 25, 26, 27, 28, 29, 30, 31, 32, 33, 34, 35])]) (F := (fun s1 : Int × (List Int) => ⟨sl [(0, (.own 0)), (2, (.v (.int .i64 a2))), (3, (.v (.int .i64 a3))), (8, (.v (.int .i64 s1.1)))], [some (.arr 3 (.int .i64) s1.2)]⟩)) (step := (fun s : Int × (List Int) => slices_siftDownOrdered_int__loop1 _ _ s.1 s.2)) _ H (by kernel_rfl) (sub_auto ?_) ?_; rotate_left; (intro s1 r v hr H); rotate_right)
        | ((repeat (first | replace H := grd_k H | replace H := out_step H (by assumption))); refine again_step H (by assumption) (sub_auto ?_))
        | ((with_reducible refine fin_mk ?_); (repeat (first | replace H := grd_k H | replace H := out_step H (by assumption))); have H := Option.some.inj H; subst H))
    | constructor
  all_goals exact viewz _ _
def G17 : Env := G16.add 196 [true] slices_siftDownOrdered_int_.S
theorem G17_ok : EnvOk Try.prog G17 := G16_ok.add ent_196 fun ar h r h1 ⟨a0, a1, a2, a3, y, hy, e1, e2, e3, e4⟩ => by
  subst e3 e4; exact (slices_siftDownOrdered_int_.spec a0 a1 a2 a3 y hy).le e1 e2
attribute [local irreducible] slices_siftDownOrdered_int_

noncomputable def slices_heapSortOrdered_int_ (_ : (List Int)) (_ : Int) (_ : Int) : Option (Unit) :=
  none
def slices_heapSortOrdered_int_.res (_ : (List Int)) (_ : Int) (_ : Int) (_ : Unit) : AV := (.tup [])
def slices_heapSortOrdered_int_.out (_ : (List Int)) (_ : Int) (_ : Int) (_ : Unit) : List (Option LB) := []
def slices_heapSortOrdered_int_.S (ar : List AV) (h : List (Option LB)) (r : AV) (h1 : List (Option LB)) : Prop := ∃ a0 a1 a2 y, slices_heapSortOrdered_int_ a0 a1 a2 = some y ∧ leL ar [(.tree (.int .i64) a0), (.v (.int .i64 a1)), (.v (.int .i64 a2))] ∧ leH h [] ∧ r = slices_heapSortOrdered_int_.res a0 a1 a2 y ∧ h1 = slices_heapSortOrdered_int_.out a0 a1 a2 y
theorem slices_heapSortOrdered_int_.call {ar : List AV} {h : List (Option LB)} {a0 : (List Int)} {a1 : Int} {a2 : Int} {y : Unit} (H : slices_heapSortOrdered_int_ a0 a1 a2 = some y) (h0 : leLk ar [(.tree (.int .i64) a0), (.v (.int .i64 a1)), (.v (.int .i64 a2))] (leHk h [])) : slices_heapSortOrdered_int_.S ar h (slices_heapSortOrdered_int_.res a0 a1 a2 y) (slices_heapSortOrdered_int_.out a0 a1 a2 y) := ⟨a0, a1, a2, y, H, (args_ok h0).1, (args_ok h0).2, rfl, rfl⟩
theorem slices_heapSortOrdered_int_.spec (a0 : (List Int)) (a1 : Int) (a2 : Int) (y : Unit) (H : slices_heapSortOrdered_int_ a0 a1 a2 = some y) : Spec Try.prog 186 [(.tree (.int .i64) a0), (.v (.int .i64 a1)), (.v (.int .i64 a2))] [] (slices_heapSortOrdered_int_.res a0 a1 a2 y) (slices_heapSortOrdered_int_.out a0 a1 a2 y) := by
  unfold slices_heapSortOrdered_int_ at H
  cases H
def G18 : Env := G17.add 186 [] slices_heapSortOrdered_int_.S
theorem G18_ok : EnvOk Try.prog G18 := G17_ok.add ent_186 fun ar h r h1 ⟨a0, a1, a2, y, hy, e1, e2, e3, e4⟩ => by
  subst e3 e4; exact (slices_heapSortOrdered_int_.spec a0 a1 a2 y hy).le e1 e2
attribute [local irreducible] slices_heapSortOrdered_int_

noncomputable def slices_nextPowerOfTwo (_ : Int) : Option (Int) :=
  none
def slices_nextPowerOfTwo.res (_ : Int) (y : Int) : AV := (.v (.int .u64 y))
def slices_nextPowerOfTwo.out (_ : Int) (_ : Int) : List (Option LB) := []
def slices_nextPowerOfTwo.S (ar : List AV) (h : List (Option LB)) (r : AV) (h1 : List (Option LB)) : Prop := ∃ a0 y, slices_nextPowerOfTwo a0 = some y ∧ leL ar [(.v (.int .i64 a0))] ∧ leH h [] ∧ r = slices_nextPowerOfTwo.res a0 y ∧ h1 = slices_nextPowerOfTwo.out a0 y
theorem slices_nextPowerOfTwo.call {ar : List AV} {h : List (Option LB)} {a0 : Int} {y : Int} (H : slices_nextPowerOfTwo a0 = some y) (h0 : leLk ar [(.v (.int .i64 a0))] (leHk h [])) : slices_nextPowerOfTwo.S ar h (slices_nextPowerOfTwo.res a0 y) (slices_nextPowerOfTwo.out a0 y) := ⟨a0, y, H, (args_ok h0).1, (args_ok h0).2, rfl, rfl⟩
theorem slices_nextPowerOfTwo.spec (a0 : Int) (y : Int) (H : slices_nextPowerOfTwo a0 = some y) : Spec Try.prog 197 [(.v (.int .i64 a0))] [] (slices_nextPowerOfTwo.res a0 y) (slices_nextPowerOfTwo.out a0 y) := by
  unfold slices_nextPowerOfTwo at H
  cases H
def G19 : Env := G18.add 197 [] slices_nextPowerOfTwo.S
theorem G19_ok : EnvOk Try.prog G19 := G18_ok.add ent_197 fun ar h r h1 ⟨a0, y, hy, e1, e2, e3, e4⟩ => by
  subst e3 e4; exact (slices_nextPowerOfTwo.spec a0 y hy).le e1 e2
attribute [local irreducible] slices_nextPowerOfTwo

noncomputable def slices_xorshift_Next (_ : Int) : Option (Int × Int) :=
  none
def slices_xorshift_Next.res (_ : Int) (y : Int × Int) : AV := (.v (.int .u64 y.1))
def slices_xorshift_Next.out (_ : Int) (y : Int × Int) : List (Option LB) := [some (.box 198 [(.v (.int .u64 y.2))])]
def slices_xorshift_Next.S (ar : List AV) (h : List (Option LB)) (r : AV) (h1 : List (Option LB)) : Prop := ∃ a0 y, slices_xorshift_Next a0 = some y ∧ leL ar [(.loc 0 0 0)] ∧ leH h [some (.box 198 [(.v (.int .u64 a0))])] ∧ r = slices_xorshift_Next.res a0 y ∧ h1 = slices_xorshift_Next.out a0 y
theorem slices_xorshift_Next.call {ar : List AV} {h : List (Option LB)} {a0 : Int} {y : Int × Int} (H : slices_xorshift_Next a0 = some y) (h0 : leLk ar [(.loc 0 0 0)] (leHk h [some (.box 198 [(.v (.int .u64 a0))])])) : slices_xorshift_Next.S ar h (slices_xorshift_Next.res a0 y) (slices_xorshift_Next.out a0 y) := ⟨a0, y, H, (args_ok h0).1, (args_ok h0).2, rfl, rfl⟩
theorem slices_xorshift_Next.spec (a0 : Int) (y : Int × Int) (H : slices_xorshift_Next a0 = some y) : Spec Try.prog 198 [(.loc 0 0 0)] [some (.box 198 [(.v (.int .u64 a0))])] (slices_xorshift_Next.res a0 y) (slices_xorshift_Next.out a0 y) := by
  unfold slices_xorshift_Next at H
  cases H
def G20 : Env := G19.add 198 [true] slices_xorshift_Next.S
theorem G20_ok : EnvOk Try.prog G20 := G19_ok.add ent_198 fun ar h r h1 ⟨a0, y, hy, e1, e2, e3, e4⟩ => by
  subst e3 e4; exact (slices_xorshift_Next.spec a0 y hy).le e1 e2
attribute [local irreducible] slices_xorshift_Next

noncomputable def slices_breakPatternsOrdered_int_ (_ : (List Int)) (_ : Int) (_ : Int) : Option (Unit) :=
  none
def slices_breakPatternsOrdered_int_.res (_ : (List Int)) (_ : Int) (_ : Int) (_ : Unit) : AV := (.tup [])
def slices_breakPatternsOrdered_int_.out (_ : (List Int)) (_ : Int) (_ : Int) (_ : Unit) : List (Option LB) := []
def slices_breakPatternsOrdered_int_.S (ar : List AV) (h : List (Option LB)) (r : AV) (h1 : List (Option LB)) : Prop := ∃ a0 a1 a2 y, slices_breakPatternsOrdered_int_ a0 a1 a2 = some y ∧ leL ar [(.tree (.int .i64) a0), (.v (.int .i64 a1)), (.v (.int .i64 a2))] ∧ leH h [] ∧ r = slices_breakPatternsOrdered_int_.res a0 a1 a2 y ∧ h1 = slices_breakPatternsOrdered_int_.out a0 a1 a2 y
theorem slices_breakPatternsOrdered_int_.call {ar : List AV} {h : List (Option LB)} {a0 : (List Int)} {a1 : Int} {a2 : Int} {y : Unit} (H : slices_breakPatternsOrdered_int_ a0 a1 a2 = some y) (h0 : leLk ar [(.tree (.int .i64) a0), (.v (.int .i64 a1)), (.v (.int .i64 a2))] (leHk h [])) : slices_breakPatternsOrdered_int_.S ar h (slices_breakPatternsOrdered_int_.res a0 a1 a2 y) (slices_breakPatternsOrdered_int_.out a0 a1 a2 y) := ⟨a0, a1, a2, y, H, (args_ok h0).1, (args_ok h0).2, rfl, rfl⟩
theorem slices_breakPatternsOrdered_int_.spec (a0 : (List Int)) (a1 : Int) (a2 : Int) (y : Unit) (H : slices_breakPatternsOrdered_int_ a0 a1 a2 = some y) : Spec Try.prog 187 [(.tree (.int .i64) a0), (.v (.int .i64 a1)), (.v (.int .i64 a2))] [] (slices_breakPatternsOrdered_int_.res a0 a1 a2 y) (slices_breakPatternsOrdered_int_.out a0 a1 a2 y) := by
  unfold slices_breakPatternsOrdered_int_ at H
  cases H
def G21 : Env := G20.add 187 [] slices_breakPatternsOrdered_int_.S
theorem G21_ok : EnvOk Try.prog G21 := G20_ok.add ent_187 fun ar h r h1 ⟨a0, a1, a2, y, hy, e1, e2, e3, e4⟩ => by
  subst e3 e4; exact (slices_breakPatternsOrdered_int_.spec a0 a1 a2 y hy).le e1 e2
attribute [local irreducible] slices_breakPatternsOrdered_int_

noncomputable def slices_order2Ordered_int_ (a0 : (List Int)) (a1 : Int) (a2 : Int) (a3 : Int) : Option (Int × Int × Int) :=
  (grd (0 ≤ a2 ∧ a2 < (a0.length : Int)) (grd (0 ≤ a1 ∧ a1 < (a0.length : Int)) ((cmp_Less_int_ (a0.getD a2.toNat 0) (a0.getD a1.toNat 0)).bind fun y1 => (cond y1 ((some (a2, a1, (w64 (a3 + (1 : Int)))))) ((some (a1, a2, a3)))))))
def slices_order2Ordered_int_.res (_ : (List Int)) (_ : Int) (_ : Int) (_ : Int) (y : Int × Int × Int) : AV := (.tup [(.v (.int .i64 y.1)), (.v (.int .i64 y.2.1))])
def slices_order2Ordered_int_.out (_ : (List Int)) (_ : Int) (_ : Int) (_ : Int) (y : Int × Int × Int) : List (Option LB) := [some (.box 3 [(.v (.int .i64 y.2.2))])]
def slices_order2Ordered_int_.S (ar : List AV) (h : List (Option LB)) (r : AV) (h1 : List (Option LB)) : Prop := ∃ a0 a1 a2 a3 y, slices_order2Ordered_int_ a0 a1 a2 a3 = some y ∧ leL ar [(.tree (.int .i64) a0), (.v (.int .i64 a1)), (.v (.int .i64 a2)), (.loc 0 0 0)] ∧ leH h [some (.box 3 [(.v (.int .i64 a3))])] ∧ r = slices_order2Ordered_int_.res a0 a1 a2 a3 y ∧ h1 = slices_order2Ordered_int_.out a0 a1 a2 a3 y
theorem slices_order2Ordered_int_.call {ar : List AV} {h : List (Option LB)} {a0 : (List Int)} {a1 : Int} {a2 : Int} {a3 : Int} {y : Int × Int × Int} (H : slices_order2Ordered_int_ a0 a1 a2 a3 = some y) (h0 : leLk ar [(.tree (.int .i64) a0), (.v (.int .i64 a1)), (.v (.int .i64 a2)), (.loc 0 0 0)] (leHk h [some (.box 3 [(.v (.int .i64 a3))])])) : slices_order2Ordered_int_.S ar h (slices_order2Ordered_int_.res a0 a1 a2 a3 y) (slices_order2Ordered_int_.out a0 a1 a2 a3 y) := ⟨a0, a1, a2, a3, y, H, (args_ok h0).1, (args_ok h0).2, rfl, rfl⟩
set_option maxHeartbeats 100000000 in
set_option maxRecDepth 100000 in
theorem slices_order2Ordered_int_.spec (a0 : (List Int)) (a1 : Int) (a2 : Int) (a3 : Int) (y : Int × Int × Int) (H : slices_order2Ordered_int_ a0 a1 a2 a3 = some y) : Spec Try.prog 202 [(.tree (.int .i64) a0), (.v (.int .i64 a1)), (.v (.int .i64 a2)), (.loc 0 0 0)] [some (.box 3 [(.v (.int .i64 a3))])] (slices_order2Ordered_int_.res a0 a1 a2 a3 y) (slices_order2Ordered_int_.out a0 a1 a2 a3 y) := by
  refine spec_intro (G21_ok.at tok []) (ct := [(3, some [1, 2])]) Try.func202 rfl (by kernel_rfl) (by kernel_rfl) rfl ?_
  repeat' first
    | ((with_reducible refine eqg ?_); exact rfl)
    | ((with_reducible refine KOb.mk ?_); kernel_rfl)
    | ((with_reducible intro h); (repeat (first | replace H := grd_k H | replace H := out_step H (by assumption))); first | replace H := cond_t h H | replace H := cond_f h H | exact absurd h (by decide) | skip)
    | ((with_reducible refine Ob.mk ?_); first | (with_reducible rfl) | (first | ((repeat (first | (with_reducible exact grd_p H) | (replace H := grd_k H) | (replace H := out_step H (by assumption)))); done) | rfl | ((repeat (first | exact grd_p H | replace H := grd_k H | replace H := out_step H (by assumption))); done) | ((repeat (first | exact grd_p H | (have hp := grd_p H; exact hp) | replace H := grd_k H | replace H := out_step H (by assumption) | (replace H := bind_some H; obtain ⟨_, _, H⟩ := H))); done) | (repeat (first | exact grd_p H | replace H := grd_k H | replace H := out_step H (by assumption)))))
    | (with_reducible exact True.intro)
    | ((conv => whnf); first
        | (with_reducible refine And.intro ?_ ?_)
        | (with_reducible exact True.intro)
        | ((with_reducible refine Ob.mk ?_); first | (with_reducible rfl) | (first | ((repeat (first | (with_reducible exact grd_p H) | (replace H := grd_k H) | (replace H := out_step H (by assumption)))); done) | rfl | ((repeat (first | exact grd_p H | replace H := grd_k H | replace H := out_step H (by assumption))); done) | ((repeat (first | exact grd_p H | (have hp := grd_p H; exact hp) | replace H := grd_k H | replace H := out_step H (by assumption) | (replace H := bind_some H; obtain ⟨_, _, H⟩ := H))); done) | (repeat (first | exact grd_p H | replace H := grd_k H | replace H := out_step H (by assumption)))))
        | ((with_reducible refine CallW.mk ?_); (repeat (first | replace H := grd_k H | replace H := out_step H (by assumption))); replace H := bind_some H; obtain ⟨y, hy, H⟩ := H; first | ((with_reducible have hz : cmp_Less_int_ _ _ = some y := hy); clear hz; refine Exists.intro _ (Exists.intro _ ⟨cmp_Less_int_.call hy ?_, rfl, rfl, ?_⟩)))
        | ((with_reducible refine fin_mk ?_); (repeat (first | replace H := grd_k H | replace H := out_step H (by assumption))); have H := Option.some.inj H; subst H))
    | constructor
  all_goals exact viewz _ _
def G22 : Env := G21.add 202 [false, false, false, true] slices_order2Ordered_int_.S
theorem G22_ok : EnvOk Try.prog G22 := G21_ok.add ent_202 fun ar h r h1 ⟨a0, a1, a2, a3, y, hy, e1, e2, e3, e4⟩ => by
  subst e3 e4; exact (slices_order2Ordered_int_.spec a0 a1 a2 a3 y hy).le e1 e2
attribute [local irreducible] slices_order2Ordered_int_

noncomputable def slices_medianOrdered_int_ (a0 : (List Int)) (a1 : Int) (a2 : Int) (a3 : Int) (a4 : Int) : Option (Int × Int) :=
  ((slices_order2Ordered_int_ a0 a1 a2 a4).bind fun y1 => ((slices_order2Ordered_int_ a0 y1.2.1 a3 y1.2.2).bind fun y2 => ((slices_order2Ordered_int_ a0 y1.1 y2.1 y2.2.2).bind fun y3 => (some (y3.2.1, y3.2.2)))))
def slices_medianOrdered_int_.res (_ : (List Int)) (_ : Int) (_ : Int) (_ : Int) (_ : Int) (y : Int × Int) : AV := (.v (.int .i64 y.1))
def slices_medianOrdered_int_.out (_ : (List Int)) (_ : Int) (_ : Int) (_ : Int) (_ : Int) (y : Int × Int) : List (Option LB) := [some (.box 3 [(.v (.int .i64 y.2))])]
def slices_medianOrdered_int_.S (ar : List AV) (h : List (Option LB)) (r : AV) (h1 : List (Option LB)) : Prop := ∃ a0 a1 a2 a3 a4 y, slices_medianOrdered_int_ a0 a1 a2 a3 a4 = some y ∧ leL ar [(.tree (.int .i64) a0), (.v (.int .i64 a1)), (.v (.int .i64 a2)), (.v (.int .i64 a3)), (.loc 0 0 0)] ∧ leH h [some (.box 3 [(.v (.int .i64 a4))])] ∧ r = slices_medianOrdered_int_.res a0 a1 a2 a3 a4 y ∧ h1 = slices_medianOrdered_int_.out a0 a1 a2 a3 a4 y
theorem slices_medianOrdered_int_.call {ar : List AV} {h : List (Option LB)} {a0 : (List Int)} {a1 : Int} {a2 : Int} {a3 : Int} {a4 : Int} {y : Int × Int} (H : slices_medianOrdered_int_ a0 a1 a2 a3 a4 = some y) (h0 : leLk ar [(.tree (.int .i64) a0), (.v (.int .i64 a1)), (.v (.int .i64 a2)), (.v (.int .i64 a3)), (.loc 0 0 0)] (leHk h [some (.box 3 [(.v (.int .i64 a4))])])) : slices_medianOrdered_int_.S ar h (slices_medianOrdered_int_.res a0 a1 a2 a3 a4 y) (slices_medianOrdered_int_.out a0 a1 a2 a3 a4 y) := ⟨a0, a1, a2, a3, a4, y, H, (args_ok h0).1, (args_ok h0).2, rfl, rfl⟩
set_option maxHeartbeats 100000000 in
set_option maxRecDepth 100000 in
theorem slices_medianOrdered_int_.spec (a0 : (List Int)) (a1 : Int) (a2 : Int) (a3 : Int) (a4 : Int) (y : Int × Int) (H : slices_medianOrdered_int_ a0 a1 a2 a3 a4 = some y) : Spec Try.prog 200 [(.tree (.int .i64) a0), (.v (.int .i64 a1)), (.v (.int .i64 a2)), (.v (.int .i64 a3)), (.loc 0 0 0)] [some (.box 3 [(.v (.int .i64 a4))])] (slices_medianOrdered_int_.res a0 a1 a2 a3 a4 y) (slices_medianOrdered_int_.out a0 a1 a2 a3 a4 y) := by
  refine spec_intro (G22_ok.at tok []) (ct := [(3, some [0, 1, 2, 4])]) Try.func200 rfl (by kernel_rfl) (by kernel_rfl) rfl ?_
  repeat' first
    | ((with_reducible refine eqg ?_); exact rfl)
    | ((with_reducible refine KOb.mk ?_); kernel_rfl)
    | ((with_reducible intro h); (repeat (first | replace H := grd_k H | replace H := out_step H (by assumption))); first | replace H := cond_t h H | replace H := cond_f h H | exact absurd h (by decide) | skip)
    | ((with_reducible refine Ob.mk ?_); first | (with_reducible rfl) | (first | ((repeat (first | (with_reducible exact grd_p H) | (replace H := grd_k H) | (replace H := out_step H (by assumption)))); done) | rfl | ((repeat (first | exact grd_p H | replace H := grd_k H | replace H := out_step H (by assumption))); done) | ((repeat (first | exact grd_p H | (have hp := grd_p H; exact hp) | replace H := grd_k H | replace H := out_step H (by assumption) | (replace H := bind_some H; obtain ⟨_, _, H⟩ := H))); done) | (repeat (first | exact grd_p H | replace H := grd_k H | replace H := out_step H (by assumption)))))
    | (with_reducible exact True.intro)
    | ((conv => whnf); first
        | (with_reducible refine And.intro ?_ ?_)
        | (with_reducible exact True.intro)
        | ((with_reducible refine Ob.mk ?_); first | (with_reducible rfl) | (first | ((repeat (first | (with_reducible exact grd_p H) | (replace H := grd_k H) | (replace H := out_step H (by assumption)))); done) | rfl | ((repeat (first | exact grd_p H | replace H := grd_k H | replace H := out_step H (by assumption))); done) | ((repeat (first | exact grd_p H | (have hp := grd_p H; exact hp) | replace H := grd_k H | replace H := out_step H (by assumption) | (replace H := bind_some H; obtain ⟨_, _, H⟩ := H))); done) | (repeat (first | exact grd_p H | replace H := grd_k H | replace H := out_step H (by assumption)))))
        | ((with_reducible refine CallW.mk ?_); (repeat (first | replace H := grd_k H | replace H := out_step H (by assumption))); replace H := bind_some H; obtain ⟨y, hy, H⟩ := H; first | ((with_reducible have hz : slices_order2Ordered_int_ _ _ _ _ = some y := hy); clear hz; refine Exists.intro _ (Exists.intro _ ⟨slices_order2Ordered_int_.call hy ?_, rfl, rfl, ?_⟩)))
        | ((with_reducible refine fin_mk ?_); (repeat (first | replace H := grd_k H | replace H := out_step H (by assumption))); have H := Option.some.inj H; subst H))
    | constructor
  all_goals exact viewz _ _
def G23 : Env := G22.add 200 [false, false, false, false, true] slices_medianOrdered_int_.S
theorem G23_ok : EnvOk Try.prog G23 := G22_ok.add ent_200 fun ar h r h1 ⟨a0, a1, a2, a3, a4, y, hy, e1, e2, e3, e4⟩ => by
  subst e3 e4; exact (slices_medianOrdered_int_.spec a0 a1 a2 a3 a4 y hy).le e1 e2
attribute [local irreducible] slices_medianOrdered_int_

noncomputable def slices_medianAdjacentOrdered_int_ (a0 : (List Int)) (a1 : Int) (a2 : Int) : Option (Int × Int) :=
  ((slices_medianOrdered_int_ a0 (w64 (a1 - (1 : Int))) a1 (w64 (a1 + (1 : Int))) a2).bind fun y1 => (some (y1.1, y1.2)))
def slices_medianAdjacentOrdered_int_.res (_ : (List Int)) (_ : Int) (_ : Int) (y : Int × Int) : AV := (.v (.int .i64 y.1))
def slices_medianAdjacentOrdered_int_.out (_ : (List Int)) (_ : Int) (_ : Int) (y : Int × Int) : List (Option LB) := [some (.box 3 [(.v (.int .i64 y.2))])]
def slices_medianAdjacentOrdered_int_.S (ar : List AV) (h : List (Option LB)) (r : AV) (h1 : List (Option LB)) : Prop := ∃ a0 a1 a2 y, slices_medianAdjacentOrdered_int_ a0 a1 a2 = some y ∧ leL ar [(.tree (.int .i64) a0), (.v (.int .i64 a1)), (.loc 0 0 0)] ∧ leH h [some (.box 3 [(.v (.int .i64 a2))])] ∧ r = slices_medianAdjacentOrdered_int_.res a0 a1 a2 y ∧ h1 = slices_medianAdjacentOrdered_int_.out a0 a1 a2 y
theorem slices_medianAdjacentOrdered_int_.call {ar : List AV} {h : List (Option LB)} {a0 : (List Int)} {a1 : Int} {a2 : Int} {y : Int × Int} (H : slices_medianAdjacentOrdered_int_ a0 a1 a2 = some y) (h0 : leLk ar [(.tree (.int .i64) a0), (.v (.int .i64 a1)), (.loc 0 0 0)] (leHk h [some (.box 3 [(.v (.int .i64 a2))])])) : slices_medianAdjacentOrdered_int_.S ar h (slices_medianAdjacentOrdered_int_.res a0 a1 a2 y) (slices_medianAdjacentOrdered_int_.out a0 a1 a2 y) := ⟨a0, a1, a2, y, H, (args_ok h0).1, (args_ok h0).2, rfl, rfl⟩
set_option maxHeartbeats 100000000 in
set_option maxRecDepth 100000 in
theorem slices_medianAdjacentOrdered_int_.spec (a0 : (List Int)) (a1 : Int) (a2 : Int) (y : Int × Int) (H : slices_medianAdjacentOrdered_int_ a0 a1 a2 = some y) : Spec Try.prog 199 [(.tree (.int .i64) a0), (.v (.int .i64 a1)), (.loc 0 0 0)] [some (.box 3 [(.v (.int .i64 a2))])] (slices_medianAdjacentOrdered_int_.res a0 a1 a2 y) (slices_medianAdjacentOrdered_int_.out a0 a1 a2 y) := by
  refine spec_intro (G23_ok.at tok []) (ct := []) Try.func199 rfl (by kernel_rfl) (by kernel_rfl) rfl ?_
  repeat' first
    | ((with_reducible refine eqg ?_); exact rfl)
    | ((with_reducible refine KOb.mk ?_); kernel_rfl)
    | ((with_reducible intro h); (repeat (first | replace H := grd_k H | replace H := out_step H (by assumption))); first | replace H := cond_t h H | replace H := cond_f h H | exact absurd h (by decide) | skip)
    | ((with_reducible refine Ob.mk ?_); first | (with_reducible rfl) | (first | ((repeat (first | (with_reducible exact grd_p H) | (replace H := grd_k H) | (replace H := out_step H (by assumption)))); done) | rfl | ((repeat (first | exact grd_p H | replace H := grd_k H | replace H := out_step H (by assumption))); done) | ((repeat (first | exact grd_p H | (have hp := grd_p H; exact hp) | replace H := grd_k H | replace H := out_step H (by assumption) | (replace H := bind_some H; obtain ⟨_, _, H⟩ := H))); done) | (repeat (first | exact grd_p H | replace H := grd_k H | replace H := out_step H (by assumption)))))
    | (with_reducible exact True.intro)
    | ((conv => whnf); first
        | (with_reducible refine And.intro ?_ ?_)
        | (with_reducible exact True.intro)
        | ((with_reducible refine Ob.mk ?_); first | (with_reducible rfl) | (first | ((repeat (first | (with_reducible exact grd_p H) | (replace H := grd_k H) | (replace H := out_step H (by assumption)))); done) | rfl | ((repeat (first | exact grd_p H | replace H := grd_k H | replace H := out_step H (by assumption))); done) | ((repeat (first | exact grd_p H | (have hp := grd_p H; exact hp) | replace H := grd_k H | replace H := out_step H (by assumption) | (replace H := bind_some H; obtain ⟨_, _, H⟩ := H))); done) | (repeat (first | exact grd_p H | replace H := grd_k H | replace H := out_step H (by assumption)))))
        | ((with_reducible refine CallW.mk ?_); (repeat (first | replace H := grd_k H | replace H := out_step H (by assumption))); replace H := bind_some H; obtain ⟨y, hy, H⟩ := H; first | ((with_reducible have hz : slices_medianOrdered_int_ _ _ _ _ _ = some y := hy); clear hz; refine Exists.intro _ (Exists.intro _ ⟨slices_medianOrdered_int_.call hy ?_, rfl, rfl, ?_⟩)))
        | ((with_reducible refine fin_mk ?_); (repeat (first | replace H := grd_k H | replace H := out_step H (by assumption))); have H := Option.some.inj H; subst H))
    | constructor
  all_goals exact viewz _ _
def G24 : Env := G23.add 199 [false, false, true] slices_medianAdjacentOrdered_int_.S
theorem G24_ok : EnvOk Try.prog G24 := G23_ok.add ent_199 fun ar h r h1 ⟨a0, a1, a2, y, hy, e1, e2, e3, e4⟩ => by
  subst e3 e4; exact (slices_medianAdjacentOrdered_int_.spec a0 a1 a2 y hy).le e1 e2
attribute [local irreducible] slices_medianAdjacentOrdered_int_

end Go.Proofs.Ytpopcdnjnligiaa
