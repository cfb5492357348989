/-
  Contracts, printed by a program.
-/
import Derived.Test.YtppiaacfnoifkaaDoorXQ
namespace Go.Proofs.YtppiaacfnoifkaaDoor
open Go.RowKit
attribute [local irreducible] Ob loopwp Sub Spec Fin Again CallW CutC KOb iter joinx outm

noncomputable def spec_l1Split_loop1 (a0 : ByteArray) (a1 : Int) (v4 : Int) (v5 : Int) (v6 : (List ByteArray)) : Option (Lp (Int × Int × (List ByteArray)) ((Int × (List ByteArray)))) :=
  (cond (decide (v5 < (a0.size : Int))) (grd (0 ≤ v5 ∧ v5 < (a0.size : Int)) (cond (decide ((bAt a0 v5) = a1)) (grd (0 ≤ v4 ∧ v4 ≤ v5 ∧ v5 ≤ (a0.size : Int)) (grd (v6.length + [(bsub a0 v4 v5)].length ≤ 140737488355328 / 16 ∧ v6.length + [(bsub a0 v4 v5)].length ≤ 140737488355328) (some (.go ((w64 (v5 + (1 : Int))), (w64 (v5 + (1 : Int))), (v6 ++ [(bsub a0 v4 v5)])))))) (some (.go (v4, (w64 (v5 + (1 : Int))), v6))))) ((some (.out (v4, v6)))))
noncomputable def spec_l1Split (a0 : ByteArray) (a1 : Int) : Option ((List ByteArray)) :=
  ((iter (fun s => spec_l1Split_loop1 a0 a1 s.1 s.2.1 s.2.2) ((0 : Int), (0 : Int), ([] : List ByteArray))).bind (fun r7 => (grd (0 ≤ r7.1 ∧ r7.1 ≤ (a0.size : Int) ∧ (a0.size : Int) ≤ (a0.size : Int)) (grd (r7.2.length + [(bsub a0 r7.1 (a0.size : Int))].length ≤ 140737488355328 / 16 ∧ r7.2.length + [(bsub a0 r7.1 (a0.size : Int))].length ≤ 140737488355328) ((some (r7.2 ++ [(bsub a0 r7.1 (a0.size : Int))])))))))
def spec_l1Split.res (_ : ByteArray) (_ : Int) (_ : (List ByteArray)) : AV := (.own 0)
def spec_l1Split.out (_ : ByteArray) (_ : Int) (y : (List ByteArray)) : List (Option LB) := [some (.arr 9 .str y)]
def spec_l1Split.S (ar : List AV) (h : List (Option LB)) (r : AV) (h1 : List (Option LB)) : Prop := ∃ a0 a1 y, spec_l1Split a0 a1 = some y ∧ leL ar [(.v (.string a0)), (.v (.int .u8 a1))] ∧ leH h [] ∧ r = spec_l1Split.res a0 a1 y ∧ h1 = spec_l1Split.out a0 a1 y
theorem spec_l1Split.call {ar : List AV} {h : List (Option LB)} {a0 : ByteArray} {a1 : Int} {y : (List ByteArray)} (H : spec_l1Split a0 a1 = some y) (h0 : leLk ar [(.v (.string a0)), (.v (.int .u8 a1))] (leHk h [])) : spec_l1Split.S ar h (spec_l1Split.res a0 a1 y) (spec_l1Split.out a0 a1 y) := ⟨a0, a1, y, H, (args_ok h0).1, (args_ok h0).2, rfl, rfl⟩
set_option maxHeartbeats 100000000 in
set_option maxRecDepth 100000 in
theorem spec_l1Split.spec (a0 : ByteArray) (a1 : Int) (y : (List ByteArray)) (H : spec_l1Split a0 a1 = some y) : Spec Tryd.prog 80 [(.v (.string a0)), (.v (.int .u8 a1))] [] (spec_l1Split.res a0 a1 y) (spec_l1Split.out a0 a1 y) := by
  refine spec_intro (G0_ok.at tok []) (ct := [(8, some [0, 1, 5, 7])]) Tryd.func80 rfl (by kernel_rfl) (by kernel_rfl) rfl ?_
  repeat' first
    | ((with_reducible refine eqg ?_); exact rfl)
    | ((with_reducible refine KOb.mk ?_); kernel_rfl)
    | ((with_reducible intro h); (repeat (first | replace H := grd_k H | replace H := out_step H (by assumption))); first | replace H := cond_t h H | replace H := cond_f h H | exact absurd h (by decide) | skip)
    | ((with_reducible refine Ob.mk ?_); first | (with_reducible rfl) | (first | ((repeat (first | (with_reducible exact grd_p H) | (replace H := grd_k H) | (replace H := out_step H (by assumption)))); done) | rfl | ((repeat (first | exact grd_p H | replace H := grd_k H | replace H := out_step H (by assumption))); done) | ((repeat (first | exact grd_p H | (have hp := grd_p H; exact hp) | replace H := grd_k H | replace H := out_step H (by assumption) | (replace H := bind_some H; obtain ⟨_, _, H⟩ := H))); done) | (repeat (first | exact grd_p H | replace H := grd_k H | replace H := out_step H (by assumption)))))
    | (with_reducible exact True.intro)
    | ((conv => whnf); first
        | (with_reducible refine And.intro ?_ ?_)
        | (with_reducible exact True.intro)
        | ((with_reducible refine Ob.mk ?_); first | (with_reducible rfl) | (first | ((repeat (first | (with_reducible exact grd_p H) | (replace H := grd_k H) | (replace H := out_step H (by assumption)))); done) | rfl | ((repeat (first | exact grd_p H | replace H := grd_k H | replace H := out_step H (by assumption))); done) | ((repeat (first | exact grd_p H | (have hp := grd_p H; exact hp) | replace H := grd_k H | replace H := out_step H (by assumption) | (replace H := bind_some H; obtain ⟨_, _, H⟩ := H))); done) | (repeat (first | exact grd_p H | replace H := grd_k H | replace H := out_step H (by assumption)))))
        | ((repeat (first | replace H := grd_k H | replace H := out_step H (by assumption))); refine loop_iter (G0_ok.at tok []) (ct := [(8, some [0, 1, 5, 7])]) (F := (fun s1 : Int × Int × (List ByteArray) => ⟨sl [(0, (.v (.string a0))), (1, (.v (.int .u8 a1))), (5, (.own 0)), (6, (.v (.int .i64 s1.1))), (7, (.v (.int .i64 s1.2.1)))], [some (.arr 9 .str s1.2.2)]⟩)) (step := (fun s : Int × Int × (List ByteArray) => spec_l1Split_loop1 _ _ s.1 s.2.1 s.2.2)) _ H (by kernel_rfl) (sub_auto ?_) ?_; rotate_left; (intro s1 r v hr H); rotate_right)
        | ((repeat (first | replace H := grd_k H | replace H := out_step H (by assumption))); refine again_step H (by assumption) (sub_auto ?_))
        | ((with_reducible refine fin_mk ?_); (repeat (first | replace H := grd_k H | replace H := out_step H (by assumption))); have H := Option.some.inj H; subst H))
    | constructor
def G1 : Env := G0.add 80 [] spec_l1Split.S
theorem G1_ok : EnvOk Tryd.prog G1 := G0_ok.add ent_80 fun ar h r h1 ⟨a0, a1, y, hy, e1, e2, e3, e4⟩ => by
  subst e3 e4; exact (spec_l1Split.spec a0 a1 y hy).le e1 e2
attribute [local irreducible] spec_l1Split

noncomputable def spec_l1In (a0 : Int) (a1 : Int) (a2 : Int) : Option (Bool) :=
  (cond (decide (a1 ≤ a0)) ((some (decide (a0 ≤ a2)))) ((some false)))
def spec_l1In.res (_ : Int) (_ : Int) (_ : Int) (y : Bool) : AV := (.bl y)
def spec_l1In.out (_ : Int) (_ : Int) (_ : Int) (_ : Bool) : List (Option LB) := []
def spec_l1In.S (ar : List AV) (h : List (Option LB)) (r : AV) (h1 : List (Option LB)) : Prop := ∃ a0 a1 a2 y, spec_l1In a0 a1 a2 = some y ∧ leL ar [(.v (.int .i64 a0)), (.v (.int .i64 a1)), (.v (.int .i64 a2))] ∧ leH h [] ∧ r = spec_l1In.res a0 a1 a2 y ∧ h1 = spec_l1In.out a0 a1 a2 y
theorem spec_l1In.call {ar : List AV} {h : List (Option LB)} {a0 : Int} {a1 : Int} {a2 : Int} {y : Bool} (H : spec_l1In a0 a1 a2 = some y) (h0 : leLk ar [(.v (.int .i64 a0)), (.v (.int .i64 a1)), (.v (.int .i64 a2))] (leHk h [])) : spec_l1In.S ar h (spec_l1In.res a0 a1 a2 y) (spec_l1In.out a0 a1 a2 y) := ⟨a0, a1, a2, y, H, (args_ok h0).1, (args_ok h0).2, rfl, rfl⟩
set_option maxHeartbeats 100000000 in
set_option maxRecDepth 100000 in
theorem spec_l1In.spec (a0 : Int) (a1 : Int) (a2 : Int) (y : Bool) (H : spec_l1In a0 a1 a2 = some y) : Spec Tryd.prog 49 [(.v (.int .i64 a0)), (.v (.int .i64 a1)), (.v (.int .i64 a2))] [] (spec_l1In.res a0 a1 a2 y) (spec_l1In.out a0 a1 a2 y) := by
  refine spec_intro (G1_ok.at tok []) (ct := []) Tryd.func49 rfl (by kernel_rfl) (by kernel_rfl) rfl ?_
  repeat' first
    | ((with_reducible refine eqg ?_); exact rfl)
    | ((with_reducible refine KOb.mk ?_); kernel_rfl)
    | ((with_reducible intro h); (repeat (first | replace H := grd_k H | replace H := out_step H (by assumption))); first | replace H := cond_t h H | replace H := cond_f h H | exact absurd h (by decide) | skip)
    | ((with_reducible refine Ob.mk ?_); first | (with_reducible rfl) | (first | ((repeat (first | (with_reducible exact grd_p H) | (replace H := grd_k H) | (replace H := out_step H (by assumption)))); done) | rfl | ((repeat (first | exact grd_p H | replace H := grd_k H | replace H := out_step H (by assumption))); done) | ((repeat (first | exact grd_p H | (have hp := grd_p H; exact hp) | replace H := grd_k H | replace H := out_step H (by assumption) | (replace H := bind_some H; obtain ⟨_, _, H⟩ := H))); done) | (repeat (first | exact grd_p H | replace H := grd_k H | replace H := out_step H (by assumption)))))
    | (with_reducible exact True.intro)
    | ((conv => whnf); first
        | (with_reducible refine And.intro ?_ ?_)
        | (with_reducible exact True.intro)
        | ((with_reducible refine Ob.mk ?_); first | (with_reducible rfl) | (first | ((repeat (first | (with_reducible exact grd_p H) | (replace H := grd_k H) | (replace H := out_step H (by assumption)))); done) | rfl | ((repeat (first | exact grd_p H | replace H := grd_k H | replace H := out_step H (by assumption))); done) | ((repeat (first | exact grd_p H | (have hp := grd_p H; exact hp) | replace H := grd_k H | replace H := out_step H (by assumption) | (replace H := bind_some H; obtain ⟨_, _, H⟩ := H))); done) | (repeat (first | exact grd_p H | replace H := grd_k H | replace H := out_step H (by assumption)))))
        | ((with_reducible refine fin_mk ?_); (repeat (first | replace H := grd_k H | replace H := out_step H (by assumption))); have H := Option.some.inj H; subst H))
    | constructor
def G2 : Env := G1.add 49 [] spec_l1In.S
theorem G2_ok : EnvOk Tryd.prog G2 := G1_ok.add ent_49 fun ar h r h1 ⟨a0, a1, a2, y, hy, e1, e2, e3, e4⟩ => by
  subst e3 e4; exact (spec_l1In.spec a0 a1 a2 y hy).le e1 e2
attribute [local irreducible] spec_l1In

noncomputable def spec_l1Num_f : Nat → Int → Option (ByteArray)
  | 0, _ => none
  | k + 1, a0 => (cond (decide (a0 < (0 : Int))) ((spec_l1Num_f k (w64 (0 - a0))).bind fun y1 => (grd ((ByteArray.mk #[45]).size + y1.size ≤ 9223372036854775807) ((some ((ByteArray.mk #[45]) ++ y1))))) (cond (decide (a0 < (10 : Int))) (grd (0 ≤ a0 ∧ a0 ≤ (w64 (a0 + (1 : Int))) ∧ (w64 (a0 + (1 : Int))) ≤ ((ByteArray.mk #[48, 49, 50, 51, 52, 53, 54, 55, 56, 57]).size : Int)) ((some (bsub (ByteArray.mk #[48, 49, 50, 51, 52, 53, 54, 55, 56, 57]) a0 (w64 (a0 + (1 : Int))))))) (grd ((10 : Int) ≠ 0) ((spec_l1Num_f k (w64 (Int.tdiv a0 (10 : Int)))).bind fun y2 => (grd ((10 : Int) ≠ 0) (grd ((10 : Int) ≠ 0) (grd (0 ≤ (Int.tmod a0 (10 : Int)) ∧ (Int.tmod a0 (10 : Int)) ≤ (w64 ((Int.tmod a0 (10 : Int)) + (1 : Int))) ∧ (w64 ((Int.tmod a0 (10 : Int)) + (1 : Int))) ≤ ((ByteArray.mk #[48, 49, 50, 51, 52, 53, 54, 55, 56, 57]).size : Int)) (grd (y2.size + (bsub (ByteArray.mk #[48, 49, 50, 51, 52, 53, 54, 55, 56, 57]) (Int.tmod a0 (10 : Int)) (w64 ((Int.tmod a0 (10 : Int)) + (1 : Int)))).size ≤ 9223372036854775807) ((some (y2 ++ (bsub (ByteArray.mk #[48, 49, 50, 51, 52, 53, 54, 55, 56, 57]) (Int.tmod a0 (10 : Int)) (w64 ((Int.tmod a0 (10 : Int)) + (1 : Int)))))))))))))))
theorem spec_l1Num_f_succ (k : Nat) (a0 : Int) : spec_l1Num_f (k + 1) a0 = (cond (decide (a0 < (0 : Int))) ((spec_l1Num_f k (w64 (0 - a0))).bind fun y1 => (grd ((ByteArray.mk #[45]).size + y1.size ≤ 9223372036854775807) ((some ((ByteArray.mk #[45]) ++ y1))))) (cond (decide (a0 < (10 : Int))) (grd (0 ≤ a0 ∧ a0 ≤ (w64 (a0 + (1 : Int))) ∧ (w64 (a0 + (1 : Int))) ≤ ((ByteArray.mk #[48, 49, 50, 51, 52, 53, 54, 55, 56, 57]).size : Int)) ((some (bsub (ByteArray.mk #[48, 49, 50, 51, 52, 53, 54, 55, 56, 57]) a0 (w64 (a0 + (1 : Int))))))) (grd ((10 : Int) ≠ 0) ((spec_l1Num_f k (w64 (Int.tdiv a0 (10 : Int)))).bind fun y2 => (grd ((10 : Int) ≠ 0) (grd ((10 : Int) ≠ 0) (grd (0 ≤ (Int.tmod a0 (10 : Int)) ∧ (Int.tmod a0 (10 : Int)) ≤ (w64 ((Int.tmod a0 (10 : Int)) + (1 : Int))) ∧ (w64 ((Int.tmod a0 (10 : Int)) + (1 : Int))) ≤ ((ByteArray.mk #[48, 49, 50, 51, 52, 53, 54, 55, 56, 57]).size : Int)) (grd (y2.size + (bsub (ByteArray.mk #[48, 49, 50, 51, 52, 53, 54, 55, 56, 57]) (Int.tmod a0 (10 : Int)) (w64 ((Int.tmod a0 (10 : Int)) + (1 : Int)))).size ≤ 9223372036854775807) ((some (y2 ++ (bsub (ByteArray.mk #[48, 49, 50, 51, 52, 53, 54, 55, 56, 57]) (Int.tmod a0 (10 : Int)) (w64 ((Int.tmod a0 (10 : Int)) + (1 : Int))))))))))))))) := rfl
attribute [local irreducible] spec_l1Num_f
noncomputable def spec_l1Num (a0 : Int) : Option (ByteArray) := spec_l1Num_f 64 a0
def spec_l1Num.res (_ : Int) (y : ByteArray) : AV := (.v (.string y))
def spec_l1Num.out (_ : Int) (_ : ByteArray) : List (Option LB) := []
def spec_l1Num.S (ar : List AV) (h : List (Option LB)) (r : AV) (h1 : List (Option LB)) : Prop := ∃ a0 y, spec_l1Num a0 = some y ∧ leL ar [(.v (.int .i64 a0))] ∧ leH h [] ∧ r = spec_l1Num.res a0 y ∧ h1 = spec_l1Num.out a0 y
theorem spec_l1Num.call {ar : List AV} {h : List (Option LB)} {a0 : Int} {y : ByteArray} (H : spec_l1Num a0 = some y) (h0 : leLk ar [(.v (.int .i64 a0))] (leHk h [])) : spec_l1Num.S ar h (spec_l1Num.res a0 y) (spec_l1Num.out a0 y) := ⟨a0, y, H, (args_ok h0).1, (args_ok h0).2, rfl, rfl⟩
def spec_l1Num_f.S (k : Nat) (ar : List AV) (h : List (Option LB)) (r : AV) (h1 : List (Option LB)) : Prop := ∃ a0 y, spec_l1Num_f k a0 = some y ∧ leL ar [(.v (.int .i64 a0))] ∧ leH h [] ∧ r = spec_l1Num.res a0 y ∧ h1 = spec_l1Num.out a0 y
theorem spec_l1Num_f.call {k : Nat} {ar : List AV} {h : List (Option LB)} {a0 : Int} {y : ByteArray} (H : spec_l1Num_f k a0 = some y) (h0 : leLk ar [(.v (.int .i64 a0))] (leHk h [])) : spec_l1Num_f.S k ar h (spec_l1Num.res a0 y) (spec_l1Num.out a0 y) := ⟨a0, y, H, (args_ok h0).1, (args_ok h0).2, rfl, rfl⟩
set_option maxHeartbeats 100000000 in
set_option maxRecDepth 100000 in
theorem spec_l1Num_f.spec (k : Nat) : ∀ (a0 : Int) (y : ByteArray) (_ : spec_l1Num_f k a0 = some y), Spec Tryd.prog 78 [(.v (.int .i64 a0))] [] (spec_l1Num.res a0 y) (spec_l1Num.out a0 y) := by
  induction k with
  | zero => intro a0 y H; unfold spec_l1Num_f at H; cases H
  | succ k IH =>
  intro a0 y H
  have H := (spec_l1Num_f_succ k a0).symm.trans H
  have hG : EnvOk Tryd.prog (G2.add 78 [] (spec_l1Num_f.S k)) := G2_ok.add ent_78 fun ar h r h1 ⟨a0, y, hy, e1, e2, e3, e4⟩ => by
    subst e3 e4; exact (IH a0 y hy).le e1 e2
  clear IH
  refine spec_intro (hG.at tok []) (ct := [(5, some [0])]) Tryd.func78 rfl (by kernel_rfl) (by kernel_rfl) rfl ?_
  repeat' first
    | ((with_reducible refine eqg ?_); exact rfl)
    | ((with_reducible refine KOb.mk ?_); kernel_rfl)
    | ((with_reducible intro h); (repeat (first | replace H := grd_k H | replace H := out_step H (by assumption))); first | replace H := cond_t h H | replace H := cond_f h H | exact absurd h (by decide) | skip)
    | ((with_reducible refine Ob.mk ?_); first | (with_reducible rfl) | (first | ((repeat (first | (with_reducible exact grd_p H) | (replace H := grd_k H) | (replace H := out_step H (by assumption)))); done) | rfl | ((repeat (first | exact grd_p H | replace H := grd_k H | replace H := out_step H (by assumption))); done) | ((repeat (first | exact grd_p H | (have hp := grd_p H; exact hp) | replace H := grd_k H | replace H := out_step H (by assumption) | (replace H := bind_some H; obtain ⟨_, _, H⟩ := H))); done) | (repeat (first | exact grd_p H | replace H := grd_k H | replace H := out_step H (by assumption)))))
    | (with_reducible exact True.intro)
    | ((conv => whnf); first
        | (with_reducible refine And.intro ?_ ?_)
        | (with_reducible exact True.intro)
        | ((with_reducible refine Ob.mk ?_); first | (with_reducible rfl) | (first | ((repeat (first | (with_reducible exact grd_p H) | (replace H := grd_k H) | (replace H := out_step H (by assumption)))); done) | rfl | ((repeat (first | exact grd_p H | replace H := grd_k H | replace H := out_step H (by assumption))); done) | ((repeat (first | exact grd_p H | (have hp := grd_p H; exact hp) | replace H := grd_k H | replace H := out_step H (by assumption) | (replace H := bind_some H; obtain ⟨_, _, H⟩ := H))); done) | (repeat (first | exact grd_p H | replace H := grd_k H | replace H := out_step H (by assumption)))))
        | ((with_reducible refine CallW.mk ?_); (repeat (first | replace H := grd_k H | replace H := out_step H (by assumption))); replace H := bind_some H; obtain ⟨y, hy, H⟩ := H; first | ((with_reducible have hz : spec_l1Num_f k _ = some y := hy); clear hz; refine Exists.intro _ (Exists.intro _ ⟨spec_l1Num_f.call hy ?_, rfl, rfl, ?_⟩)))
        | ((with_reducible refine fin_mk ?_); (repeat (first | replace H := grd_k H | replace H := out_step H (by assumption))); have H := Option.some.inj H; subst H))
    | constructor
theorem spec_l1Num.spec (a0 : Int) (y : ByteArray) (H : spec_l1Num a0 = some y) : Spec Tryd.prog 78 [(.v (.int .i64 a0))] [] (spec_l1Num.res a0 y) (spec_l1Num.out a0 y) := spec_l1Num_f.spec 64 a0 y H
def G3 : Env := G2.add 78 [] spec_l1Num.S
theorem G3_ok : EnvOk Tryd.prog G3 := G2_ok.add ent_78 fun ar h r h1 ⟨a0, y, hy, e1, e2, e3, e4⟩ => by
  subst e3 e4; exact (spec_l1Num.spec a0 y hy).le e1 e2
attribute [local irreducible] spec_l1Num

noncomputable def spec_l1Read_loop1  (v8 : ByteArray) (v9 : Int) (v10 : Int) : Option (Lp (ByteArray × Int × Int) ((Unit) ⊕ (ByteArray × Int))) :=
  (cond (decide (v10 < (v8.size : Int))) (grd (0 ≤ v10 ∧ v10 < (v8.size : Int)) (cond (decide ((bAt v8 v10) < (48 : Int))) ((some (.out (Sum.inl ())))) (grd (0 ≤ v10 ∧ v10 < (v8.size : Int)) (cond (decide ((57 : Int) < (bAt v8 v10))) ((some (.out (Sum.inl ())))) (grd (0 ≤ v10 ∧ v10 < (v8.size : Int)) (some (.go (v8, (w64 ((w64 ((10 : Int) * v9)) + (w64 (wu8 ((bAt v8 v10) - (48 : Int)))))), (w64 (v10 + (1 : Int))))))))))) ((some (.out (Sum.inr (v8, v9))))))
noncomputable def spec_l1Read (a0 : ByteArray) : Option (Int × Bool) :=
  ((cond (decide ((1 : Int) < (a0.size : Int))) (grd (0 ≤ (0 : Int) ∧ (0 : Int) < (a0.size : Int)) (cond (decide ((bAt a0 (0 : Int)) = (45 : Int))) (grd (0 ≤ (1 : Int) ∧ (1 : Int) ≤ (a0.size : Int) ∧ (a0.size : Int) ≤ (a0.size : Int)) ((some (bsub a0 (1 : Int) (a0.size : Int))))) ((some a0)))) ((some a0))).bind fun z1 => ((spec_l1In (z1.size : Int) (1 : Int) (6 : Int)).bind fun y2 => (cond (!y2) ((some ((0 : Int), false))) ((iter (fun s => spec_l1Read_loop1 s.1 s.2.1 s.2.2) (z1, (0 : Int), (0 : Int))).bind (Sum.elim (fun _ => (some ((0 : Int), false))) (fun r13 => (cond (decide ((r13.1.size : Int) < (a0.size : Int))) ((spec_l1Num (w64 (0 - r13.2))).bind fun y14 => (cond (!decide (y14 = a0)) ((some ((0 : Int), false))) ((some ((w64 (0 - r13.2)), true))))) ((spec_l1Num r13.2).bind fun y15 => (cond (!decide (y15 = a0)) ((some ((0 : Int), false))) ((some (r13.2, true))))))))))))
def spec_l1Read.res (_ : ByteArray) (y : Int × Bool) : AV := (.tup [(.v (.int .i64 y.1)), (.bl y.2)])
def spec_l1Read.out (_ : ByteArray) (_ : Int × Bool) : List (Option LB) := []
def spec_l1Read.S (ar : List AV) (h : List (Option LB)) (r : AV) (h1 : List (Option LB)) : Prop := ∃ a0 y, spec_l1Read a0 = some y ∧ leL ar [(.v (.string a0))] ∧ leH h [] ∧ r = spec_l1Read.res a0 y ∧ h1 = spec_l1Read.out a0 y
theorem spec_l1Read.call {ar : List AV} {h : List (Option LB)} {a0 : ByteArray} {y : Int × Bool} (H : spec_l1Read a0 = some y) (h0 : leLk ar [(.v (.string a0))] (leHk h [])) : spec_l1Read.S ar h (spec_l1Read.res a0 y) (spec_l1Read.out a0 y) := ⟨a0, y, H, (args_ok h0).1, (args_ok h0).2, rfl, rfl⟩
set_option maxHeartbeats 100000000 in
set_option maxRecDepth 100000 in
theorem spec_l1Read.spec (a0 : ByteArray) (y : Int × Bool) (H : spec_l1Read a0 = some y) : Spec Tryd.prog 81 [(.v (.string a0))] [] (spec_l1Read.res a0 y) (spec_l1Read.out a0 y) := by
  refine spec_intro (G3_ok.at tok []) (ct := [(4, none), (11, some [0, 4, 5, 6, 33, 34, 35, 36, 37]), (14, some [0, 5, 50])]) Tryd.func81 rfl (by kernel_rfl) (by kernel_rfl) rfl ?_
  repeat' first
    | ((with_reducible refine eqg ?_); exact rfl)
    | ((with_reducible refine KOb.mk ?_); kernel_rfl)
    | ((with_reducible intro h); (repeat (first | replace H := grd_k H | replace H := out_step H (by assumption))); first | replace H := cond_t h H | replace H := cond_f h H | exact absurd h (by decide) | skip)
    | ((with_reducible refine Ob.mk ?_); first | (with_reducible rfl) | (first | ((repeat (first | (with_reducible exact grd_p H) | (replace H := grd_k H) | (replace H := out_step H (by assumption)))); done) | rfl | ((repeat (first | exact grd_p H | replace H := grd_k H | replace H := out_step H (by assumption))); done) | ((repeat (first | exact grd_p H | (have hp := grd_p H; exact hp) | replace H := grd_k H | replace H := out_step H (by assumption) | (replace H := bind_some H; obtain ⟨_, _, H⟩ := H))); done) | (repeat (first | exact grd_p H | replace H := grd_k H | replace H := out_step H (by assumption)))))
    | (with_reducible exact True.intro)
    | ((conv => whnf); first
        | (with_reducible refine And.intro ?_ ?_)
        | (with_reducible exact True.intro)
        | ((with_reducible refine Ob.mk ?_); first | (with_reducible rfl) | (first | ((repeat (first | (with_reducible exact grd_p H) | (replace H := grd_k H) | (replace H := out_step H (by assumption)))); done) | rfl | ((repeat (first | exact grd_p H | replace H := grd_k H | replace H := out_step H (by assumption))); done) | ((repeat (first | exact grd_p H | (have hp := grd_p H; exact hp) | replace H := grd_k H | replace H := out_step H (by assumption) | (replace H := bind_some H; obtain ⟨_, _, H⟩ := H))); done) | (repeat (first | exact grd_p H | replace H := grd_k H | replace H := out_step H (by assumption)))))
        | ((with_reducible refine CallW.mk ?_); (repeat (first | replace H := grd_k H | replace H := out_step H (by assumption))); replace H := bind_some H; obtain ⟨y, hy, H⟩ := H; first | ((with_reducible have hz : spec_l1In _ _ _ = some y := hy); clear hz; refine Exists.intro _ (Exists.intro _ ⟨spec_l1In.call hy ?_, rfl, rfl, ?_⟩)) | ((with_reducible have hz : spec_l1Num _ = some y := hy); clear hz; refine Exists.intro _ (Exists.intro _ ⟨spec_l1Num.call hy ?_, rfl, rfl, ?_⟩)))
        | ((repeat (first | replace H := grd_k H | replace H := out_step H (by assumption))); refine loop_iter (G3_ok.at tok []) (ct := [(4, none), (11, some [0, 4, 5, 6, 33, 34, 35, 36, 37]), (14, some [0, 5, 50])]) (F := (fun s1 : ByteArray × Int × Int => ⟨sl [(0, (.v (.string a0))), (4, (.v (.string s1.1))), (5, (.v (.int .i64 s1.2.1))), (6, (.v (.int .i64 s1.2.2)))], []⟩)) (step := (fun s : ByteArray × Int × Int => spec_l1Read_loop1 s.1 s.2.1 s.2.2)) _ H (by kernel_rfl) (sub_auto ?_) ?_; rotate_left; (intro s1 r v hr H); rotate_right)
        | ((with_reducible refine cutAt (id := 4) ?_); (repeat (first | replace H := grd_k H | replace H := out_step H (by assumption))); first | (replace H := bind_some H; obtain ⟨z, hz, H⟩ := H; refine CutC.mk (id := 4) ⟨sl [(0, (.v (.string a0))), (4, (.v (.string z)))], []⟩ ?_ ?_; (replace H := hz)))
        | ((repeat (first | replace H := grd_k H | replace H := out_step H (by assumption))); have H := Option.some.inj H; subst H; with_reducible refine sub_auto ?_)
        | ((repeat (first | replace H := grd_k H | replace H := out_step H (by assumption))); refine again_step H (by assumption) (sub_auto ?_))
        | ((with_reducible refine fin_mk ?_); (repeat (first | replace H := grd_k H | replace H := out_step H (by assumption))); have H := Option.some.inj H; subst H))
    | constructor
def G4 : Env := G3.add 81 [] spec_l1Read.S
theorem G4_ok : EnvOk Tryd.prog G4 := G3_ok.add ent_81 fun ar h r h1 ⟨a0, y, hy, e1, e2, e3, e4⟩ => by
  subst e3 e4; exact (spec_l1Read.spec a0 y hy).le e1 e2
attribute [local irreducible] spec_l1Read

noncomputable def spec_l2Word_loop1 (a0 : ByteArray) (v2 : Int) : Option (Lp (Int) ((Unit) ⊕ (Unit))) :=
  (cond (decide (v2 < (a0.size : Int))) (grd (0 ≤ v2 ∧ v2 < (a0.size : Int)) (cond (decide ((bAt a0 v2) < (97 : Int))) ((some (.out (Sum.inl ())))) (grd (0 ≤ v2 ∧ v2 < (a0.size : Int)) (cond (decide ((122 : Int) < (bAt a0 v2))) ((some (.out (Sum.inl ())))) (some (.go (w64 (v2 + (1 : Int))))))))) ((some (.out (Sum.inr ())))))
noncomputable def spec_l2Word (a0 : ByteArray) : Option (Bool) :=
  ((iter (fun s => spec_l2Word_loop1 a0 s) (0 : Int)).bind (Sum.elim (fun _ => (some false)) (fun _ => ((spec_l1In (a0.size : Int) (1 : Int) (10 : Int)).bind fun y6 => (some y6)))))
def spec_l2Word.res (_ : ByteArray) (y : Bool) : AV := (.bl y)
def spec_l2Word.out (_ : ByteArray) (_ : Bool) : List (Option LB) := []
def spec_l2Word.S (ar : List AV) (h : List (Option LB)) (r : AV) (h1 : List (Option LB)) : Prop := ∃ a0 y, spec_l2Word a0 = some y ∧ leL ar [(.v (.string a0))] ∧ leH h [] ∧ r = spec_l2Word.res a0 y ∧ h1 = spec_l2Word.out a0 y
theorem spec_l2Word.call {ar : List AV} {h : List (Option LB)} {a0 : ByteArray} {y : Bool} (H : spec_l2Word a0 = some y) (h0 : leLk ar [(.v (.string a0))] (leHk h [])) : spec_l2Word.S ar h (spec_l2Word.res a0 y) (spec_l2Word.out a0 y) := ⟨a0, y, H, (args_ok h0).1, (args_ok h0).2, rfl, rfl⟩
set_option maxHeartbeats 100000000 in
set_option maxRecDepth 100000 in
theorem spec_l2Word.spec (a0 : ByteArray) (y : Bool) (H : spec_l2Word a0 = some y) : Spec Tryd.prog 109 [(.v (.string a0))] [] (spec_l2Word.res a0 y) (spec_l2Word.out a0 y) := by
  refine spec_intro (G4_ok.at tok []) (ct := [(5, some [0, 3, 15, 16, 17, 18, 19])]) Tryd.func109 rfl (by kernel_rfl) (by kernel_rfl) rfl ?_
  repeat' first
    | ((with_reducible refine eqg ?_); exact rfl)
    | ((with_reducible refine KOb.mk ?_); kernel_rfl)
    | ((with_reducible intro h); (repeat (first | replace H := grd_k H | replace H := out_step H (by assumption))); first | replace H := cond_t h H | replace H := cond_f h H | exact absurd h (by decide) | skip)
    | ((with_reducible refine Ob.mk ?_); first | (with_reducible rfl) | (first | ((repeat (first | (with_reducible exact grd_p H) | (replace H := grd_k H) | (replace H := out_step H (by assumption)))); done) | rfl | ((repeat (first | exact grd_p H | replace H := grd_k H | replace H := out_step H (by assumption))); done) | ((repeat (first | exact grd_p H | (have hp := grd_p H; exact hp) | replace H := grd_k H | replace H := out_step H (by assumption) | (replace H := bind_some H; obtain ⟨_, _, H⟩ := H))); done) | (repeat (first | exact grd_p H | replace H := grd_k H | replace H := out_step H (by assumption)))))
    | (with_reducible exact True.intro)
    | ((conv => whnf); first
        | (with_reducible refine And.intro ?_ ?_)
        | (with_reducible exact True.intro)
        | ((with_reducible refine Ob.mk ?_); first | (with_reducible rfl) | (first | ((repeat (first | (with_reducible exact grd_p H) | (replace H := grd_k H) | (replace H := out_step H (by assumption)))); done) | rfl | ((repeat (first | exact grd_p H | replace H := grd_k H | replace H := out_step H (by assumption))); done) | ((repeat (first | exact grd_p H | (have hp := grd_p H; exact hp) | replace H := grd_k H | replace H := out_step H (by assumption) | (replace H := bind_some H; obtain ⟨_, _, H⟩ := H))); done) | (repeat (first | exact grd_p H | replace H := grd_k H | replace H := out_step H (by assumption)))))
        | ((with_reducible refine CallW.mk ?_); (repeat (first | replace H := grd_k H | replace H := out_step H (by assumption))); replace H := bind_some H; obtain ⟨y, hy, H⟩ := H; first | ((with_reducible have hz : spec_l1In _ _ _ = some y := hy); clear hz; refine Exists.intro _ (Exists.intro _ ⟨spec_l1In.call hy ?_, rfl, rfl, ?_⟩)))
        | ((repeat (first | replace H := grd_k H | replace H := out_step H (by assumption))); refine loop_iter (G4_ok.at tok []) (ct := [(5, some [0, 3, 15, 16, 17, 18, 19])]) (F := (fun s1 : Int => ⟨sl [(0, (.v (.string a0))), (3, (.v (.int .i64 s1)))], []⟩)) (step := (fun s : Int => spec_l2Word_loop1 _ s)) _ H (by kernel_rfl) (sub_auto ?_) ?_; rotate_left; (intro s1 r v hr H); rotate_right)
        | ((repeat (first | replace H := grd_k H | replace H := out_step H (by assumption))); refine again_step H (by assumption) (sub_auto ?_))
        | ((with_reducible refine fin_mk ?_); (repeat (first | replace H := grd_k H | replace H := out_step H (by assumption))); have H := Option.some.inj H; subst H))
    | constructor
def G5 : Env := G4.add 109 [] spec_l2Word.S
theorem G5_ok : EnvOk Tryd.prog G5 := G4_ok.add ent_109 fun ar h r h1 ⟨a0, y, hy, e1, e2, e3, e4⟩ => by
  subst e3 e4; exact (spec_l2Word.spec a0 y hy).le e1 e2
attribute [local irreducible] spec_l2Word

noncomputable def spec_l26One (a0 : DayRow) : Option (Bool) :=
  ((spec_l1In a0.1 (0 : Int) (999 : Int)).bind fun y1 => (cond (!y1) ((some false)) ((spec_l1In a0.2.1 (0 : Int) (99999 : Int)).bind fun y2 => (cond (!y2) ((some false)) ((spec_l1In a0.2.2.1 (0 : Int) (99999 : Int)).bind fun y3 => (cond (!y3) ((some false)) ((spec_l1In a0.2.2.2.1 (0 : Int) (24 : Int)).bind fun y4 => (cond (!y4) ((some false)) ((spec_l1In a0.2.2.2.2.1 (0 : Int) (99 : Int)).bind fun y5 => (cond (!y5) ((some false)) (joinx (cond (decide (a0.2.2.2.1 = (0 : Int))) (cond (decide ((0 : Int) < a0.2.1)) (outm ((some false))) (cond (decide ((0 : Int) < a0.2.2.1)) (outm ((some false))) (cond (decide ((0 : Int) < a0.2.2.2.2.1)) (outm ((some false))) ((some (.go ())))))) ((some (.go ())))) (fun (_ : Unit) => (cond (decide (a0.2.2.2.2.1 = (0 : Int))) (cond (decide (a0.2.2.2.2.2.1 = (ByteArray.mk #[]))) ((some true)) (cond (decide ((0 : Int) < a0.2.2.2.2.1)) ((spec_l2Word a0.2.2.2.2.2.1).bind fun y7 => (some y7)) ((some false)))) (cond (decide ((0 : Int) < a0.2.2.2.2.1)) ((spec_l2Word a0.2.2.2.2.2.1).bind fun y8 => (some y8)) ((some false))))))))))))))))
def spec_l26One.res (_ : DayRow) (y : Bool) : AV := (.bl y)
def spec_l26One.out (_ : DayRow) (_ : Bool) : List (Option LB) := []
def spec_l26One.S (ar : List AV) (h : List (Option LB)) (r : AV) (h1 : List (Option LB)) : Prop := ∃ a0 y, spec_l26One a0 = some y ∧ leL ar [(.agg [(.v (.int .i64 a0.1)), (.v (.int .i64 a0.2.1)), (.v (.int .i64 a0.2.2.1)), (.v (.int .i64 a0.2.2.2.1)), (.v (.int .i64 a0.2.2.2.2.1)), (.v (.string a0.2.2.2.2.2.1))])] ∧ leH h [] ∧ r = spec_l26One.res a0 y ∧ h1 = spec_l26One.out a0 y
theorem spec_l26One.call {ar : List AV} {h : List (Option LB)} {a0 : DayRow} {y : Bool} (H : spec_l26One a0 = some y) (h0 : leLk ar [(.agg [(.v (.int .i64 a0.1)), (.v (.int .i64 a0.2.1)), (.v (.int .i64 a0.2.2.1)), (.v (.int .i64 a0.2.2.2.1)), (.v (.int .i64 a0.2.2.2.2.1)), (.v (.string a0.2.2.2.2.2.1))])] (leHk h [])) : spec_l26One.S ar h (spec_l26One.res a0 y) (spec_l26One.out a0 y) := ⟨a0, y, H, (args_ok h0).1, (args_ok h0).2, rfl, rfl⟩
set_option maxHeartbeats 100000000 in
set_option maxRecDepth 100000 in
theorem spec_l26One.spec (a0 : DayRow) (y : Bool) (H : spec_l26One a0 = some y) : Spec Tryd.prog 82 [(.agg [(.v (.int .i64 a0.1)), (.v (.int .i64 a0.2.1)), (.v (.int .i64 a0.2.2.1)), (.v (.int .i64 a0.2.2.2.1)), (.v (.int .i64 a0.2.2.2.2.1)), (.v (.string a0.2.2.2.2.2.1))])] [] (spec_l26One.res a0 y) (spec_l26One.out a0 y) := by
  refine spec_intro (G5_ok.at tok []) (ct := [(5, none), (2, some [1, 30, 35, 36, 37, 38, 39, 40, 41, 42, 43, 44, 45, 46, 47, 53, 54, 55, 58, 59, 60, 61, 62, 63, 64, 65]), (4, some [1, 48, 53, 54, 55, 58, 59, 60, 61, 62, 63, 64, 65])]) Tryd.func82 rfl (by kernel_rfl) (by kernel_rfl) rfl ?_
  repeat' first
    | (with_reducible exact (outm_no H).elim)
    | ((replace H := out_step H (by assumption)); exact (outm_no H).elim)
    | ((with_reducible refine eqg ?_); exact rfl)
    | ((with_reducible refine KOb.mk ?_); kernel_rfl)
    | ((with_reducible intro h); (repeat (first | replace H := grd_k H | replace H := out_step H (by assumption) | replace H := outm_out H)); first | replace H := cond_t h H | replace H := cond_f h H | exact absurd h (by decide) | skip)
    | ((with_reducible refine Ob.mk ?_); first | (with_reducible rfl) | (first | ((repeat (first | (with_reducible exact grd_p H) | (replace H := grd_k H) | (replace H := out_step H (by assumption)) | replace H := outm_out H)); done) | rfl | ((repeat (first | exact grd_p H | replace H := grd_k H | replace H := out_step H (by assumption) | replace H := outm_out H)); done) | ((repeat (first | exact grd_p H | (have hp := grd_p H; exact hp) | replace H := grd_k H | replace H := out_step H (by assumption) | replace H := outm_out H | (replace H := bind_some H; obtain ⟨_, _, H⟩ := H))); done) | (repeat (first | exact grd_p H | replace H := grd_k H | replace H := out_step H (by assumption) | replace H := outm_out H))))
    | (with_reducible exact True.intro)
    | ((conv => whnf); first
        | (with_reducible refine And.intro ?_ ?_)
        | (with_reducible exact True.intro)
        | ((with_reducible refine Ob.mk ?_); first | (with_reducible rfl) | (first | ((repeat (first | (with_reducible exact grd_p H) | (replace H := grd_k H) | (replace H := out_step H (by assumption)) | replace H := outm_out H)); done) | rfl | ((repeat (first | exact grd_p H | replace H := grd_k H | replace H := out_step H (by assumption) | replace H := outm_out H)); done) | ((repeat (first | exact grd_p H | (have hp := grd_p H; exact hp) | replace H := grd_k H | replace H := out_step H (by assumption) | replace H := outm_out H | (replace H := bind_some H; obtain ⟨_, _, H⟩ := H))); done) | (repeat (first | exact grd_p H | replace H := grd_k H | replace H := out_step H (by assumption) | replace H := outm_out H))))
        | ((with_reducible refine CallW.mk ?_); (repeat (first | replace H := grd_k H | replace H := out_step H (by assumption) | replace H := outm_out H)); replace H := bind_some H; obtain ⟨y, hy, H⟩ := H; first | ((with_reducible have hz : spec_l1In _ _ _ = some y := hy); clear hz; refine Exists.intro _ (Exists.intro _ ⟨spec_l1In.call hy ?_, rfl, rfl, ?_⟩)) | ((with_reducible have hz : spec_l2Word _ = some y := hy); clear hz; refine Exists.intro _ (Exists.intro _ ⟨spec_l2Word.call hy ?_, rfl, rfl, ?_⟩)))
        | ((with_reducible refine cutAt (id := 5) ?_); (repeat (first | replace H := grd_k H | replace H := out_step H (by assumption) | replace H := outm_out H)); first | (replace H := joinx_some H; rcases H with ⟨z, hz, H⟩ | H; rotate_left; (with_reducible refine CutC.no ?_); rotate_right; (refine CutC.mk (id := 5) ⟨sl [(1, (.loc 0 0 0))], [some (.box 63 [(.v (.int .i64 a0.1)), (.v (.int .i64 a0.2.1)), (.v (.int .i64 a0.2.2.1)), (.v (.int .i64 a0.2.2.2.1)), (.v (.int .i64 a0.2.2.2.2.1)), (.v (.string a0.2.2.2.2.2.1))])]⟩ ?_ ?_; (replace H := hz))))
        | ((repeat (first | replace H := grd_k H | replace H := out_step H (by assumption) | replace H := outm_out H)); have H := Option.some.inj H; subst H; with_reducible refine sub_auto ?_)
        | ((repeat (first | replace H := grd_k H | replace H := out_step H (by assumption) | replace H := outm_out H)); have H := go_inj H; subst H; with_reducible refine sub_auto ?_)
        | ((repeat (first | replace H := grd_k H | replace H := out_step H (by assumption) | replace H := outm_out H)); exact (go_out H).elim)
        | ((with_reducible refine fin_mk ?_); (repeat (first | replace H := grd_k H | replace H := out_step H (by assumption) | replace H := outm_out H)); have H := Option.some.inj H; subst H))
    | constructor
def G6 : Env := G5.add 82 [] spec_l26One.S
theorem G6_ok : EnvOk Tryd.prog G6 := G5_ok.add ent_82 fun ar h r h1 ⟨a0, y, hy, e1, e2, e3, e4⟩ => by
  subst e3 e4; exact (spec_l26One.spec a0 y hy).le e1 e2
attribute [local irreducible] spec_l26One

end Go.Proofs.YtppiaacfnoifkaaDoor
