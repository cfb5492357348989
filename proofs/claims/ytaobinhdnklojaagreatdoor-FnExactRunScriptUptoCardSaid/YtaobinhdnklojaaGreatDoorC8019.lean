/-
  Contracts, printed by a program.
-/
import Derived.Test.YtaobinhdnklojaaGreatDoorC8016
namespace Go.Proofs.YtaobinhdnklojaaGreatDoor
open Go.RowKit
set_option maxHeartbeats 100000000
set_option maxRecDepth 100000
attribute [local irreducible] Ob loopwp Sub Spec Fin Again CallW CutC KOb iter

attribute [local irreducible] spec_l1Num_f impl_Ropeway_isStation impl_IsRopeway strconv_Itoa impl_AppendChecksum strings_Split impl_ParseInt impl_stepOf slices_IndexFunc___impl_Slot_impl_Slot__i2 slices_IndexFunc___impl_Slot_impl_Slot__i3 slices_ContainsFunc___impl_Slot_impl_Slot__i2 slices_Clone___impl_Slot_impl_Slot__i1 impl_copyRopeway_i1 impl_Ropeway_step impl_listText impl_stepReply impl_CabinAt impl_TurnsTo

noncomputable def impl_Ropeway_peopleOn_loop1 (a0 : Ropeway) (v6 : Int) (v7 : Int) (v8 : Int) : Option (Lp (Int × Int × Int) ((Int × Int))) :=
  (cond (decide (v8 < (a0.2.1.length : Int))) (grd (0 ≤ v8 ∧ v8 < (a0.2.1.length : Int)) ((impl_Ropeway_isStation (a0.1, a0.2.1, a0.2.2.1, a0.2.2.2.1, a0.2.2.2.2.1, ()) v8).bind fun y9 => (cond (!y9) (some (.go ((w64 (v6 + ((a0.2.1.getD v8.toNat d_Slot).2.2.1))), (w64 (v7 + ((a0.2.1.getD v8.toNat d_Slot).2.2.1))), (w64 (v8 + (1 : Int)))))) (some (.go ((w64 (v6 + ((a0.2.1.getD v8.toNat d_Slot).2.2.1))), v7, (w64 (v8 + (1 : Int))))))))) ((some (.out (v6, v7)))))
noncomputable def impl_Ropeway_peopleOn (a0 : Ropeway) : Option (Int × Int) :=
  ((iter (fun s => impl_Ropeway_peopleOn_loop1 a0 s.1 s.2.1 s.2.2) ((0 : Int), (0 : Int), (0 : Int))).bind (fun r10 => (some (r10.1, r10.2))))
def impl_Ropeway_peopleOn.res (_ : Ropeway) (y : Int × Int) : AV := (.tup [(.v (.int .i64 y.1)), (.v (.int .i64 y.2))])
def impl_Ropeway_peopleOn.out (_ : Ropeway) (_ : Int × Int) : List (Option LB) := []
def impl_Ropeway_peopleOn.S (ar : List AV) (h : List (Option LB)) (r : AV) (h1 : List (Option LB)) : Prop := ∃ a0 y, impl_Ropeway_peopleOn a0 = some y ∧ leL ar [(.agg [(.v (.int .i64 a0.1)), (.tree ty_Slot a0.2.1), (.v (.int .i64 a0.2.2.1)), (.v (.int .i64 a0.2.2.2.1)), (.v (.int .i64 a0.2.2.2.2.1))])] ∧ leH h [] ∧ r = impl_Ropeway_peopleOn.res a0 y ∧ h1 = impl_Ropeway_peopleOn.out a0 y
theorem impl_Ropeway_peopleOn.call {ar : List AV} {h : List (Option LB)} {a0 : Ropeway} {y : Int × Int} (H : impl_Ropeway_peopleOn a0 = some y) (h0 : leLk ar [(.agg [(.v (.int .i64 a0.1)), (.tree ty_Slot a0.2.1), (.v (.int .i64 a0.2.2.1)), (.v (.int .i64 a0.2.2.2.1)), (.v (.int .i64 a0.2.2.2.2.1))])] (leHk h [])) : impl_Ropeway_peopleOn.S ar h (impl_Ropeway_peopleOn.res a0 y) (impl_Ropeway_peopleOn.out a0 y) := ⟨a0, y, H, (args_ok h0).1, (args_ok h0).2, rfl, rfl⟩
theorem impl_Ropeway_peopleOn.spec (a0 : Ropeway) (y : Int × Int) (H : impl_Ropeway_peopleOn a0 = some y) : Spec Tryz.prog 134 [(.agg [(.v (.int .i64 a0.1)), (.tree ty_Slot a0.2.1), (.v (.int .i64 a0.2.2.1)), (.v (.int .i64 a0.2.2.2.1)), (.v (.int .i64 a0.2.2.2.2.1))])] [] (impl_Ropeway_peopleOn.res a0 y) (impl_Ropeway_peopleOn.out a0 y) := by
  refine spec_intro (G96_ok.at tok []) (ct := [(7, some [1, 4, 5, 7, 9, 10, 11, 23])]) Tryz.func134 rfl (by kernel_rfl) (by kernel_rfl) rfl ?_
  repeat' first
    | ((with_reducible refine eqg ?_); exact rfl)
    | ((with_reducible refine KOb.mk ?_); kernel_rfl)
    | ((with_reducible intro h); (repeat first | replace H := grd_k H | replace H := out_step H ‹_›); first | replace H := cond_t h H | replace H := cond_f h H | exact absurd h (by decide) | skip)
    | ((with_reducible refine Ob.mk ?_); first | (with_reducible rfl) | (first | ((repeat (first | (with_reducible exact grd_p H) | replace H := grd_k H | replace H := out_step H ‹_›)); done) | rfl | ((repeat (first | exact grd_p H | (have hp := grd_p H; exact hp) | replace H := grd_k H | replace H := out_step H ‹_› | (replace H := bind_some H; obtain ⟨_, _, H⟩ := H))); done) | (repeat (first | exact grd_p H | replace H := grd_k H | replace H := out_step H ‹_›))))
    | (with_reducible exact True.intro)
    | ((conv => whnf); first
        | (with_reducible refine And.intro ?_ ?_)
        | (with_reducible exact True.intro)
        | (with_reducible refine (?_ : Ob _))
        | ((with_reducible refine CallW.mk ?_); (repeat first | replace H := grd_k H | replace H := out_step H ‹_›); replace H := bind_some H; obtain ⟨y, hy, H⟩ := H; first | ((with_reducible have hz : impl_Ropeway_isStation _ _ = some y := hy); clear hz; refine ⟨_, _, impl_Ropeway_isStation.call hy ?_, rfl, rfl, ?_⟩))
        | ((repeat first | replace H := grd_k H | replace H := out_step H ‹_›); refine loop_iter (G96_ok.at tok []) (ct := [(7, some [1, 4, 5, 7, 9, 10, 11, 23])]) (F := (fun s1 : Int × Int × Int => ⟨sl [(1, (.loc 0 0 0)), (4, (.v (.int .i64 s1.1))), (5, (.v (.int .i64 s1.2.1))), (9, (.tree ty_Slot a0.2.1)), (10, (.v (.int .i64 (a0.2.1.length : Int)))), (11, (.v (.int .i64 s1.2.2)))], [some (.box 38 [(.v (.int .i64 a0.1)), (.tree ty_Slot a0.2.1), (.v (.int .i64 a0.2.2.1)), (.v (.int .i64 a0.2.2.2.1)), (.v (.int .i64 a0.2.2.2.2.1))])]⟩)) (step := (fun s : Int × Int × Int => impl_Ropeway_peopleOn_loop1 _ s.1 s.2.1 s.2.2)) _ H (by kernel_rfl) (sub_auto ?_) ?_; rotate_left; (intro s1 r v hr H); rotate_right)
        | ((repeat first | replace H := grd_k H | replace H := out_step H ‹_›); refine again_step H (by assumption) (sub_auto ?_))
        | ((with_reducible refine fin_mk ?_); (repeat first | replace H := grd_k H | replace H := out_step H ‹_›); have H := Option.some.inj H; subst H))
    | constructor
def G97 : Env := G96.add 134 [] impl_Ropeway_peopleOn.S
theorem G97_ok : EnvOk Tryz.prog G97 := G96_ok.add ent_134 fun ar h r h1 ⟨a0, y, hy, e1, e2, e3, e4⟩ => by
  subst e3 e4; exact (impl_Ropeway_peopleOn.spec a0 y hy).le e1 e2
attribute [local irreducible] impl_Ropeway_peopleOn

noncomputable def impl_OpenDoors_loop1 (a0 : Ropeway) (v4 : Int) (v5 : (List Int)) : Option (Lp (Int × (List Int)) (((List Int)))) :=
  (cond (decide (v4 < (a0.2.1.length : Int))) (grd (0 ≤ v4 ∧ v4 < (a0.2.1.length : Int)) (cond ((a0.2.1.getD v4.toNat d_Slot).2.1) (grd (v5.length + [v4].length ≤ 140737488355328 / 8 ∧ v5.length + [v4].length ≤ 140737488355328) (some (.go ((w64 (v4 + (1 : Int))), (v5 ++ [v4]))))) (some (.go ((w64 (v4 + (1 : Int))), v5))))) ((some (.out v5))))
noncomputable def impl_OpenDoors (a0 : Ropeway) : Option ((Unit) ⊕ ((List Int))) :=
  ((impl_IsRopeway (a0.1, a0.2.1, a0.2.2.1, a0.2.2.2.1, a0.2.2.2.2.1, ())).bind fun y1 => (cond (!y1) ((some (Sum.inl ()))) ((iter (fun s => impl_OpenDoors_loop1 a0 s.1 s.2) ((0 : Int), ([] : List Int))).bind (fun r6 => (some (Sum.inr r6))))))
def impl_OpenDoors.res (_ : Ropeway) (y : (Unit) ⊕ ((List Int))) : AV := match y with
  | (.inl y) => (.tup [(.v (.slice none 0 0)), (.v (.bool false))])
  | (.inr y) => (.tup [(.own 0), (.v (.bool true))])
def impl_OpenDoors.out (_ : Ropeway) (y : (Unit) ⊕ ((List Int))) : List (Option LB) := match y with
  | (.inl y) => []
  | (.inr y) => [some (.arr 3 (.int .i64) y)]
def impl_OpenDoors.S (ar : List AV) (h : List (Option LB)) (r : AV) (h1 : List (Option LB)) : Prop := ∃ a0 y, impl_OpenDoors a0 = some y ∧ leL ar [(.agg [(.v (.int .i64 a0.1)), (.tree ty_Slot a0.2.1), (.v (.int .i64 a0.2.2.1)), (.v (.int .i64 a0.2.2.2.1)), (.v (.int .i64 a0.2.2.2.2.1))])] ∧ leH h [] ∧ r = impl_OpenDoors.res a0 y ∧ h1 = impl_OpenDoors.out a0 y
theorem impl_OpenDoors.call {ar : List AV} {h : List (Option LB)} {a0 : Ropeway} {y : (Unit) ⊕ ((List Int))} (H : impl_OpenDoors a0 = some y) (h0 : leLk ar [(.agg [(.v (.int .i64 a0.1)), (.tree ty_Slot a0.2.1), (.v (.int .i64 a0.2.2.1)), (.v (.int .i64 a0.2.2.2.1)), (.v (.int .i64 a0.2.2.2.2.1))])] (leHk h [])) : impl_OpenDoors.S ar h (impl_OpenDoors.res a0 y) (impl_OpenDoors.out a0 y) := ⟨a0, y, H, (args_ok h0).1, (args_ok h0).2, rfl, rfl⟩
theorem impl_OpenDoors.spec (a0 : Ropeway) (y : (Unit) ⊕ ((List Int))) (H : impl_OpenDoors a0 = some y) : Spec Tryz.prog 136 [(.agg [(.v (.int .i64 a0.1)), (.tree ty_Slot a0.2.1), (.v (.int .i64 a0.2.2.1)), (.v (.int .i64 a0.2.2.2.1)), (.v (.int .i64 a0.2.2.2.2.1))])] [] (impl_OpenDoors.res a0 y) (impl_OpenDoors.out a0 y) := by
  have hlen : Nat.ble ([] : List (Option LB)).length (impl_OpenDoors.out a0 y).length = true := by
    rcases y with y | y <;> rfl
  refine spec_intro (G97_ok.at tok []) (ct := [(5, some [4, 12, 13, 14])]) Tryz.func136 rfl (by kernel_rfl) (by kernel_rfl) hlen ?_
  repeat' first
    | ((with_reducible refine eqg ?_); exact rfl)
    | ((with_reducible refine KOb.mk ?_); kernel_rfl)
    | ((with_reducible intro h); (repeat first | replace H := grd_k H | replace H := out_step H ‹_›); first | replace H := cond_t h H | replace H := cond_f h H | exact absurd h (by decide) | skip)
    | ((with_reducible refine Ob.mk ?_); first | (with_reducible rfl) | (first | ((repeat (first | (with_reducible exact grd_p H) | replace H := grd_k H | replace H := out_step H ‹_›)); done) | rfl | ((repeat (first | exact grd_p H | (have hp := grd_p H; exact hp) | replace H := grd_k H | replace H := out_step H ‹_› | (replace H := bind_some H; obtain ⟨_, _, H⟩ := H))); done) | (repeat (first | exact grd_p H | replace H := grd_k H | replace H := out_step H ‹_›))))
    | (with_reducible exact True.intro)
    | ((conv => whnf); first
        | (with_reducible refine And.intro ?_ ?_)
        | (with_reducible exact True.intro)
        | (with_reducible refine (?_ : Ob _))
        | ((with_reducible refine CallW.mk ?_); (repeat first | replace H := grd_k H | replace H := out_step H ‹_›); replace H := bind_some H; obtain ⟨y, hy, H⟩ := H; first | ((with_reducible have hz : impl_IsRopeway _ = some y := hy); clear hz; refine ⟨_, _, impl_IsRopeway.call hy ?_, rfl, rfl, ?_⟩))
        | ((repeat first | replace H := grd_k H | replace H := out_step H ‹_›); refine loop_iter (G97_ok.at tok []) (ct := [(5, some [4, 12, 13, 14])]) (F := (fun s1 : Int × (List Int) => ⟨sl [(4, (.own 0)), (12, (.tree ty_Slot a0.2.1)), (13, (.v (.int .i64 (a0.2.1.length : Int)))), (14, (.v (.int .i64 s1.1)))], [some (.arr 3 (.int .i64) s1.2)]⟩)) (step := (fun s : Int × (List Int) => impl_OpenDoors_loop1 _ s.1 s.2)) _ H (by kernel_rfl) (sub_auto ?_) ?_; rotate_left; (intro s1 r v hr H); rotate_right)
        | ((repeat first | replace H := grd_k H | replace H := out_step H ‹_›); refine again_step H (by assumption) (sub_auto ?_))
        | ((with_reducible refine fin_mk ?_); (repeat first | replace H := grd_k H | replace H := out_step H ‹_›); have H := Option.some.inj H; subst H))
    | constructor
def G98 : Env := G97.add 136 [] impl_OpenDoors.S
theorem G98_ok : EnvOk Tryz.prog G98 := G97_ok.add ent_136 fun ar h r h1 ⟨a0, y, hy, e1, e2, e3, e4⟩ => by
  subst e3 e4; exact (impl_OpenDoors.spec a0 y hy).le e1 e2
attribute [local irreducible] impl_OpenDoors

noncomputable def impl_IsCleared (a0 : Ropeway) : Option (Bool × Bool) :=
  ((impl_IsRopeway (a0.1, a0.2.1, a0.2.2.1, a0.2.2.2.1, a0.2.2.2.2.1, ())).bind fun y1 => (cond (!y1) ((some (false, false))) ((impl_Ropeway_peopleOn (a0.1, a0.2.1, a0.2.2.1, a0.2.2.2.1, a0.2.2.2.2.1, ())).bind fun y2 => (cond (decide (y2.1 = (0 : Int))) ((some ((decide (a0.2.2.2.1 = (0 : Int))), true))) ((some (false, true)))))))
def impl_IsCleared.res (_ : Ropeway) (y : Bool × Bool) : AV := (.tup [(.bl y.1), (.bl y.2)])
def impl_IsCleared.out (_ : Ropeway) (_ : Bool × Bool) : List (Option LB) := []
def impl_IsCleared.S (ar : List AV) (h : List (Option LB)) (r : AV) (h1 : List (Option LB)) : Prop := ∃ a0 y, impl_IsCleared a0 = some y ∧ leL ar [(.agg [(.v (.int .i64 a0.1)), (.tree ty_Slot a0.2.1), (.v (.int .i64 a0.2.2.1)), (.v (.int .i64 a0.2.2.2.1)), (.v (.int .i64 a0.2.2.2.2.1))])] ∧ leH h [] ∧ r = impl_IsCleared.res a0 y ∧ h1 = impl_IsCleared.out a0 y
theorem impl_IsCleared.call {ar : List AV} {h : List (Option LB)} {a0 : Ropeway} {y : Bool × Bool} (H : impl_IsCleared a0 = some y) (h0 : leLk ar [(.agg [(.v (.int .i64 a0.1)), (.tree ty_Slot a0.2.1), (.v (.int .i64 a0.2.2.1)), (.v (.int .i64 a0.2.2.2.1)), (.v (.int .i64 a0.2.2.2.2.1))])] (leHk h [])) : impl_IsCleared.S ar h (impl_IsCleared.res a0 y) (impl_IsCleared.out a0 y) := ⟨a0, y, H, (args_ok h0).1, (args_ok h0).2, rfl, rfl⟩
theorem impl_IsCleared.spec (a0 : Ropeway) (y : Bool × Bool) (H : impl_IsCleared a0 = some y) : Spec Tryz.prog 137 [(.agg [(.v (.int .i64 a0.1)), (.tree ty_Slot a0.2.1), (.v (.int .i64 a0.2.2.1)), (.v (.int .i64 a0.2.2.2.1)), (.v (.int .i64 a0.2.2.2.2.1))])] [] (impl_IsCleared.res a0 y) (impl_IsCleared.out a0 y) := by
  refine spec_intro (G98_ok.at tok []) (ct := [(4, some [1, 4, 17, 18, 19])]) Tryz.func137 rfl (by kernel_rfl) (by kernel_rfl) rfl ?_
  repeat' first
    | ((with_reducible refine eqg ?_); exact rfl)
    | ((with_reducible refine KOb.mk ?_); kernel_rfl)
    | ((with_reducible intro h); (repeat first | replace H := grd_k H | replace H := out_step H ‹_›); first | replace H := cond_t h H | replace H := cond_f h H | exact absurd h (by decide) | skip)
    | ((with_reducible refine Ob.mk ?_); first | (with_reducible rfl) | (first | ((repeat (first | (with_reducible exact grd_p H) | replace H := grd_k H | replace H := out_step H ‹_›)); done) | rfl | ((repeat (first | exact grd_p H | (have hp := grd_p H; exact hp) | replace H := grd_k H | replace H := out_step H ‹_› | (replace H := bind_some H; obtain ⟨_, _, H⟩ := H))); done) | (repeat (first | exact grd_p H | replace H := grd_k H | replace H := out_step H ‹_›))))
    | (with_reducible exact True.intro)
    | ((conv => whnf); first
        | (with_reducible refine And.intro ?_ ?_)
        | (with_reducible exact True.intro)
        | (with_reducible refine (?_ : Ob _))
        | ((with_reducible refine CallW.mk ?_); (repeat first | replace H := grd_k H | replace H := out_step H ‹_›); replace H := bind_some H; obtain ⟨y, hy, H⟩ := H; first | ((with_reducible have hz : impl_IsRopeway _ = some y := hy); clear hz; refine ⟨_, _, impl_IsRopeway.call hy ?_, rfl, rfl, ?_⟩) | ((with_reducible have hz : impl_Ropeway_peopleOn _ = some y := hy); clear hz; refine ⟨_, _, impl_Ropeway_peopleOn.call hy ?_, rfl, rfl, ?_⟩))
        | ((with_reducible refine fin_mk ?_); (repeat first | replace H := grd_k H | replace H := out_step H ‹_›); have H := Option.some.inj H; subst H))
    | constructor
def G99 : Env := G98.add 137 [] impl_IsCleared.S
theorem G99_ok : EnvOk Tryz.prog G99 := G98_ok.add ent_137 fun ar h r h1 ⟨a0, y, hy, e1, e2, e3, e4⟩ => by
  subst e3 e4; exact (impl_IsCleared.spec a0 y hy).le e1 e2
attribute [local irreducible] impl_IsCleared

noncomputable def impl_ask (a0 : Ropeway) (a1 : ByteArray) (a2 : (List Int)) : Option (ByteArray × Bool) :=
  (cond (decide ((a2.length : Int) = (1 : Int))) (cond (decide (a1 = (ByteArray.mk #[99, 97, 98, 105, 110]))) (grd (0 ≤ (0 : Int) ∧ (0 : Int) < (a2.length : Int)) ((impl_CabinAt (a0.1, a0.2.1, a0.2.2.1, a0.2.2.2.1, a0.2.2.2.2.1, ()) (a2.getD ((0 : Int).toNat) 0)).bind fun y1 => ((strconv_Itoa y1.1).bind fun y2 => (some (y2, y1.2))))) (cond (decide (a1 = (ByteArray.mk #[117, 112]))) (grd (0 ≤ (0 : Int) ∧ (0 : Int) < (a2.length : Int)) ((impl_TurnsTo (a0.1, a0.2.1, a0.2.2.1, a0.2.2.2.1, a0.2.2.2.2.1, ()) (a2.getD ((0 : Int).toNat) 0) true).bind fun y3 => ((strconv_Itoa y3.1).bind fun y4 => (some (y4, y3.2))))) (cond (decide (a1 = (ByteArray.mk #[100, 111, 119, 110]))) (grd (0 ≤ (0 : Int) ∧ (0 : Int) < (a2.length : Int)) ((impl_TurnsTo (a0.1, a0.2.1, a0.2.2.1, a0.2.2.2.1, a0.2.2.2.2.1, ()) (a2.getD ((0 : Int).toNat) 0) false).bind fun y5 => ((strconv_Itoa y5.1).bind fun y6 => (some (y6, y5.2))))) ((strconv_Itoa (0 : Int)).bind fun y7 => (some (y7, false)))))) (cond (decide ((0 : Int) < (a2.length : Int))) ((some ((ByteArray.mk #[]), false))) (cond (decide (a1 = (ByteArray.mk #[112, 101, 111, 112, 108, 101]))) ((impl_Ropeway_peopleOn (a0.1, a0.2.1, a0.2.2.1, a0.2.2.2.1, a0.2.2.2.2.1, ())).bind fun y8 => ((impl_listText [a0.2.2.1, y8.1, a0.2.2.2.1, a0.2.2.2.2.1]).bind fun y9 => (some (y9, true)))) (cond (decide (a1 = (ByteArray.mk #[100, 111, 111, 114, 115]))) ((impl_OpenDoors (a0.1, a0.2.1, a0.2.2.1, a0.2.2.2.1, a0.2.2.2.2.1, ())).bind (Sum.elim (fun _ => ((impl_listText []).bind fun y12 => (some (y12, false)))) (fun y13 => ((impl_listText y13).bind fun y14 => (some (y14, true)))))) (cond (decide (a1 = (ByteArray.mk #[99, 108, 101, 97, 114]))) ((impl_IsCleared (a0.1, a0.2.1, a0.2.2.1, a0.2.2.2.1, a0.2.2.2.2.1, ())).bind fun y15 => (cond y15.1 ((some ((ByteArray.mk #[121, 101, 115]), true))) ((some ((ByteArray.mk #[110, 111]), true))))) ((some ((ByteArray.mk #[]), false))))))))
def impl_ask.res (_ : Ropeway) (_ : ByteArray) (_ : (List Int)) (y : ByteArray × Bool) : AV := (.tup [(.v (.string y.1)), (.bl y.2)])
def impl_ask.out (_ : Ropeway) (_ : ByteArray) (_ : (List Int)) (_ : ByteArray × Bool) : List (Option LB) := []
def impl_ask.S (ar : List AV) (h : List (Option LB)) (r : AV) (h1 : List (Option LB)) : Prop := ∃ a0 a1 a2 y, impl_ask a0 a1 a2 = some y ∧ leL ar [(.agg [(.v (.int .i64 a0.1)), (.tree ty_Slot a0.2.1), (.v (.int .i64 a0.2.2.1)), (.v (.int .i64 a0.2.2.2.1)), (.v (.int .i64 a0.2.2.2.2.1))]), (.v (.string a1)), (.tree (.int .i64) a2)] ∧ leH h [] ∧ r = impl_ask.res a0 a1 a2 y ∧ h1 = impl_ask.out a0 a1 a2 y
theorem impl_ask.call {ar : List AV} {h : List (Option LB)} {a0 : Ropeway} {a1 : ByteArray} {a2 : (List Int)} {y : ByteArray × Bool} (H : impl_ask a0 a1 a2 = some y) (h0 : leLk ar [(.agg [(.v (.int .i64 a0.1)), (.tree ty_Slot a0.2.1), (.v (.int .i64 a0.2.2.1)), (.v (.int .i64 a0.2.2.2.1)), (.v (.int .i64 a0.2.2.2.2.1))]), (.v (.string a1)), (.tree (.int .i64) a2)] (leHk h [])) : impl_ask.S ar h (impl_ask.res a0 a1 a2 y) (impl_ask.out a0 a1 a2 y) := ⟨a0, a1, a2, y, H, (args_ok h0).1, (args_ok h0).2, rfl, rfl⟩
theorem impl_ask.spec (a0 : Ropeway) (a1 : ByteArray) (a2 : (List Int)) (y : ByteArray × Bool) (H : impl_ask a0 a1 a2 = some y) : Spec Tryz.prog 91 [(.agg [(.v (.int .i64 a0.1)), (.tree ty_Slot a0.2.1), (.v (.int .i64 a0.2.2.1)), (.v (.int .i64 a0.2.2.2.1)), (.v (.int .i64 a0.2.2.2.2.1))]), (.v (.string a1)), (.tree (.int .i64) a2)] [] (impl_ask.res a0 a1 a2 y) (impl_ask.out a0 a1 a2 y) := by
  refine spec_intro (G99_ok.at tok []) (ct := [(9, some [2, 3, 8, 9, 40]), (10, some [8, 9]), (15, some [3, 56, 57]), (24, some []), (25, some [])]) Tryz.func91 rfl (by kernel_rfl) (by kernel_rfl) rfl ?_
  repeat' first
    | ((with_reducible refine eqg ?_); exact rfl)
    | ((with_reducible refine KOb.mk ?_); kernel_rfl)
    | ((with_reducible intro h); (repeat first | replace H := grd_k H | replace H := out_step H ‹_›); first | replace H := cond_t h H | replace H := cond_f h H | exact absurd h (by decide) | skip)
    | ((with_reducible refine Ob.mk ?_); first | (with_reducible rfl) | (first | ((repeat (first | (with_reducible exact grd_p H) | replace H := grd_k H | replace H := out_step H ‹_›)); done) | rfl | ((repeat (first | exact grd_p H | (have hp := grd_p H; exact hp) | replace H := grd_k H | replace H := out_step H ‹_› | (replace H := bind_some H; obtain ⟨_, _, H⟩ := H))); done) | (repeat (first | exact grd_p H | replace H := grd_k H | replace H := out_step H ‹_›))))
    | (with_reducible exact True.intro)
    | ((conv => whnf); first
        | (with_reducible refine And.intro ?_ ?_)
        | (with_reducible exact True.intro)
        | (with_reducible refine (?_ : Ob _))
        | ((with_reducible refine CallW.mk ?_); (repeat first | replace H := grd_k H | replace H := out_step H ‹_›); replace H := bind_some H; obtain ⟨y, hy, H⟩ := H; first | ((with_reducible have hz : impl_CabinAt _ _ = some y := hy); clear hz; refine ⟨_, _, impl_CabinAt.call hy ?_, rfl, rfl, ?_⟩) | ((with_reducible have hz : strconv_Itoa _ = some y := hy); clear hz; refine ⟨_, _, strconv_Itoa.call hy ?_, rfl, rfl, ?_⟩) | ((with_reducible have hz : impl_TurnsTo _ _ _ = some y := hy); clear hz; refine ⟨_, _, impl_TurnsTo.call hy ?_, rfl, rfl, ?_⟩) | ((with_reducible have hz : impl_Ropeway_peopleOn _ = some y := hy); clear hz; refine ⟨_, _, impl_Ropeway_peopleOn.call hy ?_, rfl, rfl, ?_⟩) | ((with_reducible have hz : impl_listText _ = some y := hy); clear hz; refine ⟨_, _, impl_listText.call hy ?_, rfl, rfl, ?_⟩) | ((with_reducible have hz : impl_OpenDoors _ = some y := hy); clear hz; rcases y with y | y <;> refine ⟨_, _, impl_OpenDoors.call hy ?_, rfl, rfl, ?_⟩) | ((with_reducible have hz : impl_IsCleared _ = some y := hy); clear hz; refine ⟨_, _, impl_IsCleared.call hy ?_, rfl, rfl, ?_⟩))
        | ((with_reducible refine fin_mk ?_); (repeat first | replace H := grd_k H | replace H := out_step H ‹_›); have H := Option.some.inj H; subst H))
    | constructor
def G100 : Env := G99.add 91 [] impl_ask.S
theorem G100_ok : EnvOk Tryz.prog G100 := G99_ok.add ent_91 fun ar h r h1 ⟨a0, a1, a2, y, hy, e1, e2, e3, e4⟩ => by
  subst e3 e4; exact (impl_ask.spec a0 a1 a2 y hy).le e1 e2
attribute [local irreducible] impl_ask

noncomputable def impl_run_loop1  (v12 : Nat) (v13 : Int) (v14 : Int) (v15 : (List ByteArray)) (v16 : (List Int)) : Option (Lp (Nat × Int × Int × (List ByteArray) × (List Int)) ((Unit) ⊕ ((List ByteArray) × (List Int)))) :=
  (cond (decide (v14 < v13)) (grd (0 ≤ v14 ∧ v14 < (v12 : Int)) ((impl_ParseInt (v15.getD (((1 : Int).toNat) + v14.toNat) (ByteArray.mk #[]))).bind fun y17 => (cond (!y17.2) ((some (.out (Sum.inl ())))) (grd (v16.length + [y17.1].length ≤ 140737488355328 / 8 ∧ v16.length + [y17.1].length ≤ 140737488355328) (some (.go (v12, v13, (w64 (v14 + (1 : Int))), v15, (v16 ++ [y17.1])))))))) ((some (.out (Sum.inr (v15, v16))))))
noncomputable def impl_run (a0 : Ropeway) (a1 : ByteArray) : Option ((Ropeway × ByteArray × (List Slot)) ⊕ (Ropeway × ByteArray × (List Slot))) :=
  ((strings_Split a1 (ByteArray.mk #[32])).bind fun y1 => (grd (0 ≤ (1 : Int) ∧ (1 : Int) ≤ (y1.length : Int) ∧ (y1.length : Int) ≤ (y1.length : Int)) ((iter (fun s => impl_run_loop1 s.1 s.2.1 s.2.2.1 s.2.2.2.1 s.2.2.2.2) ((((y1.length : Int) - (1 : Int)).toNat), ((((y1.length : Int) - (1 : Int)).toNat : Nat) : Int), (0 : Int), y1, ([] : List Int))).bind (Sum.elim (fun _ => (some (Sum.inl ((a0.1, a0.2.1, a0.2.2.1, a0.2.2.2.1, a0.2.2.2.2.1, ()), (ByteArray.mk #[63]), a0.2.1)))) (fun r20 => (grd (0 ≤ (0 : Int) ∧ (0 : Int) < (r20.1.length : Int)) ((impl_stepOf (r20.1.getD ((0 : Int).toNat) (ByteArray.mk #[])) r20.2).bind fun y21 => (cond y21.2 ((impl_Ropeway_step (a0.1, a0.2.1, a0.2.2.1, a0.2.2.2.1, a0.2.2.2.2.1, ()) (y21.1.1, y21.1.2.1, ())).bind (Sum.elim (fun _ => (some (Sum.inl ((a0.1, a0.2.1, a0.2.2.1, a0.2.2.2.1, a0.2.2.2.2.1, ()), (ByteArray.mk #[63]), a0.2.1)))) (fun y24 => ((impl_stepReply (y24.1, y24.2.1, y24.2.2.1, y24.2.2.2.1, y24.2.2.2.2.1, ()) (y21.1.1, y21.1.2.1, ())).bind fun y25 => (some (Sum.inr ((y24.1, y24.2.1, y24.2.2.1, y24.2.2.2.1, y24.2.2.2.2.1, ()), y25, a0.2.1))))))) (grd (0 ≤ (0 : Int) ∧ (0 : Int) < (r20.1.length : Int)) ((impl_ask (a0.1, a0.2.1, a0.2.2.1, a0.2.2.2.1, a0.2.2.2.2.1, ()) (r20.1.getD ((0 : Int).toNat) (ByteArray.mk #[])) r20.2).bind fun y26 => (cond y26.2 ((some (Sum.inl ((a0.1, a0.2.1, a0.2.2.1, a0.2.2.2.1, a0.2.2.2.2.1, ()), y26.1, a0.2.1)))) ((some (Sum.inl ((a0.1, a0.2.1, a0.2.2.1, a0.2.2.2.1, a0.2.2.2.2.1, ()), (ByteArray.mk #[63]), a0.2.1)))))))))))))))
def impl_run.res (_ : Ropeway) (_ : ByteArray) (y : (Ropeway × ByteArray × (List Slot)) ⊕ (Ropeway × ByteArray × (List Slot))) : AV := match y with
  | (.inl y) => (.tup [(.agg [(.v (.int .i64 y.1.1)), (.own 0), (.v (.int .i64 y.1.2.2.1)), (.v (.int .i64 y.1.2.2.2.1)), (.v (.int .i64 y.1.2.2.2.2.1))]), (.v (.string y.2.1))])
  | (.inr y) => (.tup [(.agg [(.v (.int .i64 y.1.1)), (.own 1), (.v (.int .i64 y.1.2.2.1)), (.v (.int .i64 y.1.2.2.2.1)), (.v (.int .i64 y.1.2.2.2.2.1))]), (.v (.string y.2.1))])
def impl_run.out (_ : Ropeway) (_ : ByteArray) (y : (Ropeway × ByteArray × (List Slot)) ⊕ (Ropeway × ByteArray × (List Slot))) : List (Option LB) := match y with
  | (.inl y) => [some (.arr 96 ty_Slot y.2.2)]
  | (.inr y) => [some (.arr 96 ty_Slot y.2.2), some (.arr 96 ty_Slot y.1.2.1)]
def impl_run.S (ar : List AV) (h : List (Option LB)) (r : AV) (h1 : List (Option LB)) : Prop := ∃ a0 a1 y, impl_run a0 a1 = some y ∧ leL ar [(.agg [(.v (.int .i64 a0.1)), (.own 0), (.v (.int .i64 a0.2.2.1)), (.v (.int .i64 a0.2.2.2.1)), (.v (.int .i64 a0.2.2.2.2.1))]), (.v (.string a1))] ∧ leH h [some (.arr 96 ty_Slot a0.2.1)] ∧ r = impl_run.res a0 a1 y ∧ h1 = impl_run.out a0 a1 y
theorem impl_run.call {ar : List AV} {h : List (Option LB)} {a0 : Ropeway} {a1 : ByteArray} {y : (Ropeway × ByteArray × (List Slot)) ⊕ (Ropeway × ByteArray × (List Slot))} (H : impl_run a0 a1 = some y) (h0 : leLk ar [(.agg [(.v (.int .i64 a0.1)), (.own 0), (.v (.int .i64 a0.2.2.1)), (.v (.int .i64 a0.2.2.2.1)), (.v (.int .i64 a0.2.2.2.2.1))]), (.v (.string a1))] (leHk h [some (.arr 96 ty_Slot a0.2.1)])) : impl_run.S ar h (impl_run.res a0 a1 y) (impl_run.out a0 a1 y) := ⟨a0, a1, y, H, (args_ok h0).1, (args_ok h0).2, rfl, rfl⟩
theorem impl_run.spec (a0 : Ropeway) (a1 : ByteArray) (y : (Ropeway × ByteArray × (List Slot)) ⊕ (Ropeway × ByteArray × (List Slot))) (H : impl_run a0 a1 = some y) : Spec Tryz.prog 48 [(.agg [(.v (.int .i64 a0.1)), (.own 0), (.v (.int .i64 a0.2.2.1)), (.v (.int .i64 a0.2.2.2.1)), (.v (.int .i64 a0.2.2.2.2.1))]), (.v (.string a1))] [some (.arr 96 ty_Slot a0.2.1)] (impl_run.res a0 a1 y) (impl_run.out a0 a1 y) := by
  have hlen : Nat.ble ([some (.arr 96 ty_Slot a0.2.1)] : List (Option LB)).length (impl_run.out a0 a1 y).length = true := by
    rcases y with y | y <;> rfl
  refine spec_intro (G100_ok.at tok []) (ct := [(8, some [2, 4, 6, 7, 10, 22, 23, 24]), (10, some [2, 4, 6, 7]), (13, some [2, 4, 12, 14, 15]), (17, some [2, 4, 16, 17])]) Tryz.func48 rfl (by kernel_rfl) (by kernel_rfl) hlen ?_
  repeat' first
    | ((with_reducible refine eqg ?_); exact rfl)
    | ((with_reducible refine KOb.mk ?_); kernel_rfl)
    | ((with_reducible intro h); (repeat first | replace H := grd_k H | replace H := out_step H ‹_›); first | replace H := cond_t h H | replace H := cond_f h H | exact absurd h (by decide) | skip)
    | ((with_reducible refine Ob.mk ?_); first | (with_reducible rfl) | (first | ((repeat (first | (with_reducible exact grd_p H) | replace H := grd_k H | replace H := out_step H ‹_›)); done) | rfl | ((repeat (first | exact grd_p H | (have hp := grd_p H; exact hp) | replace H := grd_k H | replace H := out_step H ‹_› | (replace H := bind_some H; obtain ⟨_, _, H⟩ := H))); done) | (repeat (first | exact grd_p H | replace H := grd_k H | replace H := out_step H ‹_›))))
    | (with_reducible exact True.intro)
    | ((conv => whnf); first
        | (with_reducible refine And.intro ?_ ?_)
        | (with_reducible exact True.intro)
        | (with_reducible refine (?_ : Ob _))
        | ((with_reducible refine CallW.mk ?_); (repeat first | replace H := grd_k H | replace H := out_step H ‹_›); replace H := bind_some H; obtain ⟨y, hy, H⟩ := H; first | ((with_reducible have hz : strings_Split _ _ = some y := hy); clear hz; refine ⟨_, _, strings_Split.call hy ?_, rfl, rfl, ?_⟩) | ((with_reducible have hz : impl_ParseInt _ = some y := hy); clear hz; refine ⟨_, _, impl_ParseInt.call hy ?_, rfl, rfl, ?_⟩) | ((with_reducible have hz : impl_stepOf _ _ = some y := hy); clear hz; refine ⟨_, _, impl_stepOf.call hy ?_, rfl, rfl, ?_⟩) | ((with_reducible have hz : impl_Ropeway_step _ _ = some y := hy); clear hz; rcases y with y | y <;> refine ⟨_, _, impl_Ropeway_step.call hy ?_, rfl, rfl, ?_⟩) | ((with_reducible have hz : impl_stepReply _ _ = some y := hy); clear hz; refine ⟨_, _, impl_stepReply.call hy ?_, rfl, rfl, ?_⟩) | ((with_reducible have hz : impl_ask _ _ _ = some y := hy); clear hz; refine ⟨_, _, impl_ask.call hy ?_, rfl, rfl, ?_⟩))
        | ((repeat first | replace H := grd_k H | replace H := out_step H ‹_›); refine loop_iter (G100_ok.at tok []) (ct := [(8, some [2, 4, 6, 7, 10, 22, 23, 24]), (10, some [2, 4, 6, 7]), (13, some [2, 4, 12, 14, 15]), (17, some [2, 4, 16, 17])]) (F := (fun s1 : Nat × Int × Int × (List ByteArray) × (List Int) => ⟨sl [(2, (.loc 1 0 0)), (4, (.loc 2 0 0)), (6, (.own 3)), (7, (.own 4)), (22, (.view 3 ((1 : Int).toNat) s1.1)), (23, (.v (.int .i64 s1.2.1))), (24, (.v (.int .i64 s1.2.2.1)))], [some (.arr 96 ty_Slot a0.2.1), some (.box 38 [(.v (.int .i64 a0.1)), (.own 0), (.v (.int .i64 a0.2.2.1)), (.v (.int .i64 a0.2.2.2.1)), (.v (.int .i64 a0.2.2.2.2.1))]), some (.box 38 [(.v (.int .i64 (0 : Int))), (.v (.slice none 0 0)), (.v (.int .i64 (0 : Int))), (.v (.int .i64 (0 : Int))), (.v (.int .i64 (0 : Int)))]), some (.arr 9 .str s1.2.2.2.1), some (.arr 3 (.int .i64) s1.2.2.2.2)]⟩)) (step := (fun s : Nat × Int × Int × (List ByteArray) × (List Int) => impl_run_loop1 s.1 s.2.1 s.2.2.1 s.2.2.2.1 s.2.2.2.2)) _ H (by kernel_rfl) (sub_auto ?_) ?_; rotate_left; (intro s1 r v hr H); rotate_right)
        | ((repeat first | replace H := grd_k H | replace H := out_step H ‹_›); refine again_step H (by assumption) (sub_auto ?_))
        | ((with_reducible refine fin_mk ?_); (repeat first | replace H := grd_k H | replace H := out_step H ‹_›); have H := Option.some.inj H; subst H))
    | constructor
def G101 : Env := G100.add 48 [true] impl_run.S
theorem G101_ok : EnvOk Tryz.prog G101 := G100_ok.add ent_48 fun ar h r h1 ⟨a0, a1, y, hy, e1, e2, e3, e4⟩ => by
  subst e3 e4; exact (impl_run.spec a0 a1 y hy).le e1 e2
attribute [local irreducible] impl_run

noncomputable def impl_encodeRecord (a0 : Int) (a1 : LogRecord) : Option (ByteArray) :=
  ((strconv_Itoa a0).bind fun y1 => (grd (y1.size + (ByteArray.mk #[32]).size ≤ 9223372036854775807) (grd ((y1 ++ (ByteArray.mk #[32])).size + a1.1.size ≤ 9223372036854775807) (grd (((y1 ++ (ByteArray.mk #[32])) ++ a1.1).size + (ByteArray.mk #[64]).size ≤ 9223372036854775807) (grd ((((y1 ++ (ByteArray.mk #[32])) ++ a1.1) ++ (ByteArray.mk #[64])).size + a1.2.1.size ≤ 9223372036854775807) ((impl_AppendChecksum ((((y1 ++ (ByteArray.mk #[32])) ++ a1.1) ++ (ByteArray.mk #[64])) ++ a1.2.1)).bind fun y2 => (grd (y2.1.size + (ByteArray.mk #[10]).size ≤ 9223372036854775807) ((some (y2.1 ++ (ByteArray.mk #[10])))))))))))
def impl_encodeRecord.res (_ : Int) (_ : LogRecord) (y : ByteArray) : AV := (.v (.string y))
def impl_encodeRecord.out (_ : Int) (_ : LogRecord) (_ : ByteArray) : List (Option LB) := []
def impl_encodeRecord.S (ar : List AV) (h : List (Option LB)) (r : AV) (h1 : List (Option LB)) : Prop := ∃ a0 a1 y, impl_encodeRecord a0 a1 = some y ∧ leL ar [(.v (.int .i64 a0)), (.agg [(.v (.string a1.1)), (.v (.string a1.2.1))])] ∧ leH h [] ∧ r = impl_encodeRecord.res a0 a1 y ∧ h1 = impl_encodeRecord.out a0 a1 y
theorem impl_encodeRecord.call {ar : List AV} {h : List (Option LB)} {a0 : Int} {a1 : LogRecord} {y : ByteArray} (H : impl_encodeRecord a0 a1 = some y) (h0 : leLk ar [(.v (.int .i64 a0)), (.agg [(.v (.string a1.1)), (.v (.string a1.2.1))])] (leHk h [])) : impl_encodeRecord.S ar h (impl_encodeRecord.res a0 a1 y) (impl_encodeRecord.out a0 a1 y) := ⟨a0, a1, y, H, (args_ok h0).1, (args_ok h0).2, rfl, rfl⟩
theorem impl_encodeRecord.spec (a0 : Int) (a1 : LogRecord) (y : ByteArray) (H : impl_encodeRecord a0 a1 = some y) : Spec Tryz.prog 92 [(.v (.int .i64 a0)), (.agg [(.v (.string a1.1)), (.v (.string a1.2.1))])] [] (impl_encodeRecord.res a0 a1 y) (impl_encodeRecord.out a0 a1 y) := by
  refine spec_intro (G101_ok.at tok []) (ct := [(2, some [5])]) Tryz.func92 rfl (by kernel_rfl) (by kernel_rfl) rfl ?_
  repeat' first
    | ((with_reducible refine eqg ?_); exact rfl)
    | ((with_reducible refine KOb.mk ?_); kernel_rfl)
    | ((with_reducible intro h); (repeat first | replace H := grd_k H | replace H := out_step H ‹_›); first | replace H := cond_t h H | replace H := cond_f h H | exact absurd h (by decide) | skip)
    | ((with_reducible refine Ob.mk ?_); first | (with_reducible rfl) | (first | ((repeat (first | (with_reducible exact grd_p H) | replace H := grd_k H | replace H := out_step H ‹_›)); done) | rfl | ((repeat (first | exact grd_p H | (have hp := grd_p H; exact hp) | replace H := grd_k H | replace H := out_step H ‹_› | (replace H := bind_some H; obtain ⟨_, _, H⟩ := H))); done) | (repeat (first | exact grd_p H | replace H := grd_k H | replace H := out_step H ‹_›))))
    | (with_reducible exact True.intro)
    | ((conv => whnf); first
        | (with_reducible refine And.intro ?_ ?_)
        | (with_reducible exact True.intro)
        | (with_reducible refine (?_ : Ob _))
        | ((with_reducible refine CallW.mk ?_); (repeat first | replace H := grd_k H | replace H := out_step H ‹_›); replace H := bind_some H; obtain ⟨y, hy, H⟩ := H; first | ((with_reducible have hz : strconv_Itoa _ = some y := hy); clear hz; refine ⟨_, _, strconv_Itoa.call hy ?_, rfl, rfl, ?_⟩) | ((with_reducible have hz : impl_AppendChecksum _ = some y := hy); clear hz; refine ⟨_, _, impl_AppendChecksum.call hy ?_, rfl, rfl, ?_⟩))
        | ((with_reducible refine fin_mk ?_); (repeat first | replace H := grd_k H | replace H := out_step H ‹_›); have H := Option.some.inj H; subst H))
    | constructor
def G102 : Env := G101.add 92 [] impl_encodeRecord.S
theorem G102_ok : EnvOk Tryz.prog G102 := G101_ok.add ent_92 fun ar h r h1 ⟨a0, a1, y, hy, e1, e2, e3, e4⟩ => by
  subst e3 e4; exact (impl_encodeRecord.spec a0 a1 y hy).le e1 e2
attribute [local irreducible] impl_encodeRecord

end Go.Proofs.YtaobinhdnklojaaGreatDoor
namespace Go.Proofs.YtaobinhdnklojaaGreatDoor
open Go.RowKit
set_option maxHeartbeats 100000000
set_option maxRecDepth 100000
attribute [local irreducible] Ob loopwp Sub Spec Fin Again CallW CutC KOb iter

attribute [local irreducible] spec_l1Num_f impl_copyRopeway impl_IsValidRecord impl_IsValidLog impl_IsValidConsole slices_IndexFunc___impl_Slot_impl_Slot__i2 slices_IndexFunc___impl_Slot_impl_Slot__i3 slices_ContainsFunc___impl_Slot_impl_Slot__i2 slices_Clone___impl_Slot_impl_Slot__i1 impl_copyRopeway_i1 impl_run impl_encodeRecord

noncomputable def impl_AppendRecord (a0 : Log) (a1 : LogRecord) : Option (Log × Int) :=
  ((impl_IsValidLog (a0.1, a0.2.1, a0.2.2.1, ())).bind fun y1 => (cond (!y1) ((some ((a0.1, a0.2.1, a0.2.2.1, ()), (1 : Int)))) ((impl_IsValidRecord (a1.1, a1.2.1, ())).bind fun y2 => (cond (!y2) ((some ((a0.1, a0.2.1, a0.2.2.1, ()), (1 : Int)))) (cond (decide (a0.2.2.1 = (60 : Int))) ((some ((a0.1, a0.2.1, a0.2.2.1, ()), (2 : Int)))) ((impl_encodeRecord a0.2.2.1 (a1.1, a1.2.1, ())).bind fun y3 => (grd (a0.2.1.size + y3.size ≤ 9223372036854775807) ((some ((a0.1, (a0.2.1 ++ y3), (w64 (a0.2.2.1 + (1 : Int))), ()), (0 : Int)))))))))))
def impl_AppendRecord.res (_ : Log) (_ : LogRecord) (y : Log × Int) : AV := (.tup [(.agg [(.v (.string y.1.1)), (.v (.string y.1.2.1)), (.v (.int .i64 y.1.2.2.1))]), (.v (.int .i64 y.2))])
def impl_AppendRecord.out (_ : Log) (_ : LogRecord) (_ : Log × Int) : List (Option LB) := []
def impl_AppendRecord.S (ar : List AV) (h : List (Option LB)) (r : AV) (h1 : List (Option LB)) : Prop := ∃ a0 a1 y, impl_AppendRecord a0 a1 = some y ∧ leL ar [(.agg [(.v (.string a0.1)), (.v (.string a0.2.1)), (.v (.int .i64 a0.2.2.1))]), (.agg [(.v (.string a1.1)), (.v (.string a1.2.1))])] ∧ leH h [] ∧ r = impl_AppendRecord.res a0 a1 y ∧ h1 = impl_AppendRecord.out a0 a1 y
theorem impl_AppendRecord.call {ar : List AV} {h : List (Option LB)} {a0 : Log} {a1 : LogRecord} {y : Log × Int} (H : impl_AppendRecord a0 a1 = some y) (h0 : leLk ar [(.agg [(.v (.string a0.1)), (.v (.string a0.2.1)), (.v (.int .i64 a0.2.2.1))]), (.agg [(.v (.string a1.1)), (.v (.string a1.2.1))])] (leHk h [])) : impl_AppendRecord.S ar h (impl_AppendRecord.res a0 a1 y) (impl_AppendRecord.out a0 a1 y) := ⟨a0, a1, y, H, (args_ok h0).1, (args_ok h0).2, rfl, rfl⟩
theorem impl_AppendRecord.spec (a0 : Log) (a1 : LogRecord) (y : Log × Int) (H : impl_AppendRecord a0 a1 = some y) : Spec Tryz.prog 49 [(.agg [(.v (.string a0.1)), (.v (.string a0.2.1)), (.v (.int .i64 a0.2.2.1))]), (.agg [(.v (.string a1.1)), (.v (.string a1.2.1))])] [] (impl_AppendRecord.res a0 a1 y) (impl_AppendRecord.out a0 a1 y) := by
  refine spec_intro (G102_ok.at tok []) (ct := [(4, some [2, 3, 4, 16]), (5, some [2, 3, 4])]) Tryz.func49 rfl (by kernel_rfl) (by kernel_rfl) rfl ?_
  repeat' first
    | ((with_reducible refine eqg ?_); exact rfl)
    | ((with_reducible refine KOb.mk ?_); kernel_rfl)
    | ((with_reducible intro h); (repeat first | replace H := grd_k H | replace H := out_step H ‹_›); first | replace H := cond_t h H | replace H := cond_f h H | exact absurd h (by decide) | skip)
    | ((with_reducible refine Ob.mk ?_); first | (with_reducible rfl) | (first | ((repeat (first | (with_reducible exact grd_p H) | replace H := grd_k H | replace H := out_step H ‹_›)); done) | rfl | ((repeat (first | exact grd_p H | (have hp := grd_p H; exact hp) | replace H := grd_k H | replace H := out_step H ‹_› | (replace H := bind_some H; obtain ⟨_, _, H⟩ := H))); done) | (repeat (first | exact grd_p H | replace H := grd_k H | replace H := out_step H ‹_›))))
    | (with_reducible exact True.intro)
    | ((conv => whnf); first
        | (with_reducible refine And.intro ?_ ?_)
        | (with_reducible exact True.intro)
        | (with_reducible refine (?_ : Ob _))
        | ((with_reducible refine CallW.mk ?_); (repeat first | replace H := grd_k H | replace H := out_step H ‹_›); replace H := bind_some H; obtain ⟨y, hy, H⟩ := H; first | ((with_reducible have hz : impl_IsValidLog _ = some y := hy); clear hz; refine ⟨_, _, impl_IsValidLog.call hy ?_, rfl, rfl, ?_⟩) | ((with_reducible have hz : impl_IsValidRecord _ = some y := hy); clear hz; refine ⟨_, _, impl_IsValidRecord.call hy ?_, rfl, rfl, ?_⟩) | ((with_reducible have hz : impl_encodeRecord _ _ = some y := hy); clear hz; refine ⟨_, _, impl_encodeRecord.call hy ?_, rfl, rfl, ?_⟩))
        | ((with_reducible refine fin_mk ?_); (repeat first | replace H := grd_k H | replace H := out_step H ‹_›); have H := Option.some.inj H; subst H))
    | constructor
def G103 : Env := G102.add 49 [] impl_AppendRecord.S
theorem G103_ok : EnvOk Tryz.prog G103 := G102_ok.add ent_49 fun ar h r h1 ⟨a0, a1, y, hy, e1, e2, e3, e4⟩ => by
  subst e3 e4; exact (impl_AppendRecord.spec a0 a1 y hy).le e1 e2
attribute [local irreducible] impl_AppendRecord

noncomputable def impl_ExecuteCommand (a0 : Console) (a1 : ByteArray) : Option (Console × ByteArray × (List Slot)) :=
  (((impl_copyRopeway (a0.1.1, a0.1.2.1, a0.1.2.2.1, a0.1.2.2.2.1, a0.1.2.2.2.2.1, ())).bind fun y1 => (some ((Tg.mk : Tg 1), y1.2, y1.1.1, y1.1.2.2.1, y1.1.2.2.2.1, y1.1.2.2.2.2.1, y1.1.2.1))).bind fun z2 => ((impl_IsValidConsole ((a0.1.1, z2.2.1, a0.1.2.2.1, a0.1.2.2.2.1, a0.1.2.2.2.2.1, ()), (a0.2.1.1, a0.2.1.2.1, a0.2.1.2.2.1, ()), ())).bind fun y3 => (cond (!y3) ((some (((z2.2.2.1, z2.2.2.2.2.2.2, z2.2.2.2.1, z2.2.2.2.2.1, z2.2.2.2.2.2.1, ()), (a0.2.1.1, a0.2.1.2.1, a0.2.1.2.2.1, ()), ()), (ByteArray.mk #[110, 111]), z2.2.1))) ((impl_IsValidRecord (a1, (ByteArray.mk #[]), ())).bind fun y4 => (cond (!y4) ((some (((z2.2.2.1, z2.2.2.2.2.2.2, z2.2.2.2.1, z2.2.2.2.2.1, z2.2.2.2.2.2.1, ()), (a0.2.1.1, a0.2.1.2.1, a0.2.1.2.2.1, ()), ()), (ByteArray.mk #[98, 97, 100]), z2.2.1))) (cond (decide (a0.2.1.2.2.1 = (60 : Int))) ((some (((z2.2.2.1, z2.2.2.2.2.2.2, z2.2.2.2.1, z2.2.2.2.2.1, z2.2.2.2.2.2.1, ()), (a0.2.1.1, a0.2.1.2.1, a0.2.1.2.2.1, ()), ()), (ByteArray.mk #[102, 117, 108, 108]), z2.2.1))) (((impl_run (z2.2.2.1, z2.2.2.2.2.2.2, z2.2.2.2.1, z2.2.2.2.2.1, z2.2.2.2.2.2.1, ()) a1).bind (Sum.elim (fun y6 => (some ((Tg.mk : Tg 2), y6.2.1, z2.2.1, y6.1.1, y6.1.2.2.1, y6.1.2.2.2.1, y6.1.2.2.2.2.1, y6.2.2))) (fun y7 => (some ((Tg.mk : Tg 2), y7.2.1, z2.2.1, y7.1.1, y7.1.2.2.1, y7.1.2.2.2.1, y7.1.2.2.2.2.1, y7.1.2.1))))).bind fun z8 => ((cond (decide ((200 : Int) < (z8.2.1.size : Int))) ((some ((ByteArray.mk #[108, 111, 110, 103]), z8.2.2.1, z8.2.2.2.1, z8.2.2.2.2.1, z8.2.2.2.2.2.1, z8.2.2.2.2.2.2.1, z8.2.2.2.2.2.2.2))) ((some (z8.2.1, z8.2.2.1, z8.2.2.2.1, z8.2.2.2.2.1, z8.2.2.2.2.2.1, z8.2.2.2.2.2.2.1, z8.2.2.2.2.2.2.2)))).bind fun z9 => ((impl_AppendRecord (a0.2.1.1, a0.2.1.2.1, a0.2.1.2.2.1, ()) (a1, z9.1, ())).bind fun y10 => (some (((z9.2.2.1, z9.2.2.2.2.2.2, z9.2.2.2.1, z9.2.2.2.2.1, z9.2.2.2.2.2.1, ()), (y10.1.1, y10.1.2.1, y10.1.2.2.1, ()), ()), z9.1, z9.2.1)))))))))))
def impl_ExecuteCommand.res (_ : Console) (_ : ByteArray) (y : Console × ByteArray × (List Slot)) : AV := (.tup [(.agg [(.v (.int .i64 y.1.1.1)), (.own 1), (.v (.int .i64 y.1.1.2.2.1)), (.v (.int .i64 y.1.1.2.2.2.1)), (.v (.int .i64 y.1.1.2.2.2.2.1)), (.v (.string y.1.2.1.1)), (.v (.string y.1.2.1.2.1)), (.v (.int .i64 y.1.2.1.2.2.1))]), (.v (.string y.2.1))])
def impl_ExecuteCommand.out (_ : Console) (_ : ByteArray) (y : Console × ByteArray × (List Slot)) : List (Option LB) := [some (.arr 96 ty_Slot y.2.2), some (.arr 96 ty_Slot y.1.1.2.1)]
def impl_ExecuteCommand.S (ar : List AV) (h : List (Option LB)) (r : AV) (h1 : List (Option LB)) : Prop := ∃ a0 a1 y, impl_ExecuteCommand a0 a1 = some y ∧ leL ar [(.agg [(.v (.int .i64 a0.1.1)), (.own 0), (.v (.int .i64 a0.1.2.2.1)), (.v (.int .i64 a0.1.2.2.2.1)), (.v (.int .i64 a0.1.2.2.2.2.1)), (.v (.string a0.2.1.1)), (.v (.string a0.2.1.2.1)), (.v (.int .i64 a0.2.1.2.2.1))]), (.v (.string a1))] ∧ leH h [some (.arr 96 ty_Slot a0.1.2.1)] ∧ r = impl_ExecuteCommand.res a0 a1 y ∧ h1 = impl_ExecuteCommand.out a0 a1 y
theorem impl_ExecuteCommand.call {ar : List AV} {h : List (Option LB)} {a0 : Console} {a1 : ByteArray} {y : Console × ByteArray × (List Slot)} (H : impl_ExecuteCommand a0 a1 = some y) (h0 : leLk ar [(.agg [(.v (.int .i64 a0.1.1)), (.own 0), (.v (.int .i64 a0.1.2.2.1)), (.v (.int .i64 a0.1.2.2.2.1)), (.v (.int .i64 a0.1.2.2.2.2.1)), (.v (.string a0.2.1.1)), (.v (.string a0.2.1.2.1)), (.v (.int .i64 a0.2.1.2.2.1))]), (.v (.string a1))] (leHk h [some (.arr 96 ty_Slot a0.1.2.1)])) : impl_ExecuteCommand.S ar h (impl_ExecuteCommand.res a0 a1 y) (impl_ExecuteCommand.out a0 a1 y) := ⟨a0, a1, y, H, (args_ok h0).1, (args_ok h0).2, rfl, rfl⟩
theorem impl_ExecuteCommand.spec (a0 : Console) (a1 : ByteArray) (y : Console × ByteArray × (List Slot)) (H : impl_ExecuteCommand a0 a1 = some y) : Spec Tryz.prog 15 [(.agg [(.v (.int .i64 a0.1.1)), (.own 0), (.v (.int .i64 a0.1.2.2.1)), (.v (.int .i64 a0.1.2.2.2.1)), (.v (.int .i64 a0.1.2.2.2.2.1)), (.v (.string a0.2.1.1)), (.v (.string a0.2.1.2.1)), (.v (.int .i64 a0.2.1.2.2.1))]), (.v (.string a1))] [some (.arr 96 ty_Slot a0.1.2.1)] (impl_ExecuteCommand.res a0 a1 y) (impl_ExecuteCommand.out a0 a1 y) := by
  refine spec_intro (G103_ok.at tok []) (ct := [(2, none), (10, none), (12, none), (7, some [1, 4, 6, 25])]) Tryz.func15 rfl (by kernel_rfl) (by kernel_rfl) rfl ?_
  repeat' first
    | ((with_reducible refine eqg ?_); exact rfl)
    | ((with_reducible refine KOb.mk ?_); kernel_rfl)
    | ((with_reducible intro h); (repeat first | replace H := grd_k H | replace H := out_step H ‹_›); first | replace H := cond_t h H | replace H := cond_f h H | exact absurd h (by decide) | skip)
    | ((with_reducible refine Ob.mk ?_); first | (with_reducible rfl) | (first | ((repeat (first | (with_reducible exact grd_p H) | replace H := grd_k H | replace H := out_step H ‹_›)); done) | rfl | ((repeat (first | exact grd_p H | (have hp := grd_p H; exact hp) | replace H := grd_k H | replace H := out_step H ‹_› | (replace H := bind_some H; obtain ⟨_, _, H⟩ := H))); done) | (repeat (first | exact grd_p H | replace H := grd_k H | replace H := out_step H ‹_›))))
    | (with_reducible exact True.intro)
    | ((conv => whnf); first
        | (with_reducible refine And.intro ?_ ?_)
        | (with_reducible exact True.intro)
        | (with_reducible refine (?_ : Ob _))
        | ((with_reducible refine CallW.mk ?_); (repeat first | replace H := grd_k H | replace H := out_step H ‹_›); replace H := bind_some H; obtain ⟨y, hy, H⟩ := H; first | ((with_reducible have hz : impl_copyRopeway _ = some y := hy); clear hz; refine Exists.intro _ (Exists.intro _ ⟨Or.inr (impl_copyRopeway.call hy ?_), rfl, rfl, ?_⟩)) | ((with_reducible have hz : impl_IsValidConsole _ = some y := hy); clear hz; refine ⟨_, _, impl_IsValidConsole.call hy ?_, rfl, rfl, ?_⟩) | ((with_reducible have hz : impl_IsValidRecord _ = some y := hy); clear hz; refine ⟨_, _, impl_IsValidRecord.call hy ?_, rfl, rfl, ?_⟩) | ((with_reducible have hz : impl_run _ _ = some y := hy); clear hz; rcases y with y | y <;> refine ⟨_, _, impl_run.call hy ?_, rfl, rfl, ?_⟩) | ((with_reducible have hz : impl_AppendRecord _ _ = some y := hy); clear hz; refine ⟨_, _, impl_AppendRecord.call hy ?_, rfl, rfl, ?_⟩))
        | ((with_reducible refine cutAt (id := 2) ?_); (repeat first | replace H := grd_k H | replace H := out_step H ‹_›); first | (replace H := bind_some H; obtain ⟨z, hz, H⟩ := H; have hT : Tg 1 × (List Slot) × Int × Int × Int × Int × (List Slot) := z; clear hT; refine CutC.mk (id := 2) ⟨sl [(1, (.v (.string a1))), (2, (.loc 1 0 0)), (4, (.loc 2 0 0)), (6, (.loc 3 0 0))], [some (.arr 96 ty_Slot z.2.1), some (.box 40 [(.v (.int .i64 a0.1.1)), (.own 0), (.v (.int .i64 a0.1.2.2.1)), (.v (.int .i64 a0.1.2.2.2.1)), (.v (.int .i64 a0.1.2.2.2.2.1)), (.v (.string a0.2.1.1)), (.v (.string a0.2.1.2.1)), (.v (.int .i64 a0.2.1.2.2.1))]), some (.box 40 [(.v (.int .i64 (0 : Int))), (.v (.slice none 0 0)), (.v (.int .i64 (0 : Int))), (.v (.int .i64 (0 : Int))), (.v (.int .i64 (0 : Int))), (.v (.string (ByteArray.mk #[]))), (.v (.string (ByteArray.mk #[]))), (.v (.int .i64 (0 : Int)))]), some (.box 40 [(.v (.int .i64 z.2.2.1)), (.own 4), (.v (.int .i64 z.2.2.2.1)), (.v (.int .i64 z.2.2.2.2.1)), (.v (.int .i64 z.2.2.2.2.2.1)), (.v (.string a0.2.1.1)), (.v (.string a0.2.1.2.1)), (.v (.int .i64 a0.2.1.2.2.1))]), some (.arr 96 ty_Slot z.2.2.2.2.2.2)]⟩ ?_ ?_; (replace H := hz)))
        | ((with_reducible refine cutAt (id := 10) ?_); (repeat first | replace H := grd_k H | replace H := out_step H ‹_›); first | (replace H := bind_some H; obtain ⟨z, hz, H⟩ := H; have hT : Tg 2 × ByteArray × (List Slot) × Int × Int × Int × Int × (List Slot) := z; clear hT; refine CutC.mk (id := 10) ⟨sl [(1, (.v (.string a1))), (4, (.loc 1 0 0)), (6, (.loc 2 0 0)), (7, (.v (.string z.2.1)))], [some (.arr 96 ty_Slot z.2.2.1), some (.box 40 [(.v (.int .i64 (0 : Int))), (.v (.slice none 0 0)), (.v (.int .i64 (0 : Int))), (.v (.int .i64 (0 : Int))), (.v (.int .i64 (0 : Int))), (.v (.string (ByteArray.mk #[]))), (.v (.string (ByteArray.mk #[]))), (.v (.int .i64 (0 : Int)))]), some (.box 40 [(.v (.int .i64 z.2.2.2.1)), (.own 3), (.v (.int .i64 z.2.2.2.2.1)), (.v (.int .i64 z.2.2.2.2.2.1)), (.v (.int .i64 z.2.2.2.2.2.2.1)), (.v (.string a0.2.1.1)), (.v (.string a0.2.1.2.1)), (.v (.int .i64 a0.2.1.2.2.1))]), some (.arr 96 ty_Slot z.2.2.2.2.2.2.2)]⟩ ?_ ?_; (replace H := hz)))
        | ((with_reducible refine cutAt (id := 12) ?_); (repeat first | replace H := grd_k H | replace H := out_step H ‹_›); first | (replace H := bind_some H; obtain ⟨z, hz, H⟩ := H; refine CutC.mk (id := 12) ⟨sl [(1, (.v (.string a1))), (4, (.loc 1 0 0)), (6, (.loc 2 0 0)), (7, (.v (.string z.1)))], [some (.arr 96 ty_Slot z.2.1), some (.box 40 [(.v (.int .i64 (0 : Int))), (.v (.slice none 0 0)), (.v (.int .i64 (0 : Int))), (.v (.int .i64 (0 : Int))), (.v (.int .i64 (0 : Int))), (.v (.string (ByteArray.mk #[]))), (.v (.string (ByteArray.mk #[]))), (.v (.int .i64 (0 : Int)))]), some (.box 40 [(.v (.int .i64 z.2.2.1)), (.own 3), (.v (.int .i64 z.2.2.2.1)), (.v (.int .i64 z.2.2.2.2.1)), (.v (.int .i64 z.2.2.2.2.2.1)), (.v (.string a0.2.1.1)), (.v (.string a0.2.1.2.1)), (.v (.int .i64 a0.2.1.2.2.1))]), some (.arr 96 ty_Slot z.2.2.2.2.2.2)]⟩ ?_ ?_; (replace H := hz)))
        | ((repeat first | replace H := grd_k H | replace H := out_step H ‹_›); have H := Option.some.inj H; subst H; with_reducible refine sub_auto ?_)
        | ((with_reducible refine fin_mk ?_); (repeat first | replace H := grd_k H | replace H := out_step H ‹_›); have H := Option.some.inj H; subst H))
    | constructor
def G104 : Env := G103.add 15 [true] impl_ExecuteCommand.S
theorem G104_ok : EnvOk Tryz.prog G104 := G103_ok.add ent_15 fun ar h r h1 ⟨a0, a1, y, hy, e1, e2, e3, e4⟩ => by
  subst e3 e4; exact (impl_ExecuteCommand.spec a0 a1 y hy).le e1 e2
attribute [local irreducible] impl_ExecuteCommand

noncomputable def laws_eqSlot (a0 : Slot) (a1 : Slot) : Option (Bool) :=
  (cond (!decide (a0.1 = a1.1)) ((some false)) (cond (!(a0.2.1 == a1.2.1)) ((some false)) (cond (!decide (a0.2.2.1 = a1.2.2.1)) ((some false)) ((some true)))))
def laws_eqSlot.res (_ : Slot) (_ : Slot) (y : Bool) : AV := (.bl y)
def laws_eqSlot.out (_ : Slot) (_ : Slot) (_ : Bool) : List (Option LB) := []
def laws_eqSlot.S (ar : List AV) (h : List (Option LB)) (r : AV) (h1 : List (Option LB)) : Prop := ∃ a0 a1 y, laws_eqSlot a0 a1 = some y ∧ leL ar [(.agg [(.v (.int .i64 a0.1)), (.bl a0.2.1), (.v (.int .i64 a0.2.2.1))]), (.agg [(.v (.int .i64 a1.1)), (.bl a1.2.1), (.v (.int .i64 a1.2.2.1))])] ∧ leH h [] ∧ r = laws_eqSlot.res a0 a1 y ∧ h1 = laws_eqSlot.out a0 a1 y
theorem laws_eqSlot.call {ar : List AV} {h : List (Option LB)} {a0 : Slot} {a1 : Slot} {y : Bool} (H : laws_eqSlot a0 a1 = some y) (h0 : leLk ar [(.agg [(.v (.int .i64 a0.1)), (.bl a0.2.1), (.v (.int .i64 a0.2.2.1))]), (.agg [(.v (.int .i64 a1.1)), (.bl a1.2.1), (.v (.int .i64 a1.2.2.1))])] (leHk h [])) : laws_eqSlot.S ar h (laws_eqSlot.res a0 a1 y) (laws_eqSlot.out a0 a1 y) := ⟨a0, a1, y, H, (args_ok h0).1, (args_ok h0).2, rfl, rfl⟩
theorem laws_eqSlot.spec (a0 : Slot) (a1 : Slot) (y : Bool) (H : laws_eqSlot a0 a1 = some y) : Spec Tryz.prog 139 [(.agg [(.v (.int .i64 a0.1)), (.bl a0.2.1), (.v (.int .i64 a0.2.2.1))]), (.agg [(.v (.int .i64 a1.1)), (.bl a1.2.1), (.v (.int .i64 a1.2.2.1))])] [] (laws_eqSlot.res a0 a1 y) (laws_eqSlot.out a0 a1 y) := by
  refine spec_intro (G104_ok.at tok []) (ct := [(4, some [2, 3, 14])]) Tryz.func139 rfl (by kernel_rfl) (by kernel_rfl) rfl ?_
  repeat' first
    | ((with_reducible refine eqg ?_); exact rfl)
    | ((with_reducible refine KOb.mk ?_); kernel_rfl)
    | ((with_reducible intro h); (repeat first | replace H := grd_k H | replace H := out_step H ‹_›); first | replace H := cond_t h H | replace H := cond_f h H | exact absurd h (by decide) | skip)
    | ((with_reducible refine Ob.mk ?_); first | (with_reducible rfl) | (first | ((repeat (first | (with_reducible exact grd_p H) | replace H := grd_k H | replace H := out_step H ‹_›)); done) | rfl | ((repeat (first | exact grd_p H | (have hp := grd_p H; exact hp) | replace H := grd_k H | replace H := out_step H ‹_› | (replace H := bind_some H; obtain ⟨_, _, H⟩ := H))); done) | (repeat (first | exact grd_p H | replace H := grd_k H | replace H := out_step H ‹_›))))
    | (with_reducible exact True.intro)
    | ((conv => whnf); first
        | (with_reducible refine And.intro ?_ ?_)
        | (with_reducible exact True.intro)
        | (with_reducible refine (?_ : Ob _))
        | ((with_reducible refine fin_mk ?_); (repeat first | replace H := grd_k H | replace H := out_step H ‹_›); have H := Option.some.inj H; subst H))
    | constructor
def G105 : Env := G104.add 139 [] laws_eqSlot.S
theorem G105_ok : EnvOk Tryz.prog G105 := G104_ok.add ent_139 fun ar h r h1 ⟨a0, a1, y, hy, e1, e2, e3, e4⟩ => by
  subst e3 e4; exact (laws_eqSlot.spec a0 a1 y hy).le e1 e2
attribute [local irreducible] laws_eqSlot

noncomputable def laws_eqSlotS_loop1 (a0 : (List Slot)) (a1 : (List Slot)) (v4 : Int) : Option (Lp (Int) ((Unit) ⊕ (Unit))) :=
  (cond (decide (v4 < (a0.length : Int))) (grd (0 ≤ v4 ∧ v4 < (a0.length : Int)) (grd (0 ≤ v4 ∧ v4 < (a1.length : Int)) ((laws_eqSlot ((a0.getD v4.toNat d_Slot).1, (a0.getD v4.toNat d_Slot).2.1, (a0.getD v4.toNat d_Slot).2.2.1, ()) ((a1.getD v4.toNat d_Slot).1, (a1.getD v4.toNat d_Slot).2.1, (a1.getD v4.toNat d_Slot).2.2.1, ())).bind fun y5 => (cond (!y5) ((some (.out (Sum.inl ())))) (some (.go (w64 (v4 + (1 : Int))))))))) ((some (.out (Sum.inr ())))))
noncomputable def laws_eqSlotS (a0 : (List Slot)) (a1 : (List Slot)) : Option (Bool) :=
  (cond (!decide ((a0.length : Int) = (a1.length : Int))) ((some false)) ((iter (fun s => laws_eqSlotS_loop1 a0 a1 s) (0 : Int)).bind (Sum.elim (fun _ => (some false)) (fun _ => (some true)))))
def laws_eqSlotS.res (_ : (List Slot)) (_ : (List Slot)) (y : Bool) : AV := (.bl y)
def laws_eqSlotS.out (_ : (List Slot)) (_ : (List Slot)) (_ : Bool) : List (Option LB) := []
def laws_eqSlotS.S (ar : List AV) (h : List (Option LB)) (r : AV) (h1 : List (Option LB)) : Prop := ∃ a0 a1 y, laws_eqSlotS a0 a1 = some y ∧ leL ar [(.tree ty_Slot a0), (.tree ty_Slot a1)] ∧ leH h [] ∧ r = laws_eqSlotS.res a0 a1 y ∧ h1 = laws_eqSlotS.out a0 a1 y
theorem laws_eqSlotS.call {ar : List AV} {h : List (Option LB)} {a0 : (List Slot)} {a1 : (List Slot)} {y : Bool} (H : laws_eqSlotS a0 a1 = some y) (h0 : leLk ar [(.tree ty_Slot a0), (.tree ty_Slot a1)] (leHk h [])) : laws_eqSlotS.S ar h (laws_eqSlotS.res a0 a1 y) (laws_eqSlotS.out a0 a1 y) := ⟨a0, a1, y, H, (args_ok h0).1, (args_ok h0).2, rfl, rfl⟩
theorem laws_eqSlotS.spec (a0 : (List Slot)) (a1 : (List Slot)) (y : Bool) (H : laws_eqSlotS a0 a1 = some y) : Spec Tryz.prog 93 [(.tree ty_Slot a0), (.tree ty_Slot a1)] [] (laws_eqSlotS.res a0 a1 y) (laws_eqSlotS.out a0 a1 y) := by
  refine spec_intro (G105_ok.at tok []) (ct := [(7, some [0, 1, 5, 26])]) Tryz.func93 rfl (by kernel_rfl) (by kernel_rfl) rfl ?_
  repeat' first
    | ((with_reducible refine eqg ?_); exact rfl)
    | ((with_reducible refine KOb.mk ?_); kernel_rfl)
    | ((with_reducible intro h); (repeat first | replace H := grd_k H | replace H := out_step H ‹_›); first | replace H := cond_t h H | replace H := cond_f h H | exact absurd h (by decide) | skip)
    | ((with_reducible refine Ob.mk ?_); first | (with_reducible rfl) | (first | ((repeat (first | (with_reducible exact grd_p H) | replace H := grd_k H | replace H := out_step H ‹_›)); done) | rfl | ((repeat (first | exact grd_p H | (have hp := grd_p H; exact hp) | replace H := grd_k H | replace H := out_step H ‹_› | (replace H := bind_some H; obtain ⟨_, _, H⟩ := H))); done) | (repeat (first | exact grd_p H | replace H := grd_k H | replace H := out_step H ‹_›))))
    | (with_reducible exact True.intro)
    | ((conv => whnf); first
        | (with_reducible refine And.intro ?_ ?_)
        | (with_reducible exact True.intro)
        | (with_reducible refine (?_ : Ob _))
        | ((with_reducible refine CallW.mk ?_); (repeat first | replace H := grd_k H | replace H := out_step H ‹_›); replace H := bind_some H; obtain ⟨y, hy, H⟩ := H; first | ((with_reducible have hz : laws_eqSlot _ _ = some y := hy); clear hz; refine ⟨_, _, laws_eqSlot.call hy ?_, rfl, rfl, ?_⟩))
        | ((repeat first | replace H := grd_k H | replace H := out_step H ‹_›); refine loop_iter (G105_ok.at tok []) (ct := [(7, some [0, 1, 5, 26])]) (F := (fun s1 : Int => ⟨sl [(0, (.tree ty_Slot a0)), (1, (.tree ty_Slot a1)), (5, (.v (.int .i64 s1)))], []⟩)) (step := (fun s : Int => laws_eqSlotS_loop1 _ _ s)) _ H (by kernel_rfl) (sub_auto ?_) ?_; rotate_left; (intro s1 r v hr H); rotate_right)
        | ((repeat first | replace H := grd_k H | replace H := out_step H ‹_›); refine again_step H (by assumption) (sub_auto ?_))
        | ((with_reducible refine fin_mk ?_); (repeat first | replace H := grd_k H | replace H := out_step H ‹_›); have H := Option.some.inj H; subst H))
    | constructor
def G106 : Env := G105.add 93 [] laws_eqSlotS.S
theorem G106_ok : EnvOk Tryz.prog G106 := G105_ok.add ent_93 fun ar h r h1 ⟨a0, a1, y, hy, e1, e2, e3, e4⟩ => by
  subst e3 e4; exact (laws_eqSlotS.spec a0 a1 y hy).le e1 e2
attribute [local irreducible] laws_eqSlotS

noncomputable def laws_eqRopeway (a0 : Ropeway) (a1 : Ropeway) : Option (Bool) :=
  (cond (!decide (a0.1 = a1.1)) ((some false)) ((laws_eqSlotS a0.2.1 a1.2.1).bind fun y1 => (cond (!y1) ((some false)) (cond (!decide (a0.2.2.1 = a1.2.2.1)) ((some false)) (cond (!decide (a0.2.2.2.1 = a1.2.2.2.1)) ((some false)) (cond (!decide (a0.2.2.2.2.1 = a1.2.2.2.2.1)) ((some false)) ((some true))))))))
def laws_eqRopeway.res (_ : Ropeway) (_ : Ropeway) (y : Bool) : AV := (.bl y)
def laws_eqRopeway.out (_ : Ropeway) (_ : Ropeway) (_ : Bool) : List (Option LB) := []
def laws_eqRopeway.S (ar : List AV) (h : List (Option LB)) (r : AV) (h1 : List (Option LB)) : Prop := ∃ a0 a1 y, laws_eqRopeway a0 a1 = some y ∧ leL ar [(.agg [(.v (.int .i64 a0.1)), (.tree ty_Slot a0.2.1), (.v (.int .i64 a0.2.2.1)), (.v (.int .i64 a0.2.2.2.1)), (.v (.int .i64 a0.2.2.2.2.1))]), (.agg [(.v (.int .i64 a1.1)), (.tree ty_Slot a1.2.1), (.v (.int .i64 a1.2.2.1)), (.v (.int .i64 a1.2.2.2.1)), (.v (.int .i64 a1.2.2.2.2.1))])] ∧ leH h [] ∧ r = laws_eqRopeway.res a0 a1 y ∧ h1 = laws_eqRopeway.out a0 a1 y
theorem laws_eqRopeway.call {ar : List AV} {h : List (Option LB)} {a0 : Ropeway} {a1 : Ropeway} {y : Bool} (H : laws_eqRopeway a0 a1 = some y) (h0 : leLk ar [(.agg [(.v (.int .i64 a0.1)), (.tree ty_Slot a0.2.1), (.v (.int .i64 a0.2.2.1)), (.v (.int .i64 a0.2.2.2.1)), (.v (.int .i64 a0.2.2.2.2.1))]), (.agg [(.v (.int .i64 a1.1)), (.tree ty_Slot a1.2.1), (.v (.int .i64 a1.2.2.1)), (.v (.int .i64 a1.2.2.2.1)), (.v (.int .i64 a1.2.2.2.2.1))])] (leHk h [])) : laws_eqRopeway.S ar h (laws_eqRopeway.res a0 a1 y) (laws_eqRopeway.out a0 a1 y) := ⟨a0, a1, y, H, (args_ok h0).1, (args_ok h0).2, rfl, rfl⟩
theorem laws_eqRopeway.spec (a0 : Ropeway) (a1 : Ropeway) (y : Bool) (H : laws_eqRopeway a0 a1 = some y) : Spec Tryz.prog 50 [(.agg [(.v (.int .i64 a0.1)), (.tree ty_Slot a0.2.1), (.v (.int .i64 a0.2.2.1)), (.v (.int .i64 a0.2.2.2.1)), (.v (.int .i64 a0.2.2.2.2.1))]), (.agg [(.v (.int .i64 a1.1)), (.tree ty_Slot a1.2.1), (.v (.int .i64 a1.2.2.1)), (.v (.int .i64 a1.2.2.2.1)), (.v (.int .i64 a1.2.2.2.2.1))])] [] (laws_eqRopeway.res a0 a1 y) (laws_eqRopeway.out a0 a1 y) := by
  refine spec_intro (G106_ok.at tok []) (ct := [(4, some [2, 3, 15]), (10, some [30])]) Tryz.func50 rfl (by kernel_rfl) (by kernel_rfl) rfl ?_
  repeat' first
    | ((with_reducible refine eqg ?_); exact rfl)
    | ((with_reducible refine KOb.mk ?_); kernel_rfl)
    | ((with_reducible intro h); (repeat first | replace H := grd_k H | replace H := out_step H ‹_›); first | replace H := cond_t h H | replace H := cond_f h H | exact absurd h (by decide) | skip)
    | ((with_reducible refine Ob.mk ?_); first | (with_reducible rfl) | (first | ((repeat (first | (with_reducible exact grd_p H) | replace H := grd_k H | replace H := out_step H ‹_›)); done) | rfl | ((repeat (first | exact grd_p H | (have hp := grd_p H; exact hp) | replace H := grd_k H | replace H := out_step H ‹_› | (replace H := bind_some H; obtain ⟨_, _, H⟩ := H))); done) | (repeat (first | exact grd_p H | replace H := grd_k H | replace H := out_step H ‹_›))))
    | (with_reducible exact True.intro)
    | ((conv => whnf); first
        | (with_reducible refine And.intro ?_ ?_)
        | (with_reducible exact True.intro)
        | (with_reducible refine (?_ : Ob _))
        | ((with_reducible refine CallW.mk ?_); (repeat first | replace H := grd_k H | replace H := out_step H ‹_›); replace H := bind_some H; obtain ⟨y, hy, H⟩ := H; first | ((with_reducible have hz : laws_eqSlotS _ _ = some y := hy); clear hz; refine ⟨_, _, laws_eqSlotS.call hy ?_, rfl, rfl, ?_⟩))
        | ((with_reducible refine fin_mk ?_); (repeat first | replace H := grd_k H | replace H := out_step H ‹_›); have H := Option.some.inj H; subst H))
    | constructor
def G107 : Env := G106.add 50 [] laws_eqRopeway.S
theorem G107_ok : EnvOk Tryz.prog G107 := G106_ok.add ent_50 fun ar h r h1 ⟨a0, a1, y, hy, e1, e2, e3, e4⟩ => by
  subst e3 e4; exact (laws_eqRopeway.spec a0 a1 y hy).le e1 e2
attribute [local irreducible] laws_eqRopeway

noncomputable def laws_eqLog (a0 : Log) (a1 : Log) : Option (Bool) :=
  (cond (!decide (a0.1 = a1.1)) ((some false)) (cond (!decide (a0.2.1 = a1.2.1)) ((some false)) (cond (!decide (a0.2.2.1 = a1.2.2.1)) ((some false)) ((some true)))))
def laws_eqLog.res (_ : Log) (_ : Log) (y : Bool) : AV := (.bl y)
def laws_eqLog.out (_ : Log) (_ : Log) (_ : Bool) : List (Option LB) := []
def laws_eqLog.S (ar : List AV) (h : List (Option LB)) (r : AV) (h1 : List (Option LB)) : Prop := ∃ a0 a1 y, laws_eqLog a0 a1 = some y ∧ leL ar [(.agg [(.v (.string a0.1)), (.v (.string a0.2.1)), (.v (.int .i64 a0.2.2.1))]), (.agg [(.v (.string a1.1)), (.v (.string a1.2.1)), (.v (.int .i64 a1.2.2.1))])] ∧ leH h [] ∧ r = laws_eqLog.res a0 a1 y ∧ h1 = laws_eqLog.out a0 a1 y
theorem laws_eqLog.call {ar : List AV} {h : List (Option LB)} {a0 : Log} {a1 : Log} {y : Bool} (H : laws_eqLog a0 a1 = some y) (h0 : leLk ar [(.agg [(.v (.string a0.1)), (.v (.string a0.2.1)), (.v (.int .i64 a0.2.2.1))]), (.agg [(.v (.string a1.1)), (.v (.string a1.2.1)), (.v (.int .i64 a1.2.2.1))])] (leHk h [])) : laws_eqLog.S ar h (laws_eqLog.res a0 a1 y) (laws_eqLog.out a0 a1 y) := ⟨a0, a1, y, H, (args_ok h0).1, (args_ok h0).2, rfl, rfl⟩
theorem laws_eqLog.spec (a0 : Log) (a1 : Log) (y : Bool) (H : laws_eqLog a0 a1 = some y) : Spec Tryz.prog 51 [(.agg [(.v (.string a0.1)), (.v (.string a0.2.1)), (.v (.int .i64 a0.2.2.1))]), (.agg [(.v (.string a1.1)), (.v (.string a1.2.1)), (.v (.int .i64 a1.2.2.1))])] [] (laws_eqLog.res a0 a1 y) (laws_eqLog.out a0 a1 y) := by
  refine spec_intro (G107_ok.at tok []) (ct := [(4, some [2, 3, 14])]) Tryz.func51 rfl (by kernel_rfl) (by kernel_rfl) rfl ?_
  repeat' first
    | ((with_reducible refine eqg ?_); exact rfl)
    | ((with_reducible refine KOb.mk ?_); kernel_rfl)
    | ((with_reducible intro h); (repeat first | replace H := grd_k H | replace H := out_step H ‹_›); first | replace H := cond_t h H | replace H := cond_f h H | exact absurd h (by decide) | skip)
    | ((with_reducible refine Ob.mk ?_); first | (with_reducible rfl) | (first | ((repeat (first | (with_reducible exact grd_p H) | replace H := grd_k H | replace H := out_step H ‹_›)); done) | rfl | ((repeat (first | exact grd_p H | (have hp := grd_p H; exact hp) | replace H := grd_k H | replace H := out_step H ‹_› | (replace H := bind_some H; obtain ⟨_, _, H⟩ := H))); done) | (repeat (first | exact grd_p H | replace H := grd_k H | replace H := out_step H ‹_›))))
    | (with_reducible exact True.intro)
    | ((conv => whnf); first
        | (with_reducible refine And.intro ?_ ?_)
        | (with_reducible exact True.intro)
        | (with_reducible refine (?_ : Ob _))
        | ((with_reducible refine fin_mk ?_); (repeat first | replace H := grd_k H | replace H := out_step H ‹_›); have H := Option.some.inj H; subst H))
    | constructor
def G108 : Env := G107.add 51 [] laws_eqLog.S
theorem G108_ok : EnvOk Tryz.prog G108 := G107_ok.add ent_51 fun ar h r h1 ⟨a0, a1, y, hy, e1, e2, e3, e4⟩ => by
  subst e3 e4; exact (laws_eqLog.spec a0 a1 y hy).le e1 e2
attribute [local irreducible] laws_eqLog

end Go.Proofs.YtaobinhdnklojaaGreatDoor
namespace Go.Proofs.YtaobinhdnklojaaGreatDoor
open Go.RowKit
set_option maxHeartbeats 100000000
set_option maxRecDepth 100000
attribute [local irreducible] Ob loopwp Sub Spec Fin Again CallW CutC KOb iter

attribute [local irreducible] spec_l1Num_f slices_IndexFunc___impl_Slot_impl_Slot__i2 slices_IndexFunc___impl_Slot_impl_Slot__i3 slices_ContainsFunc___impl_Slot_impl_Slot__i2 slices_Clone___impl_Slot_impl_Slot__i1 impl_copyRopeway_i1 laws_eqRopeway laws_eqLog

noncomputable def laws_eqConsole (a0 : Console) (a1 : Console) : Option (Bool) :=
  ((laws_eqRopeway (a0.1.1, a0.1.2.1, a0.1.2.2.1, a0.1.2.2.2.1, a0.1.2.2.2.2.1, ()) (a1.1.1, a1.1.2.1, a1.1.2.2.1, a1.1.2.2.2.1, a1.1.2.2.2.2.1, ())).bind fun y1 => (cond (!y1) ((some false)) ((laws_eqLog (a0.2.1.1, a0.2.1.2.1, a0.2.1.2.2.1, ()) (a1.2.1.1, a1.2.1.2.1, a1.2.1.2.2.1, ())).bind fun y2 => (cond (!y2) ((some false)) ((some true))))))
def laws_eqConsole.res (_ : Console) (_ : Console) (y : Bool) : AV := (.bl y)
def laws_eqConsole.out (_ : Console) (_ : Console) (_ : Bool) : List (Option LB) := []
def laws_eqConsole.S (ar : List AV) (h : List (Option LB)) (r : AV) (h1 : List (Option LB)) : Prop := ∃ a0 a1 y, laws_eqConsole a0 a1 = some y ∧ leL ar [(.agg [(.v (.int .i64 a0.1.1)), (.tree ty_Slot a0.1.2.1), (.v (.int .i64 a0.1.2.2.1)), (.v (.int .i64 a0.1.2.2.2.1)), (.v (.int .i64 a0.1.2.2.2.2.1)), (.v (.string a0.2.1.1)), (.v (.string a0.2.1.2.1)), (.v (.int .i64 a0.2.1.2.2.1))]), (.agg [(.v (.int .i64 a1.1.1)), (.tree ty_Slot a1.1.2.1), (.v (.int .i64 a1.1.2.2.1)), (.v (.int .i64 a1.1.2.2.2.1)), (.v (.int .i64 a1.1.2.2.2.2.1)), (.v (.string a1.2.1.1)), (.v (.string a1.2.1.2.1)), (.v (.int .i64 a1.2.1.2.2.1))])] ∧ leH h [] ∧ r = laws_eqConsole.res a0 a1 y ∧ h1 = laws_eqConsole.out a0 a1 y
theorem laws_eqConsole.call {ar : List AV} {h : List (Option LB)} {a0 : Console} {a1 : Console} {y : Bool} (H : laws_eqConsole a0 a1 = some y) (h0 : leLk ar [(.agg [(.v (.int .i64 a0.1.1)), (.tree ty_Slot a0.1.2.1), (.v (.int .i64 a0.1.2.2.1)), (.v (.int .i64 a0.1.2.2.2.1)), (.v (.int .i64 a0.1.2.2.2.2.1)), (.v (.string a0.2.1.1)), (.v (.string a0.2.1.2.1)), (.v (.int .i64 a0.2.1.2.2.1))]), (.agg [(.v (.int .i64 a1.1.1)), (.tree ty_Slot a1.1.2.1), (.v (.int .i64 a1.1.2.2.1)), (.v (.int .i64 a1.1.2.2.2.1)), (.v (.int .i64 a1.1.2.2.2.2.1)), (.v (.string a1.2.1.1)), (.v (.string a1.2.1.2.1)), (.v (.int .i64 a1.2.1.2.2.1))])] (leHk h [])) : laws_eqConsole.S ar h (laws_eqConsole.res a0 a1 y) (laws_eqConsole.out a0 a1 y) := ⟨a0, a1, y, H, (args_ok h0).1, (args_ok h0).2, rfl, rfl⟩
theorem laws_eqConsole.spec (a0 : Console) (a1 : Console) (y : Bool) (H : laws_eqConsole a0 a1 = some y) : Spec Tryz.prog 16 [(.agg [(.v (.int .i64 a0.1.1)), (.tree ty_Slot a0.1.2.1), (.v (.int .i64 a0.1.2.2.1)), (.v (.int .i64 a0.1.2.2.2.1)), (.v (.int .i64 a0.1.2.2.2.2.1)), (.v (.string a0.2.1.1)), (.v (.string a0.2.1.2.1)), (.v (.int .i64 a0.2.1.2.2.1))]), (.agg [(.v (.int .i64 a1.1.1)), (.tree ty_Slot a1.1.2.1), (.v (.int .i64 a1.1.2.2.1)), (.v (.int .i64 a1.1.2.2.2.1)), (.v (.int .i64 a1.1.2.2.2.2.1)), (.v (.string a1.2.1.1)), (.v (.string a1.2.1.2.1)), (.v (.int .i64 a1.2.1.2.2.1))])] [] (laws_eqConsole.res a0 a1 y) (laws_eqConsole.out a0 a1 y) := by
  refine spec_intro (G108_ok.at tok []) (ct := [(4, some [16])]) Tryz.func16 rfl (by kernel_rfl) (by kernel_rfl) rfl ?_
  repeat' first
    | ((with_reducible refine eqg ?_); exact rfl)
    | ((with_reducible refine KOb.mk ?_); kernel_rfl)
    | ((with_reducible intro h); (repeat first | replace H := grd_k H | replace H := out_step H ‹_›); first | replace H := cond_t h H | replace H := cond_f h H | exact absurd h (by decide) | skip)
    | ((with_reducible refine Ob.mk ?_); first | (with_reducible rfl) | (first | ((repeat (first | (with_reducible exact grd_p H) | replace H := grd_k H | replace H := out_step H ‹_›)); done) | rfl | ((repeat (first | exact grd_p H | (have hp := grd_p H; exact hp) | replace H := grd_k H | replace H := out_step H ‹_› | (replace H := bind_some H; obtain ⟨_, _, H⟩ := H))); done) | (repeat (first | exact grd_p H | replace H := grd_k H | replace H := out_step H ‹_›))))
    | (with_reducible exact True.intro)
    | ((conv => whnf); first
        | (with_reducible refine And.intro ?_ ?_)
        | (with_reducible exact True.intro)
        | (with_reducible refine (?_ : Ob _))
        | ((with_reducible refine CallW.mk ?_); (repeat first | replace H := grd_k H | replace H := out_step H ‹_›); replace H := bind_some H; obtain ⟨y, hy, H⟩ := H; first | ((with_reducible have hz : laws_eqRopeway _ _ = some y := hy); clear hz; refine ⟨_, _, laws_eqRopeway.call hy ?_, rfl, rfl, ?_⟩) | ((with_reducible have hz : laws_eqLog _ _ = some y := hy); clear hz; refine ⟨_, _, laws_eqLog.call hy ?_, rfl, rfl, ?_⟩))
        | ((with_reducible refine fin_mk ?_); (repeat first | replace H := grd_k H | replace H := out_step H ‹_›); have H := Option.some.inj H; subst H))
    | constructor
def G109 : Env := G108.add 16 [] laws_eqConsole.S
theorem G109_ok : EnvOk Tryz.prog G109 := G108_ok.add ent_16 fun ar h r h1 ⟨a0, a1, y, hy, e1, e2, e3, e4⟩ => by
  subst e3 e4; exact (laws_eqConsole.spec a0 a1 y hy).le e1 e2
attribute [local irreducible] laws_eqConsole

noncomputable def laws_markSlotS_loop1  (v4 : Int) (v5 : Int) (v6 : (List Slot)) : Option (Lp (Int × Int × (List Slot)) ((Int × (List Slot)))) :=
  (cond (decide (v5 < (v6.length : Int))) (grd (0 ≤ v5 ∧ v5 < (v6.length : Int)) (grd ((3 : Int) ≠ 0) (grd (0 ≤ v5 ∧ v5 < ((v6.set v5.toNat (v4, (v6.getD v5.toNat d_Slot).2.1, (v6.getD v5.toNat d_Slot).2.2.1, ())).length : Int)) (grd (0 ≤ v5 ∧ v5 < (((v6.set v5.toNat (v4, (v6.getD v5.toNat d_Slot).2.1, (v6.getD v5.toNat d_Slot).2.2.1, ())).set v5.toNat (((v6.set v5.toNat (v4, (v6.getD v5.toNat d_Slot).2.1, (v6.getD v5.toNat d_Slot).2.2.1, ())).getD v5.toNat d_Slot).1, (decide ((Int.tmod (w64 (v4 + (1 : Int))) (3 : Int)) = (0 : Int))), ((v6.set v5.toNat (v4, (v6.getD v5.toNat d_Slot).2.1, (v6.getD v5.toNat d_Slot).2.2.1, ())).getD v5.toNat d_Slot).2.2.1, ())).length : Int)) (some (.go ((w64 ((w64 ((w64 (v4 + (1 : Int))) + (1 : Int))) + (1 : Int))), (w64 (v5 + (1 : Int))), (((v6.set v5.toNat (v4, (v6.getD v5.toNat d_Slot).2.1, (v6.getD v5.toNat d_Slot).2.2.1, ())).set v5.toNat (((v6.set v5.toNat (v4, (v6.getD v5.toNat d_Slot).2.1, (v6.getD v5.toNat d_Slot).2.2.1, ())).getD v5.toNat d_Slot).1, (decide ((Int.tmod (w64 (v4 + (1 : Int))) (3 : Int)) = (0 : Int))), ((v6.set v5.toNat (v4, (v6.getD v5.toNat d_Slot).2.1, (v6.getD v5.toNat d_Slot).2.2.1, ())).getD v5.toNat d_Slot).2.2.1, ())).set v5.toNat ((((v6.set v5.toNat (v4, (v6.getD v5.toNat d_Slot).2.1, (v6.getD v5.toNat d_Slot).2.2.1, ())).set v5.toNat (((v6.set v5.toNat (v4, (v6.getD v5.toNat d_Slot).2.1, (v6.getD v5.toNat d_Slot).2.2.1, ())).getD v5.toNat d_Slot).1, (decide ((Int.tmod (w64 (v4 + (1 : Int))) (3 : Int)) = (0 : Int))), ((v6.set v5.toNat (v4, (v6.getD v5.toNat d_Slot).2.1, (v6.getD v5.toNat d_Slot).2.2.1, ())).getD v5.toNat d_Slot).2.2.1, ())).getD v5.toNat d_Slot).1, (((v6.set v5.toNat (v4, (v6.getD v5.toNat d_Slot).2.1, (v6.getD v5.toNat d_Slot).2.2.1, ())).set v5.toNat (((v6.set v5.toNat (v4, (v6.getD v5.toNat d_Slot).2.1, (v6.getD v5.toNat d_Slot).2.2.1, ())).getD v5.toNat d_Slot).1, (decide ((Int.tmod (w64 (v4 + (1 : Int))) (3 : Int)) = (0 : Int))), ((v6.set v5.toNat (v4, (v6.getD v5.toNat d_Slot).2.1, (v6.getD v5.toNat d_Slot).2.2.1, ())).getD v5.toNat d_Slot).2.2.1, ())).getD v5.toNat d_Slot).2.1, (w64 ((w64 (v4 + (1 : Int))) + (1 : Int))), ()))))))))) ((some (.out (v4, v6)))))
noncomputable def laws_markSlotS (a0 : (List Slot)) (a1 : Int) : Option (Int × (List Slot)) :=
  ((iter (fun s => laws_markSlotS_loop1 s.1 s.2.1 s.2.2) (a1, (0 : Int), a0)).bind (fun r7 => (some (r7.1, r7.2))))
def laws_markSlotS.res (_ : (List Slot)) (_ : Int) (y : Int × (List Slot)) : AV := (.v (.int .i64 y.1))
def laws_markSlotS.out (_ : (List Slot)) (_ : Int) (y : Int × (List Slot)) : List (Option LB) := [some (.arr 96 ty_Slot y.2)]
def laws_markSlotS.S (ar : List AV) (h : List (Option LB)) (r : AV) (h1 : List (Option LB)) : Prop := ∃ a0 a1 y, laws_markSlotS a0 a1 = some y ∧ leL ar [(.own 0), (.v (.int .i64 a1))] ∧ leH h [some (.arr 96 ty_Slot a0)] ∧ r = laws_markSlotS.res a0 a1 y ∧ h1 = laws_markSlotS.out a0 a1 y
theorem laws_markSlotS.call {ar : List AV} {h : List (Option LB)} {a0 : (List Slot)} {a1 : Int} {y : Int × (List Slot)} (H : laws_markSlotS a0 a1 = some y) (h0 : leLk ar [(.own 0), (.v (.int .i64 a1))] (leHk h [some (.arr 96 ty_Slot a0)])) : laws_markSlotS.S ar h (laws_markSlotS.res a0 a1 y) (laws_markSlotS.out a0 a1 y) := ⟨a0, a1, y, H, (args_ok h0).1, (args_ok h0).2, rfl, rfl⟩
theorem laws_markSlotS.spec (a0 : (List Slot)) (a1 : Int) (y : Int × (List Slot)) (H : laws_markSlotS a0 a1 = some y) : Spec Tryz.prog 94 [(.own 0), (.v (.int .i64 a1))] [some (.arr 96 ty_Slot a0)] (laws_markSlotS.res a0 a1 y) (laws_markSlotS.out a0 a1 y) := by
  refine spec_intro (G109_ok.at tok []) (ct := [(7, some [0, 1, 5])]) Tryz.func94 rfl (by kernel_rfl) (by kernel_rfl) rfl ?_
  repeat' first
    | ((with_reducible refine eqg ?_); exact rfl)
    | ((with_reducible refine KOb.mk ?_); kernel_rfl)
    | ((with_reducible intro h); (repeat first | replace H := grd_k H | replace H := out_step H ‹_›); first | replace H := cond_t h H | replace H := cond_f h H | exact absurd h (by decide) | skip)
    | ((with_reducible refine Ob.mk ?_); first | (with_reducible rfl) | (first | ((repeat (first | (with_reducible exact grd_p H) | replace H := grd_k H | replace H := out_step H ‹_›)); done) | rfl | ((repeat (first | exact grd_p H | (have hp := grd_p H; exact hp) | replace H := grd_k H | replace H := out_step H ‹_› | (replace H := bind_some H; obtain ⟨_, _, H⟩ := H))); done) | (repeat (first | exact grd_p H | replace H := grd_k H | replace H := out_step H ‹_›))))
    | (with_reducible exact True.intro)
    | ((conv => whnf); first
        | (with_reducible refine And.intro ?_ ?_)
        | (with_reducible exact True.intro)
        | (with_reducible refine (?_ : Ob _))
        | ((repeat first | replace H := grd_k H | replace H := out_step H ‹_›); refine loop_iter (G109_ok.at tok []) (ct := [(7, some [0, 1, 5])]) (F := (fun s1 : Int × Int × (List Slot) => ⟨sl [(0, (.own 0)), (1, (.v (.int .i64 s1.1))), (5, (.v (.int .i64 s1.2.1)))], [some (.arr 96 ty_Slot s1.2.2)]⟩)) (step := (fun s : Int × Int × (List Slot) => laws_markSlotS_loop1 s.1 s.2.1 s.2.2)) _ H (by kernel_rfl) (sub_auto ?_) ?_; rotate_left; (intro s1 r v hr H); rotate_right)
        | ((repeat first | replace H := grd_k H | replace H := out_step H ‹_›); refine again_step H (by assumption) (sub_auto ?_))
        | ((with_reducible refine fin_mk ?_); (repeat first | replace H := grd_k H | replace H := out_step H ‹_›); have H := Option.some.inj H; subst H))
    | constructor
def G110 : Env := G109.add 94 [true] laws_markSlotS.S
theorem G110_ok : EnvOk Tryz.prog G110 := G109_ok.add ent_94 fun ar h r h1 ⟨a0, a1, y, hy, e1, e2, e3, e4⟩ => by
  subst e3 e4; exact (laws_markSlotS.spec a0 a1 y hy).le e1 e2
attribute [local irreducible] laws_markSlotS

noncomputable def laws_markRopeway (a0 : Ropeway) (a1 : Int) : Option (Int × (List Slot)) :=
  ((laws_markSlotS a0.2.1 a1).bind fun y1 => (some (y1.1, y1.2)))
def laws_markRopeway.res (_ : Ropeway) (_ : Int) (y : Int × (List Slot)) : AV := (.v (.int .i64 y.1))
def laws_markRopeway.out (_ : Ropeway) (_ : Int) (y : Int × (List Slot)) : List (Option LB) := [some (.arr 96 ty_Slot y.2)]
def laws_markRopeway.S (ar : List AV) (h : List (Option LB)) (r : AV) (h1 : List (Option LB)) : Prop := ∃ a0 a1 y, laws_markRopeway a0 a1 = some y ∧ leL ar [(.agg [(.v (.int .i64 a0.1)), (.own 0), (.v (.int .i64 a0.2.2.1)), (.v (.int .i64 a0.2.2.2.1)), (.v (.int .i64 a0.2.2.2.2.1))]), (.v (.int .i64 a1))] ∧ leH h [some (.arr 96 ty_Slot a0.2.1)] ∧ r = laws_markRopeway.res a0 a1 y ∧ h1 = laws_markRopeway.out a0 a1 y
theorem laws_markRopeway.call {ar : List AV} {h : List (Option LB)} {a0 : Ropeway} {a1 : Int} {y : Int × (List Slot)} (H : laws_markRopeway a0 a1 = some y) (h0 : leLk ar [(.agg [(.v (.int .i64 a0.1)), (.own 0), (.v (.int .i64 a0.2.2.1)), (.v (.int .i64 a0.2.2.2.1)), (.v (.int .i64 a0.2.2.2.2.1))]), (.v (.int .i64 a1))] (leHk h [some (.arr 96 ty_Slot a0.2.1)])) : laws_markRopeway.S ar h (laws_markRopeway.res a0 a1 y) (laws_markRopeway.out a0 a1 y) := ⟨a0, a1, y, H, (args_ok h0).1, (args_ok h0).2, rfl, rfl⟩
theorem laws_markRopeway.spec (a0 : Ropeway) (a1 : Int) (y : Int × (List Slot)) (H : laws_markRopeway a0 a1 = some y) : Spec Tryz.prog 52 [(.agg [(.v (.int .i64 a0.1)), (.own 0), (.v (.int .i64 a0.2.2.1)), (.v (.int .i64 a0.2.2.2.1)), (.v (.int .i64 a0.2.2.2.2.1))]), (.v (.int .i64 a1))] [some (.arr 96 ty_Slot a0.2.1)] (laws_markRopeway.res a0 a1 y) (laws_markRopeway.out a0 a1 y) := by
  refine spec_intro (G110_ok.at tok []) (ct := []) Tryz.func52 rfl (by kernel_rfl) (by kernel_rfl) rfl ?_
  repeat' first
    | ((with_reducible refine eqg ?_); exact rfl)
    | ((with_reducible refine KOb.mk ?_); kernel_rfl)
    | ((with_reducible intro h); (repeat first | replace H := grd_k H | replace H := out_step H ‹_›); first | replace H := cond_t h H | replace H := cond_f h H | exact absurd h (by decide) | skip)
    | ((with_reducible refine Ob.mk ?_); first | (with_reducible rfl) | (first | ((repeat (first | (with_reducible exact grd_p H) | replace H := grd_k H | replace H := out_step H ‹_›)); done) | rfl | ((repeat (first | exact grd_p H | (have hp := grd_p H; exact hp) | replace H := grd_k H | replace H := out_step H ‹_› | (replace H := bind_some H; obtain ⟨_, _, H⟩ := H))); done) | (repeat (first | exact grd_p H | replace H := grd_k H | replace H := out_step H ‹_›))))
    | (with_reducible exact True.intro)
    | ((conv => whnf); first
        | (with_reducible refine And.intro ?_ ?_)
        | (with_reducible exact True.intro)
        | (with_reducible refine (?_ : Ob _))
        | ((with_reducible refine CallW.mk ?_); (repeat first | replace H := grd_k H | replace H := out_step H ‹_›); replace H := bind_some H; obtain ⟨y, hy, H⟩ := H; first | ((with_reducible have hz : laws_markSlotS _ _ = some y := hy); clear hz; refine ⟨_, _, laws_markSlotS.call hy ?_, rfl, rfl, ?_⟩))
        | ((with_reducible refine fin_mk ?_); (repeat first | replace H := grd_k H | replace H := out_step H ‹_›); have H := Option.some.inj H; subst H))
    | constructor
def G111 : Env := G110.add 52 [true] laws_markRopeway.S
theorem G111_ok : EnvOk Tryz.prog G111 := G110_ok.add ent_52 fun ar h r h1 ⟨a0, a1, y, hy, e1, e2, e3, e4⟩ => by
  subst e3 e4; exact (laws_markRopeway.spec a0 a1 y hy).le e1 e2
attribute [local irreducible] laws_markRopeway

noncomputable def laws_markConsole (a0 : Console) (a1 : Int) : Option (Int × (List Slot)) :=
  ((laws_markRopeway (a0.1.1, a0.1.2.1, a0.1.2.2.1, a0.1.2.2.2.1, a0.1.2.2.2.2.1, ()) a1).bind fun y1 => (some (y1.1, y1.2)))
def laws_markConsole.res (_ : Console) (_ : Int) (y : Int × (List Slot)) : AV := (.v (.int .i64 y.1))
def laws_markConsole.out (_ : Console) (_ : Int) (y : Int × (List Slot)) : List (Option LB) := [some (.arr 96 ty_Slot y.2)]
def laws_markConsole.S (ar : List AV) (h : List (Option LB)) (r : AV) (h1 : List (Option LB)) : Prop := ∃ a0 a1 y, laws_markConsole a0 a1 = some y ∧ leL ar [(.agg [(.v (.int .i64 a0.1.1)), (.own 0), (.v (.int .i64 a0.1.2.2.1)), (.v (.int .i64 a0.1.2.2.2.1)), (.v (.int .i64 a0.1.2.2.2.2.1)), (.v (.string a0.2.1.1)), (.v (.string a0.2.1.2.1)), (.v (.int .i64 a0.2.1.2.2.1))]), (.v (.int .i64 a1))] ∧ leH h [some (.arr 96 ty_Slot a0.1.2.1)] ∧ r = laws_markConsole.res a0 a1 y ∧ h1 = laws_markConsole.out a0 a1 y
theorem laws_markConsole.call {ar : List AV} {h : List (Option LB)} {a0 : Console} {a1 : Int} {y : Int × (List Slot)} (H : laws_markConsole a0 a1 = some y) (h0 : leLk ar [(.agg [(.v (.int .i64 a0.1.1)), (.own 0), (.v (.int .i64 a0.1.2.2.1)), (.v (.int .i64 a0.1.2.2.2.1)), (.v (.int .i64 a0.1.2.2.2.2.1)), (.v (.string a0.2.1.1)), (.v (.string a0.2.1.2.1)), (.v (.int .i64 a0.2.1.2.2.1))]), (.v (.int .i64 a1))] (leHk h [some (.arr 96 ty_Slot a0.1.2.1)])) : laws_markConsole.S ar h (laws_markConsole.res a0 a1 y) (laws_markConsole.out a0 a1 y) := ⟨a0, a1, y, H, (args_ok h0).1, (args_ok h0).2, rfl, rfl⟩
theorem laws_markConsole.spec (a0 : Console) (a1 : Int) (y : Int × (List Slot)) (H : laws_markConsole a0 a1 = some y) : Spec Tryz.prog 17 [(.agg [(.v (.int .i64 a0.1.1)), (.own 0), (.v (.int .i64 a0.1.2.2.1)), (.v (.int .i64 a0.1.2.2.2.1)), (.v (.int .i64 a0.1.2.2.2.2.1)), (.v (.string a0.2.1.1)), (.v (.string a0.2.1.2.1)), (.v (.int .i64 a0.2.1.2.2.1))]), (.v (.int .i64 a1))] [some (.arr 96 ty_Slot a0.1.2.1)] (laws_markConsole.res a0 a1 y) (laws_markConsole.out a0 a1 y) := by
  refine spec_intro (G111_ok.at tok []) (ct := []) Tryz.func17 rfl (by kernel_rfl) (by kernel_rfl) rfl ?_
  repeat' first
    | ((with_reducible refine eqg ?_); exact rfl)
    | ((with_reducible refine KOb.mk ?_); kernel_rfl)
    | ((with_reducible intro h); (repeat first | replace H := grd_k H | replace H := out_step H ‹_›); first | replace H := cond_t h H | replace H := cond_f h H | exact absurd h (by decide) | skip)
    | ((with_reducible refine Ob.mk ?_); first | (with_reducible rfl) | (first | ((repeat (first | (with_reducible exact grd_p H) | replace H := grd_k H | replace H := out_step H ‹_›)); done) | rfl | ((repeat (first | exact grd_p H | (have hp := grd_p H; exact hp) | replace H := grd_k H | replace H := out_step H ‹_› | (replace H := bind_some H; obtain ⟨_, _, H⟩ := H))); done) | (repeat (first | exact grd_p H | replace H := grd_k H | replace H := out_step H ‹_›))))
    | (with_reducible exact True.intro)
    | ((conv => whnf); first
        | (with_reducible refine And.intro ?_ ?_)
        | (with_reducible exact True.intro)
        | (with_reducible refine (?_ : Ob _))
        | ((with_reducible refine CallW.mk ?_); (repeat first | replace H := grd_k H | replace H := out_step H ‹_›); replace H := bind_some H; obtain ⟨y, hy, H⟩ := H; first | ((with_reducible have hz : laws_markRopeway _ _ = some y := hy); clear hz; refine ⟨_, _, laws_markRopeway.call hy ?_, rfl, rfl, ?_⟩))
        | ((with_reducible refine fin_mk ?_); (repeat first | replace H := grd_k H | replace H := out_step H ‹_›); have H := Option.some.inj H; subst H))
    | constructor
def G112 : Env := G111.add 17 [true] laws_markConsole.S
theorem G112_ok : EnvOk Tryz.prog G112 := G111_ok.add ent_17 fun ar h r h1 ⟨a0, a1, y, hy, e1, e2, e3, e4⟩ => by
  subst e3 e4; exact (laws_markConsole.spec a0 a1 y hy).le e1 e2
attribute [local irreducible] laws_markConsole

noncomputable def laws_heldSlotS_loop1 (a0 : (List Slot)) (v3 : Int) (v4 : Int) : Option (Lp (Int × Int) ((Unit) ⊕ (Int))) :=
  (cond (decide (v4 < (a0.length : Int))) (grd (0 ≤ v4 ∧ v4 < (a0.length : Int)) (cond (!decide (((a0.getD v4.toNat d_Slot).1) = v3)) ((some (.out (Sum.inl ())))) (grd (0 ≤ v4 ∧ v4 < (a0.length : Int)) (grd ((3 : Int) ≠ 0) (cond (!(((a0.getD v4.toNat d_Slot).2.1) == (decide ((Int.tmod (w64 (v3 + (1 : Int))) (3 : Int)) = (0 : Int))))) ((some (.out (Sum.inl ())))) (grd (0 ≤ v4 ∧ v4 < (a0.length : Int)) (cond (!decide (((a0.getD v4.toNat d_Slot).2.2.1) = (w64 ((w64 (v3 + (1 : Int))) + (1 : Int))))) ((some (.out (Sum.inl ())))) (some (.go ((w64 ((w64 ((w64 (v3 + (1 : Int))) + (1 : Int))) + (1 : Int))), (w64 (v4 + (1 : Int))))))))))))) ((some (.out (Sum.inr v3)))))
noncomputable def laws_heldSlotS (a0 : (List Slot)) (a1 : Int) : Option (Int) :=
  ((iter (fun s => laws_heldSlotS_loop1 a0 s.1 s.2) (a1, (0 : Int))).bind (Sum.elim (fun _ => (some ((-1) : Int))) (fun r7 => (some r7))))
def laws_heldSlotS.res (_ : (List Slot)) (_ : Int) (y : Int) : AV := (.v (.int .i64 y))
def laws_heldSlotS.out (_ : (List Slot)) (_ : Int) (_ : Int) : List (Option LB) := []
def laws_heldSlotS.S (ar : List AV) (h : List (Option LB)) (r : AV) (h1 : List (Option LB)) : Prop := ∃ a0 a1 y, laws_heldSlotS a0 a1 = some y ∧ leL ar [(.tree ty_Slot a0), (.v (.int .i64 a1))] ∧ leH h [] ∧ r = laws_heldSlotS.res a0 a1 y ∧ h1 = laws_heldSlotS.out a0 a1 y
theorem laws_heldSlotS.call {ar : List AV} {h : List (Option LB)} {a0 : (List Slot)} {a1 : Int} {y : Int} (H : laws_heldSlotS a0 a1 = some y) (h0 : leLk ar [(.tree ty_Slot a0), (.v (.int .i64 a1))] (leHk h [])) : laws_heldSlotS.S ar h (laws_heldSlotS.res a0 a1 y) (laws_heldSlotS.out a0 a1 y) := ⟨a0, a1, y, H, (args_ok h0).1, (args_ok h0).2, rfl, rfl⟩
theorem laws_heldSlotS.spec (a0 : (List Slot)) (a1 : Int) (y : Int) (H : laws_heldSlotS a0 a1 = some y) : Spec Tryz.prog 95 [(.tree ty_Slot a0), (.v (.int .i64 a1))] [] (laws_heldSlotS.res a0 a1 y) (laws_heldSlotS.out a0 a1 y) := by
  refine spec_intro (G112_ok.at tok []) (ct := [(7, some [0, 1, 5]), (11, some [0, 1, 5, 38])]) Tryz.func95 rfl (by kernel_rfl) (by kernel_rfl) rfl ?_
  repeat' first
    | ((with_reducible refine eqg ?_); exact rfl)
    | ((with_reducible refine KOb.mk ?_); kernel_rfl)
    | ((with_reducible intro h); (repeat first | replace H := grd_k H | replace H := out_step H ‹_›); first | replace H := cond_t h H | replace H := cond_f h H | exact absurd h (by decide) | skip)
    | ((with_reducible refine Ob.mk ?_); first | (with_reducible rfl) | (first | ((repeat (first | (with_reducible exact grd_p H) | replace H := grd_k H | replace H := out_step H ‹_›)); done) | rfl | ((repeat (first | exact grd_p H | (have hp := grd_p H; exact hp) | replace H := grd_k H | replace H := out_step H ‹_› | (replace H := bind_some H; obtain ⟨_, _, H⟩ := H))); done) | (repeat (first | exact grd_p H | replace H := grd_k H | replace H := out_step H ‹_›))))
    | (with_reducible exact True.intro)
    | ((conv => whnf); first
        | (with_reducible refine And.intro ?_ ?_)
        | (with_reducible exact True.intro)
        | (with_reducible refine (?_ : Ob _))
        | ((repeat first | replace H := grd_k H | replace H := out_step H ‹_›); refine loop_iter (G112_ok.at tok []) (ct := [(7, some [0, 1, 5]), (11, some [0, 1, 5, 38])]) (F := (fun s1 : Int × Int => ⟨sl [(0, (.tree ty_Slot a0)), (1, (.v (.int .i64 s1.1))), (5, (.v (.int .i64 s1.2)))], []⟩)) (step := (fun s : Int × Int => laws_heldSlotS_loop1 _ s.1 s.2)) _ H (by kernel_rfl) (sub_auto ?_) ?_; rotate_left; (intro s1 r v hr H); rotate_right)
        | ((repeat first | replace H := grd_k H | replace H := out_step H ‹_›); refine again_step H (by assumption) (sub_auto ?_))
        | ((with_reducible refine fin_mk ?_); (repeat first | replace H := grd_k H | replace H := out_step H ‹_›); have H := Option.some.inj H; subst H))
    | constructor
def G113 : Env := G112.add 95 [] laws_heldSlotS.S
theorem G113_ok : EnvOk Tryz.prog G113 := G112_ok.add ent_95 fun ar h r h1 ⟨a0, a1, y, hy, e1, e2, e3, e4⟩ => by
  subst e3 e4; exact (laws_heldSlotS.spec a0 a1 y hy).le e1 e2
attribute [local irreducible] laws_heldSlotS

noncomputable def laws_heldRopeway (a0 : Ropeway) (a1 : Int) : Option (Int) :=
  ((laws_heldSlotS a0.2.1 a1).bind fun y1 => (cond (decide (y1 < (0 : Int))) ((some ((-1) : Int))) ((some y1))))
def laws_heldRopeway.res (_ : Ropeway) (_ : Int) (y : Int) : AV := (.v (.int .i64 y))
def laws_heldRopeway.out (_ : Ropeway) (_ : Int) (_ : Int) : List (Option LB) := []
def laws_heldRopeway.S (ar : List AV) (h : List (Option LB)) (r : AV) (h1 : List (Option LB)) : Prop := ∃ a0 a1 y, laws_heldRopeway a0 a1 = some y ∧ leL ar [(.agg [(.v (.int .i64 a0.1)), (.tree ty_Slot a0.2.1), (.v (.int .i64 a0.2.2.1)), (.v (.int .i64 a0.2.2.2.1)), (.v (.int .i64 a0.2.2.2.2.1))]), (.v (.int .i64 a1))] ∧ leH h [] ∧ r = laws_heldRopeway.res a0 a1 y ∧ h1 = laws_heldRopeway.out a0 a1 y
theorem laws_heldRopeway.call {ar : List AV} {h : List (Option LB)} {a0 : Ropeway} {a1 : Int} {y : Int} (H : laws_heldRopeway a0 a1 = some y) (h0 : leLk ar [(.agg [(.v (.int .i64 a0.1)), (.tree ty_Slot a0.2.1), (.v (.int .i64 a0.2.2.1)), (.v (.int .i64 a0.2.2.2.1)), (.v (.int .i64 a0.2.2.2.2.1))]), (.v (.int .i64 a1))] (leHk h [])) : laws_heldRopeway.S ar h (laws_heldRopeway.res a0 a1 y) (laws_heldRopeway.out a0 a1 y) := ⟨a0, a1, y, H, (args_ok h0).1, (args_ok h0).2, rfl, rfl⟩
theorem laws_heldRopeway.spec (a0 : Ropeway) (a1 : Int) (y : Int) (H : laws_heldRopeway a0 a1 = some y) : Spec Tryz.prog 53 [(.agg [(.v (.int .i64 a0.1)), (.tree ty_Slot a0.2.1), (.v (.int .i64 a0.2.2.1)), (.v (.int .i64 a0.2.2.2.1)), (.v (.int .i64 a0.2.2.2.2.1))]), (.v (.int .i64 a1))] [] (laws_heldRopeway.res a0 a1 y) (laws_heldRopeway.out a0 a1 y) := by
  refine spec_intro (G113_ok.at tok []) (ct := []) Tryz.func53 rfl (by kernel_rfl) (by kernel_rfl) rfl ?_
  repeat' first
    | ((with_reducible refine eqg ?_); exact rfl)
    | ((with_reducible refine KOb.mk ?_); kernel_rfl)
    | ((with_reducible intro h); (repeat first | replace H := grd_k H | replace H := out_step H ‹_›); first | replace H := cond_t h H | replace H := cond_f h H | exact absurd h (by decide) | skip)
    | ((with_reducible refine Ob.mk ?_); first | (with_reducible rfl) | (first | ((repeat (first | (with_reducible exact grd_p H) | replace H := grd_k H | replace H := out_step H ‹_›)); done) | rfl | ((repeat (first | exact grd_p H | (have hp := grd_p H; exact hp) | replace H := grd_k H | replace H := out_step H ‹_› | (replace H := bind_some H; obtain ⟨_, _, H⟩ := H))); done) | (repeat (first | exact grd_p H | replace H := grd_k H | replace H := out_step H ‹_›))))
    | (with_reducible exact True.intro)
    | ((conv => whnf); first
        | (with_reducible refine And.intro ?_ ?_)
        | (with_reducible exact True.intro)
        | (with_reducible refine (?_ : Ob _))
        | ((with_reducible refine CallW.mk ?_); (repeat first | replace H := grd_k H | replace H := out_step H ‹_›); replace H := bind_some H; obtain ⟨y, hy, H⟩ := H; first | ((with_reducible have hz : laws_heldSlotS _ _ = some y := hy); clear hz; refine ⟨_, _, laws_heldSlotS.call hy ?_, rfl, rfl, ?_⟩))
        | ((with_reducible refine fin_mk ?_); (repeat first | replace H := grd_k H | replace H := out_step H ‹_›); have H := Option.some.inj H; subst H))
    | constructor
def G114 : Env := G113.add 53 [] laws_heldRopeway.S
theorem G114_ok : EnvOk Tryz.prog G114 := G113_ok.add ent_53 fun ar h r h1 ⟨a0, a1, y, hy, e1, e2, e3, e4⟩ => by
  subst e3 e4; exact (laws_heldRopeway.spec a0 a1 y hy).le e1 e2
attribute [local irreducible] laws_heldRopeway

end Go.Proofs.YtaobinhdnklojaaGreatDoor
