/-
  Plain laws of numbers in texts, and of texts between separators.
-/
import Derived.Test.YtaobinhdnklojaaGreatDoorC8019
import Derived.Test.YtaobinhdnklojaaGreatDoorRows
import Derived.Test.YtaobinhdnklojaaGreatDoorB12
import Derived.WalkKit
import Derived.ProofKit
import Derived.OpenShut
import Derived.JoinedCond
import Derived.Deep.Slices
import Derived.Test.YtaobinhdnklojaaGreatDoorXQ
namespace Go.Proofs.YtaobinhdnklojaaGreatDoor
open Go.RowKit
set_option maxHeartbeats 100000000
set_option maxRecDepth 100000
attribute [local irreducible] Ob loopwp Sub Spec Fin Again CallW CutC KOb iter

attribute [local irreducible] spec_l1In spec_l25Good spec_l1Num_f spec_l27Open spec_l27Log spec_ExecuteCommand slices_IndexFunc___impl_Slot_impl_Slot__i2 slices_IndexFunc___impl_Slot_impl_Slot__i3 slices_ContainsFunc___impl_Slot_impl_Slot__i2 slices_Clone___impl_Slot_impl_Slot__i1 impl_copyRopeway_i1

noncomputable def spec_NewRopeway (a0 : Int) (a1 : Int) : Option ((Ropeway) ⊕ (Ropeway)) :=
  ((spec_l1In a0 (4 : Int) (10 : Int)).bind fun y1 => (cond (!y1) ((some (Sum.inl ((0 : Int), [], (0 : Int), (0 : Int), (0 : Int), ())))) (grd (0 ≤ a0 ∧ a0 ≤ a0 ∧ (24 : Int) * a0 ≤ 140737488355328 ∧ a0 ≤ 140737488355328) ((spec_l25Good ((0 : Int), (List.replicate a0.toNat ((0 : Int), false, (0 : Int), ())), a1, (0 : Int), (0 : Int), ())).bind fun y2 => (cond (!y2) ((some (Sum.inl ((0 : Int), [], (0 : Int), (0 : Int), (0 : Int), ())))) ((some (Sum.inr ((0 : Int), (List.replicate a0.toNat ((0 : Int), false, (0 : Int), ())), a1, (0 : Int), (0 : Int), ())))))))))
def spec_NewRopeway.res (_ : Int) (_ : Int) (y : (Ropeway) ⊕ (Ropeway)) : AV := match y with
  | (.inl y) => (.tup [(.agg [(.v (.int .i64 y.1)), (.v (.slice none 0 0)), (.v (.int .i64 y.2.2.1)), (.v (.int .i64 y.2.2.2.1)), (.v (.int .i64 y.2.2.2.2.1))]), (.v (.bool false))])
  | (.inr y) => (.tup [(.agg [(.v (.int .i64 y.1)), (.own 0), (.v (.int .i64 y.2.2.1)), (.v (.int .i64 y.2.2.2.1)), (.v (.int .i64 y.2.2.2.2.1))]), (.v (.bool true))])
def spec_NewRopeway.out (_ : Int) (_ : Int) (y : (Ropeway) ⊕ (Ropeway)) : List (Option LB) := match y with
  | (.inl _) => []
  | (.inr y) => [some (.arr 96 ty_Slot y.2.1)]
def spec_NewRopeway.S (ar : List AV) (h : List (Option LB)) (r : AV) (h1 : List (Option LB)) : Prop := ∃ a0 a1 y, spec_NewRopeway a0 a1 = some y ∧ leL ar [(.v (.int .i64 a0)), (.v (.int .i64 a1))] ∧ leH h [] ∧ r = spec_NewRopeway.res a0 a1 y ∧ h1 = spec_NewRopeway.out a0 a1 y
theorem spec_NewRopeway.call {ar h a0 a1 y} (H : spec_NewRopeway a0 a1 = some y) (h0 : leLk ar [(.v (.int .i64 a0)), (.v (.int .i64 a1))] (leHk h [])) : spec_NewRopeway.S ar h (spec_NewRopeway.res a0 a1 y) (spec_NewRopeway.out a0 a1 y) := ⟨a0, a1, y, H, (args_ok h0).1, (args_ok h0).2, rfl, rfl⟩
theorem spec_NewRopeway.spec (a0 a1 y) (H : spec_NewRopeway a0 a1 = some y) : Spec Tryz.prog 67 [(.v (.int .i64 a0)), (.v (.int .i64 a1))] [] (spec_NewRopeway.res a0 a1 y) (spec_NewRopeway.out a0 a1 y) := by
  have hlen : Nat.ble ([] : List (Option LB)).length (spec_NewRopeway.out a0 a1 y).length = true := by
    rcases y with y | y <;> rfl
  refine spec_intro (G103_ok.at tok []) (ct := [(5, some [4, 6, 17])]) Tryz.func67 rfl (by kernel_rfl) (by kernel_rfl) hlen ?_
  repeat' first
    | ((with_reducible refine eqg ?_); exact rfl)
    | ((with_reducible refine KOb.mk ?_); kernel_rfl)
    | ((with_reducible intro h); (repeat first | replace H := grd_k H | replace H := out_step H ‹_›); first | replace H := cond_t h H | replace H := cond_f h H | exact absurd h (by decide) | skip)
    | ((with_reducible refine Ob.mk ?_); first | (with_reducible rfl) | (first | ((repeat (first | (with_reducible exact grd_p H) | replace H := grd_k H | replace H := out_step H ‹_›)); done) | rfl | ((repeat (first | exact grd_p H | (have hp := grd_p H; exact hp) | replace H := grd_k H | replace H := out_step H ‹_› | (replace H := bind_some H; obtain ⟨_, _, H⟩ := H))); done) | (repeat (first | exact grd_p H | replace H := grd_k H | replace H := out_step H ‹_›))))
    | (with_reducible exact True.intro)
    | ((conv => whnf); first
        | (with_reducible refine And.intro ?_ ?_)
        | (with_reducible exact True.intro)
        | (with_reducible refine (?_ : Ob _))
        | ((with_reducible refine CallW.mk ?_); (repeat first | replace H := grd_k H | replace H := out_step H ‹_›); replace H := bind_some H; obtain ⟨y, hy, H⟩ := H; first | ((with_reducible have hz : spec_l1In _ _ _ = some y := hy); clear hz; refine ⟨_, _, spec_l1In.call hy ?_, rfl, rfl, ?_⟩) | ((with_reducible have hz : spec_l25Good _ = some y := hy); clear hz; refine ⟨_, _, spec_l25Good.call hy ?_, rfl, rfl, ?_⟩))
        | ((with_reducible refine fin_mk ?_); (repeat first | replace H := grd_k H | replace H := out_step H ‹_›); have H := Option.some.inj H; subst H))
    | constructor
def G117 : Env := G103.add 67 [] spec_NewRopeway.S
theorem G117_ok : EnvOk Tryz.prog G117 := G103_ok.add ent_67 fun ar h r h1 ⟨a0, a1, y, hy, e1, e2, e3, e4⟩ => by
  subst e3 e4; exact (spec_NewRopeway.spec a0 a1 y hy).le e1 e2
attribute [local irreducible] spec_NewRopeway

noncomputable def spec_NewConsole (a0 : Int) (a1 : Int) : Option ((Console) ⊕ (Console)) :=
  ((spec_NewRopeway a0 a1).bind (Sum.elim (fun _ => (some (Sum.inl (((0 : Int), [], (0 : Int), (0 : Int), (0 : Int), ()), ((ByteArray.mk #[]), (ByteArray.mk #[]), (0 : Int), ()), ())))) (fun y3 => (some (Sum.inr ((y3.1, y3.2.1, y3.2.2.1, y3.2.2.2.1, y3.2.2.2.2.1, ()), ((ByteArray.mk #[]), (ByteArray.mk #[]), (0 : Int), ()), ()))))))
def spec_NewConsole.res (_ : Int) (_ : Int) (y : (Console) ⊕ (Console)) : AV := match y with
  | (.inl y) => (.tup [(.agg [(.v (.int .i64 y.1.1)), (.v (.slice none 0 0)), (.v (.int .i64 y.1.2.2.1)), (.v (.int .i64 y.1.2.2.2.1)), (.v (.int .i64 y.1.2.2.2.2.1)), (.v (.string y.2.1.1)), (.v (.string y.2.1.2.1)), (.v (.int .i64 y.2.1.2.2.1))]), (.v (.bool false))])
  | (.inr y) => (.tup [(.agg [(.v (.int .i64 y.1.1)), (.own 0), (.v (.int .i64 y.1.2.2.1)), (.v (.int .i64 y.1.2.2.2.1)), (.v (.int .i64 y.1.2.2.2.2.1)), (.v (.string y.2.1.1)), (.v (.string y.2.1.2.1)), (.v (.int .i64 y.2.1.2.2.1))]), (.v (.bool true))])
def spec_NewConsole.out (_ : Int) (_ : Int) (y : (Console) ⊕ (Console)) : List (Option LB) := match y with
  | (.inl _) => []
  | (.inr y) => [some (.arr 96 ty_Slot y.1.2.1)]
def spec_NewConsole.S (ar : List AV) (h : List (Option LB)) (r : AV) (h1 : List (Option LB)) : Prop := ∃ a0 a1 y, spec_NewConsole a0 a1 = some y ∧ leL ar [(.v (.int .i64 a0)), (.v (.int .i64 a1))] ∧ leH h [] ∧ r = spec_NewConsole.res a0 a1 y ∧ h1 = spec_NewConsole.out a0 a1 y
theorem spec_NewConsole.call {ar h a0 a1 y} (H : spec_NewConsole a0 a1 = some y) (h0 : leLk ar [(.v (.int .i64 a0)), (.v (.int .i64 a1))] (leHk h [])) : spec_NewConsole.S ar h (spec_NewConsole.res a0 a1 y) (spec_NewConsole.out a0 a1 y) := ⟨a0, a1, y, H, (args_ok h0).1, (args_ok h0).2, rfl, rfl⟩
theorem spec_NewConsole.spec (a0 a1 y) (H : spec_NewConsole a0 a1 = some y) : Spec Tryz.prog 31 [(.v (.int .i64 a0)), (.v (.int .i64 a1))] [] (spec_NewConsole.res a0 a1 y) (spec_NewConsole.out a0 a1 y) := by
  have hlen : Nat.ble ([] : List (Option LB)).length (spec_NewConsole.out a0 a1 y).length = true := by
    rcases y with y | y <;> rfl
  refine spec_intro (G117_ok.at tok []) (ct := [(4, some [4, 6])]) Tryz.func31 rfl (by kernel_rfl) (by kernel_rfl) hlen ?_
  repeat' first
    | ((with_reducible refine eqg ?_); exact rfl)
    | ((with_reducible refine KOb.mk ?_); kernel_rfl)
    | ((with_reducible intro h); (repeat first | replace H := grd_k H | replace H := out_step H ‹_›); first | replace H := cond_t h H | replace H := cond_f h H | exact absurd h (by decide) | skip)
    | ((with_reducible refine Ob.mk ?_); first | (with_reducible rfl) | (first | ((repeat (first | (with_reducible exact grd_p H) | replace H := grd_k H | replace H := out_step H ‹_›)); done) | rfl | ((repeat (first | exact grd_p H | (have hp := grd_p H; exact hp) | replace H := grd_k H | replace H := out_step H ‹_› | (replace H := bind_some H; obtain ⟨_, _, H⟩ := H))); done) | (repeat (first | exact grd_p H | replace H := grd_k H | replace H := out_step H ‹_›))))
    | (with_reducible exact True.intro)
    | ((conv => whnf); first
        | (with_reducible refine And.intro ?_ ?_)
        | (with_reducible exact True.intro)
        | (with_reducible refine (?_ : Ob _))
        | ((with_reducible refine CallW.mk ?_); (repeat first | replace H := grd_k H | replace H := out_step H ‹_›); replace H := bind_some H; obtain ⟨y, hy, H⟩ := H; first | ((with_reducible have hz : spec_NewRopeway _ _ = some y := hy); clear hz; rcases y with y | y <;> refine ⟨_, _, spec_NewRopeway.call hy ?_, rfl, rfl, ?_⟩))
        | ((with_reducible refine fin_mk ?_); (repeat first | replace H := grd_k H | replace H := out_step H ‹_›); have H := Option.some.inj H; subst H))
    | constructor
def G118 : Env := G117.add 31 [] spec_NewConsole.S
theorem G118_ok : EnvOk Tryz.prog G118 := G117_ok.add ent_31 fun ar h r h1 ⟨a0, a1, y, hy, e1, e2, e3, e4⟩ => by
  subst e3 e4; exact (spec_NewConsole.spec a0 a1 y hy).le e1 e2
attribute [local irreducible] spec_NewConsole

noncomputable def spec_LogRecords (a0 : Log) : Option ((List LogRecord) × Bool) :=
  ((spec_l27Log (a0.1, a0.2.1, a0.2.2.1, ())).bind fun y1 => (cond (!y1) ((some (([] : List LogRecord), false))) (grd (a0.1.size + a0.2.1.size ≤ 9223372036854775807) ((spec_l27Open (a0.1 ++ a0.2.1)).bind fun y2 => (some (y2.1, true))))))
def spec_LogRecords.res (_ : Log) (y : (List LogRecord) × Bool) : AV := (.tup [(.own 0), (.bl y.2)])
def spec_LogRecords.out (_ : Log) (y : (List LogRecord) × Bool) : List (Option LB) := [some (.arr 70 ty_LogRecord y.1)]
def spec_LogRecords.S (ar : List AV) (h : List (Option LB)) (r : AV) (h1 : List (Option LB)) : Prop := ∃ a0 y, spec_LogRecords a0 = some y ∧ leL ar [(.agg [(.v (.string a0.1)), (.v (.string a0.2.1)), (.v (.int .i64 a0.2.2.1))])] ∧ leH h [] ∧ r = spec_LogRecords.res a0 y ∧ h1 = spec_LogRecords.out a0 y
theorem spec_LogRecords.call {ar h a0 y} (H : spec_LogRecords a0 = some y) (h0 : leLk ar [(.agg [(.v (.string a0.1)), (.v (.string a0.2.1)), (.v (.int .i64 a0.2.2.1))])] (leHk h [])) : spec_LogRecords.S ar h (spec_LogRecords.res a0 y) (spec_LogRecords.out a0 y) := ⟨a0, y, H, (args_ok h0).1, (args_ok h0).2, rfl, rfl⟩
theorem spec_LogRecords.spec (a0 y) (H : spec_LogRecords a0 = some y) : Spec Tryz.prog 36 [(.agg [(.v (.string a0.1)), (.v (.string a0.2.1)), (.v (.int .i64 a0.2.2.1))])] [] (spec_LogRecords.res a0 y) (spec_LogRecords.out a0 y) := by
  refine spec_intro (G118_ok.at tok []) (ct := [(4, some [4])]) Tryz.func36 rfl (by kernel_rfl) (by kernel_rfl) rfl ?_
  repeat' first
    | ((with_reducible refine eqg ?_); exact rfl)
    | ((with_reducible refine KOb.mk ?_); kernel_rfl)
    | ((with_reducible intro h); (repeat first | replace H := grd_k H | replace H := out_step H ‹_›); first | replace H := cond_t h H | replace H := cond_f h H | exact absurd h (by decide) | skip)
    | ((with_reducible refine Ob.mk ?_); first | (with_reducible rfl) | (first | ((repeat (first | (with_reducible exact grd_p H) | replace H := grd_k H | replace H := out_step H ‹_›)); done) | rfl | ((repeat (first | exact grd_p H | (have hp := grd_p H; exact hp) | replace H := grd_k H | replace H := out_step H ‹_› | (replace H := bind_some H; obtain ⟨_, _, H⟩ := H))); done) | (repeat (first | exact grd_p H | replace H := grd_k H | replace H := out_step H ‹_›))))
    | (with_reducible exact True.intro)
    | ((conv => whnf); first
        | (with_reducible refine And.intro ?_ ?_)
        | (with_reducible exact True.intro)
        | (with_reducible refine (?_ : Ob _))
        | ((with_reducible refine CallW.mk ?_); (repeat first | replace H := grd_k H | replace H := out_step H ‹_›); replace H := bind_some H; obtain ⟨y, hy, H⟩ := H; first | ((with_reducible have hz : spec_l27Log _ = some y := hy); clear hz; refine ⟨_, _, spec_l27Log.call hy ?_, rfl, rfl, ?_⟩) | ((with_reducible have hz : spec_l27Open _ = some y := hy); clear hz; refine ⟨_, _, spec_l27Open.call hy ?_, rfl, rfl, ?_⟩))
        | ((with_reducible refine fin_mk ?_); (repeat first | replace H := grd_k H | replace H := out_step H ‹_›); have H := Option.some.inj H; subst H))
    | constructor
def G119 : Env := G118.add 36 [] spec_LogRecords.S
theorem G119_ok : EnvOk Tryz.prog G119 := G118_ok.add ent_36 fun ar h r h1 ⟨a0, y, hy, e1, e2, e3, e4⟩ => by
  subst e3 e4; exact (spec_LogRecords.spec a0 y hy).le e1 e2
attribute [local irreducible] spec_LogRecords

noncomputable def spec_ReplayLog_loop1  (v38 : Int) (v39 : Int) (v40 : (List Slot)) (v41 : Int) (v42 : Int) (v43 : Int) (v44 : ByteArray) (v45 : ByteArray) (v46 : Int) (v47 : (List LogRecord)) : Option (Lp (Int × Int × (List Slot) × Int × Int × Int × ByteArray × ByteArray × Int × (List LogRecord)) ((Int) ⊕ ((List LogRecord)))) :=
  (cond (decide (v38 < (v47.length : Int))) (grd (0 ≤ v38 ∧ v38 < (v47.length : Int)) ((spec_ExecuteCommand ((v39, v40, v41, v42, v43, ()), (v44, v45, v46, ()), ()) ((v47.getD v38.toNat d_LogRecord).1)).bind fun y48 => (grd (0 ≤ v38 ∧ v38 < (v47.length : Int)) (cond (!decide (y48.2 = ((v47.getD v38.toNat d_LogRecord).2.1))) ((some (.out (Sum.inl v38)))) (some (.go ((w64 (v38 + (1 : Int))), y48.1.1.1, y48.1.1.2.1, y48.1.1.2.2.1, y48.1.1.2.2.2.1, y48.1.1.2.2.2.2.1, y48.1.2.1.1, y48.1.2.1.2.1, y48.1.2.1.2.2.1, v47))))))) ((some (.out (Sum.inr v47)))))
noncomputable def spec_ReplayLog (a0 : Int) (a1 : Int) (a2 : Log) : Option (Int × Bool) :=
  (((spec_NewConsole a0 a1).bind (Sum.elim (fun y2 => (some ((Tg.mk : Tg 1), false, y2.1.1, [], y2.1.2.2.1, y2.1.2.2.2.1, y2.1.2.2.2.2.1, y2.2.1.1, y2.2.1.2.1, y2.2.1.2.2.1))) (fun y3 => (some ((Tg.mk : Tg 1), true, y3.1.1, y3.1.2.1, y3.1.2.2.1, y3.1.2.2.2.1, y3.1.2.2.2.2.1, y3.2.1.1, y3.2.1.2.1, y3.2.1.2.2.1))))).bind fun z4 => (cond (!z4.2.1) ((some ((0 : Int), false))) ((spec_l27Log (a2.1, a2.2.1, a2.2.2.1, ())).bind fun y5 => (cond (!y5) ((some ((0 : Int), false))) ((spec_LogRecords (a2.1, a2.2.1, a2.2.2.1, ())).bind fun y6 => ((iter (fun s => spec_ReplayLog_loop1 s.1 s.2.1 s.2.2.1 s.2.2.2.1 s.2.2.2.2.1 s.2.2.2.2.2.1 s.2.2.2.2.2.2.1 s.2.2.2.2.2.2.2.1 s.2.2.2.2.2.2.2.2.1 s.2.2.2.2.2.2.2.2.2) ((0 : Int), z4.2.2.1, z4.2.2.2.1, z4.2.2.2.2.1, z4.2.2.2.2.2.1, z4.2.2.2.2.2.2.1, z4.2.2.2.2.2.2.2.1, z4.2.2.2.2.2.2.2.2.1, z4.2.2.2.2.2.2.2.2.2, y6.1)).bind (Sum.elim (fun r50 => (some (r50, true))) (fun r51 => (some ((r51.length : Int), true))))))))))
def spec_ReplayLog.res (_ : Int) (_ : Int) (_ : Log) (y : Int × Bool) : AV := (.tup [(.v (.int .i64 y.1)), (.bl y.2)])
def spec_ReplayLog.out (_ : Int) (_ : Int) (_ : Log) (_ : Int × Bool) : List (Option LB) := []
def spec_ReplayLog.S (ar : List AV) (h : List (Option LB)) (r : AV) (h1 : List (Option LB)) : Prop := ∃ a0 a1 a2 y, spec_ReplayLog a0 a1 a2 = some y ∧ leL ar [(.v (.int .i64 a0)), (.v (.int .i64 a1)), (.agg [(.v (.string a2.1)), (.v (.string a2.2.1)), (.v (.int .i64 a2.2.2.1))])] ∧ leH h [] ∧ r = spec_ReplayLog.res a0 a1 a2 y ∧ h1 = spec_ReplayLog.out a0 a1 a2 y
theorem spec_ReplayLog.call {ar h a0 a1 a2 y} (H : spec_ReplayLog a0 a1 a2 = some y) (h0 : leLk ar [(.v (.int .i64 a0)), (.v (.int .i64 a1)), (.agg [(.v (.string a2.1)), (.v (.string a2.2.1)), (.v (.int .i64 a2.2.2.1))])] (leHk h [])) : spec_ReplayLog.S ar h (spec_ReplayLog.res a0 a1 a2 y) (spec_ReplayLog.out a0 a1 a2 y) := ⟨a0, a1, a2, y, H, (args_ok h0).1, (args_ok h0).2, rfl, rfl⟩
theorem spec_ReplayLog.spec (a0 a1 a2 y) (H : spec_ReplayLog a0 a1 a2 = some y) : Spec Tryz.prog 9 [(.v (.int .i64 a0)), (.v (.int .i64 a1)), (.agg [(.v (.string a2.1)), (.v (.string a2.2.1)), (.v (.int .i64 a2.2.2.1))])] [] (spec_ReplayLog.res a0 a1 a2 y) (spec_ReplayLog.out a0 a1 a2 y) := by
  refine spec_intro (G119_ok.at tok []) (ct := [(2, none), (5, some [8, 10]), (10, some [8, 10, 12, 13])]) Tryz.func9 rfl (by kernel_rfl) (by kernel_rfl) rfl ?_
  repeat' first
    | ((with_reducible refine eqg ?_); exact rfl)
    | ((with_reducible refine KOb.mk ?_); kernel_rfl)
    | ((with_reducible intro h); (repeat first | replace H := grd_k H | replace H := out_step H ‹_›); first | replace H := cond_t h H | replace H := cond_f h H | exact absurd h (by decide) | skip)
    | ((with_reducible refine Ob.mk ?_); first | (with_reducible rfl) | (first | ((repeat (first | (with_reducible exact grd_p H) | replace H := grd_k H | replace H := out_step H ‹_›)); done) | rfl | ((repeat (first | exact grd_p H | (have hp := grd_p H; exact hp) | replace H := grd_k H | replace H := out_step H ‹_› | (replace H := bind_some H; obtain ⟨_, _, H⟩ := H))); done) | (repeat (first | exact grd_p H | replace H := grd_k H | replace H := out_step H ‹_›))))
    | (with_reducible exact True.intro)
    | ((conv => whnf); first
        | (with_reducible refine And.intro ?_ ?_)
        | (with_reducible exact True.intro)
        | (with_reducible refine (?_ : Ob _))
        | ((with_reducible refine CallW.mk ?_); (repeat first | replace H := grd_k H | replace H := out_step H ‹_›); replace H := bind_some H; obtain ⟨y, hy, H⟩ := H; first | ((with_reducible have hz : spec_NewConsole _ _ = some y := hy); clear hz; rcases y with y | y <;> refine ⟨_, _, spec_NewConsole.call hy ?_, rfl, rfl, ?_⟩) | ((with_reducible have hz : spec_l27Log _ = some y := hy); clear hz; refine ⟨_, _, spec_l27Log.call hy ?_, rfl, rfl, ?_⟩) | ((with_reducible have hz : spec_LogRecords _ = some y := hy); clear hz; refine ⟨_, _, spec_LogRecords.call hy ?_, rfl, rfl, ?_⟩) | ((with_reducible have hz : spec_ExecuteCommand _ _ = some y := hy); clear hz; refine ⟨_, _, spec_ExecuteCommand.call hy ?_, rfl, rfl, ?_⟩))
        | ((repeat first | replace H := grd_k H | replace H := out_step H ‹_›); refine loop_iter (G119_ok.at tok []) (ct := [(2, none), (5, some [8, 10]), (10, some [8, 10, 12, 13])]) (F := (fun s1 : Int × Int × (List Slot) × Int × Int × Int × ByteArray × ByteArray × Int × (List LogRecord) => ⟨sl [(8, (.loc 0 0 0)), (10, (.own 1)), (13, (.v (.int .i64 s1.1)))], [some (.box 40 [(.v (.int .i64 s1.2.1)), (.tree ty_Slot s1.2.2.1), (.v (.int .i64 s1.2.2.2.1)), (.v (.int .i64 s1.2.2.2.2.1)), (.v (.int .i64 s1.2.2.2.2.2.1)), (.v (.string s1.2.2.2.2.2.2.1)), (.v (.string s1.2.2.2.2.2.2.2.1)), (.v (.int .i64 s1.2.2.2.2.2.2.2.2.1))]), some (.arr 70 ty_LogRecord s1.2.2.2.2.2.2.2.2.2)]⟩)) (step := (fun s : Int × Int × (List Slot) × Int × Int × Int × ByteArray × ByteArray × Int × (List LogRecord) => spec_ReplayLog_loop1 s.1 s.2.1 s.2.2.1 s.2.2.2.1 s.2.2.2.2.1 s.2.2.2.2.2.1 s.2.2.2.2.2.2.1 s.2.2.2.2.2.2.2.1 s.2.2.2.2.2.2.2.2.1 s.2.2.2.2.2.2.2.2.2)) _ H (by kernel_rfl) (sub_auto ?_) ?_; rotate_left; (intro s1 r v hr H); rotate_right)
        | ((with_reducible refine cutAt (id := 2) ?_); (repeat first | replace H := grd_k H | replace H := out_step H ‹_›); first | (replace H := bind_some H; obtain ⟨z, hz, H⟩ := H; have hT : Tg 1 × Bool × Int × (List Slot) × Int × Int × Int × ByteArray × ByteArray × Int := z; clear hT; refine CutC.mk (id := 2) ⟨sl [(5, (.loc 0 0 0)), (8, (.loc 1 0 0)), (9, (.bl z.2.1))], [some (.box 27 [(.v (.string a2.1)), (.v (.string a2.2.1)), (.v (.int .i64 a2.2.2.1))]), some (.box 40 [(.v (.int .i64 z.2.2.1)), (.tree ty_Slot z.2.2.2.1), (.v (.int .i64 z.2.2.2.2.1)), (.v (.int .i64 z.2.2.2.2.2.1)), (.v (.int .i64 z.2.2.2.2.2.2.1)), (.v (.string z.2.2.2.2.2.2.2.1)), (.v (.string z.2.2.2.2.2.2.2.2.1)), (.v (.int .i64 z.2.2.2.2.2.2.2.2.2))])]⟩ ?_ ?_; (replace H := hz)))
        | ((repeat first | replace H := grd_k H | replace H := out_step H ‹_›); have H := Option.some.inj H; subst H; with_reducible refine sub_auto ?_)
        | ((repeat first | replace H := grd_k H | replace H := out_step H ‹_›); refine again_step H (by assumption) (sub_auto ?_))
        | ((with_reducible refine fin_mk ?_); (repeat first | replace H := grd_k H | replace H := out_step H ‹_›); have H := Option.some.inj H; subst H))
    | constructor
def G120 : Env := G119.add 9 [] spec_ReplayLog.S
theorem G120_ok : EnvOk Tryz.prog G120 := G119_ok.add ent_9 fun ar h r h1 ⟨a0, a1, a2, y, hy, e1, e2, e3, e4⟩ => by
  subst e3 e4; exact (spec_ReplayLog.spec a0 a1 a2 y hy).le e1 e2
attribute [local irreducible] spec_ReplayLog

end Go.Proofs.YtaobinhdnklojaaGreatDoor
namespace Go.Proofs.YtaobinhdnklojaaGreatDoor
open Go.RowKit
set_option maxHeartbeats 100000000
set_option maxRecDepth 100000
attribute [local irreducible] Ob loopwp Sub Spec Fin Again CallW CutC KOb iter

attribute [local irreducible] laws_szLog laws_toLog spec_l1Num_f impl_within impl_IsRopeway impl_IsValidRecord impl_Log_records impl_IsValidConsole slices_IndexFunc___impl_Slot_impl_Slot__i2 slices_IndexFunc___impl_Slot_impl_Slot__i3 slices_ContainsFunc___impl_Slot_impl_Slot__i2 slices_Clone___impl_Slot_impl_Slot__i1 impl_copyRopeway_i1 impl_run impl_AppendRecord spec_ReplayLog

noncomputable def impl_NewRopeway (a0 : Int) (a1 : Int) : Option ((Ropeway) ⊕ (Ropeway)) :=
  ((impl_within a0 (4 : Int) (10 : Int)).bind fun y1 => (cond (!y1) ((some (Sum.inl ((0 : Int), [], (0 : Int), (0 : Int), (0 : Int), ())))) (grd (0 ≤ a0 ∧ a0 ≤ a0 ∧ (24 : Int) * a0 ≤ 140737488355328 ∧ a0 ≤ 140737488355328) ((impl_IsRopeway ((0 : Int), (List.replicate a0.toNat ((0 : Int), false, (0 : Int), ())), a1, (0 : Int), (0 : Int), ())).bind fun y2 => (cond (!y2) ((some (Sum.inl ((0 : Int), [], (0 : Int), (0 : Int), (0 : Int), ())))) ((some (Sum.inr ((0 : Int), (List.replicate a0.toNat ((0 : Int), false, (0 : Int), ())), a1, (0 : Int), (0 : Int), ())))))))))
def impl_NewRopeway.res (_ : Int) (_ : Int) (y : (Ropeway) ⊕ (Ropeway)) : AV := match y with
  | (.inl y) => (.tup [(.agg [(.v (.int .i64 y.1)), (.v (.slice none 0 0)), (.v (.int .i64 y.2.2.1)), (.v (.int .i64 y.2.2.2.1)), (.v (.int .i64 y.2.2.2.2.1))]), (.v (.bool false))])
  | (.inr y) => (.tup [(.agg [(.v (.int .i64 y.1)), (.own 0), (.v (.int .i64 y.2.2.1)), (.v (.int .i64 y.2.2.2.1)), (.v (.int .i64 y.2.2.2.2.1))]), (.v (.bool true))])
def impl_NewRopeway.out (_ : Int) (_ : Int) (y : (Ropeway) ⊕ (Ropeway)) : List (Option LB) := match y with
  | (.inl _) => []
  | (.inr y) => [some (.arr 96 ty_Slot y.2.1)]
def impl_NewRopeway.S (ar : List AV) (h : List (Option LB)) (r : AV) (h1 : List (Option LB)) : Prop := ∃ a0 a1 y, impl_NewRopeway a0 a1 = some y ∧ leL ar [(.v (.int .i64 a0)), (.v (.int .i64 a1))] ∧ leH h [] ∧ r = impl_NewRopeway.res a0 a1 y ∧ h1 = impl_NewRopeway.out a0 a1 y
theorem impl_NewRopeway.call {ar h a0 a1 y} (H : impl_NewRopeway a0 a1 = some y) (h0 : leLk ar [(.v (.int .i64 a0)), (.v (.int .i64 a1))] (leHk h [])) : impl_NewRopeway.S ar h (impl_NewRopeway.res a0 a1 y) (impl_NewRopeway.out a0 a1 y) := ⟨a0, a1, y, H, (args_ok h0).1, (args_ok h0).2, rfl, rfl⟩
theorem impl_NewRopeway.spec (a0 a1 y) (H : impl_NewRopeway a0 a1 = some y) : Spec Tryz.prog 66 [(.v (.int .i64 a0)), (.v (.int .i64 a1))] [] (impl_NewRopeway.res a0 a1 y) (impl_NewRopeway.out a0 a1 y) := by
  have hlen : Nat.ble ([] : List (Option LB)).length (impl_NewRopeway.out a0 a1 y).length = true := by
    rcases y with y | y <;> rfl
  refine spec_intro (G120_ok.at tok []) (ct := [(5, some [4, 6, 17])]) Tryz.func66 rfl (by kernel_rfl) (by kernel_rfl) hlen ?_
  repeat' first
    | ((with_reducible refine eqg ?_); exact rfl)
    | ((with_reducible refine KOb.mk ?_); kernel_rfl)
    | ((with_reducible intro h); (repeat first | replace H := grd_k H | replace H := out_step H ‹_›); first | replace H := cond_t h H | replace H := cond_f h H | exact absurd h (by decide) | skip)
    | ((with_reducible refine Ob.mk ?_); first | (with_reducible rfl) | (first | ((repeat (first | (with_reducible exact grd_p H) | replace H := grd_k H | replace H := out_step H ‹_›)); done) | rfl | ((repeat (first | exact grd_p H | (have hp := grd_p H; exact hp) | replace H := grd_k H | replace H := out_step H ‹_› | (replace H := bind_some H; obtain ⟨_, _, H⟩ := H))); done) | (repeat (first | exact grd_p H | replace H := grd_k H | replace H := out_step H ‹_›))))
    | (with_reducible exact True.intro)
    | ((conv => whnf); first
        | (with_reducible refine And.intro ?_ ?_)
        | (with_reducible exact True.intro)
        | (with_reducible refine (?_ : Ob _))
        | ((with_reducible refine CallW.mk ?_); (repeat first | replace H := grd_k H | replace H := out_step H ‹_›); replace H := bind_some H; obtain ⟨y, hy, H⟩ := H; first | ((with_reducible have hz : impl_within _ _ _ = some y := hy); clear hz; refine ⟨_, _, impl_within.call hy ?_, rfl, rfl, ?_⟩) | ((with_reducible have hz : impl_IsRopeway _ = some y := hy); clear hz; refine ⟨_, _, impl_IsRopeway.call hy ?_, rfl, rfl, ?_⟩))
        | ((with_reducible refine fin_mk ?_); (repeat first | replace H := grd_k H | replace H := out_step H ‹_›); have H := Option.some.inj H; subst H))
    | constructor
def G121 : Env := G120.add 66 [] impl_NewRopeway.S
theorem G121_ok : EnvOk Tryz.prog G121 := G120_ok.add ent_66 fun ar h r h1 ⟨a0, a1, y, hy, e1, e2, e3, e4⟩ => by
  subst e3 e4; exact (impl_NewRopeway.spec a0 a1 y hy).le e1 e2
attribute [local irreducible] impl_NewRopeway

noncomputable def impl_NewConsole (a0 : Int) (a1 : Int) : Option ((Console) ⊕ (Console)) :=
  ((impl_NewRopeway a0 a1).bind (Sum.elim (fun y2 => (some (Sum.inl ((y2.1, [], y2.2.2.1, y2.2.2.2.1, y2.2.2.2.2.1, ()), ((ByteArray.mk #[]), (ByteArray.mk #[]), (0 : Int), ()), ())))) (fun y3 => (some (Sum.inr ((y3.1, y3.2.1, y3.2.2.1, y3.2.2.2.1, y3.2.2.2.2.1, ()), ((ByteArray.mk #[]), (ByteArray.mk #[]), (0 : Int), ()), ()))))))
def impl_NewConsole.res (_ : Int) (_ : Int) (y : (Console) ⊕ (Console)) : AV := match y with
  | (.inl y) => (.tup [(.agg [(.v (.int .i64 y.1.1)), (.v (.slice none 0 0)), (.v (.int .i64 y.1.2.2.1)), (.v (.int .i64 y.1.2.2.2.1)), (.v (.int .i64 y.1.2.2.2.2.1)), (.v (.string y.2.1.1)), (.v (.string y.2.1.2.1)), (.v (.int .i64 y.2.1.2.2.1))]), (.v (.bool false))])
  | (.inr y) => (.tup [(.agg [(.v (.int .i64 y.1.1)), (.own 0), (.v (.int .i64 y.1.2.2.1)), (.v (.int .i64 y.1.2.2.2.1)), (.v (.int .i64 y.1.2.2.2.2.1)), (.v (.string y.2.1.1)), (.v (.string y.2.1.2.1)), (.v (.int .i64 y.2.1.2.2.1))]), (.v (.bool true))])
def impl_NewConsole.out (_ : Int) (_ : Int) (y : (Console) ⊕ (Console)) : List (Option LB) := match y with
  | (.inl _) => []
  | (.inr y) => [some (.arr 96 ty_Slot y.1.2.1)]
def impl_NewConsole.S (ar : List AV) (h : List (Option LB)) (r : AV) (h1 : List (Option LB)) : Prop := ∃ a0 a1 y, impl_NewConsole a0 a1 = some y ∧ leL ar [(.v (.int .i64 a0)), (.v (.int .i64 a1))] ∧ leH h [] ∧ r = impl_NewConsole.res a0 a1 y ∧ h1 = impl_NewConsole.out a0 a1 y
theorem impl_NewConsole.call {ar h a0 a1 y} (H : impl_NewConsole a0 a1 = some y) (h0 : leLk ar [(.v (.int .i64 a0)), (.v (.int .i64 a1))] (leHk h [])) : impl_NewConsole.S ar h (impl_NewConsole.res a0 a1 y) (impl_NewConsole.out a0 a1 y) := ⟨a0, a1, y, H, (args_ok h0).1, (args_ok h0).2, rfl, rfl⟩
theorem impl_NewConsole.spec (a0 a1 y) (H : impl_NewConsole a0 a1 = some y) : Spec Tryz.prog 30 [(.v (.int .i64 a0)), (.v (.int .i64 a1))] [] (impl_NewConsole.res a0 a1 y) (impl_NewConsole.out a0 a1 y) := by
  have hlen : Nat.ble ([] : List (Option LB)).length (impl_NewConsole.out a0 a1 y).length = true := by
    rcases y with y | y <;> rfl
  refine spec_intro (G121_ok.at tok []) (ct := []) Tryz.func30 rfl (by kernel_rfl) (by kernel_rfl) hlen ?_
  repeat' first
    | ((with_reducible refine eqg ?_); exact rfl)
    | ((with_reducible refine KOb.mk ?_); kernel_rfl)
    | ((with_reducible intro h); (repeat first | replace H := grd_k H | replace H := out_step H ‹_›); first | replace H := cond_t h H | replace H := cond_f h H | exact absurd h (by decide) | skip)
    | ((with_reducible refine Ob.mk ?_); first | (with_reducible rfl) | (first | ((repeat (first | (with_reducible exact grd_p H) | replace H := grd_k H | replace H := out_step H ‹_›)); done) | rfl | ((repeat (first | exact grd_p H | (have hp := grd_p H; exact hp) | replace H := grd_k H | replace H := out_step H ‹_› | (replace H := bind_some H; obtain ⟨_, _, H⟩ := H))); done) | (repeat (first | exact grd_p H | replace H := grd_k H | replace H := out_step H ‹_›))))
    | (with_reducible exact True.intro)
    | ((conv => whnf); first
        | (with_reducible refine And.intro ?_ ?_)
        | (with_reducible exact True.intro)
        | (with_reducible refine (?_ : Ob _))
        | ((with_reducible refine CallW.mk ?_); (repeat first | replace H := grd_k H | replace H := out_step H ‹_›); replace H := bind_some H; obtain ⟨y, hy, H⟩ := H; first | ((with_reducible have hz : impl_NewRopeway _ _ = some y := hy); clear hz; rcases y with y | y <;> refine ⟨_, _, impl_NewRopeway.call hy ?_, rfl, rfl, ?_⟩))
        | ((with_reducible refine fin_mk ?_); (repeat first | replace H := grd_k H | replace H := out_step H ‹_›); have H := Option.some.inj H; subst H))
    | constructor
def G122 : Env := G121.add 30 [] impl_NewConsole.S
theorem G122_ok : EnvOk Tryz.prog G122 := G121_ok.add ent_30 fun ar h r h1 ⟨a0, a1, y, hy, e1, e2, e3, e4⟩ => by
  subst e3 e4; exact (impl_NewConsole.spec a0 a1 y hy).le e1 e2
attribute [local irreducible] impl_NewConsole

noncomputable def impl_LogRecords (a0 : Log) : Option ((Unit) ⊕ ((List LogRecord))) :=
  ((impl_Log_records (a0.1, a0.2.1, a0.2.2.1, ())).bind fun y1 => (cond (!y1.2) ((some (Sum.inl ()))) ((some (Sum.inr y1.1)))))
def impl_LogRecords.res (_ : Log) (y : (Unit) ⊕ ((List LogRecord))) : AV := match y with
  | (.inl _) => (.tup [(.v (.slice none 0 0)), (.v (.bool false))])
  | (.inr _) => (.tup [(.own 0), (.v (.bool true))])
def impl_LogRecords.out (_ : Log) (y : (Unit) ⊕ ((List LogRecord))) : List (Option LB) := match y with
  | (.inl _) => []
  | (.inr y) => [some (.arr 70 ty_LogRecord y)]
def impl_LogRecords.S (ar : List AV) (h : List (Option LB)) (r : AV) (h1 : List (Option LB)) : Prop := ∃ a0 y, impl_LogRecords a0 = some y ∧ leL ar [(.agg [(.v (.string a0.1)), (.v (.string a0.2.1)), (.v (.int .i64 a0.2.2.1))])] ∧ leH h [] ∧ r = impl_LogRecords.res a0 y ∧ h1 = impl_LogRecords.out a0 y
theorem impl_LogRecords.call {ar h a0 y} (H : impl_LogRecords a0 = some y) (h0 : leLk ar [(.agg [(.v (.string a0.1)), (.v (.string a0.2.1)), (.v (.int .i64 a0.2.2.1))])] (leHk h [])) : impl_LogRecords.S ar h (impl_LogRecords.res a0 y) (impl_LogRecords.out a0 y) := ⟨a0, y, H, (args_ok h0).1, (args_ok h0).2, rfl, rfl⟩
theorem impl_LogRecords.spec (a0 y) (H : impl_LogRecords a0 = some y) : Spec Tryz.prog 37 [(.agg [(.v (.string a0.1)), (.v (.string a0.2.1)), (.v (.int .i64 a0.2.2.1))])] [] (impl_LogRecords.res a0 y) (impl_LogRecords.out a0 y) := by
  have hlen : Nat.ble ([] : List (Option LB)).length (impl_LogRecords.out a0 y).length = true := by
    rcases y with y | y <;> rfl
  refine spec_intro (G122_ok.at tok []) (ct := [(4, some [4])]) Tryz.func37 rfl (by kernel_rfl) (by kernel_rfl) hlen ?_
  repeat' first
    | ((with_reducible refine eqg ?_); exact rfl)
    | ((with_reducible refine KOb.mk ?_); kernel_rfl)
    | ((with_reducible intro h); (repeat first | replace H := grd_k H | replace H := out_step H ‹_›); first | replace H := cond_t h H | replace H := cond_f h H | exact absurd h (by decide) | skip)
    | ((with_reducible refine Ob.mk ?_); first | (with_reducible rfl) | (first | ((repeat (first | (with_reducible exact grd_p H) | replace H := grd_k H | replace H := out_step H ‹_›)); done) | rfl | ((repeat (first | exact grd_p H | (have hp := grd_p H; exact hp) | replace H := grd_k H | replace H := out_step H ‹_› | (replace H := bind_some H; obtain ⟨_, _, H⟩ := H))); done) | (repeat (first | exact grd_p H | replace H := grd_k H | replace H := out_step H ‹_›))))
    | (with_reducible exact True.intro)
    | ((conv => whnf); first
        | (with_reducible refine And.intro ?_ ?_)
        | (with_reducible exact True.intro)
        | (with_reducible refine (?_ : Ob _))
        | ((with_reducible refine CallW.mk ?_); (repeat first | replace H := grd_k H | replace H := out_step H ‹_›); replace H := bind_some H; obtain ⟨y, hy, H⟩ := H; first | ((with_reducible have hz : impl_Log_records _ = some y := hy); clear hz; refine ⟨_, _, impl_Log_records.call hy ?_, rfl, rfl, ?_⟩))
        | ((with_reducible refine fin_mk ?_); (repeat first | replace H := grd_k H | replace H := out_step H ‹_›); have H := Option.some.inj H; subst H))
    | constructor
def G123 : Env := G122.add 37 [] impl_LogRecords.S
theorem G123_ok : EnvOk Tryz.prog G123 := G122_ok.add ent_37 fun ar h r h1 ⟨a0, y, hy, e1, e2, e3, e4⟩ => by
  subst e3 e4; exact (impl_LogRecords.spec a0 y hy).le e1 e2
attribute [local irreducible] impl_LogRecords

noncomputable def impl_ExecuteCommand_i1 (a100 : Int) (a101 : (List Slot)) (a102 : Int) (a103 : Int) (a104 : Int) (a105 : ByteArray) (a106 : ByteArray) (a107 : Int) (a1 : ByteArray) : Option (Console × ByteArray) :=
  (((impl_copyRopeway_i1 a100 a101 a102 a103 a104).bind fun y1 => (some ((Tg.mk : Tg 1), y1.1, y1.2.2.1, y1.2.2.2.1, y1.2.2.2.2.1, y1.2.1))).bind fun z2 => ((impl_IsValidConsole ((a100, a101, a102, a103, a104, ()), (a105, a106, a107, ()), ())).bind fun y3 => (cond (!y3) ((some (((z2.2.1, z2.2.2.2.2.2, z2.2.2.1, z2.2.2.2.1, z2.2.2.2.2.1, ()), (a105, a106, a107, ()), ()), (ByteArray.mk #[110, 111])))) ((impl_IsValidRecord (a1, (ByteArray.mk #[]), ())).bind fun y4 => (cond (!y4) ((some (((z2.2.1, z2.2.2.2.2.2, z2.2.2.1, z2.2.2.2.1, z2.2.2.2.2.1, ()), (a105, a106, a107, ()), ()), (ByteArray.mk #[98, 97, 100])))) (cond (decide (a107 = (60 : Int))) ((some (((z2.2.1, z2.2.2.2.2.2, z2.2.2.1, z2.2.2.2.1, z2.2.2.2.2.1, ()), (a105, a106, a107, ()), ()), (ByteArray.mk #[102, 117, 108, 108])))) (((impl_run (z2.2.1, z2.2.2.2.2.2, z2.2.2.1, z2.2.2.2.1, z2.2.2.2.2.1, ()) a1).bind (Sum.elim (fun y6 => (some ((Tg.mk : Tg 2), y6.2.1, y6.1.1, y6.1.2.2.1, y6.1.2.2.2.1, y6.1.2.2.2.2.1, y6.2.2))) (fun y7 => (some ((Tg.mk : Tg 2), y7.2.1, y7.1.1, y7.1.2.2.1, y7.1.2.2.2.1, y7.1.2.2.2.2.1, y7.1.2.1))))).bind fun z8 => ((cond (decide ((200 : Int) < (z8.2.1.size : Int))) ((some ((ByteArray.mk #[108, 111, 110, 103]), z8.2.2.1, z8.2.2.2.1, z8.2.2.2.2.1, z8.2.2.2.2.2.1, z8.2.2.2.2.2.2))) ((some (z8.2.1, z8.2.2.1, z8.2.2.2.1, z8.2.2.2.2.1, z8.2.2.2.2.2.1, z8.2.2.2.2.2.2)))).bind fun z9 => ((impl_AppendRecord (a105, a106, a107, ()) (a1, z9.1, ())).bind fun y10 => (some (((z9.2.1, z9.2.2.2.2.2, z9.2.2.1, z9.2.2.2.1, z9.2.2.2.2.1, ()), (y10.1.1, y10.1.2.1, y10.1.2.2.1, ()), ()), z9.1)))))))))))
def impl_ExecuteCommand_i1.res (_ : Int) (_ : (List Slot)) (_ : Int) (_ : Int) (_ : Int) (_ : ByteArray) (_ : ByteArray) (_ : Int) (_ : ByteArray) (y : Console × ByteArray) : AV := (.tup [(.agg [(.v (.int .i64 y.1.1.1)), (.own 0), (.v (.int .i64 y.1.1.2.2.1)), (.v (.int .i64 y.1.1.2.2.2.1)), (.v (.int .i64 y.1.1.2.2.2.2.1)), (.v (.string y.1.2.1.1)), (.v (.string y.1.2.1.2.1)), (.v (.int .i64 y.1.2.1.2.2.1))]), (.v (.string y.2))])
def impl_ExecuteCommand_i1.out (_ : Int) (_ : (List Slot)) (_ : Int) (_ : Int) (_ : Int) (_ : ByteArray) (_ : ByteArray) (_ : Int) (_ : ByteArray) (y : Console × ByteArray) : List (Option LB) := [some (.arr 96 ty_Slot y.1.1.2.1)]
def impl_ExecuteCommand_i1.S (ar : List AV) (h : List (Option LB)) (r : AV) (h1 : List (Option LB)) : Prop := ∃ a100 a101 a102 a103 a104 a105 a106 a107 a1 y, impl_ExecuteCommand_i1 a100 a101 a102 a103 a104 a105 a106 a107 a1 = some y ∧ leL ar [(.agg [(.v (.int .i64 a100)), (.tree ty_Slot a101), (.v (.int .i64 a102)), (.v (.int .i64 a103)), (.v (.int .i64 a104)), (.v (.string a105)), (.v (.string a106)), (.v (.int .i64 a107))]), (.v (.string a1))] ∧ leH h [] ∧ r = impl_ExecuteCommand_i1.res a100 a101 a102 a103 a104 a105 a106 a107 a1 y ∧ h1 = impl_ExecuteCommand_i1.out a100 a101 a102 a103 a104 a105 a106 a107 a1 y
theorem impl_ExecuteCommand_i1.call {ar h a100 a101 a102 a103 a104 a105 a106 a107 a1 y} (H : impl_ExecuteCommand_i1 a100 a101 a102 a103 a104 a105 a106 a107 a1 = some y) (h0 : leLk ar [(.agg [(.v (.int .i64 a100)), (.tree ty_Slot a101), (.v (.int .i64 a102)), (.v (.int .i64 a103)), (.v (.int .i64 a104)), (.v (.string a105)), (.v (.string a106)), (.v (.int .i64 a107))]), (.v (.string a1))] (leHk h [])) : impl_ExecuteCommand_i1.S ar h (impl_ExecuteCommand_i1.res a100 a101 a102 a103 a104 a105 a106 a107 a1 y) (impl_ExecuteCommand_i1.out a100 a101 a102 a103 a104 a105 a106 a107 a1 y) := ⟨a100, a101, a102, a103, a104, a105, a106, a107, a1, y, H, (args_ok h0).1, (args_ok h0).2, rfl, rfl⟩
theorem impl_ExecuteCommand_i1.spec (a100 a101 a102 a103 a104 a105 a106 a107 a1 y) (H : impl_ExecuteCommand_i1 a100 a101 a102 a103 a104 a105 a106 a107 a1 = some y) : Spec Tryz.prog 15 [(.agg [(.v (.int .i64 a100)), (.tree ty_Slot a101), (.v (.int .i64 a102)), (.v (.int .i64 a103)), (.v (.int .i64 a104)), (.v (.string a105)), (.v (.string a106)), (.v (.int .i64 a107))]), (.v (.string a1))] [] (impl_ExecuteCommand_i1.res a100 a101 a102 a103 a104 a105 a106 a107 a1 y) (impl_ExecuteCommand_i1.out a100 a101 a102 a103 a104 a105 a106 a107 a1 y) := by
  refine spec_intro (G123_ok.at tok []) (ct := [(2, none), (10, none), (12, none), (7, some [1, 4, 6, 25])]) Tryz.func15 rfl (by kernel_rfl) (by kernel_rfl) rfl ?_
  repeat' first
    | ((with_reducible refine eqg ?_); exact rfl)
    | ((with_reducible refine KOb.mk ?_); kernel_rfl)
    | ((with_reducible intro h); (repeat first | replace H := grd_k H | replace H := out_step H ‹_›); first | replace H := cond_t h H | replace H := cond_f h H | exact absurd h (by decide) | skip)
    | ((with_reducible refine Ob.mk ?_); first | (with_reducible rfl) | (first | ((repeat (first | (with_reducible exact grd_p H) | replace H := grd_k H | replace H := out_step H ‹_›)); done) | rfl | ((repeat (first | exact grd_p H | (have hp := grd_p H; exact hp) | replace H := grd_k H | replace H := out_step H ‹_› | (replace H := bind_some H; obtain ⟨_, _, H⟩ := H))); done) | (repeat (first | exact grd_p H | replace H := grd_k H | replace H := out_step H ‹_›))))
    | (with_reducible exact True.intro)
    | ((conv => whnf); first
        | (with_reducible refine And.intro ?_ ?_)
        | (with_reducible exact True.intro)
        | (with_reducible refine (?_ : Ob _))
        | ((with_reducible refine CallW.mk ?_); (repeat first | replace H := grd_k H | replace H := out_step H ‹_›); replace H := bind_some H; obtain ⟨y, hy, H⟩ := H; first | ((with_reducible have hz : impl_copyRopeway_i1 _ _ _ _ _ = some y := hy); clear hz; refine Exists.intro _ (Exists.intro _ ⟨Or.inl (impl_copyRopeway_i1.call hy ?_), rfl, rfl, ?_⟩)) | ((with_reducible have hz : impl_IsValidConsole _ = some y := hy); clear hz; refine ⟨_, _, impl_IsValidConsole.call hy ?_, rfl, rfl, ?_⟩) | ((with_reducible have hz : impl_IsValidRecord _ = some y := hy); clear hz; refine ⟨_, _, impl_IsValidRecord.call hy ?_, rfl, rfl, ?_⟩) | ((with_reducible have hz : impl_run _ _ = some y := hy); clear hz; rcases y with y | y <;> refine ⟨_, _, impl_run.call hy ?_, rfl, rfl, ?_⟩) | ((with_reducible have hz : impl_AppendRecord _ _ = some y := hy); clear hz; refine ⟨_, _, impl_AppendRecord.call hy ?_, rfl, rfl, ?_⟩))
        | ((with_reducible refine cutAt (id := 2) ?_); (repeat first | replace H := grd_k H | replace H := out_step H ‹_›); first | (replace H := bind_some H; obtain ⟨z, hz, H⟩ := H; have hT : Tg 1 × Int × Int × Int × Int × (List Slot) := z; clear hT; refine CutC.mk (id := 2) ⟨sl [(1, (.v (.string a1))), (2, (.loc 0 0 0)), (4, (.loc 1 0 0)), (6, (.loc 2 0 0))], [some (.box 40 [(.v (.int .i64 a100)), (.tree ty_Slot a101), (.v (.int .i64 a102)), (.v (.int .i64 a103)), (.v (.int .i64 a104)), (.v (.string a105)), (.v (.string a106)), (.v (.int .i64 a107))]), some (.box 40 [(.v (.int .i64 (0 : Int))), (.v (.slice none 0 0)), (.v (.int .i64 (0 : Int))), (.v (.int .i64 (0 : Int))), (.v (.int .i64 (0 : Int))), (.v (.string (ByteArray.mk #[]))), (.v (.string (ByteArray.mk #[]))), (.v (.int .i64 (0 : Int)))]), some (.box 40 [(.v (.int .i64 z.2.1)), (.own 3), (.v (.int .i64 z.2.2.1)), (.v (.int .i64 z.2.2.2.1)), (.v (.int .i64 z.2.2.2.2.1)), (.v (.string a105)), (.v (.string a106)), (.v (.int .i64 a107))]), some (.arr 96 ty_Slot z.2.2.2.2.2)]⟩ ?_ ?_; (replace H := hz)))
        | ((with_reducible refine cutAt (id := 10) ?_); (repeat first | replace H := grd_k H | replace H := out_step H ‹_›); first | (replace H := bind_some H; obtain ⟨z, hz, H⟩ := H; have hT : Tg 2 × ByteArray × Int × Int × Int × Int × (List Slot) := z; clear hT; refine CutC.mk (id := 10) ⟨sl [(1, (.v (.string a1))), (4, (.loc 0 0 0)), (6, (.loc 1 0 0)), (7, (.v (.string z.2.1)))], [some (.box 40 [(.v (.int .i64 (0 : Int))), (.v (.slice none 0 0)), (.v (.int .i64 (0 : Int))), (.v (.int .i64 (0 : Int))), (.v (.int .i64 (0 : Int))), (.v (.string (ByteArray.mk #[]))), (.v (.string (ByteArray.mk #[]))), (.v (.int .i64 (0 : Int)))]), some (.box 40 [(.v (.int .i64 z.2.2.1)), (.own 2), (.v (.int .i64 z.2.2.2.1)), (.v (.int .i64 z.2.2.2.2.1)), (.v (.int .i64 z.2.2.2.2.2.1)), (.v (.string a105)), (.v (.string a106)), (.v (.int .i64 a107))]), some (.arr 96 ty_Slot z.2.2.2.2.2.2)]⟩ ?_ ?_; (replace H := hz)))
        | ((with_reducible refine cutAt (id := 12) ?_); (repeat first | replace H := grd_k H | replace H := out_step H ‹_›); first | (replace H := bind_some H; obtain ⟨z, hz, H⟩ := H; refine CutC.mk (id := 12) ⟨sl [(1, (.v (.string a1))), (4, (.loc 0 0 0)), (6, (.loc 1 0 0)), (7, (.v (.string z.1)))], [some (.box 40 [(.v (.int .i64 (0 : Int))), (.v (.slice none 0 0)), (.v (.int .i64 (0 : Int))), (.v (.int .i64 (0 : Int))), (.v (.int .i64 (0 : Int))), (.v (.string (ByteArray.mk #[]))), (.v (.string (ByteArray.mk #[]))), (.v (.int .i64 (0 : Int)))]), some (.box 40 [(.v (.int .i64 z.2.1)), (.own 2), (.v (.int .i64 z.2.2.1)), (.v (.int .i64 z.2.2.2.1)), (.v (.int .i64 z.2.2.2.2.1)), (.v (.string a105)), (.v (.string a106)), (.v (.int .i64 a107))]), some (.arr 96 ty_Slot z.2.2.2.2.2)]⟩ ?_ ?_; (replace H := hz)))
        | ((repeat first | replace H := grd_k H | replace H := out_step H ‹_›); have H := Option.some.inj H; subst H; with_reducible refine sub_auto ?_)
        | ((with_reducible refine fin_mk ?_); (repeat first | replace H := grd_k H | replace H := out_step H ‹_›); have H := Option.some.inj H; subst H))
    | constructor
def G124 : Env := G123.addOr 15 [true] impl_ExecuteCommand_i1.S
theorem G124_ok : EnvOk Tryz.prog G124 := G123_ok.addOr ent_15 fun ar h r h1 ⟨a100, a101, a102, a103, a104, a105, a106, a107, a1, y, hy, e1, e2, e3, e4⟩ => by
  subst e3 e4; exact (impl_ExecuteCommand_i1.spec a100 a101 a102 a103 a104 a105 a106 a107 a1 y hy).le e1 e2
attribute [local irreducible] impl_ExecuteCommand_i1

noncomputable def impl_ReplayLog_loop1  (v46 : (List LogRecord)) (v47 : (List LogRecord)) (v48 : Int) (v49 : Int) (v50 : Int) (v51 : (List Slot)) (v52 : Int) (v53 : Int) (v54 : Int) (v55 : ByteArray) (v56 : ByteArray) (v57 : Int) : Option (Lp ((List LogRecord) × (List LogRecord) × Int × Int × Int × (List Slot) × Int × Int × Int × ByteArray × ByteArray × Int) ((Int) ⊕ ((List LogRecord)))) :=
  (cond (decide (v49 < v48)) (grd (0 ≤ v49 ∧ v49 < (v47.length : Int)) ((impl_ExecuteCommand_i1 v50 v51 v52 v53 v54 v55 v56 v57 ((v47.getD v49.toNat d_LogRecord).1)).bind fun y58 => (cond (!decide (y58.2 = ((v47.getD v49.toNat d_LogRecord).2.1))) ((some (.out (Sum.inl v49)))) (some (.go (v46, v47, v48, (w64 (v49 + (1 : Int))), y58.1.1.1, y58.1.1.2.1, y58.1.1.2.2.1, y58.1.1.2.2.2.1, y58.1.1.2.2.2.2.1, y58.1.2.1.1, y58.1.2.1.2.1, y58.1.2.1.2.2.1)))))) ((some (.out (Sum.inr v46)))))
noncomputable def impl_ReplayLog (a0 : Int) (a1 : Int) (a2 : Log) : Option (Int × Bool) :=
  (((impl_NewConsole a0 a1).bind (Sum.elim (fun y2 => (some ((Tg.mk : Tg 1), false, y2.1.1, [], y2.1.2.2.1, y2.1.2.2.2.1, y2.1.2.2.2.2.1, y2.2.1.1, y2.2.1.2.1, y2.2.1.2.2.1))) (fun y3 => (some ((Tg.mk : Tg 1), true, y3.1.1, y3.1.2.1, y3.1.2.2.1, y3.1.2.2.2.1, y3.1.2.2.2.2.1, y3.2.1.1, y3.2.1.2.1, y3.2.1.2.2.1))))).bind fun z4 => (((impl_LogRecords (a2.1, a2.2.1, a2.2.2.1, ())).bind (Sum.elim (fun _ => (some ((Tg.mk : Tg 2), z4.2.1, [], false, z4.2.2.1, z4.2.2.2.1, z4.2.2.2.2.1, z4.2.2.2.2.2.1, z4.2.2.2.2.2.2.1, z4.2.2.2.2.2.2.2.1, z4.2.2.2.2.2.2.2.2.1, z4.2.2.2.2.2.2.2.2.2))) (fun y7 => (some ((Tg.mk : Tg 2), z4.2.1, y7, true, z4.2.2.1, z4.2.2.2.1, z4.2.2.2.2.1, z4.2.2.2.2.2.1, z4.2.2.2.2.2.2.1, z4.2.2.2.2.2.2.2.1, z4.2.2.2.2.2.2.2.2.1, z4.2.2.2.2.2.2.2.2.2))))).bind fun z8 => (cond (!z8.2.1) ((some ((0 : Int), false))) (cond (!z8.2.2.2.1) ((some ((0 : Int), false))) ((iter (fun s => impl_ReplayLog_loop1 s.1 s.2.1 s.2.2.1 s.2.2.2.1 s.2.2.2.2.1 s.2.2.2.2.2.1 s.2.2.2.2.2.2.1 s.2.2.2.2.2.2.2.1 s.2.2.2.2.2.2.2.2.1 s.2.2.2.2.2.2.2.2.2.1 s.2.2.2.2.2.2.2.2.2.2.1 s.2.2.2.2.2.2.2.2.2.2.2) (z8.2.2.1, z8.2.2.1, (z8.2.2.1.length : Int), (0 : Int), z8.2.2.2.2.1, z8.2.2.2.2.2.1, z8.2.2.2.2.2.2.1, z8.2.2.2.2.2.2.2.1, z8.2.2.2.2.2.2.2.2.1, z8.2.2.2.2.2.2.2.2.2.1, z8.2.2.2.2.2.2.2.2.2.2.1, z8.2.2.2.2.2.2.2.2.2.2.2)).bind (Sum.elim (fun r60 => (some (r60, true))) (fun r61 => (some ((r61.length : Int), true)))))))))
def impl_ReplayLog.res (_ : Int) (_ : Int) (_ : Log) (y : Int × Bool) : AV := (.tup [(.v (.int .i64 y.1)), (.bl y.2)])
def impl_ReplayLog.out (_ : Int) (_ : Int) (_ : Log) (_ : Int × Bool) : List (Option LB) := []
def impl_ReplayLog.S (ar : List AV) (h : List (Option LB)) (r : AV) (h1 : List (Option LB)) : Prop := ∃ a0 a1 a2 y, impl_ReplayLog a0 a1 a2 = some y ∧ leL ar [(.v (.int .i64 a0)), (.v (.int .i64 a1)), (.agg [(.v (.string a2.1)), (.v (.string a2.2.1)), (.v (.int .i64 a2.2.2.1))])] ∧ leH h [] ∧ r = impl_ReplayLog.res a0 a1 a2 y ∧ h1 = impl_ReplayLog.out a0 a1 a2 y
theorem impl_ReplayLog.call {ar h a0 a1 a2 y} (H : impl_ReplayLog a0 a1 a2 = some y) (h0 : leLk ar [(.v (.int .i64 a0)), (.v (.int .i64 a1)), (.agg [(.v (.string a2.1)), (.v (.string a2.2.1)), (.v (.int .i64 a2.2.2.1))])] (leHk h [])) : impl_ReplayLog.S ar h (impl_ReplayLog.res a0 a1 a2 y) (impl_ReplayLog.out a0 a1 a2 y) := ⟨a0, a1, a2, y, H, (args_ok h0).1, (args_ok h0).2, rfl, rfl⟩
theorem impl_ReplayLog.spec (a0 a1 a2 y) (H : impl_ReplayLog a0 a1 a2 = some y) : Spec Tryz.prog 11 [(.v (.int .i64 a0)), (.v (.int .i64 a1)), (.agg [(.v (.string a2.1)), (.v (.string a2.2.1)), (.v (.int .i64 a2.2.2.1))])] [] (impl_ReplayLog.res a0 a1 a2 y) (impl_ReplayLog.out a0 a1 a2 y) := by
  refine spec_intro (G124_ok.at tok []) (ct := [(2, none), (3, none), (9, some [8, 10, 12, 13, 14, 15, 33, 34, 35])]) Tryz.func11 rfl (by kernel_rfl) (by kernel_rfl) rfl ?_
  repeat' first
    | ((with_reducible refine eqg ?_); exact rfl)
    | ((with_reducible refine KOb.mk ?_); kernel_rfl)
    | ((with_reducible intro h); (repeat first | replace H := grd_k H | replace H := out_step H ‹_›); first | replace H := cond_t h H | replace H := cond_f h H | exact absurd h (by decide) | skip)
    | ((with_reducible refine Ob.mk ?_); first | (with_reducible rfl) | (first | ((repeat (first | (with_reducible exact grd_p H) | replace H := grd_k H | replace H := out_step H ‹_›)); done) | rfl | ((repeat (first | exact grd_p H | (have hp := grd_p H; exact hp) | replace H := grd_k H | replace H := out_step H ‹_› | (replace H := bind_some H; obtain ⟨_, _, H⟩ := H))); done) | (repeat (first | exact grd_p H | replace H := grd_k H | replace H := out_step H ‹_›))))
    | (with_reducible exact True.intro)
    | ((conv => whnf); first
        | (with_reducible refine And.intro ?_ ?_)
        | (with_reducible exact True.intro)
        | (with_reducible refine (?_ : Ob _))
        | ((with_reducible refine CallW.mk ?_); (repeat first | replace H := grd_k H | replace H := out_step H ‹_›); replace H := bind_some H; obtain ⟨y, hy, H⟩ := H; first | ((with_reducible have hz : impl_NewConsole _ _ = some y := hy); clear hz; rcases y with y | y <;> refine ⟨_, _, impl_NewConsole.call hy ?_, rfl, rfl, ?_⟩) | ((with_reducible have hz : impl_LogRecords _ = some y := hy); clear hz; rcases y with y | y <;> refine ⟨_, _, impl_LogRecords.call hy ?_, rfl, rfl, ?_⟩) | ((with_reducible have hz : impl_ExecuteCommand_i1 _ _ _ _ _ _ _ _ _ = some y := hy); clear hz; refine Exists.intro _ (Exists.intro _ ⟨Or.inl (impl_ExecuteCommand_i1.call hy ?_), rfl, rfl, ?_⟩)))
        | ((repeat first | replace H := grd_k H | replace H := out_step H ‹_›); refine loop_iter (G124_ok.at tok []) (ct := [(2, none), (3, none), (9, some [8, 10, 12, 13, 14, 15, 33, 34, 35])]) (F := (fun s1 : (List LogRecord) × (List LogRecord) × Int × Int × Int × (List Slot) × Int × Int × Int × ByteArray × ByteArray × Int => ⟨sl [(8, (.loc 0 0 0)), (10, (.tree ty_LogRecord s1.1)), (33, (.tree ty_LogRecord s1.2.1)), (34, (.v (.int .i64 s1.2.2.1))), (35, (.v (.int .i64 s1.2.2.2.1)))], [some (.box 40 [(.v (.int .i64 s1.2.2.2.2.1)), (.tree ty_Slot s1.2.2.2.2.2.1), (.v (.int .i64 s1.2.2.2.2.2.2.1)), (.v (.int .i64 s1.2.2.2.2.2.2.2.1)), (.v (.int .i64 s1.2.2.2.2.2.2.2.2.1)), (.v (.string s1.2.2.2.2.2.2.2.2.2.1)), (.v (.string s1.2.2.2.2.2.2.2.2.2.2.1)), (.v (.int .i64 s1.2.2.2.2.2.2.2.2.2.2.2))])]⟩)) (step := (fun s : (List LogRecord) × (List LogRecord) × Int × Int × Int × (List Slot) × Int × Int × Int × ByteArray × ByteArray × Int => impl_ReplayLog_loop1 s.1 s.2.1 s.2.2.1 s.2.2.2.1 s.2.2.2.2.1 s.2.2.2.2.2.1 s.2.2.2.2.2.2.1 s.2.2.2.2.2.2.2.1 s.2.2.2.2.2.2.2.2.1 s.2.2.2.2.2.2.2.2.2.1 s.2.2.2.2.2.2.2.2.2.2.1 s.2.2.2.2.2.2.2.2.2.2.2)) _ H (by kernel_rfl) (sub_auto ?_) ?_; rotate_left; (intro s1 r v hr H); rotate_right)
        | ((with_reducible refine cutAt (id := 2) ?_); (repeat first | replace H := grd_k H | replace H := out_step H ‹_›); first | (replace H := bind_some H; obtain ⟨z, hz, H⟩ := H; have hT : Tg 1 × Bool × Int × (List Slot) × Int × Int × Int × ByteArray × ByteArray × Int := z; clear hT; refine CutC.mk (id := 2) ⟨sl [(5, (.loc 0 0 0)), (8, (.loc 1 0 0)), (9, (.bl z.2.1))], [some (.box 27 [(.v (.string a2.1)), (.v (.string a2.2.1)), (.v (.int .i64 a2.2.2.1))]), some (.box 40 [(.v (.int .i64 z.2.2.1)), (.tree ty_Slot z.2.2.2.1), (.v (.int .i64 z.2.2.2.2.1)), (.v (.int .i64 z.2.2.2.2.2.1)), (.v (.int .i64 z.2.2.2.2.2.2.1)), (.v (.string z.2.2.2.2.2.2.2.1)), (.v (.string z.2.2.2.2.2.2.2.2.1)), (.v (.int .i64 z.2.2.2.2.2.2.2.2.2))])]⟩ ?_ ?_; (replace H := hz)))
        | ((with_reducible refine cutAt (id := 3) ?_); (repeat first | replace H := grd_k H | replace H := out_step H ‹_›); first | (replace H := bind_some H; obtain ⟨z, hz, H⟩ := H; have hT : Tg 2 × Bool × (List LogRecord) × Bool × Int × (List Slot) × Int × Int × Int × ByteArray × ByteArray × Int := z; clear hT; refine CutC.mk (id := 3) ⟨sl [(8, (.loc 0 0 0)), (9, (.bl z.2.1)), (10, (.tree ty_LogRecord z.2.2.1)), (11, (.bl z.2.2.2.1))], [some (.box 40 [(.v (.int .i64 z.2.2.2.2.1)), (.tree ty_Slot z.2.2.2.2.2.1), (.v (.int .i64 z.2.2.2.2.2.2.1)), (.v (.int .i64 z.2.2.2.2.2.2.2.1)), (.v (.int .i64 z.2.2.2.2.2.2.2.2.1)), (.v (.string z.2.2.2.2.2.2.2.2.2.1)), (.v (.string z.2.2.2.2.2.2.2.2.2.2.1)), (.v (.int .i64 z.2.2.2.2.2.2.2.2.2.2.2))])]⟩ ?_ ?_; (replace H := hz)))
        | ((repeat first | replace H := grd_k H | replace H := out_step H ‹_›); have H := Option.some.inj H; subst H; with_reducible refine sub_auto ?_)
        | ((repeat first | replace H := grd_k H | replace H := out_step H ‹_›); refine again_step H (by assumption) (sub_auto ?_))
        | ((with_reducible refine fin_mk ?_); (repeat first | replace H := grd_k H | replace H := out_step H ‹_›); have H := Option.some.inj H; subst H))
    | constructor
def G125 : Env := G124.add 11 [] impl_ReplayLog.S
theorem G125_ok : EnvOk Tryz.prog G125 := G124_ok.add ent_11 fun ar h r h1 ⟨a0, a1, a2, y, hy, e1, e2, e3, e4⟩ => by
  subst e3 e4; exact (impl_ReplayLog.spec a0 a1 a2 y hy).le e1 e2
attribute [local irreducible] impl_ReplayLog

noncomputable def laws_FnExactReplayLog (a0 : Int) (a1 : Int) (a2 : Log) : Option (Bool) :=
  ((laws_szLog (a2.1, a2.2.1, a2.2.2.1, ()) (1048576 : Int)).bind fun y1 => (cond (decide (y1 < (0 : Int))) ((some true)) ((laws_toLog (a2.1, a2.2.1, a2.2.2.1, ())).bind fun y2 => ((spec_ReplayLog a0 a1 (y2.1, y2.2.1, y2.2.2.1, ())).bind fun y3 => ((laws_toLog (a2.1, a2.2.1, a2.2.2.1, ())).bind fun y4 => ((impl_ReplayLog a0 a1 (y4.1, y4.2.1, y4.2.2.1, ())).bind fun y5 => (cond (!decide (y5.1 = y3.1)) ((some false)) (cond (!(y5.2 == y3.2)) ((some false)) ((some true))))))))))
def laws_FnExactReplayLog.res (_ : Int) (_ : Int) (_ : Log) (y : Bool) : AV := (.bl y)
def laws_FnExactReplayLog.out (_ : Int) (_ : Int) (_ : Log) (_ : Bool) : List (Option LB) := []
def laws_FnExactReplayLog.S (ar : List AV) (h : List (Option LB)) (r : AV) (h1 : List (Option LB)) : Prop := ∃ a0 a1 a2 y, laws_FnExactReplayLog a0 a1 a2 = some y ∧ leL ar [(.v (.int .i64 a0)), (.v (.int .i64 a1)), (.agg [(.v (.string a2.1)), (.v (.string a2.2.1)), (.v (.int .i64 a2.2.2.1))])] ∧ leH h [] ∧ r = laws_FnExactReplayLog.res a0 a1 a2 y ∧ h1 = laws_FnExactReplayLog.out a0 a1 a2 y
theorem laws_FnExactReplayLog.call {ar h a0 a1 a2 y} (H : laws_FnExactReplayLog a0 a1 a2 = some y) (h0 : leLk ar [(.v (.int .i64 a0)), (.v (.int .i64 a1)), (.agg [(.v (.string a2.1)), (.v (.string a2.2.1)), (.v (.int .i64 a2.2.2.1))])] (leHk h [])) : laws_FnExactReplayLog.S ar h (laws_FnExactReplayLog.res a0 a1 a2 y) (laws_FnExactReplayLog.out a0 a1 a2 y) := ⟨a0, a1, a2, y, H, (args_ok h0).1, (args_ok h0).2, rfl, rfl⟩
theorem laws_FnExactReplayLog.spec (a0 a1 a2 y) (H : laws_FnExactReplayLog a0 a1 a2 = some y) : Spec Tryz.prog 3 [(.v (.int .i64 a0)), (.v (.int .i64 a1)), (.agg [(.v (.string a2.1)), (.v (.string a2.2.1)), (.v (.int .i64 a2.2.2.1))])] [] (laws_FnExactReplayLog.res a0 a1 a2 y) (laws_FnExactReplayLog.out a0 a1 a2 y) := by
  refine spec_intro (G125_ok.at tok []) (ct := [(6, some [0, 1, 5, 8, 9, 37, 38, 39]), (8, some [40])]) Tryz.func3 rfl (by kernel_rfl) (by kernel_rfl) rfl ?_
  repeat' first
    | ((with_reducible refine eqg ?_); exact rfl)
    | ((with_reducible refine KOb.mk ?_); kernel_rfl)
    | ((with_reducible intro h); (repeat first | replace H := grd_k H | replace H := out_step H ‹_›); first | replace H := cond_t h H | replace H := cond_f h H | exact absurd h (by decide) | skip)
    | ((with_reducible refine Ob.mk ?_); first | (with_reducible rfl) | (first | ((repeat (first | (with_reducible exact grd_p H) | replace H := grd_k H | replace H := out_step H ‹_›)); done) | rfl | ((repeat (first | exact grd_p H | (have hp := grd_p H; exact hp) | replace H := grd_k H | replace H := out_step H ‹_› | (replace H := bind_some H; obtain ⟨_, _, H⟩ := H))); done) | (repeat (first | exact grd_p H | replace H := grd_k H | replace H := out_step H ‹_›))))
    | (with_reducible exact True.intro)
    | ((conv => whnf); first
        | (with_reducible refine And.intro ?_ ?_)
        | (with_reducible exact True.intro)
        | (with_reducible refine (?_ : Ob _))
        | ((with_reducible refine CallW.mk ?_); (repeat first | replace H := grd_k H | replace H := out_step H ‹_›); replace H := bind_some H; obtain ⟨y, hy, H⟩ := H; first | ((with_reducible have hz : laws_szLog _ _ = some y := hy); clear hz; refine ⟨_, _, laws_szLog.call hy ?_, rfl, rfl, ?_⟩) | ((with_reducible have hz : laws_toLog _ = some y := hy); clear hz; refine ⟨_, _, laws_toLog.call hy ?_, rfl, rfl, ?_⟩) | ((with_reducible have hz : spec_ReplayLog _ _ _ = some y := hy); clear hz; refine ⟨_, _, spec_ReplayLog.call hy ?_, rfl, rfl, ?_⟩) | ((with_reducible have hz : impl_ReplayLog _ _ _ = some y := hy); clear hz; refine ⟨_, _, impl_ReplayLog.call hy ?_, rfl, rfl, ?_⟩))
        | ((with_reducible refine fin_mk ?_); (repeat first | replace H := grd_k H | replace H := out_step H ‹_›); have H := Option.some.inj H; subst H))
    | constructor
def G126 : Env := G125.add 3 [] laws_FnExactReplayLog.S
theorem G126_ok : EnvOk Tryz.prog G126 := G125_ok.add ent_3 fun ar h r h1 ⟨a0, a1, a2, y, hy, e1, e2, e3, e4⟩ => by
  subst e3 e4; exact (laws_FnExactReplayLog.spec a0 a1 a2 y hy).le e1 e2
attribute [local irreducible] laws_FnExactReplayLog

end Go.Proofs.YtaobinhdnklojaaGreatDoor
namespace Go.Proofs.YtaobinhdnklojaaGreatDoor
open Go.RowKit
attribute [local irreducible] Ob loopwp Sub Spec Fin Again CallW CutC KOb iter

attribute [local irreducible] spec_l1Num_f slices_IndexFunc___impl_Slot_impl_Slot__i2 slices_IndexFunc___impl_Slot_impl_Slot__i3 slices_ContainsFunc___impl_Slot_impl_Slot__i2 slices_Clone___impl_Slot_impl_Slot__i1 impl_copyRopeway_i1 impl_ExecuteCommand_i1

end Go.Proofs.YtaobinhdnklojaaGreatDoor
namespace Go.Proofs.YtaobinhdnklojaaGreatDoor
open Go.RowKit
attribute [local irreducible] Ob loopwp Sub Spec Fin Again CallW CutC KOb iter

attribute [local irreducible] spec_l1Num_f slices_IndexFunc___impl_Slot_impl_Slot__i2 slices_IndexFunc___impl_Slot_impl_Slot__i3 slices_ContainsFunc___impl_Slot_impl_Slot__i2 slices_Clone___impl_Slot_impl_Slot__i1 impl_copyRopeway_i1 impl_ExecuteCommand_i1

end Go.Proofs.YtaobinhdnklojaaGreatDoor
namespace Go.Proofs.YtaobinhdnklojaaGreatDoor
open Go.ChangeShapes Go.WideShapes Go.ChangeAt Go.RowKit

mutual
def tyOk (P : Program) : Ty → TypeId → Bool
  | .int k, t => match P.underlying t with | some (.int k') => decide (k' = k) | _ => false
  | .bool, t => match P.underlying t with | some .bool => true | _ => false
  | .str, t => match P.underlying t with | some .string => true | _ => false
  | .st ss, t => match P.underlying t with | some (.struct fs) => tysOk P ss fs.toList 0 && decide (P.cellsOf t = Ty.ns ss) | _ => false
  | .sl e, t => match P.underlying t with | some (.slice u) => tyOk P e u && decide (P.cellsOf u = e.n) && decide (0 < e.n) | _ => false
def tysOk (P : Program) : List Ty → List Field → Nat → Bool
  | [], [], _ => true
  | s :: ss, f :: fs, o => decide (f.offset = o) && decide (P.cellsOf f.type = s.n) && tyOk P s f.type && tysOk P ss fs (o + s.n)
  | _, _, _ => false
end
mutual
def Ty.fit : (t : Ty) → t.den → Prop
  | .int k, (n : Int) => k.min ≤ n ∧ n ≤ k.max
  | .bool, _ => True
  | .str, s => ByteArray.size s ≤ 1048576
  | .st fs, x => Ty.fits fs x
  | .sl e, (xs : List e.den) => xs.length ≤ 1048576 ∧ ∀ x ∈ xs, Ty.fit e x
def Ty.fits : (ts : List Ty) → Ty.dens ts → Prop
  | [], _ => True
  | t :: ts, x => Ty.fit t x.1 ∧ Ty.fits ts x.2
end
def Cs (w : World) (l : List AV) (cs : List Value) : Prop := l.length = cs.length ∧ ∀ (i : Nat) (c : AV) (x : Value), l[i]? = some c → cs[i]? = some x → x.oneCell' = true ∧ Rt w (fun b => b < w.heap.size) c x
theorem Cs.append {w : World} {l l' : List AV} {cs cs' : List Value} (h : Cs w l cs) (h' : Cs w l' cs') : Cs w (l ++ l') (cs ++ cs') := by
  refine ⟨by simp [h.1, h'.1], fun i c x h1 h2 => ?_⟩
  by_cases hi : i < l.length
  · rw [List.getElem?_append_left hi] at h1
    rw [List.getElem?_append_left (by rw [← h.1]; exact hi)] at h2
    exact h.2 i c x h1 h2
  · rw [List.getElem?_append_right (by omega)] at h1
    rw [List.getElem?_append_right (by rw [← h.1]; omega), ← h.1] at h2
    exact h'.2 _ c x h1 h2
theorem Cs.one {w : World} {c : AV} {x : Value} (hx : x.oneCell' = true) (h : Rt w (fun b => b < w.heap.size) c x) : Cs w [c] [x] := by
  refine ⟨rfl, fun i c' x' h1 h2 => ?_⟩
  cases i with
  | zero => simp at h1 h2; subst h1 h2; exact ⟨hx, h⟩
  | succ i => simp at h1
theorem Cs.nil {w : World} : Cs w [] [] := ⟨rfl, fun i c x h1 => by simp at h1⟩

section
variable {H : Type} {enc : TypeId × Value → H} {P : Program} {w : World} {spare : Nat → Bool} {held : Bool}
theorem bulk_part {d : DataW H} : ∀ {l : List (DataW H)}, d ∈ l → Rows.uptoBulk d ≤ Rows.uptoBulkAll l
  | x :: r, h => by
    simp only [Rows.uptoBulkAll]
    rcases List.mem_cons.1 h with e | e
    · subst e; omega
    · have := bulk_part e; omega
theorem bulk_pos (d : DataW H) : 1 ≤ Rows.uptoBulk d := by
  cases d with
  | lit l => cases l <;> simp [Rows.uptoBulk]
  | _ => simp [Rows.uptoBulk]
theorem bulk_len : ∀ (l : List (DataW H)), l.length ≤ Rows.uptoBulkAll l
  | [] => by simp
  | x :: r => by have := bulk_pos x; have := bulk_len r; simp only [Rows.uptoBulkAll, List.length_cons]; omega

def OpensAt (enc : TypeId × Value → H) (P : Program) (w : World) (spare : Nat → Bool) (held : Bool) (n : Nat) : Prop :=
  ∀ (sh : Ty) (t : TypeId) (cs : List Value) (d : DataW H) (ps : List MemPlace), tyOk P sh t = true → DataW.trod enc P w 0 spare held n t cs = some (d, ps) → Rows.uptoBulk d ≤ 1048576 →
    ∃ x : sh.den, sh.fit x ∧ Cs w (sh.enc x) cs
theorem opens_fields {n : Nat} (ih : OpensAt enc P w spare held n) : ∀ (ss : List Ty) (fs : List Field) (o : Nat) (cs : List Value) (xs : List (DataW H × List MemPlace)), tysOk P ss fs o = true → cs.length = Ty.ns ss →
    xs.length = fs.length → (∀ (i : Nat) (f : Field), fs[i]? = some f → DataW.trod enc P w 0 spare held n f.type ((cs.drop (f.offset - o)).take (P.cellsOf f.type)) = xs[i]?) → Rows.uptoBulkAll (xs.map (·.1)) ≤ 1048576 →
    ∃ l : Ty.dens ss, Ty.fits ss l ∧ Cs w (Ty.encs ss l) cs
  | [], [], o, cs, xs, _, hl, hx, _, _ => by
    have : cs = [] := by simpa [Ty.ns] using hl
    subst this
    exact ⟨(), by simp [Ty.fits], by simpa [Ty.encs] using Cs.nil⟩
  | s :: ss, f :: fs, o, cs, x :: xs, hok, hl, hx, hf, hb => by
    simp only [tysOk, Bool.and_eq_true, decide_eq_true_eq] at hok
    obtain ⟨⟨⟨ho, hc⟩, hs⟩, hss⟩ := hok
    simp only [Ty.ns] at hl
    simp only [List.map_cons, Rows.uptoBulkAll] at hb
    have h0 := hf 0 f rfl
    rw [ho, hc, Nat.sub_self, List.drop_zero] at h0
    obtain ⟨d, h1, h3⟩ := ih s f.type (cs.take s.n) x.1 x.2 hs h0 (by omega)
    obtain ⟨l, g1, g3⟩ := opens_fields ih ss fs (o + s.n) (cs.drop s.n) xs hss (by rw [List.length_drop]; omega) (by simpa using hx) (fun i g hg => by
      have h4 := hf (i + 1) g (by simpa using hg)
      have h5 : o + s.n ≤ g.offset := shs_off hss i g hg
      rw [List.drop_drop, show s.n + (g.offset - (o + s.n)) = g.offset - o by omega]
      simpa using h4) (by omega)
    refine ⟨(d, l), ⟨h1, g1⟩, ?_⟩
    have := h3.append g3
    rw [List.take_append_drop] at this
    exact this
  | [], _ :: _, o, cs, xs, hok, _, _, _, _ => by simp [tysOk] at hok
  | _ :: _, [], o, cs, xs, hok, _, _, _, _ => by simp [tysOk] at hok
  | _ :: _, _ :: _, o, cs, [], _, _, hx, _, _ => by simp at hx
where
  shs_off {P : Program} : ∀ {ss : List Ty} {fs : List Field} {o : Nat}, tysOk P ss fs o = true → ∀ (i : Nat) (f : Field), fs[i]? = some f → o ≤ f.offset
  | _, [], o, _, i, f, h => by simp at h
  | [], _ :: _, o, hok, i, f, h => by simp [tysOk] at hok
  | s :: ss, g :: fs, o, hok, i, f, h => by
    simp only [tysOk, Bool.and_eq_true, decide_eq_true_eq] at hok
    cases i with
    | zero => simp at h; subst h; omega
    | succ i => have := shs_off hok.2 i f (by simpa using h); omega

theorem opens (hbig : 1048576 ≤ bigLen) : ∀ n, OpensAt enc P w spare held n
  | 0, _, _, _, _, _, _, h, _ => by simp [DataW.trod] at h
  | n + 1, .int k, t, cs, d, ps, hok, h, hb => by
    unfold tyOk at hok; split at hok
    · rename_i k' hu
      obtain rfl := of_decide_eq_true hok
      obtain ⟨m, rfl, hx, hw⟩ := DataW.trod_int hu h
      cases hx
      refine ⟨m, ?_, Cs.one rfl (.v _)⟩
      show k'.min ≤ m ∧ m ≤ k'.max
      simpa [Lit.wf] using hw
    · cases hok
  | n + 1, .bool, t, cs, d, ps, hok, h, hb => by
    unfold tyOk at hok; split at hok
    · rename_i hu
      obtain ⟨m, rfl, hx⟩ := DataW.trod_bool hu h
      cases hx
      exact ⟨m, trivial, Cs.one rfl (.bl _)⟩
    · cases hok
  | n + 1, .str, t, cs, d, ps, hok, h, hb => by
    unfold tyOk at hok; split at hok
    · rename_i hu
      obtain ⟨s, rfl, hx, hw⟩ := DataW.trod_string hu h
      cases hx
      have h1 : Rows.uptoBulk (DataW.lit (H := H) (.string s.data.toList)) = s.size + 1 := by simp only [Rows.uptoBulk]; rw [Array.length_toList]; rfl
      rw [h1] at hb
      refine ⟨s, ?_, Cs.one rfl (.v _)⟩
      show s.size ≤ 1048576
      omega
    · cases hok
  | n + 1, .st ss, t, cs, d, ps, hok, h, hb => by
    unfold tyOk at hok; split at hok
    · rename_i fs hu
      simp only [Bool.and_eq_true, decide_eq_true_eq] at hok
      obtain ⟨xs, n', hn, hx, hl, hxl, hf⟩ := DataW.trod_struct hu h
      cases hn
      simp only [Prod.mk.injEq] at hx
      obtain ⟨rfl, rfl⟩ := hx
      simp only [Rows.uptoBulk] at hb
      obtain ⟨l, h1, h3⟩ := opens_fields (opens hbig n) ss fs.toList 0 cs xs hok.1 (by rw [hl]; exact hok.2) (by simpa using hxl) (fun i f hi => by rw [Nat.sub_zero]; exact hf i f (by simpa using hi)) (by omega)
      exact ⟨l, h1, h3⟩
    · cases hok
  | n + 1, .sl e, t, cs, d, ps, hok, h, hb => by
    unfold tyOk at hok; split at hok
    · rename_i u hu
      simp only [Bool.and_eq_true, decide_eq_true_eq] at hok
      obtain ⟨⟨hok, hc⟩, hpos⟩ := hok
      rcases DataW.trod_slice hu h with ⟨rfl, hx⟩ | ⟨a, len, cap, elems, rest, n', hn, rfl, hx, _, hlc, hm, hlen, hel, _, _⟩
      · cases hx
        refine ⟨([] : List e.den), ⟨by simp, by simp⟩, ?_⟩
        refine Cs.one rfl (.tree e [] none 0 0 0 0 (fun _ _ => .bool false) rfl (by simp) (by simp) (by simp) (by simp) (by simp) (by simp))
      · cases hn
        simp only [Prod.mk.injEq] at hx
        obtain ⟨rfl, rfl⟩ := hx
        simp only [Rows.uptoBulk] at hb
        have hlb : len ≤ 1048576 := by
          have := bulk_len (elems.map (·.1)); rw [List.length_map, hlen] at this; omega
        have hone : ∀ i : Nat, i < len → ∃ (x : e.den) (cs' : List Value), e.fit x ∧ w.cells? 0 (a.add (i * e.n)) e.n = some cs' ∧ Cs w (e.enc x) cs' := by
          intro i hi
          have h1 := hel i hi
          obtain ⟨y, hy⟩ : ∃ y, elems[i]? = some y := ⟨elems[i]'(by omega), List.getElem?_eq_getElem _⟩
          rw [hy, hc] at h1
          obtain ⟨cs', h2, h3⟩ := Option.bind_eq_some_iff.1 h1
          have hy' : y.1 ∈ elems.map (·.1) := List.mem_map.2 ⟨y, List.mem_of_getElem? hy, rfl⟩
          have := bulk_part hy'
          obtain ⟨x, g1, g3⟩ := opens hbig n e u cs' y.1 y.2 hok h3 (by omega)
          exact ⟨x, cs', g1, h2, g3⟩
        classical
        let X : Nat → e.den := fun i => if hi : i < len then (hone i hi).choose else e.dflt
        have hX : ∀ i, i < len → ∃ cs' : List Value, e.fit (X i) ∧ w.cells? 0 (a.add (i * e.n)) e.n = some cs' ∧ Cs w (e.enc (X i)) cs' := fun i hi => by
          have := (hone i hi).choose_spec
          simpa only [X, dif_pos hi] using this
        let Y : Nat → List Value := fun i => if hi : i < len then (hX i hi).choose else []
        have hY : ∀ i, i < len → e.fit (X i) ∧ w.cells? 0 (a.add (i * e.n)) e.n = some (Y i) ∧ Cs w (e.enc (X i)) (Y i) := fun i hi => by
          have := (hX i hi).choose_spec
          simpa only [Y, dif_pos hi] using this
        have hln : ((List.range len).map X).length = len := by simp
        have hrow : ∀ k, k < len → rowT e ((List.range len).map X) k = e.enc (X k) := fun k hk => by
          simp [rowT, List.getD_eq_getElem?_getD, hk]
        have hspot : 0 < len → a.spot = none := fun hl0 => by
          obtain ⟨_, h2, _⟩ := hY 0 hl0
          obtain ⟨_, _, h3⟩ := World.cells?_some h2
          have h4 := h3 0 hpos
          obtain ⟨_, hlen3, _⟩ := World.cells?_some h2
          rw [List.getElem?_eq_getElem (by omega)] at h4
          unfold World.cell? at h4
          have h5 : (a.add (0 * e.n)).add 0 = a := by simp [Addr.add]
          rw [h5] at h4
          split at h4
          · split at h4
            · cases h4
            · rename_i hs; simpa using hs
          · cases h4
        have hcell : ∀ k j c, k < len → (e.enc (X k))[j]? = some c → ∃ x, (Y k)[j]? = some x ∧ w.cell? ⟨a.block, a.off + k * e.n + j, none⟩ = some x ∧ x.oneCell' = true ∧ Rt w (fun b => b < w.heap.size) c x := fun k j c hk hj => by
          obtain ⟨_, h2, h3⟩ := hY k hk
          obtain ⟨_, hl3, h4⟩ := World.cells?_some h2
          have hj2 : j < e.n := by rw [← hl3, ← h3.1]; exact (List.getElem?_eq_some_iff.1 hj).1
          have h5 := h4 j hj2
          have hs := hspot (by omega)
          obtain ⟨bl, off, sp⟩ := a
          simp only at hs
          subst hs
          have h6 : ((⟨bl, off, none⟩ : Addr).add (k * e.n)).add j = ⟨bl, off + k * e.n + j, none⟩ := by
            unfold Addr.add; split <;> split <;> simp_all
          rw [h6] at h5
          have h7 : (Y k)[j]? = some ((Y k)[j]'(by omega)) := List.getElem?_eq_getElem (by omega)
          rw [h7] at h5
          exact ⟨_, h7, h5, h3.2 j c _ hj h7⟩
        refine ⟨(List.range len).map X, ⟨by rw [hln]; exact hlb, fun x hx => ?_⟩, ?_⟩
        · obtain ⟨i, hi, rfl⟩ := List.mem_map.1 hx
          exact (hY i (List.mem_range.1 hi)).1
        · refine Cs.one rfl (.tree e _ (some a) len cap a.block a.off (fun k j => ((Y k)[j]?).getD (.bool false)) hln.symm (by rw [hln]; omega) (by rw [hln]; exact hlc) hm ?_ ?_ ?_)
          · intro hl0
            rw [hln] at hl0
            refine ⟨?_, ?_⟩
            · have := hspot hl0
              obtain ⟨bl, off, sp⟩ := a
              simp only at this; subst this; rfl
            · obtain ⟨_, h2, h3⟩ := hY 0 hl0
              have hl4 := (World.cells?_some h2).2.1
              have hc0 : (e.enc (X 0))[0]? = some ((e.enc (X 0))[0]'(by rw [h3.1]; omega)) := List.getElem?_eq_getElem _
              obtain ⟨_, _, h5, _⟩ := hcell 0 0 _ hl0 hc0
              unfold World.cell? at h5
              split at h5
              · rename_i hh; exact (Array.getElem?_eq_some_iff.1 hh).1
              · cases h5
          · intro k j c hk hj
            rw [hln] at hk
            rw [hrow k hk] at hj
            obtain ⟨x, h1, h2, h3, _⟩ := hcell k j c hk hj
            simp only [h1]
            exact ⟨h2, h3⟩
          · intro k j c hk hj
            rw [hln] at hk
            rw [hrow k hk] at hj
            obtain ⟨x, h1, _, _, h4⟩ := hcell k j c hk hj
            simp only [h1]
            exact h4
    · cases hok
end
def Ty.av (t : Ty) (x : t.den) : AV :=
  match t, x with
  | .int k, n => .v (.int k n)
  | .bool, b => .bl b
  | .str, s => .v (.string s)
  | .st fs, x => .agg (Ty.encs fs x)
  | .sl e, xs => .tree e xs
def Ty.avs : (ts : List Ty) → Ty.dens ts → List AV
  | [], _ => []
  | t :: ts, x => t.av x.1 :: Ty.avs ts x.2
theorem avs_length : ∀ (ts : List Ty) (x : Ty.dens ts), (Ty.avs ts x).length = ts.length
  | [], _ => rfl
  | t :: ts, x => by simp [Ty.avs, avs_length ts]
def tyTop (P : Program) : List Ty → List TypeId → Bool
  | [], [] => true
  | s :: ss, t :: ts => tyOk P s t && tyTop P ss ts
  | _, _ => false

section
variable {H : Type} {enc : TypeId × Value → H} {P : Program}
theorem cells1 {w : World} {c : AV} {x y : Value} (hx : x.cells.toList = [y]) (hxy : x = y) (h : Cs w [c] x.cells.toList) : Rt w (fun b => b < w.heap.size) c x := by
  rw [hx] at h; rw [hxy]; exact (h.2 0 c y rfl rfl).2

theorem open_top {W : World} {base : Nat} {spare : Nat → Bool} {held : Bool} {r : Reach} {sh : Ty} {t : TypeId} {v : Value} {d : DataW H} {ps : List MemPlace} (hok : tyOk P sh t = true) (hval : Value.okWide P W r base t v)
    (h : DataW.Trod enc P W 0 spare held t v d ps) (hb : Rows.uptoBulk d ≤ 1048576) : ∃ x : sh.den, sh.fit x ∧ Rt W (fun b => b < W.heap.size) (sh.av x) v := by
  obtain ⟨n, hn⟩ := h
  obtain ⟨x, h1, h3⟩ := opens (by decide) n sh t _ d ps hok hn hb
  refine ⟨x, h1, ?_⟩
  cases sh with
  | int k =>
    unfold tyOk at hok; split at hok
    · rename_i k' hu
      obtain ⟨m', rfl⟩ := okWide_int hu hval
      exact cells1 rfl rfl h3
    · cases hok
  | bool =>
    unfold tyOk at hok; split at hok
    · rename_i hu
      obtain ⟨m', rfl⟩ := okWide_bool hu hval
      exact cells1 rfl rfl h3
    · cases hok
  | str =>
    unfold tyOk at hok; split at hok
    · rename_i hu
      obtain ⟨m', rfl⟩ := okWide_string hu hval
      exact cells1 rfl rfl h3
    · cases hok
  | sl e =>
    unfold tyOk at hok; split at hok
    · rename_i hu
      obtain ⟨a, len, cap, rfl⟩ := okWide_slice hu hval
      exact cells1 rfl rfl h3
    · cases hok
  | st ss =>
    unfold tyOk at hok; split at hok
    · rename_i hu
      obtain ⟨cs, rfl, _⟩ := okWide_struct hu hval
      have h4 : (Value.agg cs).cells.toList = cs.toList := rfl
      rw [h4] at h3
      refine .agg _ cs (by rw [← Array.length_toList]; exact h3.1.symm) fun i c x e1 e2 => (h3.2 i c x e1 (by simpa using e2)).2
    · cases hok

theorem open_all {W : World} {base : Nat} {spare : Nat → Bool} {held : Bool} {r : Reach} : ∀ {ss : List Ty} {ts : List TypeId} {vs : List Value} {ds : List (DataW H)} {ps : List MemPlace}, tyTop P ss ts = true →
    (∀ (j : Nat) t v, ts[j]? = some t → vs[j]? = some v → Value.okWide P W r base t v) → DataW.TrodAll enc P W 0 spare held ts vs ds ps → Rows.uptoBulkAll ds ≤ 1048576 →
    ∃ xs : Ty.dens ss, Ty.fits ss xs ∧ vs.length = ss.length ∧ ds.length = ts.length ∧ ∀ (i : Nat) (c : AV) (v : Value), (Ty.avs ss xs)[i]? = some c → vs[i]? = some v → Rt W (fun b => b < W.heap.size) c v
  | [], [], vs, ds, ps, _, _, h, _ => by
    obtain ⟨rfl, rfl, rfl⟩ := trodAll_nil h
    exact ⟨(), trivial, rfl, rfl, by simp [Ty.avs]⟩
  | s :: ss, t :: ts, vs, ds, ps, hok, hval, h, hb => by
    obtain ⟨v, vs, d, ds, p, q, rfl, rfl, rfl, h0, h1⟩ := trodAll_cons h
    simp only [tyTop, Bool.and_eq_true] at hok
    simp only [Rows.uptoBulkAll] at hb
    obtain ⟨x, g1, g3⟩ := open_top hok.1 (hval 0 t v rfl rfl) h0 (by omega)
    obtain ⟨xs, k1, k3, k4, k5⟩ := open_all hok.2 (fun j t v e1 e2 => hval (j + 1) t v (by simpa using e1) (by simpa using e2)) h1 (by omega)
    refine ⟨(x, xs), ⟨g1, k1⟩, by simp [k3], by simp [k4], fun i y u e1 e2 => ?_⟩
    cases i with
    | zero => simp [Ty.avs] at e1 e2; subst e1 e2; exact g3
    | succ i => exact k5 i y u (by simpa [Ty.avs] using e1) (by simpa using e2)
  | [], _ :: _, _, _, _, hok, _, _, _ => by simp [tyTop] at hok
  | _ :: _, [], _, _, _, hok, _, _, _ => by simp [tyTop] at hok

theorem trodAll_stays (hl : laidOutB P = true) {W W' : World} (hb : Below W.heap.size W W') : ∀ {ts : List TypeId} {vs : List Value} {ds : List (DataW H)} {ps : List MemPlace},
    (ts.all fun t => P.readableRec t && decide (t < P.types.size)) = true → DataW.TrodAll enc P W 0 (fun _ => true) true ts vs ds ps → (∀ x ∈ ps, x.block < W.heap.size) → DataW.TrodAll enc P W' 0 (fun b => decide (b < W.heap.size)) true ts vs ds ps
  | [], vs, ds, ps, _, h, _ => by
    obtain ⟨rfl, rfl, rfl⟩ := trodAll_nil h
    rfl
  | t :: ts, vs, ds, ps, ht, h, hlt => by
    obtain ⟨v, vs, d, ds, p, q, rfl, rfl, rfl, h0, h1⟩ := trodAll_cons h
    simp only [List.all_cons, Bool.and_eq_true, decide_eq_true_eq] at ht
    exact ⟨p, q, Below.trod hl ht.1.1 ht.1.2 h0 hb (fun x hx => hlt x (by simp [hx])), trodAll_stays hl hb ht.2 h1 (fun x hx => hlt x (by simp [hx])), rfl⟩

theorem post_of_true {fn : Func} {s : ChangeSpec} {W W' : World} {args : Array Value} {ds gs : List (DataW H)} {before : List MemPlace} {tb : TypeId} (hW : DataW.Whole enc P fn.params.toList s.vars false W args.toList ds gs before)
    (hvs : s.vars = []) (hl : laidOutB P = true) (hrr : (fn.params.toList.all fun t => P.readableRec t && decide (t < P.types.size)) = true) (hrt : fn.resultTypes = #[tb]) (hub : P.underlying tb = some .bool)
    (hfn : s.fn H (ds ++ gs) = { results := [.lit (.bool true)], args := ds }) (hk : Below W.heap.size W W') : s.post enc P fn false true false false W args (.bool true) W' := by
  have hlt := hW.lt
  have hW' := hW
  obtain ⟨p, q, hA, hV, rfl, hfz, hnd⟩ := hW
  rw [hvs] at hV
  obtain ⟨rfl, rfl⟩ := trodVars_none hV
  refine ⟨ds, [], p ++ [], [], p, [], hW', ?_, ?_, ?_, hk.frame _, fun h => by cases h⟩
  · rw [hfn, hrt]
    exact trodAll_mk1 (shut_bool hub true)
  · rw [hfn]
    exact trodAll_stays hl hk hrr hA (fun x hx => hlt x (by simp [hx]))
  · rw [hfn, hvs]; rfl


theorem law_upto {f : FuncId} {fn : Func} {s : ChangeSpec} {shs : List Ty} {tb : TypeId} (hvs : s.vars = []) (hl : laidOutB P = true) (hrr : (fn.params.toList.all fun t => P.readableRec t && decide (t < P.types.size)) = true) (hrt : fn.resultTypes = #[tb])
    (hub : P.underlying tb = some .bool) (hfn : ∀ ds : List (DataW H), ds.length = fn.params.toList.length → s.fn H (ds ++ []) = { results := [.lit (.bool true)], args := ds }) (hsh : tyTop P shs fn.params.toList = true)
    (hspec : ∀ xs : Ty.dens shs, Ty.fits shs xs → Spec P f (Ty.avs shs xs) [] (.bl true) [])
    (W : World) (base : Nat) (args : Array Value) (ds gs : List (DataW H)) (before : List MemPlace) (hval : ∀ (j : Nat) t v, fn.params[j]? = some t → args[j]? = some v → Value.okWide P W .any base t v)
    (hW : DataW.Whole enc P fn.params.toList s.vars false W args.toList ds gs before) (hb : Rows.uptoBulkAll (ds ++ gs) ≤ 1048576)
    (GB : Nat → Prop) (hGB : ∀ b, GB b → b < W.heap.size) (hLw : Lw GB W) :
    Calls P f args W fun e W' => ∃ v, e = .returned v ∧ s.post enc P fn false true false false W args v W' := by
  have hW' := hW
  obtain ⟨p, q, hA, hV, rfl, hfz, hnd⟩ := hW
  rw [hvs] at hV
  obtain ⟨rfl, rfl⟩ := trodVars_none hV
  rw [List.append_nil] at hb
  obtain ⟨xs, h1, h3, h4, h5⟩ := open_all hsh (fun j t v e1 e2 => hval j t v (by simpa using e1) (by simpa using e2)) hA hb
  refine (hspec xs h1 W GB (fun _ => ⟨0, 0, 0, .bool false⟩) (fun _ => True) args hLw (fun b hb => ⟨hGB b hb, fun ⟨id, lb, e, _⟩ => by simp at e, trivial⟩) ?_ (by rw [avs_length, ← h3]; simp) ?_).mono ?_
  · exact ⟨fun i j li lj e => by simp at e, fun id lb e => by simp at e, fun id lb e => by simp at e⟩
  · intro i c x e1 e2
    exact .imm _ _ ((h5 i c x e1 (by simpa using e2)).mono fun b hb => ⟨⟨.inl trivial, hb, fun id lb e => by simp at e⟩, rfl⟩)
  · rintro e W1 ⟨x, V', rfl, hk, _, _, _, hr⟩
    have := b_inv (c := .bl true) rfl hr
    subst this
    refine ⟨_, rfl, post_of_true hW' hvs hl hrr hrt hub (hfn ds h4) ?_⟩
    exact ⟨hk.os, hk.tape, hk.output, hk.size, fun k hk' => hk.block k hk' fun hm => by simp [blkOf] at hm⟩
end
end Go.Proofs.YtaobinhdnklojaaGreatDoor
namespace Go.Proofs.YtaobinhdnklojaaGreatDoor
open Go.RowKit

theorem dv (d : Nat) (h : d < 10) : Lib.digitVal (UInt8.ofNat (48 + d)) = some d := by
  unfold Lib.digitVal
  rw [UInt8.toNat_ofNat', Nat.mod_eq_of_lt (by omega), if_pos (by omega)]
  congr 1; omega
theorem decFrom_app (b : UInt8) : ∀ (l : List UInt8) (acc : Nat), Lib.decFrom acc (l ++ [b]) = (Lib.decFrom acc l).bind fun m => (Lib.digitVal b).map fun d => m * 10 + d
  | [], acc => by
    show (match Lib.digitVal b with | some d => Lib.decFrom (acc * 10 + d) [] | none => none) = (some acc).bind fun m => (Lib.digitVal b).map fun d => m * 10 + d
    cases Lib.digitVal b <;> rfl
  | c :: l, acc => by
    show (match Lib.digitVal c with | some d => Lib.decFrom (acc * 10 + d) (l ++ [b]) | none => none) = (match Lib.digitVal c with | some d => Lib.decFrom (acc * 10 + d) l | none => none).bind _
    cases Lib.digitVal c with
    | none => rfl
    | some d => exact decFrom_app b l _
theorem decFrom_dec (n : Nat) : Lib.decFrom 0 (Lib.decDigits n) = some n := by
  induction n using Nat.strongRecOn with
  | ind n ih =>
    unfold Lib.decDigits
    split
    · rename_i h
      show (match Lib.digitVal (UInt8.ofNat (48 + n)) with | some d => Lib.decFrom (0 * 10 + d) [] | none => none) = some n
      rw [dv n h]
      show some (0 * 10 + n) = some n
      congr 1; omega
    · rename_i h
      rw [decFrom_app, ih (n / 10) (by omega), Option.bind_some, dv _ (Nat.mod_lt _ (by omega)), Option.map_some]
      congr 1; omega
theorem dec_cons (n : Nat) : ∃ b r, Lib.decDigits n = b :: r ∧ 48 ≤ b.toNat ∧ b.toNat ≤ 57 := by
  cases h : Lib.decDigits n with
  | nil => have := digit_length n; rw [h] at this; simp at this
  | cons b r => exact ⟨b, r, rfl, dec_mem n b (by rw [h]; simp)⟩
theorem decNat_dec (n : Nat) : Lib.decNat (Lib.decDigits n) = some n := by
  obtain ⟨b, r, h, _⟩ := dec_cons n
  have h2 := decFrom_dec n
  unfold Lib.decNat
  rw [h] at h2 ⊢
  exact h2
theorem atoi_itoa (n : Int) : Lib.atoi (Lib.itoa n) = some n := by
  unfold Lib.itoa
  split
  · rename_i h
    show Lib.atoi (45 :: Lib.decDigits n.natAbs) = _
    unfold Lib.atoi
    dsimp only
    rw [if_pos (show ((45 : UInt8) == 45) = true from rfl), decNat_dec, Option.map_some]
    congr 1; omega
  · rename_i h
    obtain ⟨b, r, e, h1, h2⟩ := dec_cons n.toNat
    have h3 := decNat_dec n.toNat
    rw [e] at h3 ⊢
    have n45 : (b == 45) = false := by
      rw [beq_eq_false_iff_ne]; rintro rfl
      have : (45 : UInt8).toNat = 45 := rfl
      omega
    have n43 : (b == 43) = false := by
      rw [beq_eq_false_iff_ne]; rintro rfl
      have : (43 : UInt8).toNat = 43 := rfl
      omega
    unfold Lib.atoi
    dsimp only
    rw [if_neg (show ¬ ((b == 45) = true) by rw [n45]; simp), if_neg (show ¬ ((b == 43) = true) by rw [n43]; simp), h3, Option.map_some]
    congr 1; omega
theorem itoa_length (n : Int) (h : -999999 ≤ n ∧ n ≤ 999999) : (Lib.itoa n).length ≤ 7 ∧ 1 ≤ (Lib.itoa n).length := by
  unfold Lib.itoa
  split
  · have := dec_length 5 n.natAbs (by have : (10 : Nat) ^ (5 + 1) = 1000000 := by decide
                                      omega)
    have := digit_length n.natAbs
    simp; omega
  · have := dec_length 5 n.toNat (by have : (10 : Nat) ^ (5 + 1) = 1000000 := by decide
                                     omega)
    have := digit_length n.toNat
    omega
theorem parseI_itoa (n : Int) (h : -999999 ≤ n ∧ n ≤ 999999) : parseI (bs (Lib.itoa n)) = (n, true) := by
  unfold parseI
  rw [if_pos (by rw [bs_size]; exact (itoa_length n h).1), list_bs, atoi_itoa]
  dsimp only
  rw [if_pos ⟨h, rfl⟩]
theorem parseI_cases (l : List UInt8) : (∃ n : Int, (-999999 ≤ n ∧ n ≤ 999999) ∧ l = Lib.itoa n ∧ parseI (bs l) = (n, true)) ∨ (parseI (bs l) = (0, false) ∧ ∀ n : Int, -999999 ≤ n ∧ n ≤ 999999 → l ≠ Lib.itoa n) := by
  by_cases h : ∃ n : Int, (-999999 ≤ n ∧ n ≤ 999999) ∧ l = Lib.itoa n
  · obtain ⟨n, hn, rfl⟩ := h
    exact .inl ⟨n, hn, rfl, parseI_itoa n hn⟩
  · refine .inr ⟨?_, fun n hn e => h ⟨n, hn, e⟩⟩
    unfold parseI
    split
    · split
      · rename_i n e
        rw [if_neg]
        rintro ⟨hn, e2⟩
        exact h ⟨n, hn, (bs_inj.1 e2).symm⟩
      · rfl
    · rfl

theorem spl_app (c : UInt8) (a r : List UInt8) (h : c ∉ a) : spl c (a ++ c :: r) = a :: spl c r := by
  induction a with
  | nil => conv => lhs; unfold spl; 
           simp
  | cons b a ih =>
    simp only [List.mem_cons, not_or] at h
    have ih := ih h.2
    conv => lhs; rw [List.cons_append]; unfold spl
    rw [if_neg (fun e => h.1 e.symm), ih]
theorem spl_not (c : UInt8) (l : List UInt8) (h : c ∉ l) : spl c l = [l] := by
  induction l with
  | nil => rfl
  | cons b l ih =>
    simp only [List.mem_cons, not_or] at h
    have ih := ih h.2
    unfold spl
    rw [if_neg (fun e => h.1 e.symm), ih]
theorem splitK_spl (c : UInt8) : ∀ (k : Nat) (l : List UInt8), l.count c = k → Lib.splitK [c] 0 k l = spl c l
  | 0, l, h => by
    rw [spl_not c l (List.count_eq_zero.1 h)]; rfl
  | k + 1, l, h => by
    have hm : c ∈ l := List.count_pos_iff.1 (by omega)
    obtain ⟨r, e⟩ := bef_split c l hm
    have hi := index_one c l
    rw [if_pos hm] at hi
    have hcr : r.count c = k := by
      have h0 : (bef c l).count c = 0 := List.count_eq_zero.2 (bef_not c l)
      rw [e, List.count_append, List.count_cons_self, h0] at h
      omega
    have ih := splitK_spl c k r hcr
    unfold Lib.splitK
    rw [hi, if_neg (by simp)]
    have hd : l.drop (((bef c l).length : Int).toNat + [c].length) = r := by
      conv => lhs; rw [e]
      rw [bef_app c _ _ (bef_not c l), Int.toNat_natCast, ← List.drop_drop, List.drop_left]; rfl
    rw [hd, ih, Int.toNat_natCast, Nat.add_zero, bef_take]
    conv => rhs; rw [e]
    rw [spl_app c _ _ (bef_not c l)]
theorem map_bs (xs : List ByteArray) (ys : List (List UInt8)) (h : xs.map (·.data.toList) = ys) : xs = ys.map bs := by
  subst h
  rw [List.map_map]
  conv => lhs; rw [← List.map_id xs]
  exact List.map_congr_left fun x _ => (bs_list x).symm
theorem splitB_eq (c : UInt8) (l : List UInt8) : splitB (bs l) (bs [c]) = (spl c l).map bs := by
  refine map_bs _ _ ?_
  unfold splitB
  rw [Lib.splitB_data, list_bs, list_bs]
  have e : Lib.countB (bs l) (bs [c]) = l.count c := by
    have h1 := Lib.count_one c l
    have h2 : Lib.countB (bs l) (bs [c]) = Lib.count l [c] := by
      show Lib.count (bs l).data.toList (bs [c]).data.toList = _
      rw [list_bs, list_bs]
    rw [h2, h1]
  rw [e]
  exact splitK_spl c _ l rfl
end Go.Proofs.YtaobinhdnklojaaGreatDoor
