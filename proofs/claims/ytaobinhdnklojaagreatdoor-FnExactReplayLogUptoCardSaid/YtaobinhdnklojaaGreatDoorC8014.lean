/-
  Contracts, printed by a program.
-/
import Derived.Test.YtaobinhdnklojaaGreatDoorC8011
namespace Go.Proofs.YtaobinhdnklojaaGreatDoor
open Go.RowKit
set_option maxHeartbeats 100000000
set_option maxRecDepth 100000
attribute [local irreducible] Ob loopwp Sub Spec Fin Again CallW CutC KOb iter

attribute [local irreducible] spec_l1Num_f impl_within strings_Cut strconv_Itoa impl_VerifyChecksum strings_CutPrefix strings_ContainsAny

noncomputable def impl_isPlain_loop1 (a0 : ByteArray) (v2 : Int) : Option (Lp (Int) ((Unit) ⊕ (Unit))) :=
  (cond (decide (v2 < (a0.size : Int))) (grd (0 ≤ v2 ∧ v2 < (a0.size : Int)) (cond (decide ((bAt a0 v2) < (32 : Int))) ((some (.out (Sum.inl ())))) (grd (0 ≤ v2 ∧ v2 < (a0.size : Int)) (cond (decide ((126 : Int) < (bAt a0 v2))) ((some (.out (Sum.inl ())))) (some (.go (w64 (v2 + (1 : Int))))))))) ((some (.out (Sum.inr ())))))
noncomputable def impl_isPlain (a0 : ByteArray) (a1 : ByteArray) : Option (Bool) :=
  ((iter (fun s => impl_isPlain_loop1 a0 s) (0 : Int)).bind (Sum.elim (fun _ => (some false)) (fun _ => ((strings_ContainsAny a0 a1).bind fun y6 => (some (!y6))))))
def impl_isPlain.res (_ : ByteArray) (_ : ByteArray) (y : Bool) : AV := (.bl y)
def impl_isPlain.out (_ : ByteArray) (_ : ByteArray) (_ : Bool) : List (Option LB) := []
def impl_isPlain.S (ar : List AV) (h : List (Option LB)) (r : AV) (h1 : List (Option LB)) : Prop := ∃ a0 a1 y, impl_isPlain a0 a1 = some y ∧ leL ar [(.v (.string a0)), (.v (.string a1))] ∧ leH h [] ∧ r = impl_isPlain.res a0 a1 y ∧ h1 = impl_isPlain.out a0 a1 y
theorem impl_isPlain.call {ar h a0 a1 y} (H : impl_isPlain a0 a1 = some y) (h0 : leLk ar [(.v (.string a0)), (.v (.string a1))] (leHk h [])) : impl_isPlain.S ar h (impl_isPlain.res a0 a1 y) (impl_isPlain.out a0 a1 y) := ⟨a0, a1, y, H, (args_ok h0).1, (args_ok h0).2, rfl, rfl⟩
theorem impl_isPlain.spec (a0 a1 y) (H : impl_isPlain a0 a1 = some y) : Spec Tryz.prog 86 [(.v (.string a0)), (.v (.string a1))] [] (impl_isPlain.res a0 a1 y) (impl_isPlain.out a0 a1 y) := by
  refine spec_intro (G66_ok.at tok []) (ct := [(6, some [0, 1, 7, 8, 16, 17, 18, 19])]) Tryz.func86 rfl (by kernel_rfl) (by kernel_rfl) rfl ?_
  repeat' first
    | ((with_reducible refine eqg ?_); exact rfl)
    | ((with_reducible refine KOb.mk ?_); kernel_rfl)
    | ((with_reducible intro h); (repeat first | replace H := grd_k H | replace H := out_step H ‹_›); first | replace H := cond_t h H | replace H := cond_f h H | exact absurd h (by decide) | skip)
    | ((with_reducible refine Ob.mk ?_); first | (with_reducible rfl) | (first | ((repeat (first | (with_reducible exact grd_p H) | replace H := grd_k H | replace H := out_step H ‹_›)); done) | rfl | ((repeat (first | exact grd_p H | (have hp := grd_p H; exact hp) | replace H := grd_k H | replace H := out_step H ‹_› | (replace H := bind_some H; obtain ⟨_, _, H⟩ := H))); done) | (repeat (first | exact grd_p H | replace H := grd_k H | replace H := out_step H ‹_›))))
    | (with_reducible exact True.intro)
    | ((conv => whnf); first
        | (with_reducible refine And.intro ?_ ?_)
        | (with_reducible exact True.intro)
        | (with_reducible refine (?_ : Ob _))
        | ((with_reducible refine CallW.mk ?_); (repeat first | replace H := grd_k H | replace H := out_step H ‹_›); replace H := bind_some H; obtain ⟨y, hy, H⟩ := H; first | ((with_reducible have hz : strings_ContainsAny _ _ = some y := hy); clear hz; refine ⟨_, _, strings_ContainsAny.call hy ?_, rfl, rfl, ?_⟩))
        | ((repeat first | replace H := grd_k H | replace H := out_step H ‹_›); refine loop_iter (G66_ok.at tok []) (ct := [(6, some [0, 1, 7, 8, 16, 17, 18, 19])]) (F := (fun s1 : Int => ⟨sl [(0, (.v (.string a0))), (1, (.v (.string a1))), (7, (.v (.int .i64 (a0.size : Int)))), (8, (.v (.int .i64 s1)))], []⟩)) (step := (fun s : Int => impl_isPlain_loop1 _ s)) _ H (by kernel_rfl) (sub_auto ?_) ?_; rotate_left; (intro s1 r v hr H); rotate_right)
        | ((repeat first | replace H := grd_k H | replace H := out_step H ‹_›); refine again_step H (by assumption) (sub_auto ?_))
        | ((with_reducible refine fin_mk ?_); (repeat first | replace H := grd_k H | replace H := out_step H ‹_›); have H := Option.some.inj H; subst H))
    | constructor
def G67 : Env := G66.add 86 [] impl_isPlain.S
theorem G67_ok : EnvOk Tryz.prog G67 := G66_ok.add ent_86 fun ar h r h1 ⟨a0, a1, y, hy, e1, e2, e3, e4⟩ => by
  subst e3 e4; exact (impl_isPlain.spec a0 a1 y hy).le e1 e2
attribute [local irreducible] impl_isPlain

noncomputable def impl_IsValidRecord (a0 : LogRecord) : Option (Bool) :=
  ((impl_within (a0.1.size : Int) (1 : Int) (160 : Int)).bind fun y1 => (cond y1 (cond (decide ((a0.2.1.size : Int) ≤ (200 : Int))) ((impl_isPlain a0.1 (ByteArray.mk #[35, 64])).bind fun y2 => (cond y2 ((impl_isPlain a0.2.1 (ByteArray.mk #[35])).bind fun y3 => (some y3)) ((some false)))) ((some false))) ((some false))))
def impl_IsValidRecord.res (_ : LogRecord) (y : Bool) : AV := (.bl y)
def impl_IsValidRecord.out (_ : LogRecord) (_ : Bool) : List (Option LB) := []
def impl_IsValidRecord.S (ar : List AV) (h : List (Option LB)) (r : AV) (h1 : List (Option LB)) : Prop := ∃ a0 y, impl_IsValidRecord a0 = some y ∧ leL ar [(.agg [(.v (.string a0.1)), (.v (.string a0.2.1))])] ∧ leH h [] ∧ r = impl_IsValidRecord.res a0 y ∧ h1 = impl_IsValidRecord.out a0 y
theorem impl_IsValidRecord.call {ar h a0 y} (H : impl_IsValidRecord a0 = some y) (h0 : leLk ar [(.agg [(.v (.string a0.1)), (.v (.string a0.2.1))])] (leHk h [])) : impl_IsValidRecord.S ar h (impl_IsValidRecord.res a0 y) (impl_IsValidRecord.out a0 y) := ⟨a0, y, H, (args_ok h0).1, (args_ok h0).2, rfl, rfl⟩
theorem impl_IsValidRecord.spec (a0 y) (H : impl_IsValidRecord a0 = some y) : Spec Tryz.prog 47 [(.agg [(.v (.string a0.1)), (.v (.string a0.2.1))])] [] (impl_IsValidRecord.res a0 y) (impl_IsValidRecord.out a0 y) := by
  refine spec_intro (G67_ok.at tok []) (ct := []) Tryz.func47 rfl (by kernel_rfl) (by kernel_rfl) rfl ?_
  repeat' first
    | ((with_reducible refine eqg ?_); exact rfl)
    | ((with_reducible refine KOb.mk ?_); kernel_rfl)
    | ((with_reducible intro h); (repeat first | replace H := grd_k H | replace H := out_step H ‹_›); first | replace H := cond_t h H | replace H := cond_f h H | exact absurd h (by decide) | skip)
    | ((with_reducible refine Ob.mk ?_); first | (with_reducible rfl) | (first | ((repeat (first | (with_reducible exact grd_p H) | replace H := grd_k H | replace H := out_step H ‹_›)); done) | rfl | ((repeat (first | exact grd_p H | (have hp := grd_p H; exact hp) | replace H := grd_k H | replace H := out_step H ‹_› | (replace H := bind_some H; obtain ⟨_, _, H⟩ := H))); done) | (repeat (first | exact grd_p H | replace H := grd_k H | replace H := out_step H ‹_›))))
    | (with_reducible exact True.intro)
    | ((conv => whnf); first
        | (with_reducible refine And.intro ?_ ?_)
        | (with_reducible exact True.intro)
        | (with_reducible refine (?_ : Ob _))
        | ((with_reducible refine CallW.mk ?_); (repeat first | replace H := grd_k H | replace H := out_step H ‹_›); replace H := bind_some H; obtain ⟨y, hy, H⟩ := H; first | ((with_reducible have hz : impl_within _ _ _ = some y := hy); clear hz; refine ⟨_, _, impl_within.call hy ?_, rfl, rfl, ?_⟩) | ((with_reducible have hz : impl_isPlain _ _ = some y := hy); clear hz; refine ⟨_, _, impl_isPlain.call hy ?_, rfl, rfl, ?_⟩))
        | ((with_reducible refine fin_mk ?_); (repeat first | replace H := grd_k H | replace H := out_step H ‹_›); have H := Option.some.inj H; subst H))
    | constructor
def G68 : Env := G67.add 47 [] impl_IsValidRecord.S
theorem G68_ok : EnvOk Tryz.prog G68 := G67_ok.add ent_47 fun ar h r h1 ⟨a0, y, hy, e1, e2, e3, e4⟩ => by
  subst e3 e4; exact (impl_IsValidRecord.spec a0 y hy).le e1 e2
attribute [local irreducible] impl_IsValidRecord

noncomputable def impl_decodeRecord (a0 : Int) (a1 : ByteArray) : Option (LogRecord × Bool) :=
  ((impl_VerifyChecksum a1).bind fun y1 => ((strconv_Itoa a0).bind fun y2 => (grd (y2.size + (ByteArray.mk #[32]).size ≤ 9223372036854775807) ((strings_CutPrefix y1.1 (y2 ++ (ByteArray.mk #[32]))).bind fun y3 => ((strings_Cut y3.1 (ByteArray.mk #[64])).bind fun y4 => (cond y1.2 (cond y3.2 (cond y4.2.2 ((impl_IsValidRecord (y4.1, y4.2.1, ())).bind fun y5 => (some ((y4.1, y4.2.1, ()), y5))) ((some ((y4.1, y4.2.1, ()), false)))) ((some ((y4.1, y4.2.1, ()), false)))) ((some ((y4.1, y4.2.1, ()), false)))))))))
def impl_decodeRecord.res (_ : Int) (_ : ByteArray) (y : LogRecord × Bool) : AV := (.tup [(.agg [(.v (.string y.1.1)), (.v (.string y.1.2.1))]), (.bl y.2)])
def impl_decodeRecord.out (_ : Int) (_ : ByteArray) (_ : LogRecord × Bool) : List (Option LB) := []
def impl_decodeRecord.S (ar : List AV) (h : List (Option LB)) (r : AV) (h1 : List (Option LB)) : Prop := ∃ a0 a1 y, impl_decodeRecord a0 a1 = some y ∧ leL ar [(.v (.int .i64 a0)), (.v (.string a1))] ∧ leH h [] ∧ r = impl_decodeRecord.res a0 a1 y ∧ h1 = impl_decodeRecord.out a0 a1 y
theorem impl_decodeRecord.call {ar h a0 a1 y} (H : impl_decodeRecord a0 a1 = some y) (h0 : leLk ar [(.v (.int .i64 a0)), (.v (.string a1))] (leHk h [])) : impl_decodeRecord.S ar h (impl_decodeRecord.res a0 a1 y) (impl_decodeRecord.out a0 a1 y) := ⟨a0, a1, y, H, (args_ok h0).1, (args_ok h0).2, rfl, rfl⟩
theorem impl_decodeRecord.spec (a0 a1 y) (H : impl_decodeRecord a0 a1 = some y) : Spec Tryz.prog 111 [(.v (.int .i64 a0)), (.v (.string a1))] [] (impl_decodeRecord.res a0 a1 y) (impl_decodeRecord.out a0 a1 y) := by
  refine spec_intro (G68_ok.at tok []) (ct := [(3, some [4, 7, 8, 9, 39, 42, 45, 46])]) Tryz.func111 rfl (by kernel_rfl) (by kernel_rfl) rfl ?_
  repeat' first
    | ((with_reducible refine eqg ?_); exact rfl)
    | ((with_reducible refine KOb.mk ?_); kernel_rfl)
    | ((with_reducible intro h); (repeat first | replace H := grd_k H | replace H := out_step H ‹_›); first | replace H := cond_t h H | replace H := cond_f h H | exact absurd h (by decide) | skip)
    | ((with_reducible refine Ob.mk ?_); first | (with_reducible rfl) | (first | ((repeat (first | (with_reducible exact grd_p H) | replace H := grd_k H | replace H := out_step H ‹_›)); done) | rfl | ((repeat (first | exact grd_p H | (have hp := grd_p H; exact hp) | replace H := grd_k H | replace H := out_step H ‹_› | (replace H := bind_some H; obtain ⟨_, _, H⟩ := H))); done) | (repeat (first | exact grd_p H | replace H := grd_k H | replace H := out_step H ‹_›))))
    | (with_reducible exact True.intro)
    | ((conv => whnf); first
        | (with_reducible refine And.intro ?_ ?_)
        | (with_reducible exact True.intro)
        | (with_reducible refine (?_ : Ob _))
        | ((with_reducible refine CallW.mk ?_); (repeat first | replace H := grd_k H | replace H := out_step H ‹_›); replace H := bind_some H; obtain ⟨y, hy, H⟩ := H; first | ((with_reducible have hz : impl_VerifyChecksum _ = some y := hy); clear hz; refine ⟨_, _, impl_VerifyChecksum.call hy ?_, rfl, rfl, ?_⟩) | ((with_reducible have hz : strconv_Itoa _ = some y := hy); clear hz; refine ⟨_, _, strconv_Itoa.call hy ?_, rfl, rfl, ?_⟩) | ((with_reducible have hz : strings_CutPrefix _ _ = some y := hy); clear hz; refine ⟨_, _, strings_CutPrefix.call hy ?_, rfl, rfl, ?_⟩) | ((with_reducible have hz : strings_Cut _ _ = some y := hy); clear hz; refine ⟨_, _, strings_Cut.call hy ?_, rfl, rfl, ?_⟩) | ((with_reducible have hz : impl_IsValidRecord _ = some y := hy); clear hz; refine ⟨_, _, impl_IsValidRecord.call hy ?_, rfl, rfl, ?_⟩))
        | ((with_reducible refine fin_mk ?_); (repeat first | replace H := grd_k H | replace H := out_step H ‹_›); have H := Option.some.inj H; subst H))
    | constructor
def G69 : Env := G68.add 111 [] impl_decodeRecord.S
theorem G69_ok : EnvOk Tryz.prog G69 := G68_ok.add ent_111 fun ar h r h1 ⟨a0, a1, y, hy, e1, e2, e3, e4⟩ => by
  subst e3 e4; exact (impl_decodeRecord.spec a0 a1 y hy).le e1 e2
attribute [local irreducible] impl_decodeRecord

noncomputable def impl_readRecords_loop1 (a0 : ByteArray) (v10 : Int) (v11 : (List LogRecord)) (v12 : (List Int)) : Option (Lp (Int × (List LogRecord) × (List Int)) (((List LogRecord) × (List Int)))) :=
  (cond (decide ((v11.length : Int) < (60 : Int))) (grd (0 ≤ v10 ∧ v10 ≤ (a0.size : Int) ∧ (a0.size : Int) ≤ (a0.size : Int)) ((strings_Cut (bsub a0 v10 (a0.size : Int)) (ByteArray.mk #[10])).bind fun y13 => ((impl_decodeRecord (v11.length : Int) y13.1).bind fun y14 => (cond (!y13.2.2) ((some (.out (v11, v12)))) (cond (!y14.2) ((some (.out (v11, v12)))) (grd (v11.length + [(y14.1.1, y14.1.2.1, ())].length ≤ 140737488355328 / 32 ∧ v11.length + [(y14.1.1, y14.1.2.1, ())].length ≤ 140737488355328) (grd (v12.length + [(w64 (v10 + (w64 ((y13.1.size : Int) + (1 : Int)))))].length ≤ 140737488355328 / 8 ∧ v12.length + [(w64 (v10 + (w64 ((y13.1.size : Int) + (1 : Int)))))].length ≤ 140737488355328) (some (.go ((w64 (v10 + (w64 ((y13.1.size : Int) + (1 : Int))))), (v11 ++ [(y14.1.1, y14.1.2.1, ())]), (v12 ++ [(w64 (v10 + (w64 ((y13.1.size : Int) + (1 : Int)))))]))))))))))) ((some (.out (v11, v12)))))
noncomputable def impl_readRecords (a0 : ByteArray) : Option ((List LogRecord) × (List Int)) :=
  ((iter (fun s => impl_readRecords_loop1 a0 s.1 s.2.1 s.2.2) ((0 : Int), ([] : List LogRecord), [(0 : Int)])).bind (fun r15 => (some (r15.1, r15.2))))
def impl_readRecords.res (_ : ByteArray) (_ : (List LogRecord) × (List Int)) : AV := (.tup [(.own 0), (.own 1)])
def impl_readRecords.out (_ : ByteArray) (y : (List LogRecord) × (List Int)) : List (Option LB) := [some (.arr 70 ty_LogRecord y.1), some (.arr 3 (.int .i64) y.2)]
def impl_readRecords.S (ar : List AV) (h : List (Option LB)) (r : AV) (h1 : List (Option LB)) : Prop := ∃ a0 y, impl_readRecords a0 = some y ∧ leL ar [(.v (.string a0))] ∧ leH h [] ∧ r = impl_readRecords.res a0 y ∧ h1 = impl_readRecords.out a0 y
theorem impl_readRecords.call {ar h a0 y} (H : impl_readRecords a0 = some y) (h0 : leLk ar [(.v (.string a0))] (leHk h [])) : impl_readRecords.S ar h (impl_readRecords.res a0 y) (impl_readRecords.out a0 y) := ⟨a0, y, H, (args_ok h0).1, (args_ok h0).2, rfl, rfl⟩
theorem impl_readRecords.spec (a0 y) (H : impl_readRecords a0 = some y) : Spec Tryz.prog 71 [(.v (.string a0))] [] (impl_readRecords.res a0 y) (impl_readRecords.out a0 y) := by
  refine spec_intro (G69_ok.at tok []) (ct := [(4, some [0, 4, 5, 6, 7, 9, 35, 36]), (6, some [0, 4, 5, 6, 7, 10, 35, 36])]) Tryz.func71 rfl (by kernel_rfl) (by kernel_rfl) rfl ?_
  repeat' first
    | ((with_reducible refine eqg ?_); exact rfl)
    | ((with_reducible refine KOb.mk ?_); kernel_rfl)
    | ((with_reducible intro h); (repeat first | replace H := grd_k H | replace H := out_step H ‹_›); first | replace H := cond_t h H | replace H := cond_f h H | exact absurd h (by decide) | skip)
    | ((with_reducible refine Ob.mk ?_); first | (with_reducible rfl) | (first | ((repeat (first | (with_reducible exact grd_p H) | replace H := grd_k H | replace H := out_step H ‹_›)); done) | rfl | ((repeat (first | exact grd_p H | (have hp := grd_p H; exact hp) | replace H := grd_k H | replace H := out_step H ‹_› | (replace H := bind_some H; obtain ⟨_, _, H⟩ := H))); done) | (repeat (first | exact grd_p H | replace H := grd_k H | replace H := out_step H ‹_›))))
    | (with_reducible exact True.intro)
    | ((conv => whnf); first
        | (with_reducible refine And.intro ?_ ?_)
        | (with_reducible exact True.intro)
        | (with_reducible refine (?_ : Ob _))
        | ((with_reducible refine CallW.mk ?_); (repeat first | replace H := grd_k H | replace H := out_step H ‹_›); replace H := bind_some H; obtain ⟨y, hy, H⟩ := H; first | ((with_reducible have hz : strings_Cut _ _ = some y := hy); clear hz; refine ⟨_, _, strings_Cut.call hy ?_, rfl, rfl, ?_⟩) | ((with_reducible have hz : impl_decodeRecord _ _ = some y := hy); clear hz; refine ⟨_, _, impl_decodeRecord.call hy ?_, rfl, rfl, ?_⟩))
        | ((repeat first | replace H := grd_k H | replace H := out_step H ‹_›); refine loop_iter (G69_ok.at tok []) (ct := [(4, some [0, 4, 5, 6, 7, 9, 35, 36]), (6, some [0, 4, 5, 6, 7, 10, 35, 36])]) (F := (fun s1 : Int × (List LogRecord) × (List Int) => ⟨sl [(0, (.v (.string a0))), (4, (.own 0)), (5, (.own 1)), (6, (.v (.int .i64 s1.1)))], [some (.arr 70 ty_LogRecord s1.2.1), some (.arr 3 (.int .i64) s1.2.2)]⟩)) (step := (fun s : Int × (List LogRecord) × (List Int) => impl_readRecords_loop1 _ s.1 s.2.1 s.2.2)) _ H (by kernel_rfl) (sub_auto ?_) ?_; rotate_left; (intro s1 r v hr H); rotate_right)
        | ((repeat first | replace H := grd_k H | replace H := out_step H ‹_›); refine again_step H (by assumption) (sub_auto ?_))
        | ((with_reducible refine fin_mk ?_); (repeat first | replace H := grd_k H | replace H := out_step H ‹_›); have H := Option.some.inj H; subst H))
    | constructor
def G70 : Env := G69.add 71 [] impl_readRecords.S
theorem G70_ok : EnvOk Tryz.prog G70 := G69_ok.add ent_71 fun ar h r h1 ⟨a0, y, hy, e1, e2, e3, e4⟩ => by
  subst e3 e4; exact (impl_readRecords.spec a0 y hy).le e1 e2
attribute [local irreducible] impl_readRecords

noncomputable def impl_Log_records_loop1 (a0 : Log) (v17 : Bool) (v18 : Bool) (v19 : Int) (v20 : Int) (v21 : (List LogRecord)) (v22 : (List Int)) : Option (Lp (Bool × Bool × Int × Int × (List LogRecord) × (List Int)) ((Bool × Bool × (List LogRecord)))) :=
  (cond (decide (v20 < v19)) (grd (0 ≤ v20 ∧ v20 < (v22.length : Int)) (cond v18 (some (.go (v17, true, v19, (w64 (v20 + (1 : Int))), v21, v22))) (some (.go (v17, (decide ((v22.getD v20.toNat 0) = (a0.1.size : Int))), v19, (w64 (v20 + (1 : Int))), v21, v22))))) ((some (.out (v17, v18, v21)))))
noncomputable def impl_Log_records (a0 : Log) : Option ((List LogRecord) × Bool) :=
  (grd (a0.1.size + a0.2.1.size ≤ 9223372036854775807) ((impl_readRecords (a0.1 ++ a0.2.1)).bind fun y1 => ((grd (0 ≤ (w64 ((y1.2.length : Int) - (1 : Int))) ∧ (w64 ((y1.2.length : Int) - (1 : Int))) < (y1.2.length : Int)) (cond (decide ((y1.2.getD ((w64 ((y1.2.length : Int) - (1 : Int))).toNat) 0) = ((a0.1 ++ a0.2.1).size : Int))) ((some ((decide (a0.2.2.1 = (y1.1.length : Int))), y1.1, y1.2))) ((some (false, y1.1, y1.2))))).bind fun z2 => ((iter (fun s => impl_Log_records_loop1 a0 s.1 s.2.1 s.2.2.1 s.2.2.2.1 s.2.2.2.2.1 s.2.2.2.2.2) (z2.1, false, (z2.2.2.length : Int), (0 : Int), z2.2.1, z2.2.2)).bind (fun r23 => (cond r23.1 ((some (r23.2.2, r23.2.1))) ((some (r23.2.2, false)))))))))
def impl_Log_records.res (_ : Log) (y : (List LogRecord) × Bool) : AV := (.tup [(.own 0), (.bl y.2)])
def impl_Log_records.out (_ : Log) (y : (List LogRecord) × Bool) : List (Option LB) := [some (.arr 70 ty_LogRecord y.1)]
def impl_Log_records.S (ar : List AV) (h : List (Option LB)) (r : AV) (h1 : List (Option LB)) : Prop := ∃ a0 y, impl_Log_records a0 = some y ∧ leL ar [(.agg [(.v (.string a0.1)), (.v (.string a0.2.1)), (.v (.int .i64 a0.2.2.1))])] ∧ leH h [] ∧ r = impl_Log_records.res a0 y ∧ h1 = impl_Log_records.out a0 y
theorem impl_Log_records.call {ar h a0 y} (H : impl_Log_records a0 = some y) (h0 : leLk ar [(.agg [(.v (.string a0.1)), (.v (.string a0.2.1)), (.v (.int .i64 a0.2.2.1))])] (leHk h [])) : impl_Log_records.S ar h (impl_Log_records.res a0 y) (impl_Log_records.out a0 y) := ⟨a0, y, H, (args_ok h0).1, (args_ok h0).2, rfl, rfl⟩
theorem impl_Log_records.spec (a0 y) (H : impl_Log_records a0 = some y) : Spec Tryz.prog 73 [(.agg [(.v (.string a0.1)), (.v (.string a0.2.1)), (.v (.int .i64 a0.2.2.1))])] [] (impl_Log_records.res a0 y) (impl_Log_records.out a0 y) := by
  refine spec_intro (G70_ok.at tok []) (ct := [(4, none), (3, some [1, 4, 5, 6, 31, 32, 33, 34, 35, 45, 46, 47, 48, 49, 55])]) Tryz.func73 rfl (by kernel_rfl) (by kernel_rfl) rfl ?_
  repeat' first
    | ((with_reducible refine eqg ?_); exact rfl)
    | ((with_reducible refine KOb.mk ?_); kernel_rfl)
    | ((with_reducible intro h); (repeat first | replace H := grd_k H | replace H := out_step H ‹_›); first | replace H := cond_t h H | replace H := cond_f h H | exact absurd h (by decide) | skip)
    | ((with_reducible refine Ob.mk ?_); first | (with_reducible rfl) | (first | ((repeat (first | (with_reducible exact grd_p H) | replace H := grd_k H | replace H := out_step H ‹_›)); done) | rfl | ((repeat (first | exact grd_p H | (have hp := grd_p H; exact hp) | replace H := grd_k H | replace H := out_step H ‹_› | (replace H := bind_some H; obtain ⟨_, _, H⟩ := H))); done) | (repeat (first | exact grd_p H | replace H := grd_k H | replace H := out_step H ‹_›))))
    | (with_reducible exact True.intro)
    | ((conv => whnf); first
        | (with_reducible refine And.intro ?_ ?_)
        | (with_reducible exact True.intro)
        | (with_reducible refine (?_ : Ob _))
        | ((with_reducible refine CallW.mk ?_); (repeat first | replace H := grd_k H | replace H := out_step H ‹_›); replace H := bind_some H; obtain ⟨y, hy, H⟩ := H; first | ((with_reducible have hz : impl_readRecords _ = some y := hy); clear hz; refine ⟨_, _, impl_readRecords.call hy ?_, rfl, rfl, ?_⟩))
        | ((repeat first | replace H := grd_k H | replace H := out_step H ‹_›); refine loop_iter (G70_ok.at tok []) (ct := [(4, none), (3, some [1, 4, 5, 6, 31, 32, 33, 34, 35, 45, 46, 47, 48, 49, 55])]) (F := (fun s1 : Bool × Bool × Int × Int × (List LogRecord) × (List Int) => ⟨sl [(1, (.loc 0 0 0)), (5, (.own 1)), (7, (.bl s1.1)), (8, (.bl s1.2.1)), (37, (.own 2)), (38, (.v (.int .i64 s1.2.2.1))), (39, (.v (.int .i64 s1.2.2.2.1)))], [some (.box 27 [(.v (.string a0.1)), (.v (.string a0.2.1)), (.v (.int .i64 a0.2.2.1))]), some (.arr 70 ty_LogRecord s1.2.2.2.2.1), some (.arr 3 (.int .i64) s1.2.2.2.2.2)]⟩)) (step := (fun s : Bool × Bool × Int × Int × (List LogRecord) × (List Int) => impl_Log_records_loop1 _ s.1 s.2.1 s.2.2.1 s.2.2.2.1 s.2.2.2.2.1 s.2.2.2.2.2)) _ H (by kernel_rfl) (sub_auto ?_) ?_; rotate_left; (intro s1 r v hr H); rotate_right)
        | ((with_reducible refine cutAt (id := 4) ?_); (repeat first | replace H := grd_k H | replace H := out_step H ‹_›); first | (replace H := bind_some H; obtain ⟨z, hz, H⟩ := H; refine CutC.mk (id := 4) ⟨sl [(1, (.loc 0 0 0)), (5, (.own 1)), (6, (.own 2)), (7, (.bl z.1))], [some (.box 27 [(.v (.string a0.1)), (.v (.string a0.2.1)), (.v (.int .i64 a0.2.2.1))]), some (.arr 70 ty_LogRecord z.2.1), some (.arr 3 (.int .i64) z.2.2)]⟩ ?_ ?_; (replace H := hz)))
        | ((repeat first | replace H := grd_k H | replace H := out_step H ‹_›); have H := Option.some.inj H; subst H; with_reducible refine sub_auto ?_)
        | ((repeat first | replace H := grd_k H | replace H := out_step H ‹_›); refine again_step H (by assumption) (sub_auto ?_))
        | ((with_reducible refine fin_mk ?_); (repeat first | replace H := grd_k H | replace H := out_step H ‹_›); have H := Option.some.inj H; subst H))
    | constructor
def G71 : Env := G70.add 73 [] impl_Log_records.S
theorem G71_ok : EnvOk Tryz.prog G71 := G70_ok.add ent_73 fun ar h r h1 ⟨a0, y, hy, e1, e2, e3, e4⟩ => by
  subst e3 e4; exact (impl_Log_records.spec a0 y hy).le e1 e2
attribute [local irreducible] impl_Log_records

noncomputable def impl_IsValidLog (a0 : Log) : Option (Bool) :=
  ((impl_Log_records (a0.1, a0.2.1, a0.2.2.1, ())).bind fun y1 => (some y1.2))
def impl_IsValidLog.res (_ : Log) (y : Bool) : AV := (.bl y)
def impl_IsValidLog.out (_ : Log) (_ : Bool) : List (Option LB) := []
def impl_IsValidLog.S (ar : List AV) (h : List (Option LB)) (r : AV) (h1 : List (Option LB)) : Prop := ∃ a0 y, impl_IsValidLog a0 = some y ∧ leL ar [(.agg [(.v (.string a0.1)), (.v (.string a0.2.1)), (.v (.int .i64 a0.2.2.1))])] ∧ leH h [] ∧ r = impl_IsValidLog.res a0 y ∧ h1 = impl_IsValidLog.out a0 y
theorem impl_IsValidLog.call {ar h a0 y} (H : impl_IsValidLog a0 = some y) (h0 : leLk ar [(.agg [(.v (.string a0.1)), (.v (.string a0.2.1)), (.v (.int .i64 a0.2.2.1))])] (leHk h [])) : impl_IsValidLog.S ar h (impl_IsValidLog.res a0 y) (impl_IsValidLog.out a0 y) := ⟨a0, y, H, (args_ok h0).1, (args_ok h0).2, rfl, rfl⟩
theorem impl_IsValidLog.spec (a0 y) (H : impl_IsValidLog a0 = some y) : Spec Tryz.prog 69 [(.agg [(.v (.string a0.1)), (.v (.string a0.2.1)), (.v (.int .i64 a0.2.2.1))])] [] (impl_IsValidLog.res a0 y) (impl_IsValidLog.out a0 y) := by
  refine spec_intro (G71_ok.at tok []) (ct := []) Tryz.func69 rfl (by kernel_rfl) (by kernel_rfl) rfl ?_
  repeat' first
    | ((with_reducible refine eqg ?_); exact rfl)
    | ((with_reducible refine KOb.mk ?_); kernel_rfl)
    | ((with_reducible intro h); (repeat first | replace H := grd_k H | replace H := out_step H ‹_›); first | replace H := cond_t h H | replace H := cond_f h H | exact absurd h (by decide) | skip)
    | ((with_reducible refine Ob.mk ?_); first | (with_reducible rfl) | (first | ((repeat (first | (with_reducible exact grd_p H) | replace H := grd_k H | replace H := out_step H ‹_›)); done) | rfl | ((repeat (first | exact grd_p H | (have hp := grd_p H; exact hp) | replace H := grd_k H | replace H := out_step H ‹_› | (replace H := bind_some H; obtain ⟨_, _, H⟩ := H))); done) | (repeat (first | exact grd_p H | replace H := grd_k H | replace H := out_step H ‹_›))))
    | (with_reducible exact True.intro)
    | ((conv => whnf); first
        | (with_reducible refine And.intro ?_ ?_)
        | (with_reducible exact True.intro)
        | (with_reducible refine (?_ : Ob _))
        | ((with_reducible refine CallW.mk ?_); (repeat first | replace H := grd_k H | replace H := out_step H ‹_›); replace H := bind_some H; obtain ⟨y, hy, H⟩ := H; first | ((with_reducible have hz : impl_Log_records _ = some y := hy); clear hz; refine ⟨_, _, impl_Log_records.call hy ?_, rfl, rfl, ?_⟩))
        | ((with_reducible refine fin_mk ?_); (repeat first | replace H := grd_k H | replace H := out_step H ‹_›); have H := Option.some.inj H; subst H))
    | constructor
def G72 : Env := G71.add 69 [] impl_IsValidLog.S
theorem G72_ok : EnvOk Tryz.prog G72 := G71_ok.add ent_69 fun ar h r h1 ⟨a0, y, hy, e1, e2, e3, e4⟩ => by
  subst e3 e4; exact (impl_IsValidLog.spec a0 y hy).le e1 e2
attribute [local irreducible] impl_IsValidLog

end Go.Proofs.YtaobinhdnklojaaGreatDoor
namespace Go.Proofs.YtaobinhdnklojaaGreatDoor
open Go.RowKit
set_option maxHeartbeats 100000000
set_option maxRecDepth 100000
attribute [local irreducible] Ob loopwp Sub Spec Fin Again CallW CutC KOb iter

attribute [local irreducible] spec_l1Num_f impl_IsRopeway impl_IsValidLog

noncomputable def impl_IsValidConsole (a0 : Console) : Option (Bool) :=
  ((impl_IsRopeway (a0.1.1, a0.1.2.1, a0.1.2.2.1, a0.1.2.2.2.1, a0.1.2.2.2.2.1, ())).bind fun y1 => (cond y1 ((impl_IsValidLog (a0.2.1.1, a0.2.1.2.1, a0.2.1.2.2.1, ())).bind fun y2 => (some y2)) ((some false))))
def impl_IsValidConsole.res (_ : Console) (y : Bool) : AV := (.bl y)
def impl_IsValidConsole.out (_ : Console) (_ : Bool) : List (Option LB) := []
def impl_IsValidConsole.S (ar : List AV) (h : List (Option LB)) (r : AV) (h1 : List (Option LB)) : Prop := ∃ a0 y, impl_IsValidConsole a0 = some y ∧ leL ar [(.agg [(.v (.int .i64 a0.1.1)), (.tree ty_Slot a0.1.2.1), (.v (.int .i64 a0.1.2.2.1)), (.v (.int .i64 a0.1.2.2.2.1)), (.v (.int .i64 a0.1.2.2.2.2.1)), (.v (.string a0.2.1.1)), (.v (.string a0.2.1.2.1)), (.v (.int .i64 a0.2.1.2.2.1))])] ∧ leH h [] ∧ r = impl_IsValidConsole.res a0 y ∧ h1 = impl_IsValidConsole.out a0 y
theorem impl_IsValidConsole.call {ar h a0 y} (H : impl_IsValidConsole a0 = some y) (h0 : leLk ar [(.agg [(.v (.int .i64 a0.1.1)), (.tree ty_Slot a0.1.2.1), (.v (.int .i64 a0.1.2.2.1)), (.v (.int .i64 a0.1.2.2.2.1)), (.v (.int .i64 a0.1.2.2.2.2.1)), (.v (.string a0.2.1.1)), (.v (.string a0.2.1.2.1)), (.v (.int .i64 a0.2.1.2.2.1))])] (leHk h [])) : impl_IsValidConsole.S ar h (impl_IsValidConsole.res a0 y) (impl_IsValidConsole.out a0 y) := ⟨a0, y, H, (args_ok h0).1, (args_ok h0).2, rfl, rfl⟩
theorem impl_IsValidConsole.spec (a0 y) (H : impl_IsValidConsole a0 = some y) : Spec Tryz.prog 46 [(.agg [(.v (.int .i64 a0.1.1)), (.tree ty_Slot a0.1.2.1), (.v (.int .i64 a0.1.2.2.1)), (.v (.int .i64 a0.1.2.2.2.1)), (.v (.int .i64 a0.1.2.2.2.2.1)), (.v (.string a0.2.1.1)), (.v (.string a0.2.1.2.1)), (.v (.int .i64 a0.2.1.2.2.1))])] [] (impl_IsValidConsole.res a0 y) (impl_IsValidConsole.out a0 y) := by
  refine spec_intro (G72_ok.at tok []) (ct := []) Tryz.func46 rfl (by kernel_rfl) (by kernel_rfl) rfl ?_
  repeat' first
    | ((with_reducible refine eqg ?_); exact rfl)
    | ((with_reducible refine KOb.mk ?_); kernel_rfl)
    | ((with_reducible intro h); (repeat first | replace H := grd_k H | replace H := out_step H ‹_›); first | replace H := cond_t h H | replace H := cond_f h H | exact absurd h (by decide) | skip)
    | ((with_reducible refine Ob.mk ?_); first | (with_reducible rfl) | (first | ((repeat (first | (with_reducible exact grd_p H) | replace H := grd_k H | replace H := out_step H ‹_›)); done) | rfl | ((repeat (first | exact grd_p H | (have hp := grd_p H; exact hp) | replace H := grd_k H | replace H := out_step H ‹_› | (replace H := bind_some H; obtain ⟨_, _, H⟩ := H))); done) | (repeat (first | exact grd_p H | replace H := grd_k H | replace H := out_step H ‹_›))))
    | (with_reducible exact True.intro)
    | ((conv => whnf); first
        | (with_reducible refine And.intro ?_ ?_)
        | (with_reducible exact True.intro)
        | (with_reducible refine (?_ : Ob _))
        | ((with_reducible refine CallW.mk ?_); (repeat first | replace H := grd_k H | replace H := out_step H ‹_›); replace H := bind_some H; obtain ⟨y, hy, H⟩ := H; first | ((with_reducible have hz : impl_IsRopeway _ = some y := hy); clear hz; refine ⟨_, _, impl_IsRopeway.call hy ?_, rfl, rfl, ?_⟩) | ((with_reducible have hz : impl_IsValidLog _ = some y := hy); clear hz; refine ⟨_, _, impl_IsValidLog.call hy ?_, rfl, rfl, ?_⟩))
        | ((with_reducible refine fin_mk ?_); (repeat first | replace H := grd_k H | replace H := out_step H ‹_›); have H := Option.some.inj H; subst H))
    | constructor
def G73 : Env := G72.add 46 [] impl_IsValidConsole.S
theorem G73_ok : EnvOk Tryz.prog G73 := G72_ok.add ent_46 fun ar h r h1 ⟨a0, y, hy, e1, e2, e3, e4⟩ => by
  subst e3 e4; exact (impl_IsValidConsole.spec a0 y hy).le e1 e2
attribute [local irreducible] impl_IsValidConsole

noncomputable def strings_Split (a0 : ByteArray) (a1 : ByteArray) : Option ((List ByteArray)) :=
  (grd (a0.size < 4294967281 ∧ 1 ≤ a1.size) ((some (splitB a0 a1))))
def strings_Split.res (_ : ByteArray) (_ : ByteArray) (_ : (List ByteArray)) : AV := (.own 0)
def strings_Split.out (_ : ByteArray) (_ : ByteArray) (y : (List ByteArray)) : List (Option LB) := [some (.arr 9 .str y)]
def strings_Split.S (ar : List AV) (h : List (Option LB)) (r : AV) (h1 : List (Option LB)) : Prop := ∃ a0 a1 y, strings_Split a0 a1 = some y ∧ leL ar [(.v (.string a0)), (.v (.string a1))] ∧ leH h [] ∧ r = strings_Split.res a0 a1 y ∧ h1 = strings_Split.out a0 a1 y
theorem strings_Split.call {ar h a0 a1 y} (H : strings_Split a0 a1 = some y) (h0 : leLk ar [(.v (.string a0)), (.v (.string a1))] (leHk h [])) : strings_Split.S ar h (strings_Split.res a0 a1 y) (strings_Split.out a0 a1 y) := ⟨a0, a1, y, H, (args_ok h0).1, (args_ok h0).2, rfl, rfl⟩
theorem strings_Split.spec (a0 a1 y) (H : strings_Split a0 a1 = some y) : Spec Tryz.prog 55 [(.v (.string a0)), (.v (.string a1))] [] (strings_Split.res a0 a1 y) (strings_Split.out a0 a1 y) := by
  have hg := grd_p H
  have H := Option.some.inj (grd_k H)
  subst H
  exact ext_strings_Split a0 a1 hg
def G74 : Env := G73.add 55 [] strings_Split.S
theorem G74_ok : EnvOk Tryz.prog G74 := G73_ok.add ent_55 fun ar h r h1 ⟨a0, a1, y, hy, e1, e2, e3, e4⟩ => by
  subst e3 e4; exact (strings_Split.spec a0 a1 y hy).le e1 e2
attribute [local irreducible] strings_Split

noncomputable def impl_ParseInt (a0 : ByteArray) : Option (Int × Bool) :=
  (some (((parseI a0).1), ((parseI a0).2)))
def impl_ParseInt.res (_ : ByteArray) (y : Int × Bool) : AV := (.tup [(.v (.int .i64 y.1)), (.bl y.2)])
def impl_ParseInt.out (_ : ByteArray) (_ : Int × Bool) : List (Option LB) := []
def impl_ParseInt.S (ar : List AV) (h : List (Option LB)) (r : AV) (h1 : List (Option LB)) : Prop := ∃ a0 y, impl_ParseInt a0 = some y ∧ leL ar [(.v (.string a0))] ∧ leH h [] ∧ r = impl_ParseInt.res a0 y ∧ h1 = impl_ParseInt.out a0 y
theorem impl_ParseInt.call {ar h a0 y} (H : impl_ParseInt a0 = some y) (h0 : leLk ar [(.v (.string a0))] (leHk h [])) : impl_ParseInt.S ar h (impl_ParseInt.res a0 y) (impl_ParseInt.out a0 y) := ⟨a0, y, H, (args_ok h0).1, (args_ok h0).2, rfl, rfl⟩
theorem impl_ParseInt.spec (a0 y) (H : impl_ParseInt a0 = some y) : Spec Tryz.prog 87 [(.v (.string a0))] [] (impl_ParseInt.res a0 y) (impl_ParseInt.out a0 y) := by
  have H := Option.some.inj H
  subst H
  exact ext_impl_ParseInt a0
def G75 : Env := G74.add 87 [] impl_ParseInt.S
theorem G75_ok : EnvOk Tryz.prog G75 := G74_ok.add ent_87 fun ar h r h1 ⟨a0, y, hy, e1, e2, e3, e4⟩ => by
  subst e3 e4; exact (impl_ParseInt.spec a0 y hy).le e1 e2
attribute [local irreducible] impl_ParseInt

noncomputable def impl_stepOf (a0 : ByteArray) (a1 : (List Int)) : Option (RopeStep × Bool) :=
  (cond (decide (a0 = (ByteArray.mk #[115, 116, 111, 112]))) (cond (!decide ((a1.length : Int) = (0 : Int))) ((some (((1 : Int), (0 : Int), ()), false))) ((some (((1 : Int), (0 : Int), ()), true)))) (cond (decide (a0 = (ByteArray.mk #[115, 108, 111, 119]))) (cond (!decide ((a1.length : Int) = (0 : Int))) ((some (((1 : Int), (1 : Int), ()), false))) ((some (((1 : Int), (1 : Int), ()), true)))) (cond (decide (a0 = (ByteArray.mk #[102, 97, 115, 116]))) (cond (!decide ((a1.length : Int) = (0 : Int))) ((some (((1 : Int), (2 : Int), ()), false))) ((some (((1 : Int), (2 : Int), ()), true)))) (cond (decide (a0 = (ByteArray.mk #[108, 111, 99, 107]))) (cond (!decide ((a1.length : Int) = (0 : Int))) ((some (((1 : Int), (3 : Int), ()), false))) ((some (((1 : Int), (3 : Int), ()), true)))) (cond (decide (a0 = (ByteArray.mk #[116, 117, 114, 110]))) (cond (!decide ((a1.length : Int) = (0 : Int))) ((some (((2 : Int), (0 : Int), ()), false))) ((some (((2 : Int), (0 : Int), ()), true)))) (cond (decide (a0 = (ByteArray.mk #[116, 97, 107, 101]))) (cond (!decide ((a1.length : Int) = (0 : Int))) ((some (((4 : Int), (0 : Int), ()), false))) ((some (((4 : Int), (0 : Int), ()), true)))) (cond (decide (a0 = (ByteArray.mk #[104, 97, 110, 103]))) (cond (!decide ((a1.length : Int) = (1 : Int))) ((some (((3 : Int), (0 : Int), ()), false))) (grd (0 ≤ (0 : Int) ∧ (0 : Int) < (a1.length : Int)) ((some (((3 : Int), (a1.getD ((0 : Int).toNat) 0), ()), true))))) (cond (decide (a0 = (ByteArray.mk #[100, 111, 111, 114]))) (cond (!decide ((a1.length : Int) = (1 : Int))) ((some (((7 : Int), (0 : Int), ()), false))) (grd (0 ≤ (0 : Int) ∧ (0 : Int) < (a1.length : Int)) ((some (((7 : Int), (a1.getD ((0 : Int).toNat) 0), ()), true))))) (cond (decide (a0 = (ByteArray.mk #[98, 111, 97, 114, 100]))) (cond (!decide ((a1.length : Int) = (1 : Int))) ((some (((5 : Int), (0 : Int), ()), false))) (grd (0 ≤ (0 : Int) ∧ (0 : Int) < (a1.length : Int)) ((some (((5 : Int), (a1.getD ((0 : Int).toNat) 0), ()), true))))) (cond (decide (a0 = (ByteArray.mk #[108, 101, 97, 118, 101]))) (cond (!decide ((a1.length : Int) = (1 : Int))) ((some (((6 : Int), (0 : Int), ()), false))) (grd (0 ≤ (0 : Int) ∧ (0 : Int) < (a1.length : Int)) ((some (((6 : Int), (a1.getD ((0 : Int).toNat) 0), ()), true))))) ((some (((0 : Int), (0 : Int), ()), false)))))))))))))
def impl_stepOf.res (_ : ByteArray) (_ : (List Int)) (y : RopeStep × Bool) : AV := (.tup [(.agg [(.v (.int .i64 y.1.1)), (.v (.int .i64 y.1.2.1))]), (.bl y.2)])
def impl_stepOf.out (_ : ByteArray) (_ : (List Int)) (_ : RopeStep × Bool) : List (Option LB) := []
def impl_stepOf.S (ar : List AV) (h : List (Option LB)) (r : AV) (h1 : List (Option LB)) : Prop := ∃ a0 a1 y, impl_stepOf a0 a1 = some y ∧ leL ar [(.v (.string a0)), (.tree (.int .i64) a1)] ∧ leH h [] ∧ r = impl_stepOf.res a0 a1 y ∧ h1 = impl_stepOf.out a0 a1 y
theorem impl_stepOf.call {ar h a0 a1 y} (H : impl_stepOf a0 a1 = some y) (h0 : leLk ar [(.v (.string a0)), (.tree (.int .i64) a1)] (leHk h [])) : impl_stepOf.S ar h (impl_stepOf.res a0 a1 y) (impl_stepOf.out a0 a1 y) := ⟨a0, a1, y, H, (args_ok h0).1, (args_ok h0).2, rfl, rfl⟩
theorem impl_stepOf.spec (a0 a1 y) (H : impl_stepOf a0 a1 = some y) : Spec Tryz.prog 88 [(.v (.string a0)), (.tree (.int .i64) a1)] [] (impl_stepOf.res a0 a1 y) (impl_stepOf.out a0 a1 y) := by
  refine spec_intro (G75_ok.at tok []) (ct := [(11, some [1, 4, 6, 7, 9, 20]), (24, some [1, 4, 6, 7])]) Tryz.func88 rfl (by kernel_rfl) (by kernel_rfl) rfl ?_
  repeat' first
    | ((with_reducible refine eqg ?_); exact rfl)
    | ((with_reducible refine KOb.mk ?_); kernel_rfl)
    | ((with_reducible intro h); (repeat (first | (have hgp := grd_p H; replace H := grd_k H) | replace H := out_step H ‹_›)); first | replace H := cond_t h H | replace H := cond_f h H | exact absurd h (by decide) | skip)
    | ((with_reducible refine Ob.mk ?_); first | assumption | (with_reducible rfl) | (first | ((repeat (first | (with_reducible exact grd_p H) | replace H := grd_k H | replace H := out_step H ‹_›)); done) | rfl | ((repeat (first | exact grd_p H | (have hp := grd_p H; exact hp) | replace H := grd_k H | replace H := out_step H ‹_› | (replace H := bind_some H; obtain ⟨_, _, H⟩ := H))); done) | (repeat (first | exact grd_p H | replace H := grd_k H | replace H := out_step H ‹_›))))
    | (with_reducible exact True.intro)
    | ((conv => whnf); first
        | (with_reducible refine And.intro ?_ ?_)
        | (with_reducible exact True.intro)
        | (with_reducible refine (?_ : Ob _))
        | ((with_reducible refine fin_mk ?_); (repeat first | replace H := grd_k H | replace H := out_step H ‹_›); have H := Option.some.inj H; subst H))
    | constructor
def G76 : Env := G75.add 88 [] impl_stepOf.S
theorem G76_ok : EnvOk Tryz.prog G76 := G75_ok.add ent_88 fun ar h r h1 ⟨a0, a1, y, hy, e1, e2, e3, e4⟩ => by
  subst e3 e4; exact (impl_stepOf.spec a0 a1 y hy).le e1 e2
attribute [local irreducible] impl_stepOf

noncomputable def impl_Ropeway_act_1 (a0 : Slot) : Option (Bool) :=
  (some a0.2.1)
def impl_Ropeway_act_1.res (_ : Slot) (y : Bool) : AV := (.bl y)
def impl_Ropeway_act_1.out (_ : Slot) (_ : Bool) : List (Option LB) := []
def impl_Ropeway_act_1.S (ar : List AV) (h : List (Option LB)) (r : AV) (h1 : List (Option LB)) : Prop := ∃ a0 y, impl_Ropeway_act_1 a0 = some y ∧ leL ar [(.agg [(.v (.int .i64 a0.1)), (.bl a0.2.1), (.v (.int .i64 a0.2.2.1))])] ∧ leH h [] ∧ r = impl_Ropeway_act_1.res a0 y ∧ h1 = impl_Ropeway_act_1.out a0 y
theorem impl_Ropeway_act_1.call {ar h a0 y} (H : impl_Ropeway_act_1 a0 = some y) (h0 : leLk ar [(.agg [(.v (.int .i64 a0.1)), (.bl a0.2.1), (.v (.int .i64 a0.2.2.1))])] (leHk h [])) : impl_Ropeway_act_1.S ar h (impl_Ropeway_act_1.res a0 y) (impl_Ropeway_act_1.out a0 y) := ⟨a0, y, H, (args_ok h0).1, (args_ok h0).2, rfl, rfl⟩
theorem impl_Ropeway_act_1.spec (a0 y) (H : impl_Ropeway_act_1 a0 = some y) : Spec Tryz.prog 160 [(.agg [(.v (.int .i64 a0.1)), (.bl a0.2.1), (.v (.int .i64 a0.2.2.1))])] [] (impl_Ropeway_act_1.res a0 y) (impl_Ropeway_act_1.out a0 y) := by
  refine spec_intro (G76_ok.at tok []) (ct := []) Tryz.func160 rfl (by kernel_rfl) (by kernel_rfl) rfl ?_
  repeat' first
    | ((with_reducible refine eqg ?_); exact rfl)
    | ((with_reducible refine KOb.mk ?_); kernel_rfl)
    | ((with_reducible intro h); (repeat first | replace H := grd_k H | replace H := out_step H ‹_›); first | replace H := cond_t h H | replace H := cond_f h H | exact absurd h (by decide) | skip)
    | ((with_reducible refine Ob.mk ?_); first | (with_reducible rfl) | (first | ((repeat (first | (with_reducible exact grd_p H) | replace H := grd_k H | replace H := out_step H ‹_›)); done) | rfl | ((repeat (first | exact grd_p H | (have hp := grd_p H; exact hp) | replace H := grd_k H | replace H := out_step H ‹_› | (replace H := bind_some H; obtain ⟨_, _, H⟩ := H))); done) | (repeat (first | exact grd_p H | replace H := grd_k H | replace H := out_step H ‹_›))))
    | (with_reducible exact True.intro)
    | ((conv => whnf); first
        | (with_reducible refine And.intro ?_ ?_)
        | (with_reducible exact True.intro)
        | (with_reducible refine (?_ : Ob _))
        | ((with_reducible refine fin_mk ?_); (repeat first | replace H := grd_k H | replace H := out_step H ‹_›); have H := Option.some.inj H; subst H))
    | constructor
def G77 : Env := G76.add 160 [] impl_Ropeway_act_1.S
theorem G77_ok : EnvOk Tryz.prog G77 := G76_ok.add ent_160 fun ar h r h1 ⟨a0, y, hy, e1, e2, e3, e4⟩ => by
  subst e3 e4; exact (impl_Ropeway_act_1.spec a0 y hy).le e1 e2
attribute [local irreducible] impl_Ropeway_act_1

noncomputable def slices_Grow___impl_Slot_impl_Slot__i1 (a1 : Int) : Option (((List Slot)) ⊕ (Unit)) :=
  ((cond (decide (a1 < (0 : Int))) (grd (False) none) ((some ()))).bind fun _ => (cond (decide ((0 : Int) < (w64 (a1 - (w64 ((0 : Int) - (0 : Int))))))) (grd (0 ≤ (0 : Int) ∧ (0 : Int) ≤ (0 : Int) ∧ (0 : Int) ≤ (0 : Int)) (grd (0 < (w64 (a1 - (w64 ((0 : Int) - (0 : Int))))) ∧ (24 : Int) * (w64 (a1 - (w64 ((0 : Int) - (0 : Int))))) ≤ 140737488355328 ∧ (w64 (a1 - (w64 ((0 : Int) - (0 : Int))))) ≤ 140737488355328) (grd (0 ≤ (0 : Int) ∧ (0 : Int) ≤ (0 : Int) ∧ (0 : Int) ≤ ((List.replicate (w64 (a1 - (w64 ((0 : Int) - (0 : Int))))).toNat ((0 : Int), false, (0 : Int), ())).length : Int)) ((some (Sum.inl ((List.replicate (w64 (a1 - (w64 ((0 : Int) - (0 : Int))))).toNat ((0 : Int), false, (0 : Int), ())).take (0 : Int).toNat))))))) ((some (Sum.inr ())))))
def slices_Grow___impl_Slot_impl_Slot__i1.res (_ : Int) (y : ((List Slot)) ⊕ (Unit)) : AV := match y with
  | (.inl _) => (.own 0)
  | (.inr _) => (.v (.slice none 0 0))
def slices_Grow___impl_Slot_impl_Slot__i1.out (_ : Int) (y : ((List Slot)) ⊕ (Unit)) : List (Option LB) := match y with
  | (.inl y) => [some (.arr 96 ty_Slot y)]
  | (.inr _) => []
def slices_Grow___impl_Slot_impl_Slot__i1.S (ar : List AV) (h : List (Option LB)) (r : AV) (h1 : List (Option LB)) : Prop := ∃ a1 y, slices_Grow___impl_Slot_impl_Slot__i1 a1 = some y ∧ leL ar [(.v (.slice none 0 0)), (.v (.int .i64 a1))] ∧ leH h [] ∧ r = slices_Grow___impl_Slot_impl_Slot__i1.res a1 y ∧ h1 = slices_Grow___impl_Slot_impl_Slot__i1.out a1 y
theorem slices_Grow___impl_Slot_impl_Slot__i1.call {ar h a1 y} (H : slices_Grow___impl_Slot_impl_Slot__i1 a1 = some y) (h0 : leLk ar [(.v (.slice none 0 0)), (.v (.int .i64 a1))] (leHk h [])) : slices_Grow___impl_Slot_impl_Slot__i1.S ar h (slices_Grow___impl_Slot_impl_Slot__i1.res a1 y) (slices_Grow___impl_Slot_impl_Slot__i1.out a1 y) := ⟨a1, y, H, (args_ok h0).1, (args_ok h0).2, rfl, rfl⟩
theorem slices_Grow___impl_Slot_impl_Slot__i1.spec (a1 y) (H : slices_Grow___impl_Slot_impl_Slot__i1 a1 = some y) : Spec Tryz.prog 189 [(.v (.slice none 0 0)), (.v (.int .i64 a1))] [] (slices_Grow___impl_Slot_impl_Slot__i1.res a1 y) (slices_Grow___impl_Slot_impl_Slot__i1.out a1 y) := by
  have hlen : Nat.ble ([] : List (Option LB)).length (slices_Grow___impl_Slot_impl_Slot__i1.out a1 y).length = true := by
    rcases y with y | y <;> rfl
  refine spec_intro (G77_ok.at tok [25]) (ct := [(3, none), (6, some [0])]) Tryz.func189 rfl (by kernel_rfl) (by kernel_rfl) hlen ?_
  repeat' first
    | ((with_reducible refine eqg ?_); exact rfl)
    | ((with_reducible refine KOb.mk ?_); kernel_rfl)
    | ((with_reducible intro h); (repeat first | replace H := grd_k H | replace H := out_step H ‹_›); first | replace H := cond_t h H | replace H := cond_f h H | exact absurd h (by decide) | skip)
    | ((with_reducible refine Ob.mk ?_); first | (with_reducible rfl) | (first | ((repeat (first | (with_reducible exact grd_p H) | replace H := grd_k H | replace H := out_step H ‹_›)); done) | rfl | ((repeat (first | exact grd_p H | (have hp := grd_p H; exact hp) | replace H := grd_k H | replace H := out_step H ‹_› | (replace H := bind_some H; obtain ⟨_, _, H⟩ := H))); done) | (repeat (first | exact grd_p H | replace H := grd_k H | replace H := out_step H ‹_›))))
    | (with_reducible exact True.intro)
    | ((conv => whnf); first
        | (with_reducible refine And.intro ?_ ?_)
        | (with_reducible exact True.intro)
        | (with_reducible refine (?_ : Ob _))
        | ((with_reducible refine cutAt (id := 3) ?_); (repeat first | replace H := grd_k H | replace H := out_step H ‹_›); first | (replace H := bind_some H; obtain ⟨z, hz, H⟩ := H; refine CutC.mk (id := 3) ⟨sl [(0, (.v (.slice none 0 0))), (1, (.v (.int .i64 a1)))], []⟩ ?_ ?_; (replace H := hz)))
        | ((repeat first | replace H := grd_k H | replace H := out_step H ‹_›); have H := Option.some.inj H; subst H; with_reducible refine sub_auto ?_)
        | ((with_reducible refine fin_mk ?_); (repeat first | replace H := grd_k H | replace H := out_step H ‹_›); have H := Option.some.inj H; subst H))
    | constructor
  all_goals exact viewz _ _
def G78 : Env := G77.add 189 [true] slices_Grow___impl_Slot_impl_Slot__i1.S
theorem G78_ok : EnvOk Tryz.prog G78 := G77_ok.add ent_189 fun ar h r h1 ⟨a1, y, hy, e1, e2, e3, e4⟩ => by
  subst e3 e4; exact (slices_Grow___impl_Slot_impl_Slot__i1.spec a1 y hy).le e1 e2
attribute [local irreducible] slices_Grow___impl_Slot_impl_Slot__i1

end Go.Proofs.YtaobinhdnklojaaGreatDoor
namespace Go.Proofs.YtaobinhdnklojaaGreatDoor
open Go.RowKit
set_option maxHeartbeats 100000000
set_option maxRecDepth 100000
attribute [local irreducible] Ob loopwp Sub Spec Fin Again CallW CutC KOb iter

attribute [local irreducible] spec_l1Num_f impl_Ropeway_act_1 slices_Grow___impl_Slot_impl_Slot__i1

noncomputable def slices_Concat___impl_Slot_impl_Slot__loop1 (a0 : (List (List Slot))) (v3 : Int) (v4 : Int) : Option (Lp (Int × Int) ((Int))) :=
  (cond (decide (v4 < (a0.length : Int))) (grd (0 ≤ v4 ∧ v4 < (a0.length : Int)) (cond (decide ((w64 (v3 + ((a0.getD v4.toNat []).length : Int))) < (0 : Int))) (grd (False) none) (some (.go ((w64 (v3 + ((a0.getD v4.toNat []).length : Int))), (w64 (v4 + (1 : Int)))))))) ((some (.out v3))))
noncomputable def slices_Concat___impl_Slot_impl_Slot__loop2 (a0 : (List (List Slot))) (v11 : Int) (v12 : (List Slot)) : Option (Lp (Int × (List Slot)) (((List Slot)))) :=
  (cond (decide (v11 < (a0.length : Int))) (grd (0 ≤ v11 ∧ v11 < (a0.length : Int)) (grd (v12.length + (a0.getD v11.toNat []).length ≤ 140737488355328 / 24 ∧ v12.length + (a0.getD v11.toNat []).length ≤ 140737488355328) (some (.go ((w64 (v11 + (1 : Int))), (v12 ++ (a0.getD v11.toNat []))))))) ((some (.out v12))))
noncomputable def slices_Concat___impl_Slot_impl_Slot_ (a0 : (List (List Slot))) : Option ((List Slot)) :=
  ((iter (fun s => slices_Concat___impl_Slot_impl_Slot__loop1 a0 s.1 s.2) ((0 : Int), (0 : Int))).bind (fun r5 => ((slices_Grow___impl_Slot_impl_Slot__i1 r5).bind (Sum.elim (fun y7 => ((iter (fun s => slices_Concat___impl_Slot_impl_Slot__loop2 a0 s.1 s.2) ((0 : Int), y7)).bind (fun r13 => (some r13)))) (fun _ => (grd (False) none))))))
def slices_Concat___impl_Slot_impl_Slot_.res (_ : (List (List Slot))) (_ : (List Slot)) : AV := (.own 0)
def slices_Concat___impl_Slot_impl_Slot_.out (_ : (List (List Slot))) (y : (List Slot)) : List (Option LB) := [some (.arr 96 ty_Slot y)]
def slices_Concat___impl_Slot_impl_Slot_.S (ar : List AV) (h : List (Option LB)) (r : AV) (h1 : List (Option LB)) : Prop := ∃ a0 y, slices_Concat___impl_Slot_impl_Slot_ a0 = some y ∧ leL ar [(.tree (.sl ty_Slot) a0)] ∧ leH h [] ∧ r = slices_Concat___impl_Slot_impl_Slot_.res a0 y ∧ h1 = slices_Concat___impl_Slot_impl_Slot_.out a0 y
theorem slices_Concat___impl_Slot_impl_Slot_.call {ar h a0 y} (H : slices_Concat___impl_Slot_impl_Slot_ a0 = some y) (h0 : leLk ar [(.tree (.sl ty_Slot) a0)] (leHk h [])) : slices_Concat___impl_Slot_impl_Slot_.S ar h (slices_Concat___impl_Slot_impl_Slot_.res a0 y) (slices_Concat___impl_Slot_impl_Slot_.out a0 y) := ⟨a0, y, H, (args_ok h0).1, (args_ok h0).2, rfl, rfl⟩
theorem slices_Concat___impl_Slot_impl_Slot_.spec (a0 y) (H : slices_Concat___impl_Slot_impl_Slot_ a0 = some y) : Spec Tryz.prog 161 [(.tree (.sl ty_Slot) a0)] [] (slices_Concat___impl_Slot_impl_Slot_.res a0 y) (slices_Concat___impl_Slot_impl_Slot_.out a0 y) := by
  refine spec_intro (G78_ok.at tok []) (ct := [(15, some [6])]) Tryz.func161 rfl (by kernel_rfl) (by kernel_rfl) rfl ?_
  repeat' first
    | ((with_reducible refine eqg ?_); exact rfl)
    | ((with_reducible refine KOb.mk ?_); kernel_rfl)
    | ((with_reducible intro h); (repeat first | replace H := grd_k H | replace H := out_step H ‹_›); first | replace H := cond_t h H | replace H := cond_f h H | exact absurd h (by decide) | skip)
    | ((with_reducible refine Ob.mk ?_); first | (with_reducible rfl) | (first | ((repeat (first | (with_reducible exact grd_p H) | replace H := grd_k H | replace H := out_step H ‹_›)); done) | rfl | ((repeat (first | exact grd_p H | (have hp := grd_p H; exact hp) | replace H := grd_k H | replace H := out_step H ‹_› | (replace H := bind_some H; obtain ⟨_, _, H⟩ := H))); done) | (repeat (first | exact grd_p H | replace H := grd_k H | replace H := out_step H ‹_›))))
    | (with_reducible exact True.intro)
    | ((conv => whnf); first
        | (with_reducible refine And.intro ?_ ?_)
        | (with_reducible exact True.intro)
        | (with_reducible refine (?_ : Ob _))
        | ((with_reducible refine CallW.mk ?_); (repeat first | replace H := grd_k H | replace H := out_step H ‹_›); replace H := bind_some H; obtain ⟨y, hy, H⟩ := H; first | ((with_reducible have hz : slices_Grow___impl_Slot_impl_Slot__i1 _ = some y := hy); clear hz; rcases y with y | y <;> refine ⟨_, _, slices_Grow___impl_Slot_impl_Slot__i1.call hy ?_, rfl, rfl, ?_⟩))
        | ((repeat first | replace H := grd_k H | replace H := out_step H ‹_›); refine loop_iter (G78_ok.at tok []) (ct := [(15, some [6])]) (F := (fun s1 : Int × Int => ⟨sl [(0, (.tree (.sl ty_Slot) a0)), (3, (.v (.int .i64 s1.1))), (9, (.tree (.sl ty_Slot) a0)), (10, (.v (.int .i64 (a0.length : Int)))), (11, (.v (.int .i64 s1.2)))], []⟩)) (step := (fun s : Int × Int => slices_Concat___impl_Slot_impl_Slot__loop1 _ s.1 s.2)) _ H (by kernel_rfl) (sub_auto ?_) ?_; rotate_left; (intro s1 r v hr H); rotate_right)
        | ((repeat first | replace H := grd_k H | replace H := out_step H ‹_›); refine loop_iter (G78_ok.at tok []) (ct := [(15, some [6])]) (F := (fun s2 : Int × (List Slot) => ⟨sl [(6, (.own 0)), (25, (.tree (.sl ty_Slot) a0)), (26, (.v (.int .i64 (a0.length : Int)))), (27, (.v (.int .i64 s2.1)))], [some (.arr 96 ty_Slot s2.2)]⟩)) (step := (fun s : Int × (List Slot) => slices_Concat___impl_Slot_impl_Slot__loop2 _ s.1 s.2)) _ H (by kernel_rfl) (sub_auto ?_) ?_; rotate_left; (intro s2 r v hr H); rotate_right)
        | ((repeat first | replace H := grd_k H | replace H := out_step H ‹_›); refine again_step H (by assumption) (sub_auto ?_))
        | ((with_reducible refine fin_mk ?_); (repeat first | replace H := grd_k H | replace H := out_step H ‹_›); have H := Option.some.inj H; subst H)
        | (exact (grd_no H).elim))
    | constructor
  all_goals exact viewz _ _
def G79 : Env := G78.add 161 [] slices_Concat___impl_Slot_impl_Slot_.S
theorem G79_ok : EnvOk Tryz.prog G79 := G78_ok.add ent_161 fun ar h r h1 ⟨a0, y, hy, e1, e2, e3, e4⟩ => by
  subst e3 e4; exact (slices_Concat___impl_Slot_impl_Slot_.spec a0 y hy).le e1 e2
attribute [local irreducible] slices_Concat___impl_Slot_impl_Slot_

noncomputable def impl_Ropeway_cabinAt_1_i1 (a0 : Slot) (a100 : Int) : Option (Bool) :=
  (cond (decide ((0 : Int) < a0.1)) ((some (decide (a0.1 = a100)))) ((some false)))
def impl_Ropeway_cabinAt_1_i1.res (_ : Slot) (_ : Int) (y : Bool) : AV := (.bl y)
def impl_Ropeway_cabinAt_1_i1.out (_ : Slot) (_ : Int) (_ : Bool) : List (Option LB) := []
def impl_Ropeway_cabinAt_1_i1.S (ar : List AV) (h : List (Option LB)) (r : AV) (h1 : List (Option LB)) : Prop := ∃ a0 a100 y, impl_Ropeway_cabinAt_1_i1 a0 a100 = some y ∧ leL ar [(.agg [(.v (.int .i64 a0.1)), (.bl a0.2.1), (.v (.int .i64 a0.2.2.1))]), (.bptr [(.v (.int .i64 a100))] 0)] ∧ leH h [] ∧ r = impl_Ropeway_cabinAt_1_i1.res a0 a100 y ∧ h1 = impl_Ropeway_cabinAt_1_i1.out a0 a100 y
theorem impl_Ropeway_cabinAt_1_i1.call {ar h a0 a100 y} (H : impl_Ropeway_cabinAt_1_i1 a0 a100 = some y) (h0 : leLk ar [(.agg [(.v (.int .i64 a0.1)), (.bl a0.2.1), (.v (.int .i64 a0.2.2.1))]), (.bptr [(.v (.int .i64 a100))] 0)] (leHk h [])) : impl_Ropeway_cabinAt_1_i1.S ar h (impl_Ropeway_cabinAt_1_i1.res a0 a100 y) (impl_Ropeway_cabinAt_1_i1.out a0 a100 y) := ⟨a0, a100, y, H, (args_ok h0).1, (args_ok h0).2, rfl, rfl⟩
theorem impl_Ropeway_cabinAt_1_i1.spec (a0 a100 y) (H : impl_Ropeway_cabinAt_1_i1 a0 a100 = some y) : Spec Tryz.prog 190 [(.agg [(.v (.int .i64 a0.1)), (.bl a0.2.1), (.v (.int .i64 a0.2.2.1))]), (.bptr [(.v (.int .i64 a100))] 0)] [] (impl_Ropeway_cabinAt_1_i1.res a0 a100 y) (impl_Ropeway_cabinAt_1_i1.out a0 a100 y) := by
  refine spec_intro (G79_ok.at tok []) (ct := []) Tryz.func190 rfl (by kernel_rfl) (by kernel_rfl) rfl ?_
  repeat' first
    | ((with_reducible refine eqg ?_); exact rfl)
    | ((with_reducible refine KOb.mk ?_); kernel_rfl)
    | ((with_reducible intro h); (repeat first | replace H := grd_k H | replace H := out_step H ‹_›); first | replace H := cond_t h H | replace H := cond_f h H | exact absurd h (by decide) | skip)
    | ((with_reducible refine Ob.mk ?_); first | (with_reducible rfl) | (first | ((repeat (first | (with_reducible exact grd_p H) | replace H := grd_k H | replace H := out_step H ‹_›)); done) | rfl | ((repeat (first | exact grd_p H | (have hp := grd_p H; exact hp) | replace H := grd_k H | replace H := out_step H ‹_› | (replace H := bind_some H; obtain ⟨_, _, H⟩ := H))); done) | (repeat (first | exact grd_p H | replace H := grd_k H | replace H := out_step H ‹_›))))
    | (with_reducible exact True.intro)
    | ((conv => whnf); first
        | (with_reducible refine And.intro ?_ ?_)
        | (with_reducible exact True.intro)
        | (with_reducible refine (?_ : Ob _))
        | ((with_reducible refine fin_mk ?_); (repeat first | replace H := grd_k H | replace H := out_step H ‹_›); have H := Option.some.inj H; subst H))
    | constructor
def G80 : Env := G79.add 190 [] impl_Ropeway_cabinAt_1_i1.S
theorem G80_ok : EnvOk Tryz.prog G80 := G79_ok.add ent_190 fun ar h r h1 ⟨a0, a100, y, hy, e1, e2, e3, e4⟩ => by
  subst e3 e4; exact (impl_Ropeway_cabinAt_1_i1.spec a0 a100 y hy).le e1 e2
attribute [local irreducible] impl_Ropeway_cabinAt_1_i1

noncomputable def slices_IndexFunc___impl_Slot_impl_Slot__i2_loop1 (a0 : (List Slot)) (a100 : Int) (v4 : Int) : Option (Lp (Int) ((Int) ⊕ (Unit))) :=
  (cond (decide (v4 < (a0.length : Int))) (grd (0 ≤ v4 ∧ v4 < (a0.length : Int)) ((impl_Ropeway_cabinAt_1_i1 ((a0.getD v4.toNat d_Slot).1, (a0.getD v4.toNat d_Slot).2.1, (a0.getD v4.toNat d_Slot).2.2.1, ()) a100).bind fun y5 => (cond y5 ((some (.out (Sum.inl v4)))) (some (.go (w64 (v4 + (1 : Int)))))))) ((some (.out (Sum.inr ())))))
noncomputable def slices_IndexFunc___impl_Slot_impl_Slot__i2 (a0 : (List Slot)) (a100 : Int) : Option (Int) :=
  ((iter (fun s => slices_IndexFunc___impl_Slot_impl_Slot__i2_loop1 a0 a100 s) (0 : Int)).bind (Sum.elim (fun r7 => (some r7)) (fun _ => (some ((-1) : Int)))))
def slices_IndexFunc___impl_Slot_impl_Slot__i2.res (_ : (List Slot)) (_ : Int) (y : Int) : AV := (.v (.int .i64 y))
def slices_IndexFunc___impl_Slot_impl_Slot__i2.out (_ : (List Slot)) (_ : Int) (_ : Int) : List (Option LB) := []
def slices_IndexFunc___impl_Slot_impl_Slot__i2.S (ar : List AV) (h : List (Option LB)) (r : AV) (h1 : List (Option LB)) : Prop := ∃ a0 a100 y, slices_IndexFunc___impl_Slot_impl_Slot__i2 a0 a100 = some y ∧ leL ar [(.tree ty_Slot a0), (.fn 190 [(.bptr [(.v (.int .i64 a100))] 0)])] ∧ leH h [] ∧ r = slices_IndexFunc___impl_Slot_impl_Slot__i2.res a0 a100 y ∧ h1 = slices_IndexFunc___impl_Slot_impl_Slot__i2.out a0 a100 y
theorem slices_IndexFunc___impl_Slot_impl_Slot__i2.call {ar h a0 a100 y} (H : slices_IndexFunc___impl_Slot_impl_Slot__i2 a0 a100 = some y) (h0 : leLk ar [(.tree ty_Slot a0), (.fn 190 [(.bptr [(.v (.int .i64 a100))] 0)])] (leHk h [])) : slices_IndexFunc___impl_Slot_impl_Slot__i2.S ar h (slices_IndexFunc___impl_Slot_impl_Slot__i2.res a0 a100 y) (slices_IndexFunc___impl_Slot_impl_Slot__i2.out a0 a100 y) := ⟨a0, a100, y, H, (args_ok h0).1, (args_ok h0).2, rfl, rfl⟩
theorem slices_IndexFunc___impl_Slot_impl_Slot__i2.spec (a0 a100 y) (H : slices_IndexFunc___impl_Slot_impl_Slot__i2 a0 a100 = some y) : Spec Tryz.prog 156 [(.tree ty_Slot a0), (.fn 190 [(.bptr [(.v (.int .i64 a100))] 0)])] [] (slices_IndexFunc___impl_Slot_impl_Slot__i2.res a0 a100 y) (slices_IndexFunc___impl_Slot_impl_Slot__i2.out a0 a100 y) := by
  refine spec_intro (G80_ok.at tok []) (ct := []) Tryz.func156 rfl (by kernel_rfl) (by kernel_rfl) rfl ?_
  repeat' first
    | ((with_reducible refine eqg ?_); exact rfl)
    | ((with_reducible refine KOb.mk ?_); kernel_rfl)
    | ((with_reducible intro h); (repeat first | replace H := grd_k H | replace H := out_step H ‹_›); first | replace H := cond_t h H | replace H := cond_f h H | exact absurd h (by decide) | skip)
    | ((with_reducible refine Ob.mk ?_); first | (with_reducible rfl) | (first | ((repeat (first | (with_reducible exact grd_p H) | replace H := grd_k H | replace H := out_step H ‹_›)); done) | rfl | ((repeat (first | exact grd_p H | (have hp := grd_p H; exact hp) | replace H := grd_k H | replace H := out_step H ‹_› | (replace H := bind_some H; obtain ⟨_, _, H⟩ := H))); done) | (repeat (first | exact grd_p H | replace H := grd_k H | replace H := out_step H ‹_›))))
    | (with_reducible exact True.intro)
    | ((conv => whnf); first
        | (with_reducible refine And.intro ?_ ?_)
        | (with_reducible exact True.intro)
        | (with_reducible refine (?_ : Ob _))
        | ((with_reducible refine CallW.mk ?_); (repeat first | replace H := grd_k H | replace H := out_step H ‹_›); replace H := bind_some H; obtain ⟨y, hy, H⟩ := H; first | ((with_reducible have hz : impl_Ropeway_cabinAt_1_i1 _ _ = some y := hy); clear hz; refine ⟨_, _, impl_Ropeway_cabinAt_1_i1.call hy ?_, rfl, rfl, ?_⟩))
        | ((repeat first | replace H := grd_k H | replace H := out_step H ‹_›); refine loop_iter (G80_ok.at tok []) (ct := []) (F := (fun s1 : Int => ⟨sl [(0, (.tree ty_Slot a0)), (1, (.fn 190 [(.bptr [(.v (.int .i64 a100))] 0)])), (7, (.v (.int .i64 (a0.length : Int)))), (8, (.v (.int .i64 s1)))], []⟩)) (step := (fun s : Int => slices_IndexFunc___impl_Slot_impl_Slot__i2_loop1 _ _ s)) _ H (by kernel_rfl) (sub_auto ?_) ?_; rotate_left; (intro s1 r v hr H); rotate_right)
        | ((repeat first | replace H := grd_k H | replace H := out_step H ‹_›); refine again_step H (by assumption) (sub_auto ?_))
        | ((with_reducible refine fin_mk ?_); (repeat first | replace H := grd_k H | replace H := out_step H ‹_›); have H := Option.some.inj H; subst H))
    | constructor
  all_goals exact viewz _ _
def G81 : Env := G80.addOr 156 [] slices_IndexFunc___impl_Slot_impl_Slot__i2.S
theorem G81_ok : EnvOk Tryz.prog G81 := G80_ok.addOr ent_156 fun ar h r h1 ⟨a0, a100, y, hy, e1, e2, e3, e4⟩ => by
  subst e3 e4; exact (slices_IndexFunc___impl_Slot_impl_Slot__i2.spec a0 a100 y hy).le e1 e2
attribute [local irreducible] slices_IndexFunc___impl_Slot_impl_Slot__i2

noncomputable def impl_Ropeway_cabinAt (a0 : Ropeway) (a1 : Int) : Option (Int) :=
  ((slices_IndexFunc___impl_Slot_impl_Slot__i2 a0.2.1 a1).bind fun y1 => (some y1))
def impl_Ropeway_cabinAt.res (_ : Ropeway) (_ : Int) (y : Int) : AV := (.v (.int .i64 y))
def impl_Ropeway_cabinAt.out (_ : Ropeway) (_ : Int) (_ : Int) : List (Option LB) := []
def impl_Ropeway_cabinAt.S (ar : List AV) (h : List (Option LB)) (r : AV) (h1 : List (Option LB)) : Prop := ∃ a0 a1 y, impl_Ropeway_cabinAt a0 a1 = some y ∧ leL ar [(.agg [(.v (.int .i64 a0.1)), (.tree ty_Slot a0.2.1), (.v (.int .i64 a0.2.2.1)), (.v (.int .i64 a0.2.2.2.1)), (.v (.int .i64 a0.2.2.2.2.1))]), (.v (.int .i64 a1))] ∧ leH h [] ∧ r = impl_Ropeway_cabinAt.res a0 a1 y ∧ h1 = impl_Ropeway_cabinAt.out a0 a1 y
theorem impl_Ropeway_cabinAt.call {ar h a0 a1 y} (H : impl_Ropeway_cabinAt a0 a1 = some y) (h0 : leLk ar [(.agg [(.v (.int .i64 a0.1)), (.tree ty_Slot a0.2.1), (.v (.int .i64 a0.2.2.1)), (.v (.int .i64 a0.2.2.2.1)), (.v (.int .i64 a0.2.2.2.2.1))]), (.v (.int .i64 a1))] (leHk h [])) : impl_Ropeway_cabinAt.S ar h (impl_Ropeway_cabinAt.res a0 a1 y) (impl_Ropeway_cabinAt.out a0 a1 y) := ⟨a0, a1, y, H, (args_ok h0).1, (args_ok h0).2, rfl, rfl⟩
theorem impl_Ropeway_cabinAt.spec (a0 a1 y) (H : impl_Ropeway_cabinAt a0 a1 = some y) : Spec Tryz.prog 162 [(.agg [(.v (.int .i64 a0.1)), (.tree ty_Slot a0.2.1), (.v (.int .i64 a0.2.2.1)), (.v (.int .i64 a0.2.2.2.1)), (.v (.int .i64 a0.2.2.2.2.1))]), (.v (.int .i64 a1))] [] (impl_Ropeway_cabinAt.res a0 a1 y) (impl_Ropeway_cabinAt.out a0 a1 y) := by
  refine spec_intro (G81_ok.at tok []) (ct := []) Tryz.func162 rfl (by kernel_rfl) (by kernel_rfl) rfl ?_
  repeat' first
    | ((with_reducible refine eqg ?_); exact rfl)
    | ((with_reducible refine KOb.mk ?_); kernel_rfl)
    | ((with_reducible intro h); (repeat first | replace H := grd_k H | replace H := out_step H ‹_›); first | replace H := cond_t h H | replace H := cond_f h H | exact absurd h (by decide) | skip)
    | ((with_reducible refine Ob.mk ?_); first | (with_reducible rfl) | (first | ((repeat (first | (with_reducible exact grd_p H) | replace H := grd_k H | replace H := out_step H ‹_›)); done) | rfl | ((repeat (first | exact grd_p H | (have hp := grd_p H; exact hp) | replace H := grd_k H | replace H := out_step H ‹_› | (replace H := bind_some H; obtain ⟨_, _, H⟩ := H))); done) | (repeat (first | exact grd_p H | replace H := grd_k H | replace H := out_step H ‹_›))))
    | (with_reducible exact True.intro)
    | ((conv => whnf); first
        | (with_reducible refine And.intro ?_ ?_)
        | (with_reducible exact True.intro)
        | (with_reducible refine (?_ : Ob _))
        | ((with_reducible refine CallW.mk ?_); (repeat first | replace H := grd_k H | replace H := out_step H ‹_›); replace H := bind_some H; obtain ⟨y, hy, H⟩ := H; first | ((with_reducible have hz : slices_IndexFunc___impl_Slot_impl_Slot__i2 _ _ = some y := hy); clear hz; refine Exists.intro _ (Exists.intro _ ⟨Or.inl (slices_IndexFunc___impl_Slot_impl_Slot__i2.call hy ?_), rfl, rfl, ?_⟩)))
        | ((with_reducible refine fin_mk ?_); (repeat first | replace H := grd_k H | replace H := out_step H ‹_›); have H := Option.some.inj H; subst H))
    | constructor
def G82 : Env := G81.add 162 [] impl_Ropeway_cabinAt.S
theorem G82_ok : EnvOk Tryz.prog G82 := G81_ok.add ent_162 fun ar h r h1 ⟨a0, a1, y, hy, e1, e2, e3, e4⟩ => by
  subst e3 e4; exact (impl_Ropeway_cabinAt.spec a0 a1 y hy).le e1 e2
attribute [local irreducible] impl_Ropeway_cabinAt

noncomputable def impl_Ropeway_stationOf (a0 : Ropeway) (a1 : Int) : Option (Int) :=
  (grd ((2 : Int) ≠ 0) ((some (w64 (Int.tdiv (w64 (a1 * (a0.2.1.length : Int))) (2 : Int))))))
def impl_Ropeway_stationOf.res (_ : Ropeway) (_ : Int) (y : Int) : AV := (.v (.int .i64 y))
def impl_Ropeway_stationOf.out (_ : Ropeway) (_ : Int) (_ : Int) : List (Option LB) := []
def impl_Ropeway_stationOf.S (ar : List AV) (h : List (Option LB)) (r : AV) (h1 : List (Option LB)) : Prop := ∃ a0 a1 y, impl_Ropeway_stationOf a0 a1 = some y ∧ leL ar [(.agg [(.v (.int .i64 a0.1)), (.tree ty_Slot a0.2.1), (.v (.int .i64 a0.2.2.1)), (.v (.int .i64 a0.2.2.2.1)), (.v (.int .i64 a0.2.2.2.2.1))]), (.v (.int .i64 a1))] ∧ leH h [] ∧ r = impl_Ropeway_stationOf.res a0 a1 y ∧ h1 = impl_Ropeway_stationOf.out a0 a1 y
theorem impl_Ropeway_stationOf.call {ar h a0 a1 y} (H : impl_Ropeway_stationOf a0 a1 = some y) (h0 : leLk ar [(.agg [(.v (.int .i64 a0.1)), (.tree ty_Slot a0.2.1), (.v (.int .i64 a0.2.2.1)), (.v (.int .i64 a0.2.2.2.1)), (.v (.int .i64 a0.2.2.2.2.1))]), (.v (.int .i64 a1))] (leHk h [])) : impl_Ropeway_stationOf.S ar h (impl_Ropeway_stationOf.res a0 a1 y) (impl_Ropeway_stationOf.out a0 a1 y) := ⟨a0, a1, y, H, (args_ok h0).1, (args_ok h0).2, rfl, rfl⟩
theorem impl_Ropeway_stationOf.spec (a0 a1 y) (H : impl_Ropeway_stationOf a0 a1 = some y) : Spec Tryz.prog 130 [(.agg [(.v (.int .i64 a0.1)), (.tree ty_Slot a0.2.1), (.v (.int .i64 a0.2.2.1)), (.v (.int .i64 a0.2.2.2.1)), (.v (.int .i64 a0.2.2.2.2.1))]), (.v (.int .i64 a1))] [] (impl_Ropeway_stationOf.res a0 a1 y) (impl_Ropeway_stationOf.out a0 a1 y) := by
  refine spec_intro (G82_ok.at tok []) (ct := []) Tryz.func130 rfl (by kernel_rfl) (by kernel_rfl) rfl ?_
  repeat' first
    | ((with_reducible refine eqg ?_); exact rfl)
    | ((with_reducible refine KOb.mk ?_); kernel_rfl)
    | ((with_reducible intro h); (repeat first | replace H := grd_k H | replace H := out_step H ‹_›); first | replace H := cond_t h H | replace H := cond_f h H | exact absurd h (by decide) | skip)
    | ((with_reducible refine Ob.mk ?_); first | (with_reducible rfl) | (first | ((repeat (first | (with_reducible exact grd_p H) | replace H := grd_k H | replace H := out_step H ‹_›)); done) | rfl | ((repeat (first | exact grd_p H | (have hp := grd_p H; exact hp) | replace H := grd_k H | replace H := out_step H ‹_› | (replace H := bind_some H; obtain ⟨_, _, H⟩ := H))); done) | (repeat (first | exact grd_p H | replace H := grd_k H | replace H := out_step H ‹_›))))
    | (with_reducible exact True.intro)
    | ((conv => whnf); first
        | (with_reducible refine And.intro ?_ ?_)
        | (with_reducible exact True.intro)
        | (with_reducible refine (?_ : Ob _))
        | ((with_reducible refine fin_mk ?_); (repeat first | replace H := grd_k H | replace H := out_step H ‹_›); have H := Option.some.inj H; subst H))
    | constructor
def G83 : Env := G82.add 130 [] impl_Ropeway_stationOf.S
theorem G83_ok : EnvOk Tryz.prog G83 := G82_ok.add ent_130 fun ar h r h1 ⟨a0, a1, y, hy, e1, e2, e3, e4⟩ => by
  subst e3 e4; exact (impl_Ropeway_stationOf.spec a0 a1 y hy).le e1 e2
attribute [local irreducible] impl_Ropeway_stationOf

noncomputable def slices_IndexFunc___impl_Slot_impl_Slot__i3_loop1 (a0 : (List Slot)) (v4 : Int) : Option (Lp (Int) ((Int) ⊕ (Unit))) :=
  (cond (decide (v4 < (a0.length : Int))) (grd (0 ≤ v4 ∧ v4 < (a0.length : Int)) ((impl_Ropeway_act_1 ((a0.getD v4.toNat d_Slot).1, (a0.getD v4.toNat d_Slot).2.1, (a0.getD v4.toNat d_Slot).2.2.1, ())).bind fun y5 => (cond y5 ((some (.out (Sum.inl v4)))) (some (.go (w64 (v4 + (1 : Int)))))))) ((some (.out (Sum.inr ())))))
noncomputable def slices_IndexFunc___impl_Slot_impl_Slot__i3 (a0 : (List Slot)) : Option (Int) :=
  ((iter (fun s => slices_IndexFunc___impl_Slot_impl_Slot__i3_loop1 a0 s) (0 : Int)).bind (Sum.elim (fun r7 => (some r7)) (fun _ => (some ((-1) : Int)))))
def slices_IndexFunc___impl_Slot_impl_Slot__i3.res (_ : (List Slot)) (y : Int) : AV := (.v (.int .i64 y))
def slices_IndexFunc___impl_Slot_impl_Slot__i3.out (_ : (List Slot)) (_ : Int) : List (Option LB) := []
def slices_IndexFunc___impl_Slot_impl_Slot__i3.S (ar : List AV) (h : List (Option LB)) (r : AV) (h1 : List (Option LB)) : Prop := ∃ a0 y, slices_IndexFunc___impl_Slot_impl_Slot__i3 a0 = some y ∧ leL ar [(.tree ty_Slot a0), (.fn 160 [])] ∧ leH h [] ∧ r = slices_IndexFunc___impl_Slot_impl_Slot__i3.res a0 y ∧ h1 = slices_IndexFunc___impl_Slot_impl_Slot__i3.out a0 y
theorem slices_IndexFunc___impl_Slot_impl_Slot__i3.call {ar h a0 y} (H : slices_IndexFunc___impl_Slot_impl_Slot__i3 a0 = some y) (h0 : leLk ar [(.tree ty_Slot a0), (.fn 160 [])] (leHk h [])) : slices_IndexFunc___impl_Slot_impl_Slot__i3.S ar h (slices_IndexFunc___impl_Slot_impl_Slot__i3.res a0 y) (slices_IndexFunc___impl_Slot_impl_Slot__i3.out a0 y) := ⟨a0, y, H, (args_ok h0).1, (args_ok h0).2, rfl, rfl⟩
theorem slices_IndexFunc___impl_Slot_impl_Slot__i3.spec (a0 y) (H : slices_IndexFunc___impl_Slot_impl_Slot__i3 a0 = some y) : Spec Tryz.prog 156 [(.tree ty_Slot a0), (.fn 160 [])] [] (slices_IndexFunc___impl_Slot_impl_Slot__i3.res a0 y) (slices_IndexFunc___impl_Slot_impl_Slot__i3.out a0 y) := by
  refine spec_intro (G83_ok.at tok []) (ct := []) Tryz.func156 rfl (by kernel_rfl) (by kernel_rfl) rfl ?_
  repeat' first
    | ((with_reducible refine eqg ?_); exact rfl)
    | ((with_reducible refine KOb.mk ?_); kernel_rfl)
    | ((with_reducible intro h); (repeat first | replace H := grd_k H | replace H := out_step H ‹_›); first | replace H := cond_t h H | replace H := cond_f h H | exact absurd h (by decide) | skip)
    | ((with_reducible refine Ob.mk ?_); first | (with_reducible rfl) | (first | ((repeat (first | (with_reducible exact grd_p H) | replace H := grd_k H | replace H := out_step H ‹_›)); done) | rfl | ((repeat (first | exact grd_p H | (have hp := grd_p H; exact hp) | replace H := grd_k H | replace H := out_step H ‹_› | (replace H := bind_some H; obtain ⟨_, _, H⟩ := H))); done) | (repeat (first | exact grd_p H | replace H := grd_k H | replace H := out_step H ‹_›))))
    | (with_reducible exact True.intro)
    | ((conv => whnf); first
        | (with_reducible refine And.intro ?_ ?_)
        | (with_reducible exact True.intro)
        | (with_reducible refine (?_ : Ob _))
        | ((with_reducible refine CallW.mk ?_); (repeat first | replace H := grd_k H | replace H := out_step H ‹_›); replace H := bind_some H; obtain ⟨y, hy, H⟩ := H; first | ((with_reducible have hz : impl_Ropeway_act_1 _ = some y := hy); clear hz; refine ⟨_, _, impl_Ropeway_act_1.call hy ?_, rfl, rfl, ?_⟩))
        | ((repeat first | replace H := grd_k H | replace H := out_step H ‹_›); refine loop_iter (G83_ok.at tok []) (ct := []) (F := (fun s1 : Int => ⟨sl [(0, (.tree ty_Slot a0)), (1, (.fn 160 [])), (7, (.v (.int .i64 (a0.length : Int)))), (8, (.v (.int .i64 s1)))], []⟩)) (step := (fun s : Int => slices_IndexFunc___impl_Slot_impl_Slot__i3_loop1 _ s)) _ H (by kernel_rfl) (sub_auto ?_) ?_; rotate_left; (intro s1 r v hr H); rotate_right)
        | ((repeat first | replace H := grd_k H | replace H := out_step H ‹_›); refine again_step H (by assumption) (sub_auto ?_))
        | ((with_reducible refine fin_mk ?_); (repeat first | replace H := grd_k H | replace H := out_step H ‹_›); have H := Option.some.inj H; subst H))
    | constructor
  all_goals exact viewz _ _
def G84 : Env := G83.addOr 156 [] slices_IndexFunc___impl_Slot_impl_Slot__i3.S
theorem G84_ok : EnvOk Tryz.prog G84 := G83_ok.addOr ent_156 fun ar h r h1 ⟨a0, y, hy, e1, e2, e3, e4⟩ => by
  subst e3 e4; exact (slices_IndexFunc___impl_Slot_impl_Slot__i3.spec a0 y hy).le e1 e2
attribute [local irreducible] slices_IndexFunc___impl_Slot_impl_Slot__i3

end Go.Proofs.YtaobinhdnklojaaGreatDoor
