/-
  Contracts, printed by a program.
-/
import Derived.Test.YtpfdhaldjeedfaaDoorC203
namespace Go.Proofs.YtpfdhaldjeedfaaDoor
open Go.RowKit
attribute [local irreducible] Ob loopwp Sub Spec Fin Again CallW CutC KOb iter joinx outm

attribute [local irreducible] laws_szLogRecord laws_toLogRecord spec_l1In spec_l27Plain spec_l1Stands spec_l27Good spec_l1Num spec_l1Num_f spec_l1Sum spec_l1Seal spec_l27Line spec_EncodeRecord impl_within strings_ContainsAny impl_isPlain impl_IsValidRecord strconv_Itoa strings_Contains impl_checksum

noncomputable def impl_AppendChecksum (a0 : ByteArray) : Option (ByteArray × Bool) :=
  (cond (decide ((4000 : Int) < (a0.size : Int))) ((some ((ByteArray.mk #[]), false))) ((strings_Contains a0 (ByteArray.mk #[35])).bind fun y1 => (cond y1 ((some ((ByteArray.mk #[]), false))) (grd (a0.size + (ByteArray.mk #[35]).size ≤ 9223372036854775807) ((impl_checksum a0).bind fun y2 => ((strconv_Itoa y2).bind fun y3 => (grd ((a0 ++ (ByteArray.mk #[35])).size + y3.size ≤ 9223372036854775807) (cond (decide ((4000 : Int) < (((a0 ++ (ByteArray.mk #[35])) ++ y3).size : Int))) ((some ((ByteArray.mk #[]), false))) ((some (((a0 ++ (ByteArray.mk #[35])) ++ y3), true)))))))))))
def impl_AppendChecksum.res (_ : ByteArray) (y : ByteArray × Bool) : AV := (.tup [(.v (.string y.1)), (.bl y.2)])
def impl_AppendChecksum.out (_ : ByteArray) (_ : ByteArray × Bool) : List (Option LB) := []
def impl_AppendChecksum.S (ar : List AV) (h : List (Option LB)) (r : AV) (h1 : List (Option LB)) : Prop := ∃ a0 y, impl_AppendChecksum a0 = some y ∧ leL ar [(.v (.string a0))] ∧ leH h [] ∧ r = impl_AppendChecksum.res a0 y ∧ h1 = impl_AppendChecksum.out a0 y
theorem impl_AppendChecksum.call {ar : List AV} {h : List (Option LB)} {a0 : ByteArray} {y : ByteArray × Bool} (H : impl_AppendChecksum a0 = some y) (h0 : leLk ar [(.v (.string a0))] (leHk h [])) : impl_AppendChecksum.S ar h (impl_AppendChecksum.res a0 y) (impl_AppendChecksum.out a0 y) := ⟨a0, y, H, (args_ok h0).1, (args_ok h0).2, rfl, rfl⟩
set_option maxHeartbeats 100000000 in
set_option maxRecDepth 100000 in
theorem impl_AppendChecksum.spec (a0 : ByteArray) (y : ByteArray × Bool) (H : impl_AppendChecksum a0 = some y) : Spec Tryd.prog 65 [(.v (.string a0))] [] (impl_AppendChecksum.res a0 y) (impl_AppendChecksum.out a0 y) := by
  refine spec_intro (G18_ok.at tok []) (ct := [(4, some [4])]) Tryd.func65 rfl (by kernel_rfl) (by kernel_rfl) rfl ?_
  repeat' first
    | ((with_reducible refine eqg ?_); exact rfl)
    | ((with_reducible refine KOb.mk ?_); kernel_rfl)
    | ((with_reducible intro h); (repeat (first | replace H := grd_k H | replace H := out_step H (by assumption))); first | replace H := cond_t h H | replace H := cond_f h H | exact absurd h (by decide) | skip)
    | ((with_reducible refine Ob.mk ?_); first | rfl | (repeat (first | exact grd_p H | (have hp := grd_p H; exact hp) | replace H := grd_k H | replace H := out_step H (by assumption) | (replace H := bind_some H; obtain ⟨_, _, H⟩ := H))))
    | (with_reducible exact True.intro)
    | constructor
    | ((conv => whnf); first
        | ((with_reducible refine Ob.mk ?_); first | rfl | (repeat (first | exact grd_p H | (have hp := grd_p H; exact hp) | replace H := grd_k H | replace H := out_step H (by assumption) | (replace H := bind_some H; obtain ⟨_, _, H⟩ := H))))
        | ((with_reducible refine CallW.mk ?_); (repeat (first | replace H := grd_k H | replace H := out_step H (by assumption))); replace H := bind_some H; obtain ⟨y, hy, H⟩ := H; first | ((with_reducible have hz : strings_Contains _ _ = some y := hy); clear hz; refine Exists.intro _ (Exists.intro _ ⟨strings_Contains.call hy ?_, rfl, rfl, ?_⟩)) | ((with_reducible have hz : impl_checksum _ = some y := hy); clear hz; refine Exists.intro _ (Exists.intro _ ⟨impl_checksum.call hy ?_, rfl, rfl, ?_⟩)) | ((with_reducible have hz : strconv_Itoa _ = some y := hy); clear hz; refine Exists.intro _ (Exists.intro _ ⟨strconv_Itoa.call hy ?_, rfl, rfl, ?_⟩)))
        | ((with_reducible refine fin_mk ?_); (repeat (first | replace H := grd_k H | replace H := out_step H (by assumption))); have H := Option.some.inj H; subst H))
def G19 : Env := G18.add 65 [] impl_AppendChecksum.S
theorem G19_ok : EnvOk Tryd.prog G19 := G18_ok.add ent_65 fun ar h r h1 ⟨a0, y, hy, e1, e2, e3, e4⟩ => by
  subst e3 e4; exact (impl_AppendChecksum.spec a0 y hy).le e1 e2
attribute [local irreducible] impl_AppendChecksum

noncomputable def impl_encodeRecord (a0 : Int) (a1 : LogRecord) : Option (ByteArray) :=
  ((strconv_Itoa a0).bind fun y1 => (grd (y1.size + (ByteArray.mk #[32]).size ≤ 9223372036854775807) (grd ((y1 ++ (ByteArray.mk #[32])).size + a1.1.size ≤ 9223372036854775807) (grd (((y1 ++ (ByteArray.mk #[32])) ++ a1.1).size + (ByteArray.mk #[64]).size ≤ 9223372036854775807) (grd ((((y1 ++ (ByteArray.mk #[32])) ++ a1.1) ++ (ByteArray.mk #[64])).size + a1.2.1.size ≤ 9223372036854775807) ((impl_AppendChecksum ((((y1 ++ (ByteArray.mk #[32])) ++ a1.1) ++ (ByteArray.mk #[64])) ++ a1.2.1)).bind fun y2 => (grd (y2.1.size + (ByteArray.mk #[10]).size ≤ 9223372036854775807) ((some (y2.1 ++ (ByteArray.mk #[10])))))))))))
def impl_encodeRecord.res (_ : Int) (_ : LogRecord) (y : ByteArray) : AV := (.v (.string y))
def impl_encodeRecord.out (_ : Int) (_ : LogRecord) (_ : ByteArray) : List (Option LB) := []
def impl_encodeRecord.S (ar : List AV) (h : List (Option LB)) (r : AV) (h1 : List (Option LB)) : Prop := ∃ a0 a1 y, impl_encodeRecord a0 a1 = some y ∧ leL ar [(.v (.int .i64 a0)), (.agg [(.v (.string a1.1)), (.v (.string a1.2.1))])] ∧ leH h [] ∧ r = impl_encodeRecord.res a0 a1 y ∧ h1 = impl_encodeRecord.out a0 a1 y
theorem impl_encodeRecord.call {ar : List AV} {h : List (Option LB)} {a0 : Int} {a1 : LogRecord} {y : ByteArray} (H : impl_encodeRecord a0 a1 = some y) (h0 : leLk ar [(.v (.int .i64 a0)), (.agg [(.v (.string a1.1)), (.v (.string a1.2.1))])] (leHk h [])) : impl_encodeRecord.S ar h (impl_encodeRecord.res a0 a1 y) (impl_encodeRecord.out a0 a1 y) := ⟨a0, a1, y, H, (args_ok h0).1, (args_ok h0).2, rfl, rfl⟩
set_option maxHeartbeats 100000000 in
set_option maxRecDepth 100000 in
theorem impl_encodeRecord.spec (a0 : Int) (a1 : LogRecord) (y : ByteArray) (H : impl_encodeRecord a0 a1 = some y) : Spec Tryd.prog 46 [(.v (.int .i64 a0)), (.agg [(.v (.string a1.1)), (.v (.string a1.2.1))])] [] (impl_encodeRecord.res a0 a1 y) (impl_encodeRecord.out a0 a1 y) := by
  refine spec_intro (G19_ok.at tok []) (ct := [(2, some [5])]) Tryd.func46 rfl (by kernel_rfl) (by kernel_rfl) rfl ?_
  repeat' first
    | ((with_reducible refine eqg ?_); exact rfl)
    | ((with_reducible refine KOb.mk ?_); kernel_rfl)
    | ((with_reducible intro h); (repeat (first | replace H := grd_k H | replace H := out_step H (by assumption))); first | replace H := cond_t h H | replace H := cond_f h H | exact absurd h (by decide) | skip)
    | ((with_reducible refine Ob.mk ?_); first | rfl | (repeat (first | exact grd_p H | (have hp := grd_p H; exact hp) | replace H := grd_k H | replace H := out_step H (by assumption) | (replace H := bind_some H; obtain ⟨_, _, H⟩ := H))))
    | (with_reducible exact True.intro)
    | constructor
    | ((conv => whnf); first
        | ((with_reducible refine Ob.mk ?_); first | rfl | (repeat (first | exact grd_p H | (have hp := grd_p H; exact hp) | replace H := grd_k H | replace H := out_step H (by assumption) | (replace H := bind_some H; obtain ⟨_, _, H⟩ := H))))
        | ((with_reducible refine CallW.mk ?_); (repeat (first | replace H := grd_k H | replace H := out_step H (by assumption))); replace H := bind_some H; obtain ⟨y, hy, H⟩ := H; first | ((with_reducible have hz : strconv_Itoa _ = some y := hy); clear hz; refine Exists.intro _ (Exists.intro _ ⟨strconv_Itoa.call hy ?_, rfl, rfl, ?_⟩)) | ((with_reducible have hz : impl_AppendChecksum _ = some y := hy); clear hz; refine Exists.intro _ (Exists.intro _ ⟨impl_AppendChecksum.call hy ?_, rfl, rfl, ?_⟩)))
        | ((with_reducible refine fin_mk ?_); (repeat (first | replace H := grd_k H | replace H := out_step H (by assumption))); have H := Option.some.inj H; subst H))
def G20 : Env := G19.add 46 [] impl_encodeRecord.S
theorem G20_ok : EnvOk Tryd.prog G20 := G19_ok.add ent_46 fun ar h r h1 ⟨a0, a1, y, hy, e1, e2, e3, e4⟩ => by
  subst e3 e4; exact (impl_encodeRecord.spec a0 a1 y hy).le e1 e2
attribute [local irreducible] impl_encodeRecord

noncomputable def impl_EncodeRecord (a0 : Int) (a1 : LogRecord) : Option (ByteArray × Bool) :=
  ((impl_within a0 (0 : Int) (59 : Int)).bind fun y1 => (cond (!y1) ((some ((ByteArray.mk #[]), false))) ((impl_IsValidRecord (a1.1, a1.2.1, ())).bind fun y2 => (cond (!y2) ((some ((ByteArray.mk #[]), false))) ((impl_encodeRecord a0 (a1.1, a1.2.1, ())).bind fun y3 => (some (y3, true)))))))
def impl_EncodeRecord.res (_ : Int) (_ : LogRecord) (y : ByteArray × Bool) : AV := (.tup [(.v (.string y.1)), (.bl y.2)])
def impl_EncodeRecord.out (_ : Int) (_ : LogRecord) (_ : ByteArray × Bool) : List (Option LB) := []
def impl_EncodeRecord.S (ar : List AV) (h : List (Option LB)) (r : AV) (h1 : List (Option LB)) : Prop := ∃ a0 a1 y, impl_EncodeRecord a0 a1 = some y ∧ leL ar [(.v (.int .i64 a0)), (.agg [(.v (.string a1.1)), (.v (.string a1.2.1))])] ∧ leH h [] ∧ r = impl_EncodeRecord.res a0 a1 y ∧ h1 = impl_EncodeRecord.out a0 a1 y
theorem impl_EncodeRecord.call {ar : List AV} {h : List (Option LB)} {a0 : Int} {a1 : LogRecord} {y : ByteArray × Bool} (H : impl_EncodeRecord a0 a1 = some y) (h0 : leLk ar [(.v (.int .i64 a0)), (.agg [(.v (.string a1.1)), (.v (.string a1.2.1))])] (leHk h [])) : impl_EncodeRecord.S ar h (impl_EncodeRecord.res a0 a1 y) (impl_EncodeRecord.out a0 a1 y) := ⟨a0, a1, y, H, (args_ok h0).1, (args_ok h0).2, rfl, rfl⟩
set_option maxHeartbeats 100000000 in
set_option maxRecDepth 100000 in
theorem impl_EncodeRecord.spec (a0 : Int) (a1 : LogRecord) (y : ByteArray × Bool) (H : impl_EncodeRecord a0 a1 = some y) : Spec Tryd.prog 16 [(.v (.int .i64 a0)), (.agg [(.v (.string a1.1)), (.v (.string a1.2.1))])] [] (impl_EncodeRecord.res a0 a1 y) (impl_EncodeRecord.out a0 a1 y) := by
  refine spec_intro (G20_ok.at tok []) (ct := []) Tryd.func16 rfl (by kernel_rfl) (by kernel_rfl) rfl ?_
  repeat' first
    | ((with_reducible refine eqg ?_); exact rfl)
    | ((with_reducible refine KOb.mk ?_); kernel_rfl)
    | ((with_reducible intro h); (repeat (first | replace H := grd_k H | replace H := out_step H (by assumption))); first | replace H := cond_t h H | replace H := cond_f h H | exact absurd h (by decide) | skip)
    | ((with_reducible refine Ob.mk ?_); first | rfl | (repeat (first | exact grd_p H | (have hp := grd_p H; exact hp) | replace H := grd_k H | replace H := out_step H (by assumption) | (replace H := bind_some H; obtain ⟨_, _, H⟩ := H))))
    | (with_reducible exact True.intro)
    | constructor
    | ((conv => whnf); first
        | ((with_reducible refine Ob.mk ?_); first | rfl | (repeat (first | exact grd_p H | (have hp := grd_p H; exact hp) | replace H := grd_k H | replace H := out_step H (by assumption) | (replace H := bind_some H; obtain ⟨_, _, H⟩ := H))))
        | ((with_reducible refine CallW.mk ?_); (repeat (first | replace H := grd_k H | replace H := out_step H (by assumption))); replace H := bind_some H; obtain ⟨y, hy, H⟩ := H; first | ((with_reducible have hz : impl_within _ _ _ = some y := hy); clear hz; refine Exists.intro _ (Exists.intro _ ⟨impl_within.call hy ?_, rfl, rfl, ?_⟩)) | ((with_reducible have hz : impl_IsValidRecord _ = some y := hy); clear hz; refine Exists.intro _ (Exists.intro _ ⟨impl_IsValidRecord.call hy ?_, rfl, rfl, ?_⟩)) | ((with_reducible have hz : impl_encodeRecord _ _ = some y := hy); clear hz; refine Exists.intro _ (Exists.intro _ ⟨impl_encodeRecord.call hy ?_, rfl, rfl, ?_⟩)))
        | ((with_reducible refine fin_mk ?_); (repeat (first | replace H := grd_k H | replace H := out_step H (by assumption))); have H := Option.some.inj H; subst H))
def G21 : Env := G20.add 16 [] impl_EncodeRecord.S
theorem G21_ok : EnvOk Tryd.prog G21 := G20_ok.add ent_16 fun ar h r h1 ⟨a0, a1, y, hy, e1, e2, e3, e4⟩ => by
  subst e3 e4; exact (impl_EncodeRecord.spec a0 a1 y hy).le e1 e2
attribute [local irreducible] impl_EncodeRecord

noncomputable def laws_FnExactEncodeRecord (a0 : Int) (a1 : LogRecord) : Option (Bool) :=
  ((laws_szLogRecord (a1.1, a1.2.1, ()) (1048576 : Int)).bind fun y1 => (cond (decide (y1 < (0 : Int))) ((some true)) ((laws_toLogRecord (a1.1, a1.2.1, ())).bind fun y2 => ((spec_EncodeRecord a0 (y2.1, y2.2.1, ())).bind fun y3 => ((laws_toLogRecord (a1.1, a1.2.1, ())).bind fun y4 => ((impl_EncodeRecord a0 (y4.1, y4.2.1, ())).bind fun y5 => (cond (!decide (y5.1 = y3.1)) ((some false)) (cond (!(y5.2 == y3.2)) ((some false)) ((some true))))))))))
def laws_FnExactEncodeRecord.res (_ : Int) (_ : LogRecord) (y : Bool) : AV := (.bl y)
def laws_FnExactEncodeRecord.out (_ : Int) (_ : LogRecord) (_ : Bool) : List (Option LB) := []
def laws_FnExactEncodeRecord.S (ar : List AV) (h : List (Option LB)) (r : AV) (h1 : List (Option LB)) : Prop := ∃ a0 a1 y, laws_FnExactEncodeRecord a0 a1 = some y ∧ leL ar [(.v (.int .i64 a0)), (.agg [(.v (.string a1.1)), (.v (.string a1.2.1))])] ∧ leH h [] ∧ r = laws_FnExactEncodeRecord.res a0 a1 y ∧ h1 = laws_FnExactEncodeRecord.out a0 a1 y
theorem laws_FnExactEncodeRecord.call {ar : List AV} {h : List (Option LB)} {a0 : Int} {a1 : LogRecord} {y : Bool} (H : laws_FnExactEncodeRecord a0 a1 = some y) (h0 : leLk ar [(.v (.int .i64 a0)), (.agg [(.v (.string a1.1)), (.v (.string a1.2.1))])] (leHk h [])) : laws_FnExactEncodeRecord.S ar h (laws_FnExactEncodeRecord.res a0 a1 y) (laws_FnExactEncodeRecord.out a0 a1 y) := ⟨a0, a1, y, H, (args_ok h0).1, (args_ok h0).2, rfl, rfl⟩
set_option maxHeartbeats 100000000 in
set_option maxRecDepth 100000 in
theorem laws_FnExactEncodeRecord.spec (a0 : Int) (a1 : LogRecord) (y : Bool) (H : laws_FnExactEncodeRecord a0 a1 = some y) : Spec Tryd.prog 3 [(.v (.int .i64 a0)), (.agg [(.v (.string a1.1)), (.v (.string a1.2.1))])] [] (laws_FnExactEncodeRecord.res a0 a1 y) (laws_FnExactEncodeRecord.out a0 a1 y) := by
  refine spec_intro (G21_ok.at tok []) (ct := [(6, some [0, 3, 6, 7, 33, 34, 35]), (8, some [36])]) Tryd.func3 rfl (by kernel_rfl) (by kernel_rfl) rfl ?_
  repeat' first
    | ((with_reducible refine eqg ?_); exact rfl)
    | ((with_reducible refine KOb.mk ?_); kernel_rfl)
    | ((with_reducible intro h); (repeat (first | replace H := grd_k H | replace H := out_step H (by assumption))); first | replace H := cond_t h H | replace H := cond_f h H | exact absurd h (by decide) | skip)
    | ((with_reducible refine Ob.mk ?_); first | rfl | (repeat (first | exact grd_p H | (have hp := grd_p H; exact hp) | replace H := grd_k H | replace H := out_step H (by assumption) | (replace H := bind_some H; obtain ⟨_, _, H⟩ := H))))
    | (with_reducible exact True.intro)
    | constructor
    | ((conv => whnf); first
        | ((with_reducible refine Ob.mk ?_); first | rfl | (repeat (first | exact grd_p H | (have hp := grd_p H; exact hp) | replace H := grd_k H | replace H := out_step H (by assumption) | (replace H := bind_some H; obtain ⟨_, _, H⟩ := H))))
        | ((with_reducible refine CallW.mk ?_); (repeat (first | replace H := grd_k H | replace H := out_step H (by assumption))); replace H := bind_some H; obtain ⟨y, hy, H⟩ := H; first | ((with_reducible have hz : laws_szLogRecord _ _ = some y := hy); clear hz; refine Exists.intro _ (Exists.intro _ ⟨laws_szLogRecord.call hy ?_, rfl, rfl, ?_⟩)) | ((with_reducible have hz : laws_toLogRecord _ = some y := hy); clear hz; refine Exists.intro _ (Exists.intro _ ⟨laws_toLogRecord.call hy ?_, rfl, rfl, ?_⟩)) | ((with_reducible have hz : spec_EncodeRecord _ _ = some y := hy); clear hz; refine Exists.intro _ (Exists.intro _ ⟨spec_EncodeRecord.call hy ?_, rfl, rfl, ?_⟩)) | ((with_reducible have hz : impl_EncodeRecord _ _ = some y := hy); clear hz; refine Exists.intro _ (Exists.intro _ ⟨impl_EncodeRecord.call hy ?_, rfl, rfl, ?_⟩)))
        | ((with_reducible refine fin_mk ?_); (repeat (first | replace H := grd_k H | replace H := out_step H (by assumption))); have H := Option.some.inj H; subst H))
def G22 : Env := G21.add 3 [] laws_FnExactEncodeRecord.S
theorem G22_ok : EnvOk Tryd.prog G22 := G21_ok.add ent_3 fun ar h r h1 ⟨a0, a1, y, hy, e1, e2, e3, e4⟩ => by
  subst e3 e4; exact (laws_FnExactEncodeRecord.spec a0 a1 y hy).le e1 e2
attribute [local irreducible] laws_FnExactEncodeRecord

noncomputable def spec_l1Split_loop1 (a0 : ByteArray) (a1 : Int) (v4 : Int) (v5 : Int) (v6 : (List ByteArray)) : Option (Lp (Int × Int × (List ByteArray)) ((Int × (List ByteArray)))) :=
  (cond (decide (v5 < (a0.size : Int))) (grd (0 ≤ v5 ∧ v5 < (a0.size : Int)) (cond (decide ((bAt a0 v5) = a1)) (grd (0 ≤ v4 ∧ v4 ≤ v5 ∧ v5 ≤ (a0.size : Int)) (grd ((v6.length + [(bsub a0 v4 v5)].length) * 16 ≤ 140737488355328 ∧ v6.length + [(bsub a0 v4 v5)].length ≤ 140737488355328) (some (.go ((w64 (v5 + (1 : Int))), (w64 (v5 + (1 : Int))), (v6 ++ [(bsub a0 v4 v5)])))))) (some (.go (v4, (w64 (v5 + (1 : Int))), v6))))) ((some (.out (v4, v6)))))
noncomputable def spec_l1Split (a0 : ByteArray) (a1 : Int) : Option ((List ByteArray)) :=
  ((iter (fun s => spec_l1Split_loop1 a0 a1 s.1 s.2.1 s.2.2) ((0 : Int), (0 : Int), ([] : List ByteArray))).bind (fun r7 => (grd (0 ≤ r7.1 ∧ r7.1 ≤ (a0.size : Int) ∧ (a0.size : Int) ≤ (a0.size : Int)) (grd ((r7.2.length + [(bsub a0 r7.1 (a0.size : Int))].length) * 16 ≤ 140737488355328 ∧ r7.2.length + [(bsub a0 r7.1 (a0.size : Int))].length ≤ 140737488355328) ((some (r7.2 ++ [(bsub a0 r7.1 (a0.size : Int))])))))))
def spec_l1Split.res (_ : ByteArray) (_ : Int) (_ : (List ByteArray)) : AV := (.own 0)
def spec_l1Split.out (_ : ByteArray) (_ : Int) (y : (List ByteArray)) : List (Option LB) := [some (.arr 9 .str y)]
def spec_l1Split.S (ar : List AV) (h : List (Option LB)) (r : AV) (h1 : List (Option LB)) : Prop := ∃ a0 a1 y, spec_l1Split a0 a1 = some y ∧ leL ar [(.v (.string a0)), (.v (.int .u8 a1))] ∧ leH h [] ∧ r = spec_l1Split.res a0 a1 y ∧ h1 = spec_l1Split.out a0 a1 y
theorem spec_l1Split.call {ar : List AV} {h : List (Option LB)} {a0 : ByteArray} {a1 : Int} {y : (List ByteArray)} (H : spec_l1Split a0 a1 = some y) (h0 : leLk ar [(.v (.string a0)), (.v (.int .u8 a1))] (leHk h [])) : spec_l1Split.S ar h (spec_l1Split.res a0 a1 y) (spec_l1Split.out a0 a1 y) := ⟨a0, a1, y, H, (args_ok h0).1, (args_ok h0).2, rfl, rfl⟩
set_option maxHeartbeats 100000000 in
set_option maxRecDepth 100000 in
theorem spec_l1Split.spec (a0 : ByteArray) (a1 : Int) (y : (List ByteArray)) (H : spec_l1Split a0 a1 = some y) : Spec Tryd.prog 67 [(.v (.string a0)), (.v (.int .u8 a1))] [] (spec_l1Split.res a0 a1 y) (spec_l1Split.out a0 a1 y) := by
  refine spec_intro (G22_ok.at tok []) (ct := [(8, some [0, 1, 5, 7])]) Tryd.func67 rfl (by kernel_rfl) (by kernel_rfl) rfl ?_
  repeat' first
    | ((with_reducible refine eqg ?_); exact rfl)
    | ((with_reducible refine KOb.mk ?_); kernel_rfl)
    | ((with_reducible intro h); (repeat (first | replace H := grd_k H | replace H := out_step H (by assumption))); first | replace H := cond_t h H | replace H := cond_f h H | exact absurd h (by decide) | skip)
    | ((with_reducible refine Ob.mk ?_); first | rfl | (repeat (first | exact grd_p H | (have hp := grd_p H; exact hp) | replace H := grd_k H | replace H := out_step H (by assumption) | (replace H := bind_some H; obtain ⟨_, _, H⟩ := H))))
    | (with_reducible exact True.intro)
    | constructor
    | ((conv => whnf); first
        | ((with_reducible refine Ob.mk ?_); first | rfl | (repeat (first | exact grd_p H | (have hp := grd_p H; exact hp) | replace H := grd_k H | replace H := out_step H (by assumption) | (replace H := bind_some H; obtain ⟨_, _, H⟩ := H))))
        | ((repeat (first | replace H := grd_k H | replace H := out_step H (by assumption))); refine loop_iter (G22_ok.at tok []) (ct := [(8, some [0, 1, 5, 7])]) (F := (fun s1 : Int × Int × (List ByteArray) => ⟨sl [(0, (.v (.string a0))), (1, (.v (.int .u8 a1))), (5, (.own 0)), (6, (.v (.int .i64 s1.1))), (7, (.v (.int .i64 s1.2.1)))], [some (.arr 9 .str s1.2.2)]⟩)) (step := (fun s : Int × Int × (List ByteArray) => spec_l1Split_loop1 _ _ s.1 s.2.1 s.2.2)) _ H (by kernel_rfl) (sub_auto ?_) ?_; rotate_left; (intro s1 r v hr H); rotate_right)
        | ((repeat (first | replace H := grd_k H | replace H := out_step H (by assumption))); refine again_step H (by assumption) (sub_auto ?_))
        | ((with_reducible refine fin_mk ?_); (repeat (first | replace H := grd_k H | replace H := out_step H (by assumption))); have H := Option.some.inj H; subst H))
def G23 : Env := G22.add 67 [] spec_l1Split.S
theorem G23_ok : EnvOk Tryd.prog G23 := G22_ok.add ent_67 fun ar h r h1 ⟨a0, a1, y, hy, e1, e2, e3, e4⟩ => by
  subst e3 e4; exact (spec_l1Split.spec a0 a1 y hy).le e1 e2
attribute [local irreducible] spec_l1Split

noncomputable def spec_l27Read (a0 : ByteArray) (a1 : Int) : Option (LogRecord × Bool) :=
  ((spec_l1Num a1).bind fun y1 => (grd (y1.size + (ByteArray.mk #[32]).size ≤ 9223372036854775807) ((spec_l1Split a0 (35 : Int)).bind fun y2 => (grd (0 ≤ (0 : Int) ∧ (0 : Int) < (y2.length : Int)) (cond (decide (((y2.getD ((0 : Int).toNat) (ByteArray.mk #[])).size : Int) < ((y1 ++ (ByteArray.mk #[32])).size : Int))) ((some (((ByteArray.mk #[]), (ByteArray.mk #[]), ()), false))) (grd (0 ≤ (0 : Int) ∧ (0 : Int) ≤ ((y1 ++ (ByteArray.mk #[32])).size : Int) ∧ ((y1 ++ (ByteArray.mk #[32])).size : Int) ≤ ((y2.getD ((0 : Int).toNat) (ByteArray.mk #[])).size : Int)) (cond (!decide ((bsub (y2.getD ((0 : Int).toNat) (ByteArray.mk #[])) (0 : Int) ((y1 ++ (ByteArray.mk #[32])).size : Int)) = (y1 ++ (ByteArray.mk #[32])))) ((some (((ByteArray.mk #[]), (ByteArray.mk #[]), ()), false))) (grd (0 ≤ ((y1 ++ (ByteArray.mk #[32])).size : Int) ∧ ((y1 ++ (ByteArray.mk #[32])).size : Int) ≤ ((y2.getD ((0 : Int).toNat) (ByteArray.mk #[])).size : Int) ∧ ((y2.getD ((0 : Int).toNat) (ByteArray.mk #[])).size : Int) ≤ ((y2.getD ((0 : Int).toNat) (ByteArray.mk #[])).size : Int)) ((spec_l1Split (bsub (y2.getD ((0 : Int).toNat) (ByteArray.mk #[])) ((y1 ++ (ByteArray.mk #[32])).size : Int) ((y2.getD ((0 : Int).toNat) (ByteArray.mk #[])).size : Int)) (64 : Int)).bind fun y3 => (grd (0 ≤ (0 : Int) ∧ (0 : Int) < (y3.length : Int)) (cond (decide (((y3.getD ((0 : Int).toNat) (ByteArray.mk #[])).size : Int) = ((bsub (y2.getD ((0 : Int).toNat) (ByteArray.mk #[])) ((y1 ++ (ByteArray.mk #[32])).size : Int) ((y2.getD ((0 : Int).toNat) (ByteArray.mk #[])).size : Int)).size : Int))) ((some (((ByteArray.mk #[]), (ByteArray.mk #[]), ()), false))) (grd (0 ≤ (w64 (((y3.getD ((0 : Int).toNat) (ByteArray.mk #[])).size : Int) + (1 : Int))) ∧ (w64 (((y3.getD ((0 : Int).toNat) (ByteArray.mk #[])).size : Int) + (1 : Int))) ≤ ((bsub (y2.getD ((0 : Int).toNat) (ByteArray.mk #[])) ((y1 ++ (ByteArray.mk #[32])).size : Int) ((y2.getD ((0 : Int).toNat) (ByteArray.mk #[])).size : Int)).size : Int) ∧ ((bsub (y2.getD ((0 : Int).toNat) (ByteArray.mk #[])) ((y1 ++ (ByteArray.mk #[32])).size : Int) ((y2.getD ((0 : Int).toNat) (ByteArray.mk #[])).size : Int)).size : Int) ≤ ((bsub (y2.getD ((0 : Int).toNat) (ByteArray.mk #[])) ((y1 ++ (ByteArray.mk #[32])).size : Int) ((y2.getD ((0 : Int).toNat) (ByteArray.mk #[])).size : Int)).size : Int)) ((spec_l27Good ((y3.getD ((0 : Int).toNat) (ByteArray.mk #[])), (bsub (bsub (y2.getD ((0 : Int).toNat) (ByteArray.mk #[])) ((y1 ++ (ByteArray.mk #[32])).size : Int) ((y2.getD ((0 : Int).toNat) (ByteArray.mk #[])).size : Int)) (w64 (((y3.getD ((0 : Int).toNat) (ByteArray.mk #[])).size : Int) + (1 : Int))) ((bsub (y2.getD ((0 : Int).toNat) (ByteArray.mk #[])) ((y1 ++ (ByteArray.mk #[32])).size : Int) ((y2.getD ((0 : Int).toNat) (ByteArray.mk #[])).size : Int)).size : Int)), ())).bind fun y4 => (cond y4 ((spec_l27Line a1 ((y3.getD ((0 : Int).toNat) (ByteArray.mk #[])), (bsub (bsub (y2.getD ((0 : Int).toNat) (ByteArray.mk #[])) ((y1 ++ (ByteArray.mk #[32])).size : Int) ((y2.getD ((0 : Int).toNat) (ByteArray.mk #[])).size : Int)) (w64 (((y3.getD ((0 : Int).toNat) (ByteArray.mk #[])).size : Int) + (1 : Int))) ((bsub (y2.getD ((0 : Int).toNat) (ByteArray.mk #[])) ((y1 ++ (ByteArray.mk #[32])).size : Int) ((y2.getD ((0 : Int).toNat) (ByteArray.mk #[])).size : Int)).size : Int)), ())).bind fun y5 => (grd (a0.size + (ByteArray.mk #[10]).size ≤ 9223372036854775807) ((some (((y3.getD ((0 : Int).toNat) (ByteArray.mk #[])), (bsub (bsub (y2.getD ((0 : Int).toNat) (ByteArray.mk #[])) ((y1 ++ (ByteArray.mk #[32])).size : Int) ((y2.getD ((0 : Int).toNat) (ByteArray.mk #[])).size : Int)) (w64 (((y3.getD ((0 : Int).toNat) (ByteArray.mk #[])).size : Int) + (1 : Int))) ((bsub (y2.getD ((0 : Int).toNat) (ByteArray.mk #[])) ((y1 ++ (ByteArray.mk #[32])).size : Int) ((y2.getD ((0 : Int).toNat) (ByteArray.mk #[])).size : Int)).size : Int)), ()), (decide (y5 = (a0 ++ (ByteArray.mk #[10]))))))))) ((some (((y3.getD ((0 : Int).toNat) (ByteArray.mk #[])), (bsub (bsub (y2.getD ((0 : Int).toNat) (ByteArray.mk #[])) ((y1 ++ (ByteArray.mk #[32])).size : Int) ((y2.getD ((0 : Int).toNat) (ByteArray.mk #[])).size : Int)) (w64 (((y3.getD ((0 : Int).toNat) (ByteArray.mk #[])).size : Int) + (1 : Int))) ((bsub (y2.getD ((0 : Int).toNat) (ByteArray.mk #[])) ((y1 ++ (ByteArray.mk #[32])).size : Int) ((y2.getD ((0 : Int).toNat) (ByteArray.mk #[])).size : Int)).size : Int)), ()), false)))))))))))))))))
def spec_l27Read.res (_ : ByteArray) (_ : Int) (y : LogRecord × Bool) : AV := (.tup [(.agg [(.v (.string y.1.1)), (.v (.string y.1.2.1))]), (.bl y.2)])
def spec_l27Read.out (_ : ByteArray) (_ : Int) (_ : LogRecord × Bool) : List (Option LB) := []
def spec_l27Read.S (ar : List AV) (h : List (Option LB)) (r : AV) (h1 : List (Option LB)) : Prop := ∃ a0 a1 y, spec_l27Read a0 a1 = some y ∧ leL ar [(.v (.string a0)), (.v (.int .i64 a1))] ∧ leH h [] ∧ r = spec_l27Read.res a0 a1 y ∧ h1 = spec_l27Read.out a0 a1 y
theorem spec_l27Read.call {ar : List AV} {h : List (Option LB)} {a0 : ByteArray} {a1 : Int} {y : LogRecord × Bool} (H : spec_l27Read a0 a1 = some y) (h0 : leLk ar [(.v (.string a0)), (.v (.int .i64 a1))] (leHk h [])) : spec_l27Read.S ar h (spec_l27Read.res a0 a1 y) (spec_l27Read.out a0 a1 y) := ⟨a0, a1, y, H, (args_ok h0).1, (args_ok h0).2, rfl, rfl⟩
set_option maxHeartbeats 100000000 in
set_option maxRecDepth 100000 in
theorem spec_l27Read.spec (a0 : ByteArray) (a1 : Int) (y : LogRecord × Bool) (H : spec_l27Read a0 a1 = some y) : Spec Tryd.prog 68 [(.v (.string a0)), (.v (.int .i64 a1))] [] (spec_l27Read.res a0 a1 y) (spec_l27Read.out a0 a1 y) := by
  refine spec_intro (G23_ok.at tok []) (ct := [(4, some [0, 1, 4, 6, 7, 30, 57, 58, 59, 60, 61, 62]), (8, some [0, 1, 4, 8, 9, 44, 57, 58, 59, 60, 61, 62])]) Tryd.func68 rfl (by kernel_rfl) (by kernel_rfl) rfl ?_
  repeat' first
    | ((with_reducible refine eqg ?_); exact rfl)
    | ((with_reducible refine KOb.mk ?_); kernel_rfl)
    | ((with_reducible intro h); (repeat (first | replace H := grd_k H | replace H := out_step H (by assumption))); first | replace H := cond_t h H | replace H := cond_f h H | exact absurd h (by decide) | skip)
    | ((with_reducible refine Ob.mk ?_); first | rfl | (repeat (first | exact grd_p H | (have hp := grd_p H; exact hp) | replace H := grd_k H | replace H := out_step H (by assumption) | (replace H := bind_some H; obtain ⟨_, _, H⟩ := H))))
    | (with_reducible exact True.intro)
    | constructor
    | ((conv => whnf); first
        | ((with_reducible refine Ob.mk ?_); first | rfl | (repeat (first | exact grd_p H | (have hp := grd_p H; exact hp) | replace H := grd_k H | replace H := out_step H (by assumption) | (replace H := bind_some H; obtain ⟨_, _, H⟩ := H))))
        | ((with_reducible refine CallW.mk ?_); (repeat (first | replace H := grd_k H | replace H := out_step H (by assumption))); replace H := bind_some H; obtain ⟨y, hy, H⟩ := H; first | ((with_reducible have hz : spec_l1Num _ = some y := hy); clear hz; refine Exists.intro _ (Exists.intro _ ⟨spec_l1Num.call hy ?_, rfl, rfl, ?_⟩)) | ((with_reducible have hz : spec_l1Split _ _ = some y := hy); clear hz; refine Exists.intro _ (Exists.intro _ ⟨spec_l1Split.call hy ?_, rfl, rfl, ?_⟩)) | ((with_reducible have hz : spec_l27Good _ = some y := hy); clear hz; refine Exists.intro _ (Exists.intro _ ⟨spec_l27Good.call hy ?_, rfl, rfl, ?_⟩)) | ((with_reducible have hz : spec_l27Line _ _ = some y := hy); clear hz; refine Exists.intro _ (Exists.intro _ ⟨spec_l27Line.call hy ?_, rfl, rfl, ?_⟩)))
        | ((with_reducible refine fin_mk ?_); (repeat (first | replace H := grd_k H | replace H := out_step H (by assumption))); have H := Option.some.inj H; subst H))
def G24 : Env := G23.add 68 [] spec_l27Read.S
theorem G24_ok : EnvOk Tryd.prog G24 := G23_ok.add ent_68 fun ar h r h1 ⟨a0, a1, y, hy, e1, e2, e3, e4⟩ => by
  subst e3 e4; exact (spec_l27Read.spec a0 a1 y hy).le e1 e2
attribute [local irreducible] spec_l27Read

end Go.Proofs.YtpfdhaldjeedfaaDoor
