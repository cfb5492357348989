/-
  Contracts, printed by a program.
-/
import Derived.Test.YtpfdhaldjeedfaaDoorC204
namespace Go.Proofs.YtpfdhaldjeedfaaDoor
open Go.RowKit
attribute [local irreducible] Ob loopwp Sub Spec Fin Again CallW CutC KOb iter joinx outm

attribute [local irreducible] laws_szLogRecord laws_toLogRecord spec_l1In spec_l27Plain spec_l1Stands spec_l27Good spec_l1Num spec_l1Num_f spec_l1Sum spec_l1Seal spec_l27Line spec_EncodeRecord impl_within strings_ContainsAny impl_isPlain impl_IsValidRecord strconv_Itoa strings_Contains impl_checksum impl_AppendChecksum impl_encodeRecord impl_EncodeRecord laws_FnExactEncodeRecord spec_l1Split spec_l27Read

noncomputable def spec_l27Open_loop1 (a0 : ByteArray) (v9 : Int) (v10 : (List LogRecord)) : Option (Lp (Int × (List LogRecord)) ((Int × (List LogRecord)))) :=
  (cond (decide (v9 < (a0.size : Int))) (cond (decide ((v10.length : Int) < (60 : Int))) (grd (0 ≤ v9 ∧ v9 ≤ (a0.size : Int) ∧ (a0.size : Int) ≤ (a0.size : Int)) ((spec_l1Split (bsub a0 v9 (a0.size : Int)) (10 : Int)).bind fun y11 => (grd (0 ≤ (0 : Int) ∧ (0 : Int) < (y11.length : Int)) ((spec_l27Read (y11.getD ((0 : Int).toNat) (ByteArray.mk #[])) (v10.length : Int)).bind fun y12 => (cond (decide ((y11.length : Int) < (2 : Int))) ((some (.out (v9, v10)))) (cond (!y12.2) ((some (.out (v9, v10)))) (grd ((v10.length + [(y12.1.1, y12.1.2.1, ())].length) * 32 ≤ 140737488355328 ∧ v10.length + [(y12.1.1, y12.1.2.1, ())].length ≤ 140737488355328) (grd (0 ≤ (0 : Int) ∧ (0 : Int) < (y11.length : Int)) (some (.go ((w64 ((w64 (v9 + ((y11.getD ((0 : Int).toNat) (ByteArray.mk #[])).size : Int))) + (1 : Int))), (v10 ++ [(y12.1.1, y12.1.2.1, ())])))))))))))) ((some (.out (v9, v10))))) ((some (.out (v9, v10)))))
noncomputable def spec_l27Open (a0 : ByteArray) : Option ((List LogRecord) × Int) :=
  ((iter (fun s => spec_l27Open_loop1 a0 s.1 s.2) ((0 : Int), ([] : List LogRecord))).bind (fun r13 => (some (r13.2, r13.1))))
def spec_l27Open.res (_ : ByteArray) (y : (List LogRecord) × Int) : AV := (.tup [(.own 0), (.v (.int .i64 y.2))])
def spec_l27Open.out (_ : ByteArray) (y : (List LogRecord) × Int) : List (Option LB) := [some (.arr 27 ty_LogRecord y.1)]
def spec_l27Open.S (ar : List AV) (h : List (Option LB)) (r : AV) (h1 : List (Option LB)) : Prop := ∃ a0 y, spec_l27Open a0 = some y ∧ leL ar [(.v (.string a0))] ∧ leH h [] ∧ r = spec_l27Open.res a0 y ∧ h1 = spec_l27Open.out a0 y
theorem spec_l27Open.call {ar : List AV} {h : List (Option LB)} {a0 : ByteArray} {y : (List LogRecord) × Int} (H : spec_l27Open a0 = some y) (h0 : leLk ar [(.v (.string a0))] (leHk h [])) : spec_l27Open.S ar h (spec_l27Open.res a0 y) (spec_l27Open.out a0 y) := ⟨a0, y, H, (args_ok h0).1, (args_ok h0).2, rfl, rfl⟩
set_option maxHeartbeats 100000000 in
set_option maxRecDepth 100000 in
theorem spec_l27Open.spec (a0 : ByteArray) (y : (List LogRecord) × Int) (H : spec_l27Open a0 = some y) : Spec Tryd.prog 47 [(.v (.string a0))] [] (spec_l27Open.res a0 y) (spec_l27Open.out a0 y) := by
  refine spec_intro (G24_ok.at tok []) (ct := [(5, some [0, 4, 5, 6, 15, 16, 17, 36, 37]), (7, some [0, 4, 5, 6, 7, 15, 16, 17, 36, 37])]) Tryd.func47 rfl (by kernel_rfl) (by kernel_rfl) rfl ?_
  repeat' first
    | ((with_reducible refine eqg ?_); exact rfl)
    | ((with_reducible refine KOb.mk ?_); kernel_rfl)
    | ((with_reducible intro h); (repeat (first | replace H := grd_k H | replace H := out_step H (by assumption))); first | replace H := cond_t h H | replace H := cond_f h H | exact absurd h (by decide) | skip)
    | ((with_reducible refine Ob.mk ?_); first | rfl | (repeat (first | exact grd_p H | (have hp := grd_p H; exact hp) | replace H := grd_k H | replace H := out_step H (by assumption) | (replace H := bind_some H; obtain ⟨_, _, H⟩ := H))))
    | (with_reducible exact True.intro)
    | constructor
    | ((conv => whnf); first
        | ((with_reducible refine Ob.mk ?_); first | rfl | (repeat (first | exact grd_p H | (have hp := grd_p H; exact hp) | replace H := grd_k H | replace H := out_step H (by assumption) | (replace H := bind_some H; obtain ⟨_, _, H⟩ := H))))
        | ((with_reducible refine CallW.mk ?_); (repeat (first | replace H := grd_k H | replace H := out_step H (by assumption))); replace H := bind_some H; obtain ⟨y, hy, H⟩ := H; first | ((with_reducible have hz : spec_l1Split _ _ = some y := hy); clear hz; refine Exists.intro _ (Exists.intro _ ⟨spec_l1Split.call hy ?_, rfl, rfl, ?_⟩)) | ((with_reducible have hz : spec_l27Read _ _ = some y := hy); clear hz; refine Exists.intro _ (Exists.intro _ ⟨spec_l27Read.call hy ?_, rfl, rfl, ?_⟩)))
        | ((repeat (first | replace H := grd_k H | replace H := out_step H (by assumption))); refine loop_iter (G24_ok.at tok []) (ct := [(5, some [0, 4, 5, 6, 15, 16, 17, 36, 37]), (7, some [0, 4, 5, 6, 7, 15, 16, 17, 36, 37])]) (F := (fun s1 : Int × (List LogRecord) => ⟨sl [(0, (.v (.string a0))), (4, (.own 0)), (5, (.v (.int .i64 s1.1)))], [some (.arr 27 ty_LogRecord s1.2)]⟩)) (step := (fun s : Int × (List LogRecord) => spec_l27Open_loop1 _ s.1 s.2)) _ H (by kernel_rfl) (sub_auto ?_) ?_; rotate_left; (intro s1 r v hr H); rotate_right)
        | ((repeat (first | replace H := grd_k H | replace H := out_step H (by assumption))); refine again_step H (by assumption) (sub_auto ?_))
        | ((with_reducible refine fin_mk ?_); (repeat (first | replace H := grd_k H | replace H := out_step H (by assumption))); have H := Option.some.inj H; subst H))
def G25 : Env := G24.add 47 [] spec_l27Open.S
theorem G25_ok : EnvOk Tryd.prog G25 := G24_ok.add ent_47 fun ar h r h1 ⟨a0, y, hy, e1, e2, e3, e4⟩ => by
  subst e3 e4; exact (spec_l27Open.spec a0 y hy).le e1 e2
attribute [local irreducible] spec_l27Open

noncomputable def spec_RecoverLog (a0 : ByteArray) : Option (Log × Int × Bool) :=
  (cond (decide ((30000 : Int) < (a0.size : Int))) ((some (((ByteArray.mk #[]), (ByteArray.mk #[]), (0 : Int), ()), (0 : Int), false))) ((spec_l27Open a0).bind fun y1 => (grd (0 ≤ (0 : Int) ∧ (0 : Int) ≤ y1.2 ∧ y1.2 ≤ (a0.size : Int)) ((some (((bsub a0 (0 : Int) y1.2), (ByteArray.mk #[]), (y1.1.length : Int), ()), y1.2, true))))))
def spec_RecoverLog.res (_ : ByteArray) (y : Log × Int × Bool) : AV := (.tup [(.agg [(.v (.string y.1.1)), (.v (.string y.1.2.1)), (.v (.int .i64 y.1.2.2.1))]), (.v (.int .i64 y.2.1)), (.bl y.2.2)])
def spec_RecoverLog.out (_ : ByteArray) (_ : Log × Int × Bool) : List (Option LB) := []
def spec_RecoverLog.S (ar : List AV) (h : List (Option LB)) (r : AV) (h1 : List (Option LB)) : Prop := ∃ a0 y, spec_RecoverLog a0 = some y ∧ leL ar [(.v (.string a0))] ∧ leH h [] ∧ r = spec_RecoverLog.res a0 y ∧ h1 = spec_RecoverLog.out a0 y
theorem spec_RecoverLog.call {ar : List AV} {h : List (Option LB)} {a0 : ByteArray} {y : Log × Int × Bool} (H : spec_RecoverLog a0 = some y) (h0 : leLk ar [(.v (.string a0))] (leHk h [])) : spec_RecoverLog.S ar h (spec_RecoverLog.res a0 y) (spec_RecoverLog.out a0 y) := ⟨a0, y, H, (args_ok h0).1, (args_ok h0).2, rfl, rfl⟩
set_option maxHeartbeats 100000000 in
set_option maxRecDepth 100000 in
theorem spec_RecoverLog.spec (a0 : ByteArray) (y : Log × Int × Bool) (H : spec_RecoverLog a0 = some y) : Spec Tryd.prog 17 [(.v (.string a0))] [] (spec_RecoverLog.res a0 y) (spec_RecoverLog.out a0 y) := by
  refine spec_intro (G25_ok.at tok []) (ct := [(4, some [0, 2, 5, 6])]) Tryd.func17 rfl (by kernel_rfl) (by kernel_rfl) rfl ?_
  repeat' first
    | ((with_reducible refine eqg ?_); exact rfl)
    | ((with_reducible refine KOb.mk ?_); kernel_rfl)
    | ((with_reducible intro h); (repeat (first | replace H := grd_k H | replace H := out_step H (by assumption))); first | replace H := cond_t h H | replace H := cond_f h H | exact absurd h (by decide) | skip)
    | ((with_reducible refine Ob.mk ?_); first | rfl | (repeat (first | exact grd_p H | (have hp := grd_p H; exact hp) | replace H := grd_k H | replace H := out_step H (by assumption) | (replace H := bind_some H; obtain ⟨_, _, H⟩ := H))))
    | (with_reducible exact True.intro)
    | constructor
    | ((conv => whnf); first
        | ((with_reducible refine Ob.mk ?_); first | rfl | (repeat (first | exact grd_p H | (have hp := grd_p H; exact hp) | replace H := grd_k H | replace H := out_step H (by assumption) | (replace H := bind_some H; obtain ⟨_, _, H⟩ := H))))
        | ((with_reducible refine CallW.mk ?_); (repeat (first | replace H := grd_k H | replace H := out_step H (by assumption))); replace H := bind_some H; obtain ⟨y, hy, H⟩ := H; first | ((with_reducible have hz : spec_l27Open _ = some y := hy); clear hz; refine Exists.intro _ (Exists.intro _ ⟨spec_l27Open.call hy ?_, rfl, rfl, ?_⟩)))
        | ((with_reducible refine fin_mk ?_); (repeat (first | replace H := grd_k H | replace H := out_step H (by assumption))); have H := Option.some.inj H; subst H))
def G26 : Env := G25.add 17 [] spec_RecoverLog.S
theorem G26_ok : EnvOk Tryd.prog G26 := G25_ok.add ent_17 fun ar h r h1 ⟨a0, y, hy, e1, e2, e3, e4⟩ => by
  subst e3 e4; exact (spec_RecoverLog.spec a0 y hy).le e1 e2
attribute [local irreducible] spec_RecoverLog

noncomputable def strings_Cut (a0 : ByteArray) (a1 : ByteArray) : Option (ByteArray × ByteArray × Bool) :=
  (grd (a0.size < 4294967281) ((some ((cutA a0 a1), (cutB a0 a1), (cutF a0 a1)))))
def strings_Cut.res (_ : ByteArray) (_ : ByteArray) (y : ByteArray × ByteArray × Bool) : AV := (.tup [(.v (.string y.1)), (.v (.string y.2.1)), (.bl y.2.2)])
def strings_Cut.out (_ : ByteArray) (_ : ByteArray) (_ : ByteArray × ByteArray × Bool) : List (Option LB) := []
def strings_Cut.S (ar : List AV) (h : List (Option LB)) (r : AV) (h1 : List (Option LB)) : Prop := ∃ a0 a1 y, strings_Cut a0 a1 = some y ∧ leL ar [(.v (.string a0)), (.v (.string a1))] ∧ leH h [] ∧ r = strings_Cut.res a0 a1 y ∧ h1 = strings_Cut.out a0 a1 y
theorem strings_Cut.call {ar : List AV} {h : List (Option LB)} {a0 : ByteArray} {a1 : ByteArray} {y : ByteArray × ByteArray × Bool} (H : strings_Cut a0 a1 = some y) (h0 : leLk ar [(.v (.string a0)), (.v (.string a1))] (leHk h [])) : strings_Cut.S ar h (strings_Cut.res a0 a1 y) (strings_Cut.out a0 a1 y) := ⟨a0, a1, y, H, (args_ok h0).1, (args_ok h0).2, rfl, rfl⟩
theorem strings_Cut.spec (a0 : ByteArray) (a1 : ByteArray) (y : ByteArray × ByteArray × Bool) (H : strings_Cut a0 a1 = some y) : Spec Tryd.prog 69 [(.v (.string a0)), (.v (.string a1))] [] (strings_Cut.res a0 a1 y) (strings_Cut.out a0 a1 y) := by
  have hg := grd_p H
  have H := Option.some.inj (grd_k H)
  subst H
  exact ext_strings_Cut a0 a1 hg
def G27 : Env := G26.add 69 [] strings_Cut.S
theorem G27_ok : EnvOk Tryd.prog G27 := G26_ok.add ent_69 fun ar h r h1 ⟨a0, a1, y, hy, e1, e2, e3, e4⟩ => by
  subst e3 e4; exact (strings_Cut.spec a0 a1 y hy).le e1 e2
attribute [local irreducible] strings_Cut

noncomputable def impl_VerifyChecksum (a0 : ByteArray) : Option (ByteArray × Bool) :=
  ((strings_Cut a0 (ByteArray.mk #[35])).bind fun y1 => ((impl_AppendChecksum y1.1).bind fun y2 => (cond (!y2.2) ((some ((ByteArray.mk #[]), false))) (cond (!decide (y2.1 = a0)) ((some ((ByteArray.mk #[]), false))) ((some (y1.1, true)))))))
def impl_VerifyChecksum.res (_ : ByteArray) (y : ByteArray × Bool) : AV := (.tup [(.v (.string y.1)), (.bl y.2)])
def impl_VerifyChecksum.out (_ : ByteArray) (_ : ByteArray × Bool) : List (Option LB) := []
def impl_VerifyChecksum.S (ar : List AV) (h : List (Option LB)) (r : AV) (h1 : List (Option LB)) : Prop := ∃ a0 y, impl_VerifyChecksum a0 = some y ∧ leL ar [(.v (.string a0))] ∧ leH h [] ∧ r = impl_VerifyChecksum.res a0 y ∧ h1 = impl_VerifyChecksum.out a0 y
theorem impl_VerifyChecksum.call {ar : List AV} {h : List (Option LB)} {a0 : ByteArray} {y : ByteArray × Bool} (H : impl_VerifyChecksum a0 = some y) (h0 : leLk ar [(.v (.string a0))] (leHk h [])) : impl_VerifyChecksum.S ar h (impl_VerifyChecksum.res a0 y) (impl_VerifyChecksum.out a0 y) := ⟨a0, y, H, (args_ok h0).1, (args_ok h0).2, rfl, rfl⟩
set_option maxHeartbeats 100000000 in
set_option maxRecDepth 100000 in
theorem impl_VerifyChecksum.spec (a0 : ByteArray) (y : ByteArray × Bool) (H : impl_VerifyChecksum a0 = some y) : Spec Tryd.prog 79 [(.v (.string a0))] [] (impl_VerifyChecksum.res a0 y) (impl_VerifyChecksum.out a0 y) := by
  refine spec_intro (G27_ok.at tok []) (ct := [(3, some [0, 4, 7, 8, 23, 24, 25])]) Tryd.func79 rfl (by kernel_rfl) (by kernel_rfl) rfl ?_
  repeat' first
    | ((with_reducible refine eqg ?_); exact rfl)
    | ((with_reducible refine KOb.mk ?_); kernel_rfl)
    | ((with_reducible intro h); (repeat (first | replace H := grd_k H | replace H := out_step H (by assumption))); first | replace H := cond_t h H | replace H := cond_f h H | exact absurd h (by decide) | skip)
    | ((with_reducible refine Ob.mk ?_); first | rfl | (repeat (first | exact grd_p H | (have hp := grd_p H; exact hp) | replace H := grd_k H | replace H := out_step H (by assumption) | (replace H := bind_some H; obtain ⟨_, _, H⟩ := H))))
    | (with_reducible exact True.intro)
    | constructor
    | ((conv => whnf); first
        | ((with_reducible refine Ob.mk ?_); first | rfl | (repeat (first | exact grd_p H | (have hp := grd_p H; exact hp) | replace H := grd_k H | replace H := out_step H (by assumption) | (replace H := bind_some H; obtain ⟨_, _, H⟩ := H))))
        | ((with_reducible refine CallW.mk ?_); (repeat (first | replace H := grd_k H | replace H := out_step H (by assumption))); replace H := bind_some H; obtain ⟨y, hy, H⟩ := H; first | ((with_reducible have hz : strings_Cut _ _ = some y := hy); clear hz; refine Exists.intro _ (Exists.intro _ ⟨strings_Cut.call hy ?_, rfl, rfl, ?_⟩)) | ((with_reducible have hz : impl_AppendChecksum _ = some y := hy); clear hz; refine Exists.intro _ (Exists.intro _ ⟨impl_AppendChecksum.call hy ?_, rfl, rfl, ?_⟩)))
        | ((with_reducible refine fin_mk ?_); (repeat (first | replace H := grd_k H | replace H := out_step H (by assumption))); have H := Option.some.inj H; subst H))
def G28 : Env := G27.add 79 [] impl_VerifyChecksum.S
theorem G28_ok : EnvOk Tryd.prog G28 := G27_ok.add ent_79 fun ar h r h1 ⟨a0, y, hy, e1, e2, e3, e4⟩ => by
  subst e3 e4; exact (impl_VerifyChecksum.spec a0 y hy).le e1 e2
attribute [local irreducible] impl_VerifyChecksum

noncomputable def internal_stringslite_HasPrefix (a0 : ByteArray) (a1 : ByteArray) : Option (Bool) :=
  (cond (decide ((a1.size : Int) ≤ (a0.size : Int))) (grd (0 ≤ (0 : Int) ∧ (0 : Int) ≤ (a1.size : Int) ∧ (a1.size : Int) ≤ (a0.size : Int)) ((some (decide ((bsub a0 (0 : Int) (a1.size : Int)) = a1))))) ((some false)))
def internal_stringslite_HasPrefix.res (_ : ByteArray) (_ : ByteArray) (y : Bool) : AV := (.bl y)
def internal_stringslite_HasPrefix.out (_ : ByteArray) (_ : ByteArray) (_ : Bool) : List (Option LB) := []
def internal_stringslite_HasPrefix.S (ar : List AV) (h : List (Option LB)) (r : AV) (h1 : List (Option LB)) : Prop := ∃ a0 a1 y, internal_stringslite_HasPrefix a0 a1 = some y ∧ leL ar [(.v (.string a0)), (.v (.string a1))] ∧ leH h [] ∧ r = internal_stringslite_HasPrefix.res a0 a1 y ∧ h1 = internal_stringslite_HasPrefix.out a0 a1 y
theorem internal_stringslite_HasPrefix.call {ar : List AV} {h : List (Option LB)} {a0 : ByteArray} {a1 : ByteArray} {y : Bool} (H : internal_stringslite_HasPrefix a0 a1 = some y) (h0 : leLk ar [(.v (.string a0)), (.v (.string a1))] (leHk h [])) : internal_stringslite_HasPrefix.S ar h (internal_stringslite_HasPrefix.res a0 a1 y) (internal_stringslite_HasPrefix.out a0 a1 y) := ⟨a0, a1, y, H, (args_ok h0).1, (args_ok h0).2, rfl, rfl⟩
set_option maxHeartbeats 100000000 in
set_option maxRecDepth 100000 in
theorem internal_stringslite_HasPrefix.spec (a0 : ByteArray) (a1 : ByteArray) (y : Bool) (H : internal_stringslite_HasPrefix a0 a1 = some y) : Spec Tryd.prog 98 [(.v (.string a0)), (.v (.string a1))] [] (internal_stringslite_HasPrefix.res a0 a1 y) (internal_stringslite_HasPrefix.out a0 a1 y) := by
  refine spec_intro (G28_ok.at tok []) (ct := []) Tryd.func98 rfl (by kernel_rfl) (by kernel_rfl) rfl ?_
  repeat' first
    | ((with_reducible refine eqg ?_); exact rfl)
    | ((with_reducible refine KOb.mk ?_); kernel_rfl)
    | ((with_reducible intro h); (repeat (first | replace H := grd_k H | replace H := out_step H (by assumption))); first | replace H := cond_t h H | replace H := cond_f h H | exact absurd h (by decide) | skip)
    | ((with_reducible refine Ob.mk ?_); first | rfl | (repeat (first | exact grd_p H | (have hp := grd_p H; exact hp) | replace H := grd_k H | replace H := out_step H (by assumption) | (replace H := bind_some H; obtain ⟨_, _, H⟩ := H))))
    | (with_reducible exact True.intro)
    | constructor
    | ((conv => whnf); first
        | ((with_reducible refine Ob.mk ?_); first | rfl | (repeat (first | exact grd_p H | (have hp := grd_p H; exact hp) | replace H := grd_k H | replace H := out_step H (by assumption) | (replace H := bind_some H; obtain ⟨_, _, H⟩ := H))))
        | ((with_reducible refine fin_mk ?_); (repeat (first | replace H := grd_k H | replace H := out_step H (by assumption))); have H := Option.some.inj H; subst H))
def G29 : Env := G28.add 98 [] internal_stringslite_HasPrefix.S
theorem G29_ok : EnvOk Tryd.prog G29 := G28_ok.add ent_98 fun ar h r h1 ⟨a0, a1, y, hy, e1, e2, e3, e4⟩ => by
  subst e3 e4; exact (internal_stringslite_HasPrefix.spec a0 a1 y hy).le e1 e2
attribute [local irreducible] internal_stringslite_HasPrefix

noncomputable def internal_stringslite_CutPrefix (a0 : ByteArray) (a1 : ByteArray) : Option (ByteArray × Bool) :=
  ((internal_stringslite_HasPrefix a0 a1).bind fun y1 => (cond (!y1) ((some (a0, false))) (grd (0 ≤ (a1.size : Int) ∧ (a1.size : Int) ≤ (a0.size : Int) ∧ (a0.size : Int) ≤ (a0.size : Int)) ((some ((bsub a0 (a1.size : Int) (a0.size : Int)), true))))))
def internal_stringslite_CutPrefix.res (_ : ByteArray) (_ : ByteArray) (y : ByteArray × Bool) : AV := (.tup [(.v (.string y.1)), (.bl y.2)])
def internal_stringslite_CutPrefix.out (_ : ByteArray) (_ : ByteArray) (_ : ByteArray × Bool) : List (Option LB) := []
def internal_stringslite_CutPrefix.S (ar : List AV) (h : List (Option LB)) (r : AV) (h1 : List (Option LB)) : Prop := ∃ a0 a1 y, internal_stringslite_CutPrefix a0 a1 = some y ∧ leL ar [(.v (.string a0)), (.v (.string a1))] ∧ leH h [] ∧ r = internal_stringslite_CutPrefix.res a0 a1 y ∧ h1 = internal_stringslite_CutPrefix.out a0 a1 y
theorem internal_stringslite_CutPrefix.call {ar : List AV} {h : List (Option LB)} {a0 : ByteArray} {a1 : ByteArray} {y : ByteArray × Bool} (H : internal_stringslite_CutPrefix a0 a1 = some y) (h0 : leLk ar [(.v (.string a0)), (.v (.string a1))] (leHk h [])) : internal_stringslite_CutPrefix.S ar h (internal_stringslite_CutPrefix.res a0 a1 y) (internal_stringslite_CutPrefix.out a0 a1 y) := ⟨a0, a1, y, H, (args_ok h0).1, (args_ok h0).2, rfl, rfl⟩
set_option maxHeartbeats 100000000 in
set_option maxRecDepth 100000 in
theorem internal_stringslite_CutPrefix.spec (a0 : ByteArray) (a1 : ByteArray) (y : ByteArray × Bool) (H : internal_stringslite_CutPrefix a0 a1 = some y) : Spec Tryd.prog 85 [(.v (.string a0)), (.v (.string a1))] [] (internal_stringslite_CutPrefix.res a0 a1 y) (internal_stringslite_CutPrefix.out a0 a1 y) := by
  refine spec_intro (G29_ok.at tok []) (ct := []) Tryd.func85 rfl (by kernel_rfl) (by kernel_rfl) rfl ?_
  repeat' first
    | ((with_reducible refine eqg ?_); exact rfl)
    | ((with_reducible refine KOb.mk ?_); kernel_rfl)
    | ((with_reducible intro h); (repeat (first | replace H := grd_k H | replace H := out_step H (by assumption))); first | replace H := cond_t h H | replace H := cond_f h H | exact absurd h (by decide) | skip)
    | ((with_reducible refine Ob.mk ?_); first | rfl | (repeat (first | exact grd_p H | (have hp := grd_p H; exact hp) | replace H := grd_k H | replace H := out_step H (by assumption) | (replace H := bind_some H; obtain ⟨_, _, H⟩ := H))))
    | (with_reducible exact True.intro)
    | constructor
    | ((conv => whnf); first
        | ((with_reducible refine Ob.mk ?_); first | rfl | (repeat (first | exact grd_p H | (have hp := grd_p H; exact hp) | replace H := grd_k H | replace H := out_step H (by assumption) | (replace H := bind_some H; obtain ⟨_, _, H⟩ := H))))
        | ((with_reducible refine CallW.mk ?_); (repeat (first | replace H := grd_k H | replace H := out_step H (by assumption))); replace H := bind_some H; obtain ⟨y, hy, H⟩ := H; first | ((with_reducible have hz : internal_stringslite_HasPrefix _ _ = some y := hy); clear hz; refine Exists.intro _ (Exists.intro _ ⟨internal_stringslite_HasPrefix.call hy ?_, rfl, rfl, ?_⟩)))
        | ((with_reducible refine fin_mk ?_); (repeat (first | replace H := grd_k H | replace H := out_step H (by assumption))); have H := Option.some.inj H; subst H))
def G30 : Env := G29.add 85 [] internal_stringslite_CutPrefix.S
theorem G30_ok : EnvOk Tryd.prog G30 := G29_ok.add ent_85 fun ar h r h1 ⟨a0, a1, y, hy, e1, e2, e3, e4⟩ => by
  subst e3 e4; exact (internal_stringslite_CutPrefix.spec a0 a1 y hy).le e1 e2
attribute [local irreducible] internal_stringslite_CutPrefix

end Go.Proofs.YtpfdhaldjeedfaaDoor
