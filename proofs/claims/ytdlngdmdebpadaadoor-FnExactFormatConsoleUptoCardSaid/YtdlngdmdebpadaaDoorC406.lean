/-
  Contracts, printed by a program.
-/
import Derived.Test.YtdlngdmdebpadaaDoorC405
namespace Go.Proofs.YtdlngdmdebpadaaDoor
open Go.RowKit
attribute [local irreducible] Ob loopwp Sub Spec Fin Again CallW CutC KOb iter joinx outm

attribute [local irreducible] laws_szSlotS laws_szRopeway laws_szLog laws_szConsole laws_toSlot laws_toSlotS laws_toRopeway laws_toLog laws_toConsole spec_l1In spec_l25Slot spec_l25Good spec_l1Split spec_l1Num spec_l1Num_f spec_l27Plain spec_l1Stands spec_l27Good spec_l1Sum spec_l1Seal spec_l27Line spec_l27Read spec_l27Open spec_l27Log spec_l28Good spec_FormatConsole impl_within impl_Ropeway_isStation impl_IsRopeway_1_i1 slices_IndexFunc___impl_Slot_impl_Slot__i1 slices_ContainsFunc___impl_Slot_impl_Slot__i1 impl_IsRopeway strings_Cut strings_Contains impl_checksum strconv_Itoa

noncomputable def impl_AppendChecksum (a0 : ByteArray) : Option (ByteArray × Bool) :=
  (cond (decide ((4000 : Int) < (a0.size : Int))) ((some ((ByteArray.mk #[]), false))) ((strings_Contains a0 (ByteArray.mk #[35])).bind fun y1 => (cond y1 ((some ((ByteArray.mk #[]), false))) (grd (a0.size + (ByteArray.mk #[35]).size ≤ 9223372036854775807) ((impl_checksum a0).bind fun y2 => ((strconv_Itoa y2).bind fun y3 => (grd ((a0 ++ (ByteArray.mk #[35])).size + y3.size ≤ 9223372036854775807) (cond (decide ((4000 : Int) < (((a0 ++ (ByteArray.mk #[35])) ++ y3).size : Int))) ((some ((ByteArray.mk #[]), false))) ((some (((a0 ++ (ByteArray.mk #[35])) ++ y3), true)))))))))))
def impl_AppendChecksum.res (_ : ByteArray) (y : ByteArray × Bool) : AV := (.tup [(.v (.string y.1)), (.bl y.2)])
def impl_AppendChecksum.out (_ : ByteArray) (_ : ByteArray × Bool) : List (Option LB) := []
def impl_AppendChecksum.S (ar : List AV) (h : List (Option LB)) (r : AV) (h1 : List (Option LB)) : Prop := ∃ a0 y, impl_AppendChecksum a0 = some y ∧ leL ar [(.v (.string a0))] ∧ leH h [] ∧ r = impl_AppendChecksum.res a0 y ∧ h1 = impl_AppendChecksum.out a0 y
theorem impl_AppendChecksum.call {ar : List AV} {h : List (Option LB)} {a0 : ByteArray} {y : ByteArray × Bool} (H : impl_AppendChecksum a0 = some y) (h0 : leLk ar [(.v (.string a0))] (leHk h [])) : impl_AppendChecksum.S ar h (impl_AppendChecksum.res a0 y) (impl_AppendChecksum.out a0 y) := ⟨a0, y, H, (args_ok h0).1, (args_ok h0).2, rfl, rfl⟩
set_option maxHeartbeats 100000000 in
set_option maxRecDepth 100000 in
theorem impl_AppendChecksum.spec (a0 : ByteArray) (y : ByteArray × Bool) (H : impl_AppendChecksum a0 = some y) : Spec Tryd.prog 73 [(.v (.string a0))] [] (impl_AppendChecksum.res a0 y) (impl_AppendChecksum.out a0 y) := by
  refine spec_intro (G35_ok.at tok []) (ct := [(4, some [4])]) Tryd.func73 rfl (by kernel_rfl) (by kernel_rfl) rfl ?_
  repeat' first
    | ((with_reducible refine eqg ?_); exact rfl)
    | ((with_reducible refine KOb.mk ?_); kernel_rfl)
    | ((with_reducible intro h); (repeat (first | replace H := grd_k H | replace H := out_step H (by assumption))); first | replace H := cond_t h H | replace H := cond_f h H | exact absurd h (by decide) | skip)
    | ((with_reducible refine Ob.mk ?_); first | (with_reducible rfl) | (first | ((repeat (first | (with_reducible exact grd_p H) | (replace H := grd_k H) | (replace H := out_step H (by assumption)))); done) | rfl | ((repeat (first | exact grd_p H | replace H := grd_k H | replace H := out_step H (by assumption))); done) | ((repeat (first | exact grd_p H | (have hp := grd_p H; exact hp) | replace H := grd_k H | replace H := out_step H (by assumption) | (replace H := bind_some H; obtain ⟨_, _, H⟩ := H))); done) | (repeat (first | exact grd_p H | replace H := grd_k H | replace H := out_step H (by assumption)))))
    | (with_reducible exact True.intro)
    | constructor
    | ((conv => whnf); first
        | ((with_reducible refine Ob.mk ?_); first | (with_reducible rfl) | (first | ((repeat (first | (with_reducible exact grd_p H) | (replace H := grd_k H) | (replace H := out_step H (by assumption)))); done) | rfl | ((repeat (first | exact grd_p H | replace H := grd_k H | replace H := out_step H (by assumption))); done) | ((repeat (first | exact grd_p H | (have hp := grd_p H; exact hp) | replace H := grd_k H | replace H := out_step H (by assumption) | (replace H := bind_some H; obtain ⟨_, _, H⟩ := H))); done) | (repeat (first | exact grd_p H | replace H := grd_k H | replace H := out_step H (by assumption)))))
        | ((with_reducible refine CallW.mk ?_); (repeat (first | replace H := grd_k H | replace H := out_step H (by assumption))); replace H := bind_some H; obtain ⟨y, hy, H⟩ := H; first | ((with_reducible have hz : strings_Contains _ _ = some y := hy); clear hz; refine Exists.intro _ (Exists.intro _ ⟨strings_Contains.call hy ?_, rfl, rfl, ?_⟩)) | ((with_reducible have hz : impl_checksum _ = some y := hy); clear hz; refine Exists.intro _ (Exists.intro _ ⟨impl_checksum.call hy ?_, rfl, rfl, ?_⟩)) | ((with_reducible have hz : strconv_Itoa _ = some y := hy); clear hz; refine Exists.intro _ (Exists.intro _ ⟨strconv_Itoa.call hy ?_, rfl, rfl, ?_⟩)))
        | ((with_reducible refine fin_mk ?_); (repeat (first | replace H := grd_k H | replace H := out_step H (by assumption))); have H := Option.some.inj H; subst H))
def G36 : Env := G35.add 73 [] impl_AppendChecksum.S
theorem G36_ok : EnvOk Tryd.prog G36 := G35_ok.add ent_73 fun ar h r h1 ⟨a0, y, hy, e1, e2, e3, e4⟩ => by
  subst e3 e4; exact (impl_AppendChecksum.spec a0 y hy).le e1 e2
attribute [local irreducible] impl_AppendChecksum

noncomputable def impl_VerifyChecksum (a0 : ByteArray) : Option (ByteArray × Bool) :=
  ((strings_Cut a0 (ByteArray.mk #[35])).bind fun y1 => ((impl_AppendChecksum y1.1).bind fun y2 => (cond (!y2.2) ((some ((ByteArray.mk #[]), false))) (cond (!decide (y2.1 = a0)) ((some ((ByteArray.mk #[]), false))) ((some (y1.1, true)))))))
def impl_VerifyChecksum.res (_ : ByteArray) (y : ByteArray × Bool) : AV := (.tup [(.v (.string y.1)), (.bl y.2)])
def impl_VerifyChecksum.out (_ : ByteArray) (_ : ByteArray × Bool) : List (Option LB) := []
def impl_VerifyChecksum.S (ar : List AV) (h : List (Option LB)) (r : AV) (h1 : List (Option LB)) : Prop := ∃ a0 y, impl_VerifyChecksum a0 = some y ∧ leL ar [(.v (.string a0))] ∧ leH h [] ∧ r = impl_VerifyChecksum.res a0 y ∧ h1 = impl_VerifyChecksum.out a0 y
theorem impl_VerifyChecksum.call {ar : List AV} {h : List (Option LB)} {a0 : ByteArray} {y : ByteArray × Bool} (H : impl_VerifyChecksum a0 = some y) (h0 : leLk ar [(.v (.string a0))] (leHk h [])) : impl_VerifyChecksum.S ar h (impl_VerifyChecksum.res a0 y) (impl_VerifyChecksum.out a0 y) := ⟨a0, y, H, (args_ok h0).1, (args_ok h0).2, rfl, rfl⟩
set_option maxHeartbeats 100000000 in
set_option maxRecDepth 100000 in
theorem impl_VerifyChecksum.spec (a0 : ByteArray) (y : ByteArray × Bool) (H : impl_VerifyChecksum a0 = some y) : Spec Tryd.prog 61 [(.v (.string a0))] [] (impl_VerifyChecksum.res a0 y) (impl_VerifyChecksum.out a0 y) := by
  refine spec_intro (G36_ok.at tok []) (ct := [(3, some [0, 4, 7, 8, 23, 24, 25])]) Tryd.func61 rfl (by kernel_rfl) (by kernel_rfl) rfl ?_
  repeat' first
    | ((with_reducible refine eqg ?_); exact rfl)
    | ((with_reducible refine KOb.mk ?_); kernel_rfl)
    | ((with_reducible intro h); (repeat (first | replace H := grd_k H | replace H := out_step H (by assumption))); first | replace H := cond_t h H | replace H := cond_f h H | exact absurd h (by decide) | skip)
    | ((with_reducible refine Ob.mk ?_); first | (with_reducible rfl) | (first | ((repeat (first | (with_reducible exact grd_p H) | (replace H := grd_k H) | (replace H := out_step H (by assumption)))); done) | rfl | ((repeat (first | exact grd_p H | replace H := grd_k H | replace H := out_step H (by assumption))); done) | ((repeat (first | exact grd_p H | (have hp := grd_p H; exact hp) | replace H := grd_k H | replace H := out_step H (by assumption) | (replace H := bind_some H; obtain ⟨_, _, H⟩ := H))); done) | (repeat (first | exact grd_p H | replace H := grd_k H | replace H := out_step H (by assumption)))))
    | (with_reducible exact True.intro)
    | constructor
    | ((conv => whnf); first
        | ((with_reducible refine Ob.mk ?_); first | (with_reducible rfl) | (first | ((repeat (first | (with_reducible exact grd_p H) | (replace H := grd_k H) | (replace H := out_step H (by assumption)))); done) | rfl | ((repeat (first | exact grd_p H | replace H := grd_k H | replace H := out_step H (by assumption))); done) | ((repeat (first | exact grd_p H | (have hp := grd_p H; exact hp) | replace H := grd_k H | replace H := out_step H (by assumption) | (replace H := bind_some H; obtain ⟨_, _, H⟩ := H))); done) | (repeat (first | exact grd_p H | replace H := grd_k H | replace H := out_step H (by assumption)))))
        | ((with_reducible refine CallW.mk ?_); (repeat (first | replace H := grd_k H | replace H := out_step H (by assumption))); replace H := bind_some H; obtain ⟨y, hy, H⟩ := H; first | ((with_reducible have hz : strings_Cut _ _ = some y := hy); clear hz; refine Exists.intro _ (Exists.intro _ ⟨strings_Cut.call hy ?_, rfl, rfl, ?_⟩)) | ((with_reducible have hz : impl_AppendChecksum _ = some y := hy); clear hz; refine Exists.intro _ (Exists.intro _ ⟨impl_AppendChecksum.call hy ?_, rfl, rfl, ?_⟩)))
        | ((with_reducible refine fin_mk ?_); (repeat (first | replace H := grd_k H | replace H := out_step H (by assumption))); have H := Option.some.inj H; subst H))
def G37 : Env := G36.add 61 [] impl_VerifyChecksum.S
theorem G37_ok : EnvOk Tryd.prog G37 := G36_ok.add ent_61 fun ar h r h1 ⟨a0, y, hy, e1, e2, e3, e4⟩ => by
  subst e3 e4; exact (impl_VerifyChecksum.spec a0 y hy).le e1 e2
attribute [local irreducible] impl_VerifyChecksum

noncomputable def internal_stringslite_HasPrefix (a0 : ByteArray) (a1 : ByteArray) : Option (Bool) :=
  (cond (decide ((a1.size : Int) ≤ (a0.size : Int))) (grd (0 ≤ (0 : Int) ∧ (0 : Int) ≤ (a1.size : Int) ∧ (a1.size : Int) ≤ (a0.size : Int)) ((some (decide ((bsub a0 (0 : Int) (a1.size : Int)) = a1))))) ((some false)))
def internal_stringslite_HasPrefix.res (_ : ByteArray) (_ : ByteArray) (y : Bool) : AV := (.bl y)
def internal_stringslite_HasPrefix.out (_ : ByteArray) (_ : ByteArray) (_ : Bool) : List (Option LB) := []
def internal_stringslite_HasPrefix.S (ar : List AV) (h : List (Option LB)) (r : AV) (h1 : List (Option LB)) : Prop := ∃ a0 a1 y, internal_stringslite_HasPrefix a0 a1 = some y ∧ leL ar [(.v (.string a0)), (.v (.string a1))] ∧ leH h [] ∧ r = internal_stringslite_HasPrefix.res a0 a1 y ∧ h1 = internal_stringslite_HasPrefix.out a0 a1 y
theorem internal_stringslite_HasPrefix.call {ar : List AV} {h : List (Option LB)} {a0 : ByteArray} {a1 : ByteArray} {y : Bool} (H : internal_stringslite_HasPrefix a0 a1 = some y) (h0 : leLk ar [(.v (.string a0)), (.v (.string a1))] (leHk h [])) : internal_stringslite_HasPrefix.S ar h (internal_stringslite_HasPrefix.res a0 a1 y) (internal_stringslite_HasPrefix.out a0 a1 y) := ⟨a0, a1, y, H, (args_ok h0).1, (args_ok h0).2, rfl, rfl⟩
set_option maxHeartbeats 100000000 in
set_option maxRecDepth 100000 in
theorem internal_stringslite_HasPrefix.spec (a0 : ByteArray) (a1 : ByteArray) (y : Bool) (H : internal_stringslite_HasPrefix a0 a1 = some y) : Spec Tryd.prog 85 [(.v (.string a0)), (.v (.string a1))] [] (internal_stringslite_HasPrefix.res a0 a1 y) (internal_stringslite_HasPrefix.out a0 a1 y) := by
  refine spec_intro (G37_ok.at tok []) (ct := []) Tryd.func85 rfl (by kernel_rfl) (by kernel_rfl) rfl ?_
  repeat' first
    | ((with_reducible refine eqg ?_); exact rfl)
    | ((with_reducible refine KOb.mk ?_); kernel_rfl)
    | ((with_reducible intro h); (repeat (first | replace H := grd_k H | replace H := out_step H (by assumption))); first | replace H := cond_t h H | replace H := cond_f h H | exact absurd h (by decide) | skip)
    | ((with_reducible refine Ob.mk ?_); first | (with_reducible rfl) | (first | ((repeat (first | (with_reducible exact grd_p H) | (replace H := grd_k H) | (replace H := out_step H (by assumption)))); done) | rfl | ((repeat (first | exact grd_p H | replace H := grd_k H | replace H := out_step H (by assumption))); done) | ((repeat (first | exact grd_p H | (have hp := grd_p H; exact hp) | replace H := grd_k H | replace H := out_step H (by assumption) | (replace H := bind_some H; obtain ⟨_, _, H⟩ := H))); done) | (repeat (first | exact grd_p H | replace H := grd_k H | replace H := out_step H (by assumption)))))
    | (with_reducible exact True.intro)
    | constructor
    | ((conv => whnf); first
        | ((with_reducible refine Ob.mk ?_); first | (with_reducible rfl) | (first | ((repeat (first | (with_reducible exact grd_p H) | (replace H := grd_k H) | (replace H := out_step H (by assumption)))); done) | rfl | ((repeat (first | exact grd_p H | replace H := grd_k H | replace H := out_step H (by assumption))); done) | ((repeat (first | exact grd_p H | (have hp := grd_p H; exact hp) | replace H := grd_k H | replace H := out_step H (by assumption) | (replace H := bind_some H; obtain ⟨_, _, H⟩ := H))); done) | (repeat (first | exact grd_p H | replace H := grd_k H | replace H := out_step H (by assumption)))))
        | ((with_reducible refine fin_mk ?_); (repeat (first | replace H := grd_k H | replace H := out_step H (by assumption))); have H := Option.some.inj H; subst H))
def G38 : Env := G37.add 85 [] internal_stringslite_HasPrefix.S
theorem G38_ok : EnvOk Tryd.prog G38 := G37_ok.add ent_85 fun ar h r h1 ⟨a0, a1, y, hy, e1, e2, e3, e4⟩ => by
  subst e3 e4; exact (internal_stringslite_HasPrefix.spec a0 a1 y hy).le e1 e2
attribute [local irreducible] internal_stringslite_HasPrefix

noncomputable def internal_stringslite_CutPrefix (a0 : ByteArray) (a1 : ByteArray) : Option (ByteArray × Bool) :=
  ((internal_stringslite_HasPrefix a0 a1).bind fun y1 => (cond (!y1) ((some (a0, false))) (grd (0 ≤ (a1.size : Int) ∧ (a1.size : Int) ≤ (a0.size : Int) ∧ (a0.size : Int) ≤ (a0.size : Int)) ((some ((bsub a0 (a1.size : Int) (a0.size : Int)), true))))))
def internal_stringslite_CutPrefix.res (_ : ByteArray) (_ : ByteArray) (y : ByteArray × Bool) : AV := (.tup [(.v (.string y.1)), (.bl y.2)])
def internal_stringslite_CutPrefix.out (_ : ByteArray) (_ : ByteArray) (_ : ByteArray × Bool) : List (Option LB) := []
def internal_stringslite_CutPrefix.S (ar : List AV) (h : List (Option LB)) (r : AV) (h1 : List (Option LB)) : Prop := ∃ a0 a1 y, internal_stringslite_CutPrefix a0 a1 = some y ∧ leL ar [(.v (.string a0)), (.v (.string a1))] ∧ leH h [] ∧ r = internal_stringslite_CutPrefix.res a0 a1 y ∧ h1 = internal_stringslite_CutPrefix.out a0 a1 y
theorem internal_stringslite_CutPrefix.call {ar : List AV} {h : List (Option LB)} {a0 : ByteArray} {a1 : ByteArray} {y : ByteArray × Bool} (H : internal_stringslite_CutPrefix a0 a1 = some y) (h0 : leLk ar [(.v (.string a0)), (.v (.string a1))] (leHk h [])) : internal_stringslite_CutPrefix.S ar h (internal_stringslite_CutPrefix.res a0 a1 y) (internal_stringslite_CutPrefix.out a0 a1 y) := ⟨a0, a1, y, H, (args_ok h0).1, (args_ok h0).2, rfl, rfl⟩
set_option maxHeartbeats 100000000 in
set_option maxRecDepth 100000 in
theorem internal_stringslite_CutPrefix.spec (a0 : ByteArray) (a1 : ByteArray) (y : ByteArray × Bool) (H : internal_stringslite_CutPrefix a0 a1 = some y) : Spec Tryd.prog 74 [(.v (.string a0)), (.v (.string a1))] [] (internal_stringslite_CutPrefix.res a0 a1 y) (internal_stringslite_CutPrefix.out a0 a1 y) := by
  refine spec_intro (G38_ok.at tok []) (ct := []) Tryd.func74 rfl (by kernel_rfl) (by kernel_rfl) rfl ?_
  repeat' first
    | ((with_reducible refine eqg ?_); exact rfl)
    | ((with_reducible refine KOb.mk ?_); kernel_rfl)
    | ((with_reducible intro h); (repeat (first | replace H := grd_k H | replace H := out_step H (by assumption))); first | replace H := cond_t h H | replace H := cond_f h H | exact absurd h (by decide) | skip)
    | ((with_reducible refine Ob.mk ?_); first | (with_reducible rfl) | (first | ((repeat (first | (with_reducible exact grd_p H) | (replace H := grd_k H) | (replace H := out_step H (by assumption)))); done) | rfl | ((repeat (first | exact grd_p H | replace H := grd_k H | replace H := out_step H (by assumption))); done) | ((repeat (first | exact grd_p H | (have hp := grd_p H; exact hp) | replace H := grd_k H | replace H := out_step H (by assumption) | (replace H := bind_some H; obtain ⟨_, _, H⟩ := H))); done) | (repeat (first | exact grd_p H | replace H := grd_k H | replace H := out_step H (by assumption)))))
    | (with_reducible exact True.intro)
    | constructor
    | ((conv => whnf); first
        | ((with_reducible refine Ob.mk ?_); first | (with_reducible rfl) | (first | ((repeat (first | (with_reducible exact grd_p H) | (replace H := grd_k H) | (replace H := out_step H (by assumption)))); done) | rfl | ((repeat (first | exact grd_p H | replace H := grd_k H | replace H := out_step H (by assumption))); done) | ((repeat (first | exact grd_p H | (have hp := grd_p H; exact hp) | replace H := grd_k H | replace H := out_step H (by assumption) | (replace H := bind_some H; obtain ⟨_, _, H⟩ := H))); done) | (repeat (first | exact grd_p H | replace H := grd_k H | replace H := out_step H (by assumption)))))
        | ((with_reducible refine CallW.mk ?_); (repeat (first | replace H := grd_k H | replace H := out_step H (by assumption))); replace H := bind_some H; obtain ⟨y, hy, H⟩ := H; first | ((with_reducible have hz : internal_stringslite_HasPrefix _ _ = some y := hy); clear hz; refine Exists.intro _ (Exists.intro _ ⟨internal_stringslite_HasPrefix.call hy ?_, rfl, rfl, ?_⟩)))
        | ((with_reducible refine fin_mk ?_); (repeat (first | replace H := grd_k H | replace H := out_step H (by assumption))); have H := Option.some.inj H; subst H))
def G39 : Env := G38.add 74 [] internal_stringslite_CutPrefix.S
theorem G39_ok : EnvOk Tryd.prog G39 := G38_ok.add ent_74 fun ar h r h1 ⟨a0, a1, y, hy, e1, e2, e3, e4⟩ => by
  subst e3 e4; exact (internal_stringslite_CutPrefix.spec a0 a1 y hy).le e1 e2
attribute [local irreducible] internal_stringslite_CutPrefix

noncomputable def strings_CutPrefix (a0 : ByteArray) (a1 : ByteArray) : Option (ByteArray × Bool) :=
  ((internal_stringslite_CutPrefix a0 a1).bind fun y1 => (some (y1.1, y1.2)))
def strings_CutPrefix.res (_ : ByteArray) (_ : ByteArray) (y : ByteArray × Bool) : AV := (.tup [(.v (.string y.1)), (.bl y.2)])
def strings_CutPrefix.out (_ : ByteArray) (_ : ByteArray) (_ : ByteArray × Bool) : List (Option LB) := []
def strings_CutPrefix.S (ar : List AV) (h : List (Option LB)) (r : AV) (h1 : List (Option LB)) : Prop := ∃ a0 a1 y, strings_CutPrefix a0 a1 = some y ∧ leL ar [(.v (.string a0)), (.v (.string a1))] ∧ leH h [] ∧ r = strings_CutPrefix.res a0 a1 y ∧ h1 = strings_CutPrefix.out a0 a1 y
theorem strings_CutPrefix.call {ar : List AV} {h : List (Option LB)} {a0 : ByteArray} {a1 : ByteArray} {y : ByteArray × Bool} (H : strings_CutPrefix a0 a1 = some y) (h0 : leLk ar [(.v (.string a0)), (.v (.string a1))] (leHk h [])) : strings_CutPrefix.S ar h (strings_CutPrefix.res a0 a1 y) (strings_CutPrefix.out a0 a1 y) := ⟨a0, a1, y, H, (args_ok h0).1, (args_ok h0).2, rfl, rfl⟩
set_option maxHeartbeats 100000000 in
set_option maxRecDepth 100000 in
theorem strings_CutPrefix.spec (a0 : ByteArray) (a1 : ByteArray) (y : ByteArray × Bool) (H : strings_CutPrefix a0 a1 = some y) : Spec Tryd.prog 62 [(.v (.string a0)), (.v (.string a1))] [] (strings_CutPrefix.res a0 a1 y) (strings_CutPrefix.out a0 a1 y) := by
  refine spec_intro (G39_ok.at tok []) (ct := []) Tryd.func62 rfl (by kernel_rfl) (by kernel_rfl) rfl ?_
  repeat' first
    | ((with_reducible refine eqg ?_); exact rfl)
    | ((with_reducible refine KOb.mk ?_); kernel_rfl)
    | ((with_reducible intro h); (repeat (first | replace H := grd_k H | replace H := out_step H (by assumption))); first | replace H := cond_t h H | replace H := cond_f h H | exact absurd h (by decide) | skip)
    | ((with_reducible refine Ob.mk ?_); first | (with_reducible rfl) | (first | ((repeat (first | (with_reducible exact grd_p H) | (replace H := grd_k H) | (replace H := out_step H (by assumption)))); done) | rfl | ((repeat (first | exact grd_p H | replace H := grd_k H | replace H := out_step H (by assumption))); done) | ((repeat (first | exact grd_p H | (have hp := grd_p H; exact hp) | replace H := grd_k H | replace H := out_step H (by assumption) | (replace H := bind_some H; obtain ⟨_, _, H⟩ := H))); done) | (repeat (first | exact grd_p H | replace H := grd_k H | replace H := out_step H (by assumption)))))
    | (with_reducible exact True.intro)
    | constructor
    | ((conv => whnf); first
        | ((with_reducible refine Ob.mk ?_); first | (with_reducible rfl) | (first | ((repeat (first | (with_reducible exact grd_p H) | (replace H := grd_k H) | (replace H := out_step H (by assumption)))); done) | rfl | ((repeat (first | exact grd_p H | replace H := grd_k H | replace H := out_step H (by assumption))); done) | ((repeat (first | exact grd_p H | (have hp := grd_p H; exact hp) | replace H := grd_k H | replace H := out_step H (by assumption) | (replace H := bind_some H; obtain ⟨_, _, H⟩ := H))); done) | (repeat (first | exact grd_p H | replace H := grd_k H | replace H := out_step H (by assumption)))))
        | ((with_reducible refine CallW.mk ?_); (repeat (first | replace H := grd_k H | replace H := out_step H (by assumption))); replace H := bind_some H; obtain ⟨y, hy, H⟩ := H; first | ((with_reducible have hz : internal_stringslite_CutPrefix _ _ = some y := hy); clear hz; refine Exists.intro _ (Exists.intro _ ⟨internal_stringslite_CutPrefix.call hy ?_, rfl, rfl, ?_⟩)))
        | ((with_reducible refine fin_mk ?_); (repeat (first | replace H := grd_k H | replace H := out_step H (by assumption))); have H := Option.some.inj H; subst H))
def G40 : Env := G39.add 62 [] strings_CutPrefix.S
theorem G40_ok : EnvOk Tryd.prog G40 := G39_ok.add ent_62 fun ar h r h1 ⟨a0, a1, y, hy, e1, e2, e3, e4⟩ => by
  subst e3 e4; exact (strings_CutPrefix.spec a0 a1 y hy).le e1 e2
attribute [local irreducible] strings_CutPrefix

noncomputable def strings_ContainsAny (a0 : ByteArray) (a1 : ByteArray) : Option (Bool) :=
  (grd (a0.size < 4294967281 ∧ a1.size < 4294967281 ∧ asciiB a0 = true ∧ asciiB a1 = true) ((some (anyOf a0 a1))))
def strings_ContainsAny.res (_ : ByteArray) (_ : ByteArray) (y : Bool) : AV := (.bl y)
def strings_ContainsAny.out (_ : ByteArray) (_ : ByteArray) (_ : Bool) : List (Option LB) := []
def strings_ContainsAny.S (ar : List AV) (h : List (Option LB)) (r : AV) (h1 : List (Option LB)) : Prop := ∃ a0 a1 y, strings_ContainsAny a0 a1 = some y ∧ leL ar [(.v (.string a0)), (.v (.string a1))] ∧ leH h [] ∧ r = strings_ContainsAny.res a0 a1 y ∧ h1 = strings_ContainsAny.out a0 a1 y
theorem strings_ContainsAny.call {ar : List AV} {h : List (Option LB)} {a0 : ByteArray} {a1 : ByteArray} {y : Bool} (H : strings_ContainsAny a0 a1 = some y) (h0 : leLk ar [(.v (.string a0)), (.v (.string a1))] (leHk h [])) : strings_ContainsAny.S ar h (strings_ContainsAny.res a0 a1 y) (strings_ContainsAny.out a0 a1 y) := ⟨a0, a1, y, H, (args_ok h0).1, (args_ok h0).2, rfl, rfl⟩
theorem strings_ContainsAny.spec (a0 : ByteArray) (a1 : ByteArray) (y : Bool) (H : strings_ContainsAny a0 a1 = some y) : Spec Tryd.prog 86 [(.v (.string a0)), (.v (.string a1))] [] (strings_ContainsAny.res a0 a1 y) (strings_ContainsAny.out a0 a1 y) := by
  have hg := grd_p H
  have H := Option.some.inj (grd_k H)
  subst H
  exact ext_strings_ContainsAny a0 a1 hg
def G41 : Env := G40.add 86 [] strings_ContainsAny.S
theorem G41_ok : EnvOk Tryd.prog G41 := G40_ok.add ent_86 fun ar h r h1 ⟨a0, a1, y, hy, e1, e2, e3, e4⟩ => by
  subst e3 e4; exact (strings_ContainsAny.spec a0 a1 y hy).le e1 e2
attribute [local irreducible] strings_ContainsAny

noncomputable def impl_isPlain_loop1 (a0 : ByteArray) (v2 : Int) : Option (Lp (Int) ((Unit) ⊕ (Unit))) :=
  (cond (decide (v2 < (a0.size : Int))) (grd (0 ≤ v2 ∧ v2 < (a0.size : Int)) (cond (decide ((bAt a0 v2) < (32 : Int))) ((some (.out (Sum.inl ())))) (grd (0 ≤ v2 ∧ v2 < (a0.size : Int)) (cond (decide ((126 : Int) < (bAt a0 v2))) ((some (.out (Sum.inl ())))) (some (.go (w64 (v2 + (1 : Int))))))))) ((some (.out (Sum.inr ())))))
noncomputable def impl_isPlain (a0 : ByteArray) (a1 : ByteArray) : Option (Bool) :=
  ((iter (fun s => impl_isPlain_loop1 a0 s) (0 : Int)).bind (Sum.elim (fun _ => (some false)) (fun _ => ((strings_ContainsAny a0 a1).bind fun y6 => (some (!y6))))))
def impl_isPlain.res (_ : ByteArray) (_ : ByteArray) (y : Bool) : AV := (.bl y)
def impl_isPlain.out (_ : ByteArray) (_ : ByteArray) (_ : Bool) : List (Option LB) := []
def impl_isPlain.S (ar : List AV) (h : List (Option LB)) (r : AV) (h1 : List (Option LB)) : Prop := ∃ a0 a1 y, impl_isPlain a0 a1 = some y ∧ leL ar [(.v (.string a0)), (.v (.string a1))] ∧ leH h [] ∧ r = impl_isPlain.res a0 a1 y ∧ h1 = impl_isPlain.out a0 a1 y
theorem impl_isPlain.call {ar : List AV} {h : List (Option LB)} {a0 : ByteArray} {a1 : ByteArray} {y : Bool} (H : impl_isPlain a0 a1 = some y) (h0 : leLk ar [(.v (.string a0)), (.v (.string a1))] (leHk h [])) : impl_isPlain.S ar h (impl_isPlain.res a0 a1 y) (impl_isPlain.out a0 a1 y) := ⟨a0, a1, y, H, (args_ok h0).1, (args_ok h0).2, rfl, rfl⟩
set_option maxHeartbeats 100000000 in
set_option maxRecDepth 100000 in
theorem impl_isPlain.spec (a0 : ByteArray) (a1 : ByteArray) (y : Bool) (H : impl_isPlain a0 a1 = some y) : Spec Tryd.prog 75 [(.v (.string a0)), (.v (.string a1))] [] (impl_isPlain.res a0 a1 y) (impl_isPlain.out a0 a1 y) := by
  refine spec_intro (G41_ok.at tok []) (ct := [(6, some [0, 1, 7, 8, 16, 17, 18, 19])]) Tryd.func75 rfl (by kernel_rfl) (by kernel_rfl) rfl ?_
  repeat' first
    | ((with_reducible refine eqg ?_); exact rfl)
    | ((with_reducible refine KOb.mk ?_); kernel_rfl)
    | ((with_reducible intro h); (repeat (first | replace H := grd_k H | replace H := out_step H (by assumption))); first | replace H := cond_t h H | replace H := cond_f h H | exact absurd h (by decide) | skip)
    | ((with_reducible refine Ob.mk ?_); first | (with_reducible rfl) | (first | ((repeat (first | (with_reducible exact grd_p H) | (replace H := grd_k H) | (replace H := out_step H (by assumption)))); done) | rfl | ((repeat (first | exact grd_p H | replace H := grd_k H | replace H := out_step H (by assumption))); done) | ((repeat (first | exact grd_p H | (have hp := grd_p H; exact hp) | replace H := grd_k H | replace H := out_step H (by assumption) | (replace H := bind_some H; obtain ⟨_, _, H⟩ := H))); done) | (repeat (first | exact grd_p H | replace H := grd_k H | replace H := out_step H (by assumption)))))
    | (with_reducible exact True.intro)
    | constructor
    | ((conv => whnf); first
        | ((with_reducible refine Ob.mk ?_); first | (with_reducible rfl) | (first | ((repeat (first | (with_reducible exact grd_p H) | (replace H := grd_k H) | (replace H := out_step H (by assumption)))); done) | rfl | ((repeat (first | exact grd_p H | replace H := grd_k H | replace H := out_step H (by assumption))); done) | ((repeat (first | exact grd_p H | (have hp := grd_p H; exact hp) | replace H := grd_k H | replace H := out_step H (by assumption) | (replace H := bind_some H; obtain ⟨_, _, H⟩ := H))); done) | (repeat (first | exact grd_p H | replace H := grd_k H | replace H := out_step H (by assumption)))))
        | ((with_reducible refine CallW.mk ?_); (repeat (first | replace H := grd_k H | replace H := out_step H (by assumption))); replace H := bind_some H; obtain ⟨y, hy, H⟩ := H; first | ((with_reducible have hz : strings_ContainsAny _ _ = some y := hy); clear hz; refine Exists.intro _ (Exists.intro _ ⟨strings_ContainsAny.call hy ?_, rfl, rfl, ?_⟩)))
        | ((repeat (first | replace H := grd_k H | replace H := out_step H (by assumption))); refine loop_iter (G41_ok.at tok []) (ct := [(6, some [0, 1, 7, 8, 16, 17, 18, 19])]) (F := (fun s1 : Int => ⟨sl [(0, (.v (.string a0))), (1, (.v (.string a1))), (7, (.v (.int .i64 (a0.size : Int)))), (8, (.v (.int .i64 s1)))], []⟩)) (step := (fun s : Int => impl_isPlain_loop1 _ s)) _ H (by kernel_rfl) (sub_auto ?_) ?_; rotate_left; (intro s1 r v hr H); rotate_right)
        | ((repeat (first | replace H := grd_k H | replace H := out_step H (by assumption))); refine again_step H (by assumption) (sub_auto ?_))
        | ((with_reducible refine fin_mk ?_); (repeat (first | replace H := grd_k H | replace H := out_step H (by assumption))); have H := Option.some.inj H; subst H))
def G42 : Env := G41.add 75 [] impl_isPlain.S
theorem G42_ok : EnvOk Tryd.prog G42 := G41_ok.add ent_75 fun ar h r h1 ⟨a0, a1, y, hy, e1, e2, e3, e4⟩ => by
  subst e3 e4; exact (impl_isPlain.spec a0 a1 y hy).le e1 e2
attribute [local irreducible] impl_isPlain

end Go.Proofs.YtdlngdmdebpadaaDoor
