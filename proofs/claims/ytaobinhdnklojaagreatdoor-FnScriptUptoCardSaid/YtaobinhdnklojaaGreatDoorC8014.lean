/-
  Contracts, printed by a program.
-/
import Derived.Test.YtaobinhdnklojaaGreatDoorC8010
namespace Go.Proofs.YtaobinhdnklojaaGreatDoor
open Go.RowKit
set_option maxHeartbeats 100000000
set_option maxRecDepth 100000
attribute [local irreducible] Ob l5 Sub Spec Fin Again CallW CutC KOb iter

attribute [local irreducible] slNf strings_Cut strings_Contains ic strconv_Itoa

noncomputable def iAC (a0 : ByteArray) : Option (ByteArray × Bool) :=
 (cond (decide ((4000 : Int) < (a0.size : Int))) ((some ((ByteArray.mk #[]), false))) ((strings_Contains a0 (ByteArray.mk #[35])).bind fun y1 => (cond y1 ((some ((ByteArray.mk #[]), false))) (grd (a0.size + (ByteArray.mk #[35]).size ≤ 9223372036854775807) ((ic a0).bind fun y2 => ((strconv_Itoa y2).bind fun y3 => (grd ((a0 ++ (ByteArray.mk #[35])).size + y3.size ≤ 9223372036854775807) (cond (decide ((4000 : Int) < (((a0 ++ (ByteArray.mk #[35])) ++ y3).size : Int))) ((some ((ByteArray.mk #[]), false))) ((some (((a0 ++ (ByteArray.mk #[35])) ++ y3), true)))))))))))
def iAC.res (_ : ByteArray) (y : ByteArray × Bool) : AV := (.tup [(.v (.string y.1)), (.bl y.2)])
def iAC.out (_ : ByteArray) (_ : ByteArray × Bool) : List (Option LB) := []
def iAC.S (ar : List AV) (h : List (Option LB)) (r : AV) (h1 : List (Option LB)) : Prop := ∃ a0 y, iAC a0 = some y ∧ leL ar [(.v (.string a0))] ∧ leH h [] ∧ r = iAC.res a0 y ∧ h1 = iAC.out a0 y
theorem iAC.call {ar h a0 y} (H : iAC a0 = some y) (h0 : leLk ar [(.v (.string a0))] (leHk h [])) : iAC.S ar h (iAC.res a0 y) (iAC.out a0 y) := ⟨a0, y, H, (ao h0).1, (ao h0).2, rfl, rfl⟩
theorem iAC.spec (a0 y) (H : iAC a0 = some y) : Spec Tryz.prog 138 [(.v (.string a0))] [] (iAC.res a0 y) (iAC.out a0 y) := by
 refine si (G60_ok.at tok []) (ct := [(4, some [4])]) Tryz.func138 rfl (by kernel_rfl) (by kernel_rfl) rfl ?_
 repeat' first
  | ((with_reducible refine eqg ?_); exact rfl)
  | ((with_reducible refine KOb.mk ?_); kernel_rfl)
  | ((with_reducible intro h); (repeat first | replace H := grd_k H | replace H := os1 H ‹_›); first | replace H := ct1 h H | replace H := cf1 h H | exact absurd h (by decide) | skip)
  | ((with_reducible refine Ob.mk ?_); first | (with_reducible rfl) | (first | ((repeat (first | (with_reducible exact grd_p H) | replace H := grd_k H | replace H := os1 H ‹_›)); done) | rfl | ((repeat (first | exact grd_p H | (have hp := grd_p H; exact hp) | replace H := grd_k H | replace H := os1 H ‹_› | (replace H := bind_some H; obtain ⟨_, _, H⟩ := H))); done) | (repeat (first | exact grd_p H | replace H := grd_k H | replace H := os1 H ‹_›))))
  | (with_reducible exact True.intro)
  | ((conv => whnf); first
      | (with_reducible refine And.intro ?_ ?_)
      | (with_reducible exact True.intro)
      | (with_reducible refine (?_ : Ob _))
      | ((with_reducible refine CallW.mk ?_); (repeat first | replace H := grd_k H | replace H := os1 H ‹_›); replace H := bind_some H; obtain ⟨y, hy, H⟩ := H; first | ((with_reducible have hz : strings_Contains _ _ = some y := hy); clear hz; refine ⟨_, _, strings_Contains.call hy ?_, rfl, rfl, ?_⟩) | ((with_reducible have hz : ic _ = some y := hy); clear hz; refine ⟨_, _, ic.call hy ?_, rfl, rfl, ?_⟩) | ((with_reducible have hz : strconv_Itoa _ = some y := hy); clear hz; refine ⟨_, _, strconv_Itoa.call hy ?_, rfl, rfl, ?_⟩))
      | ((with_reducible refine fm ?_); (repeat first | replace H := grd_k H | replace H := os1 H ‹_›); have H := Option.some.inj H; subst H))
  | constructor
def G61 : Env := G60.add 138 [] iAC.S
theorem G61_ok : EnvOk Tryz.prog G61 := G60_ok.add ent_138 fun ar h r h1 ⟨a0, y, hy, e1, e2, e3, e4⟩ => by
 subst e3 e4; exact (iAC.spec a0 y hy).le e1 e2
attribute [local irreducible] iAC

noncomputable def iVC (a0 : ByteArray) : Option (ByteArray × Bool) :=
 ((strings_Cut a0 (ByteArray.mk #[35])).bind fun y1 => ((iAC y1.1).bind fun y2 => (cond (!y2.2) ((some ((ByteArray.mk #[]), false))) (cond (!decide (y2.1 = a0)) ((some ((ByteArray.mk #[]), false))) ((some (y1.1, true)))))))
def iVC.res (_ : ByteArray) (y : ByteArray × Bool) : AV := (.tup [(.v (.string y.1)), (.bl y.2)])
def iVC.out (_ : ByteArray) (_ : ByteArray × Bool) : List (Option LB) := []
def iVC.S (ar : List AV) (h : List (Option LB)) (r : AV) (h1 : List (Option LB)) : Prop := ∃ a0 y, iVC a0 = some y ∧ leL ar [(.v (.string a0))] ∧ leH h [] ∧ r = iVC.res a0 y ∧ h1 = iVC.out a0 y
theorem iVC.call {ar h a0 y} (H : iVC a0 = some y) (h0 : leLk ar [(.v (.string a0))] (leHk h [])) : iVC.S ar h (iVC.res a0 y) (iVC.out a0 y) := ⟨a0, y, H, (ao h0).1, (ao h0).2, rfl, rfl⟩
theorem iVC.spec (a0 y) (H : iVC a0 = some y) : Spec Tryz.prog 150 [(.v (.string a0))] [] (iVC.res a0 y) (iVC.out a0 y) := by
 refine si (G61_ok.at tok []) (ct := [(3, some [0, 4, 7, 8, 23, 24, 25])]) Tryz.func150 rfl (by kernel_rfl) (by kernel_rfl) rfl ?_
 repeat' first
  | ((with_reducible refine eqg ?_); exact rfl)
  | ((with_reducible refine KOb.mk ?_); kernel_rfl)
  | ((with_reducible intro h); (repeat first | replace H := grd_k H | replace H := os1 H ‹_›); first | replace H := ct1 h H | replace H := cf1 h H | exact absurd h (by decide) | skip)
  | ((with_reducible refine Ob.mk ?_); first | (with_reducible rfl) | (first | ((repeat (first | (with_reducible exact grd_p H) | replace H := grd_k H | replace H := os1 H ‹_›)); done) | rfl | ((repeat (first | exact grd_p H | (have hp := grd_p H; exact hp) | replace H := grd_k H | replace H := os1 H ‹_› | (replace H := bind_some H; obtain ⟨_, _, H⟩ := H))); done) | (repeat (first | exact grd_p H | replace H := grd_k H | replace H := os1 H ‹_›))))
  | (with_reducible exact True.intro)
  | ((conv => whnf); first
      | (with_reducible refine And.intro ?_ ?_)
      | (with_reducible exact True.intro)
      | (with_reducible refine (?_ : Ob _))
      | ((with_reducible refine CallW.mk ?_); (repeat first | replace H := grd_k H | replace H := os1 H ‹_›); replace H := bind_some H; obtain ⟨y, hy, H⟩ := H; first | ((with_reducible have hz : strings_Cut _ _ = some y := hy); clear hz; refine ⟨_, _, strings_Cut.call hy ?_, rfl, rfl, ?_⟩) | ((with_reducible have hz : iAC _ = some y := hy); clear hz; refine ⟨_, _, iAC.call hy ?_, rfl, rfl, ?_⟩))
      | ((with_reducible refine fm ?_); (repeat first | replace H := grd_k H | replace H := os1 H ‹_›); have H := Option.some.inj H; subst H))
  | constructor
def G62 : Env := G61.add 150 [] iVC.S
theorem G62_ok : EnvOk Tryz.prog G62 := G61_ok.add ent_150 fun ar h r h1 ⟨a0, y, hy, e1, e2, e3, e4⟩ => by
 subst e3 e4; exact (iVC.spec a0 y hy).le e1 e2
attribute [local irreducible] iVC

noncomputable def isHP (a0 : ByteArray) (a1 : ByteArray) : Option (Bool) :=
 (cond (decide ((a1.size : Int) ≤ (a0.size : Int))) (grd (0 ≤ (0 : Int) ∧ (0 : Int) ≤ (a1.size : Int) ∧ (a1.size : Int) ≤ (a0.size : Int)) ((some (decide ((bsub a0 (0 : Int) (a1.size : Int)) = a1))))) ((some false)))
def isHP.res (_ : ByteArray) (_ : ByteArray) (y : Bool) : AV := (.bl y)
def isHP.out (_ : ByteArray) (_ : ByteArray) (_ : Bool) : List (Option LB) := []
def isHP.S (ar : List AV) (h : List (Option LB)) (r : AV) (h1 : List (Option LB)) : Prop := ∃ a0 a1 y, isHP a0 a1 = some y ∧ leL ar [(.v (.string a0)), (.v (.string a1))] ∧ leH h [] ∧ r = isHP.res a0 a1 y ∧ h1 = isHP.out a0 a1 y
theorem isHP.call {ar h a0 a1 y} (H : isHP a0 a1 = some y) (h0 : leLk ar [(.v (.string a0)), (.v (.string a1))] (leHk h [])) : isHP.S ar h (isHP.res a0 a1 y) (isHP.out a0 a1 y) := ⟨a0, a1, y, H, (ao h0).1, (ao h0).2, rfl, rfl⟩
theorem isHP.spec (a0 a1 y) (H : isHP a0 a1 = some y) : Spec Tryz.prog 203 [(.v (.string a0)), (.v (.string a1))] [] (isHP.res a0 a1 y) (isHP.out a0 a1 y) := by
 refine si (G62_ok.at tok []) (ct := []) Tryz.func203 rfl (by kernel_rfl) (by kernel_rfl) rfl ?_
 repeat' first
  | ((with_reducible refine eqg ?_); exact rfl)
  | ((with_reducible refine KOb.mk ?_); kernel_rfl)
  | ((with_reducible intro h); (repeat first | replace H := grd_k H | replace H := os1 H ‹_›); first | replace H := ct1 h H | replace H := cf1 h H | exact absurd h (by decide) | skip)
  | ((with_reducible refine Ob.mk ?_); first | (with_reducible rfl) | (first | ((repeat (first | (with_reducible exact grd_p H) | replace H := grd_k H | replace H := os1 H ‹_›)); done) | rfl | ((repeat (first | exact grd_p H | (have hp := grd_p H; exact hp) | replace H := grd_k H | replace H := os1 H ‹_› | (replace H := bind_some H; obtain ⟨_, _, H⟩ := H))); done) | (repeat (first | exact grd_p H | replace H := grd_k H | replace H := os1 H ‹_›))))
  | (with_reducible exact True.intro)
  | ((conv => whnf); first
      | (with_reducible refine And.intro ?_ ?_)
      | (with_reducible exact True.intro)
      | (with_reducible refine (?_ : Ob _))
      | ((with_reducible refine fm ?_); (repeat first | replace H := grd_k H | replace H := os1 H ‹_›); have H := Option.some.inj H; subst H))
  | constructor
def G63 : Env := G62.add 203 [] isHP.S
theorem G63_ok : EnvOk Tryz.prog G63 := G62_ok.add ent_203 fun ar h r h1 ⟨a0, a1, y, hy, e1, e2, e3, e4⟩ => by
 subst e3 e4; exact (isHP.spec a0 a1 y hy).le e1 e2
attribute [local irreducible] isHP

noncomputable def isCP (a0 : ByteArray) (a1 : ByteArray) : Option (ByteArray × Bool) :=
 ((isHP a0 a1).bind fun y1 => (cond (!y1) ((some (a0, false))) (grd (0 ≤ (a1.size : Int) ∧ (a1.size : Int) ≤ (a0.size : Int) ∧ (a0.size : Int) ≤ (a0.size : Int)) ((some ((bsub a0 (a1.size : Int) (a0.size : Int)), true))))))
def isCP.res (_ : ByteArray) (_ : ByteArray) (y : ByteArray × Bool) : AV := (.tup [(.v (.string y.1)), (.bl y.2)])
def isCP.out (_ : ByteArray) (_ : ByteArray) (_ : ByteArray × Bool) : List (Option LB) := []
def isCP.S (ar : List AV) (h : List (Option LB)) (r : AV) (h1 : List (Option LB)) : Prop := ∃ a0 a1 y, isCP a0 a1 = some y ∧ leL ar [(.v (.string a0)), (.v (.string a1))] ∧ leH h [] ∧ r = isCP.res a0 a1 y ∧ h1 = isCP.out a0 a1 y
theorem isCP.call {ar h a0 a1 y} (H : isCP a0 a1 = some y) (h0 : leLk ar [(.v (.string a0)), (.v (.string a1))] (leHk h [])) : isCP.S ar h (isCP.res a0 a1 y) (isCP.out a0 a1 y) := ⟨a0, a1, y, H, (ao h0).1, (ao h0).2, rfl, rfl⟩
theorem isCP.spec (a0 a1 y) (H : isCP a0 a1 = some y) : Spec Tryz.prog 179 [(.v (.string a0)), (.v (.string a1))] [] (isCP.res a0 a1 y) (isCP.out a0 a1 y) := by
 refine si (G63_ok.at tok []) (ct := []) Tryz.func179 rfl (by kernel_rfl) (by kernel_rfl) rfl ?_
 repeat' first
  | ((with_reducible refine eqg ?_); exact rfl)
  | ((with_reducible refine KOb.mk ?_); kernel_rfl)
  | ((with_reducible intro h); (repeat first | replace H := grd_k H | replace H := os1 H ‹_›); first | replace H := ct1 h H | replace H := cf1 h H | exact absurd h (by decide) | skip)
  | ((with_reducible refine Ob.mk ?_); first | (with_reducible rfl) | (first | ((repeat (first | (with_reducible exact grd_p H) | replace H := grd_k H | replace H := os1 H ‹_›)); done) | rfl | ((repeat (first | exact grd_p H | (have hp := grd_p H; exact hp) | replace H := grd_k H | replace H := os1 H ‹_› | (replace H := bind_some H; obtain ⟨_, _, H⟩ := H))); done) | (repeat (first | exact grd_p H | replace H := grd_k H | replace H := os1 H ‹_›))))
  | (with_reducible exact True.intro)
  | ((conv => whnf); first
      | (with_reducible refine And.intro ?_ ?_)
      | (with_reducible exact True.intro)
      | (with_reducible refine (?_ : Ob _))
      | ((with_reducible refine CallW.mk ?_); (repeat first | replace H := grd_k H | replace H := os1 H ‹_›); replace H := bind_some H; obtain ⟨y, hy, H⟩ := H; first | ((with_reducible have hz : isHP _ _ = some y := hy); clear hz; refine ⟨_, _, isHP.call hy ?_, rfl, rfl, ?_⟩))
      | ((with_reducible refine fm ?_); (repeat first | replace H := grd_k H | replace H := os1 H ‹_›); have H := Option.some.inj H; subst H))
  | constructor
def G64 : Env := G63.add 179 [] isCP.S
theorem G64_ok : EnvOk Tryz.prog G64 := G63_ok.add ent_179 fun ar h r h1 ⟨a0, a1, y, hy, e1, e2, e3, e4⟩ => by
 subst e3 e4; exact (isCP.spec a0 a1 y hy).le e1 e2
attribute [local irreducible] isCP

noncomputable def sCP (a0 : ByteArray) (a1 : ByteArray) : Option (ByteArray × Bool) :=
 ((isCP a0 a1).bind fun y1 => (some (y1.1, y1.2)))
def sCP.res (_ : ByteArray) (_ : ByteArray) (y : ByteArray × Bool) : AV := (.tup [(.v (.string y.1)), (.bl y.2)])
def sCP.out (_ : ByteArray) (_ : ByteArray) (_ : ByteArray × Bool) : List (Option LB) := []
def sCP.S (ar : List AV) (h : List (Option LB)) (r : AV) (h1 : List (Option LB)) : Prop := ∃ a0 a1 y, sCP a0 a1 = some y ∧ leL ar [(.v (.string a0)), (.v (.string a1))] ∧ leH h [] ∧ r = sCP.res a0 a1 y ∧ h1 = sCP.out a0 a1 y
theorem sCP.call {ar h a0 a1 y} (H : sCP a0 a1 = some y) (h0 : leLk ar [(.v (.string a0)), (.v (.string a1))] (leHk h [])) : sCP.S ar h (sCP.res a0 a1 y) (sCP.out a0 a1 y) := ⟨a0, a1, y, H, (ao h0).1, (ao h0).2, rfl, rfl⟩
theorem sCP.spec (a0 a1 y) (H : sCP a0 a1 = some y) : Spec Tryz.prog 151 [(.v (.string a0)), (.v (.string a1))] [] (sCP.res a0 a1 y) (sCP.out a0 a1 y) := by
 refine si (G64_ok.at tok []) (ct := []) Tryz.func151 rfl (by kernel_rfl) (by kernel_rfl) rfl ?_
 repeat' first
  | ((with_reducible refine eqg ?_); exact rfl)
  | ((with_reducible refine KOb.mk ?_); kernel_rfl)
  | ((with_reducible intro h); (repeat first | replace H := grd_k H | replace H := os1 H ‹_›); first | replace H := ct1 h H | replace H := cf1 h H | exact absurd h (by decide) | skip)
  | ((with_reducible refine Ob.mk ?_); first | (with_reducible rfl) | (first | ((repeat (first | (with_reducible exact grd_p H) | replace H := grd_k H | replace H := os1 H ‹_›)); done) | rfl | ((repeat (first | exact grd_p H | (have hp := grd_p H; exact hp) | replace H := grd_k H | replace H := os1 H ‹_› | (replace H := bind_some H; obtain ⟨_, _, H⟩ := H))); done) | (repeat (first | exact grd_p H | replace H := grd_k H | replace H := os1 H ‹_›))))
  | (with_reducible exact True.intro)
  | ((conv => whnf); first
      | (with_reducible refine And.intro ?_ ?_)
      | (with_reducible exact True.intro)
      | (with_reducible refine (?_ : Ob _))
      | ((with_reducible refine CallW.mk ?_); (repeat first | replace H := grd_k H | replace H := os1 H ‹_›); replace H := bind_some H; obtain ⟨y, hy, H⟩ := H; first | ((with_reducible have hz : isCP _ _ = some y := hy); clear hz; refine ⟨_, _, isCP.call hy ?_, rfl, rfl, ?_⟩))
      | ((with_reducible refine fm ?_); (repeat first | replace H := grd_k H | replace H := os1 H ‹_›); have H := Option.some.inj H; subst H))
  | constructor
def G65 : Env := G64.add 151 [] sCP.S
theorem G65_ok : EnvOk Tryz.prog G65 := G64_ok.add ent_151 fun ar h r h1 ⟨a0, a1, y, hy, e1, e2, e3, e4⟩ => by
 subst e3 e4; exact (sCP.spec a0 a1 y hy).le e1 e2
attribute [local irreducible] sCP

noncomputable def sCA (a0 : ByteArray) (a1 : ByteArray) : Option (Bool) :=
 (grd (a0.size < 4294967281 ∧ a1.size < 4294967281 ∧ asciiB a0 = true ∧ asciiB a1 = true) ((some (anyOf a0 a1))))
def sCA.res (_ : ByteArray) (_ : ByteArray) (y : Bool) : AV := (.bl y)
def sCA.out (_ : ByteArray) (_ : ByteArray) (_ : Bool) : List (Option LB) := []
def sCA.S (ar : List AV) (h : List (Option LB)) (r : AV) (h1 : List (Option LB)) : Prop := ∃ a0 a1 y, sCA a0 a1 = some y ∧ leL ar [(.v (.string a0)), (.v (.string a1))] ∧ leH h [] ∧ r = sCA.res a0 a1 y ∧ h1 = sCA.out a0 a1 y
theorem sCA.call {ar h a0 a1 y} (H : sCA a0 a1 = some y) (h0 : leLk ar [(.v (.string a0)), (.v (.string a1))] (leHk h [])) : sCA.S ar h (sCA.res a0 a1 y) (sCA.out a0 a1 y) := ⟨a0, a1, y, H, (ao h0).1, (ao h0).2, rfl, rfl⟩
theorem sCA.spec (a0 a1 y) (H : sCA a0 a1 = some y) : Spec Tryz.prog 127 [(.v (.string a0)), (.v (.string a1))] [] (sCA.res a0 a1 y) (sCA.out a0 a1 y) := by
 have hg := grd_p H
 have H := Option.some.inj (grd_k H)
 subst H
 exact esCA a0 a1 hg
def G66 : Env := G65.add 127 [] sCA.S
theorem G66_ok : EnvOk Tryz.prog G66 := G65_ok.add ent_127 fun ar h r h1 ⟨a0, a1, y, hy, e1, e2, e3, e4⟩ => by
 subst e3 e4; exact (sCA.spec a0 a1 y hy).le e1 e2
attribute [local irreducible] sCA

end Go.Proofs.YtaobinhdnklojaaGreatDoor
namespace Go.Proofs.YtaobinhdnklojaaGreatDoor
open Go.RowKit
set_option maxHeartbeats 100000000
set_option maxRecDepth 100000
attribute [local irreducible] Ob l5 Sub Spec Fin Again CallW CutC KOb iter

attribute [local irreducible] slNf iw strings_Cut strconv_Itoa iVC sCP sCA

noncomputable def iiPl (a0 : ByteArray) (v2 : Int) : Option (Lp (Int) ((Unit) ⊕ (Unit))) :=
 (cond (decide (v2 < (a0.size : Int))) (grd (0 ≤ v2 ∧ v2 < (a0.size : Int)) (cond (decide ((bAt a0 v2) < (32 : Int))) ((some (.out (Sum.inl ())))) (grd (0 ≤ v2 ∧ v2 < (a0.size : Int)) (cond (decide ((126 : Int) < (bAt a0 v2))) ((some (.out (Sum.inl ())))) (some (.go (w64 (v2 + (1 : Int))))))))) ((some (.out (Sum.inr ())))))
noncomputable def iiP (a0 : ByteArray) (a1 : ByteArray) : Option (Bool) :=
 ((iter (fun s => iiPl a0 s) (0 : Int)).bind (Sum.elim (fun _ => (some false)) (fun _ => ((sCA a0 a1).bind fun y6 => (some (!y6))))))
def iiP.res (_ : ByteArray) (_ : ByteArray) (y : Bool) : AV := (.bl y)
def iiP.out (_ : ByteArray) (_ : ByteArray) (_ : Bool) : List (Option LB) := []
def iiP.S (ar : List AV) (h : List (Option LB)) (r : AV) (h1 : List (Option LB)) : Prop := ∃ a0 a1 y, iiP a0 a1 = some y ∧ leL ar [(.v (.string a0)), (.v (.string a1))] ∧ leH h [] ∧ r = iiP.res a0 a1 y ∧ h1 = iiP.out a0 a1 y
theorem iiP.call {ar h a0 a1 y} (H : iiP a0 a1 = some y) (h0 : leLk ar [(.v (.string a0)), (.v (.string a1))] (leHk h [])) : iiP.S ar h (iiP.res a0 a1 y) (iiP.out a0 a1 y) := ⟨a0, a1, y, H, (ao h0).1, (ao h0).2, rfl, rfl⟩
theorem iiP.spec (a0 a1 y) (H : iiP a0 a1 = some y) : Spec Tryz.prog 86 [(.v (.string a0)), (.v (.string a1))] [] (iiP.res a0 a1 y) (iiP.out a0 a1 y) := by
 refine si (G66_ok.at tok []) (ct := [(6, some [0, 1, 7, 8, 16, 17, 18, 19])]) Tryz.func86 rfl (by kernel_rfl) (by kernel_rfl) rfl ?_
 repeat' first
  | ((with_reducible refine eqg ?_); exact rfl)
  | ((with_reducible refine KOb.mk ?_); kernel_rfl)
  | ((with_reducible intro h); (repeat first | replace H := grd_k H | replace H := os1 H ‹_›); first | replace H := ct1 h H | replace H := cf1 h H | exact absurd h (by decide) | skip)
  | ((with_reducible refine Ob.mk ?_); first | (with_reducible rfl) | (first | ((repeat (first | (with_reducible exact grd_p H) | replace H := grd_k H | replace H := os1 H ‹_›)); done) | rfl | ((repeat (first | exact grd_p H | (have hp := grd_p H; exact hp) | replace H := grd_k H | replace H := os1 H ‹_› | (replace H := bind_some H; obtain ⟨_, _, H⟩ := H))); done) | (repeat (first | exact grd_p H | replace H := grd_k H | replace H := os1 H ‹_›))))
  | (with_reducible exact True.intro)
  | ((conv => whnf); first
      | (with_reducible refine And.intro ?_ ?_)
      | (with_reducible exact True.intro)
      | (with_reducible refine (?_ : Ob _))
      | ((with_reducible refine CallW.mk ?_); (repeat first | replace H := grd_k H | replace H := os1 H ‹_›); replace H := bind_some H; obtain ⟨y, hy, H⟩ := H; first | ((with_reducible have hz : sCA _ _ = some y := hy); clear hz; refine ⟨_, _, sCA.call hy ?_, rfl, rfl, ?_⟩))
      | ((repeat first | replace H := grd_k H | replace H := os1 H ‹_›); refine li1 (G66_ok.at tok []) (ct := [(6, some [0, 1, 7, 8, 16, 17, 18, 19])]) (F := (fun s1 : Int => ⟨sl [(0, (.v (.string a0))), (1, (.v (.string a1))), (7, (.v (.int .i64 (a0.size : Int)))), (8, (.v (.int .i64 s1)))], []⟩)) (step := (fun s : Int => iiPl _ s)) _ H (by kernel_rfl) (sa ?_) ?_; rotate_left; (intro s1 r v hr H); rotate_right)
      | ((repeat first | replace H := grd_k H | replace H := os1 H ‹_›); refine as1 H (by assumption) (sa ?_))
      | ((with_reducible refine fm ?_); (repeat first | replace H := grd_k H | replace H := os1 H ‹_›); have H := Option.some.inj H; subst H))
  | constructor
def G67 : Env := G66.add 86 [] iiP.S
theorem G67_ok : EnvOk Tryz.prog G67 := G66_ok.add ent_86 fun ar h r h1 ⟨a0, a1, y, hy, e1, e2, e3, e4⟩ => by
 subst e3 e4; exact (iiP.spec a0 a1 y hy).le e1 e2
attribute [local irreducible] iiP

noncomputable def iIVR (a0 : LR) : Option (Bool) :=
 ((iw (a0.1.size : Int) (1 : Int) (160 : Int)).bind fun y1 => (cond y1 (cond (decide ((a0.2.1.size : Int) ≤ (200 : Int))) ((iiP a0.1 (ByteArray.mk #[35, 64])).bind fun y2 => (cond y2 ((iiP a0.2.1 (ByteArray.mk #[35])).bind fun y3 => (some y3)) ((some false)))) ((some false))) ((some false))))
def iIVR.res (_ : LR) (y : Bool) : AV := (.bl y)
def iIVR.out (_ : LR) (_ : Bool) : List (Option LB) := []
def iIVR.S (ar : List AV) (h : List (Option LB)) (r : AV) (h1 : List (Option LB)) : Prop := ∃ a0 y, iIVR a0 = some y ∧ leL ar [(.agg [(.v (.string a0.1)), (.v (.string a0.2.1))])] ∧ leH h [] ∧ r = iIVR.res a0 y ∧ h1 = iIVR.out a0 y
theorem iIVR.call {ar h a0 y} (H : iIVR a0 = some y) (h0 : leLk ar [(.agg [(.v (.string a0.1)), (.v (.string a0.2.1))])] (leHk h [])) : iIVR.S ar h (iIVR.res a0 y) (iIVR.out a0 y) := ⟨a0, y, H, (ao h0).1, (ao h0).2, rfl, rfl⟩
theorem iIVR.spec (a0 y) (H : iIVR a0 = some y) : Spec Tryz.prog 47 [(.agg [(.v (.string a0.1)), (.v (.string a0.2.1))])] [] (iIVR.res a0 y) (iIVR.out a0 y) := by
 refine si (G67_ok.at tok []) (ct := []) Tryz.func47 rfl (by kernel_rfl) (by kernel_rfl) rfl ?_
 repeat' first
  | ((with_reducible refine eqg ?_); exact rfl)
  | ((with_reducible refine KOb.mk ?_); kernel_rfl)
  | ((with_reducible intro h); (repeat first | replace H := grd_k H | replace H := os1 H ‹_›); first | replace H := ct1 h H | replace H := cf1 h H | exact absurd h (by decide) | skip)
  | ((with_reducible refine Ob.mk ?_); first | (with_reducible rfl) | (first | ((repeat (first | (with_reducible exact grd_p H) | replace H := grd_k H | replace H := os1 H ‹_›)); done) | rfl | ((repeat (first | exact grd_p H | (have hp := grd_p H; exact hp) | replace H := grd_k H | replace H := os1 H ‹_› | (replace H := bind_some H; obtain ⟨_, _, H⟩ := H))); done) | (repeat (first | exact grd_p H | replace H := grd_k H | replace H := os1 H ‹_›))))
  | (with_reducible exact True.intro)
  | ((conv => whnf); first
      | (with_reducible refine And.intro ?_ ?_)
      | (with_reducible exact True.intro)
      | (with_reducible refine (?_ : Ob _))
      | ((with_reducible refine CallW.mk ?_); (repeat first | replace H := grd_k H | replace H := os1 H ‹_›); replace H := bind_some H; obtain ⟨y, hy, H⟩ := H; first | ((with_reducible have hz : iw _ _ _ = some y := hy); clear hz; refine ⟨_, _, iw.call hy ?_, rfl, rfl, ?_⟩) | ((with_reducible have hz : iiP _ _ = some y := hy); clear hz; refine ⟨_, _, iiP.call hy ?_, rfl, rfl, ?_⟩))
      | ((with_reducible refine fm ?_); (repeat first | replace H := grd_k H | replace H := os1 H ‹_›); have H := Option.some.inj H; subst H))
  | constructor
def G68 : Env := G67.add 47 [] iIVR.S
theorem G68_ok : EnvOk Tryz.prog G68 := G67_ok.add ent_47 fun ar h r h1 ⟨a0, y, hy, e1, e2, e3, e4⟩ => by
 subst e3 e4; exact (iIVR.spec a0 y hy).le e1 e2
attribute [local irreducible] iIVR

noncomputable def idR (a0 : Int) (a1 : ByteArray) : Option (LR × Bool) :=
 ((iVC a1).bind fun y1 => ((strconv_Itoa a0).bind fun y2 => (grd (y2.size + (ByteArray.mk #[32]).size ≤ 9223372036854775807) ((sCP y1.1 (y2 ++ (ByteArray.mk #[32]))).bind fun y3 => ((strings_Cut y3.1 (ByteArray.mk #[64])).bind fun y4 => (cond y1.2 (cond y3.2 (cond y4.2.2 ((iIVR (y4.1, y4.2.1, ())).bind fun y5 => (some ((y4.1, y4.2.1, ()), y5))) ((some ((y4.1, y4.2.1, ()), false)))) ((some ((y4.1, y4.2.1, ()), false)))) ((some ((y4.1, y4.2.1, ()), false)))))))))
def idR.res (_ : Int) (_ : ByteArray) (y : LR × Bool) : AV := (.tup [(.agg [(.v (.string y.1.1)), (.v (.string y.1.2.1))]), (.bl y.2)])
def idR.out (_ : Int) (_ : ByteArray) (_ : LR × Bool) : List (Option LB) := []
def idR.S (ar : List AV) (h : List (Option LB)) (r : AV) (h1 : List (Option LB)) : Prop := ∃ a0 a1 y, idR a0 a1 = some y ∧ leL ar [(.v (.int .i64 a0)), (.v (.string a1))] ∧ leH h [] ∧ r = idR.res a0 a1 y ∧ h1 = idR.out a0 a1 y
theorem idR.call {ar h a0 a1 y} (H : idR a0 a1 = some y) (h0 : leLk ar [(.v (.int .i64 a0)), (.v (.string a1))] (leHk h [])) : idR.S ar h (idR.res a0 a1 y) (idR.out a0 a1 y) := ⟨a0, a1, y, H, (ao h0).1, (ao h0).2, rfl, rfl⟩
theorem idR.spec (a0 a1 y) (H : idR a0 a1 = some y) : Spec Tryz.prog 111 [(.v (.int .i64 a0)), (.v (.string a1))] [] (idR.res a0 a1 y) (idR.out a0 a1 y) := by
 refine si (G68_ok.at tok []) (ct := [(3, some [4, 7, 8, 9, 39, 42, 45, 46])]) Tryz.func111 rfl (by kernel_rfl) (by kernel_rfl) rfl ?_
 repeat' first
  | ((with_reducible refine eqg ?_); exact rfl)
  | ((with_reducible refine KOb.mk ?_); kernel_rfl)
  | ((with_reducible intro h); (repeat first | replace H := grd_k H | replace H := os1 H ‹_›); first | replace H := ct1 h H | replace H := cf1 h H | exact absurd h (by decide) | skip)
  | ((with_reducible refine Ob.mk ?_); first | (with_reducible rfl) | (first | ((repeat (first | (with_reducible exact grd_p H) | replace H := grd_k H | replace H := os1 H ‹_›)); done) | rfl | ((repeat (first | exact grd_p H | (have hp := grd_p H; exact hp) | replace H := grd_k H | replace H := os1 H ‹_› | (replace H := bind_some H; obtain ⟨_, _, H⟩ := H))); done) | (repeat (first | exact grd_p H | replace H := grd_k H | replace H := os1 H ‹_›))))
  | (with_reducible exact True.intro)
  | ((conv => whnf); first
      | (with_reducible refine And.intro ?_ ?_)
      | (with_reducible exact True.intro)
      | (with_reducible refine (?_ : Ob _))
      | ((with_reducible refine CallW.mk ?_); (repeat first | replace H := grd_k H | replace H := os1 H ‹_›); replace H := bind_some H; obtain ⟨y, hy, H⟩ := H; first | ((with_reducible have hz : iVC _ = some y := hy); clear hz; refine ⟨_, _, iVC.call hy ?_, rfl, rfl, ?_⟩) | ((with_reducible have hz : strconv_Itoa _ = some y := hy); clear hz; refine ⟨_, _, strconv_Itoa.call hy ?_, rfl, rfl, ?_⟩) | ((with_reducible have hz : sCP _ _ = some y := hy); clear hz; refine ⟨_, _, sCP.call hy ?_, rfl, rfl, ?_⟩) | ((with_reducible have hz : strings_Cut _ _ = some y := hy); clear hz; refine ⟨_, _, strings_Cut.call hy ?_, rfl, rfl, ?_⟩) | ((with_reducible have hz : iIVR _ = some y := hy); clear hz; refine ⟨_, _, iIVR.call hy ?_, rfl, rfl, ?_⟩))
      | ((with_reducible refine fm ?_); (repeat first | replace H := grd_k H | replace H := os1 H ‹_›); have H := Option.some.inj H; subst H))
  | constructor
def G69 : Env := G68.add 111 [] idR.S
theorem G69_ok : EnvOk Tryz.prog G69 := G68_ok.add ent_111 fun ar h r h1 ⟨a0, a1, y, hy, e1, e2, e3, e4⟩ => by
 subst e3 e4; exact (idR.spec a0 a1 y hy).le e1 e2
attribute [local irreducible] idR

noncomputable def irRl (a0 : ByteArray) (v10 : Int) (v11 : (List LR)) (v12 : (List Int)) : Option (Lp (Int × (List LR) × (List Int)) (((List LR) × (List Int)))) :=
 (cond (decide ((v11.length : Int) < (60 : Int))) (grd (0 ≤ v10 ∧ v10 ≤ (a0.size : Int) ∧ (a0.size : Int) ≤ (a0.size : Int)) ((strings_Cut (bsub a0 v10 (a0.size : Int)) (ByteArray.mk #[10])).bind fun y13 => ((idR (v11.length : Int) y13.1).bind fun y14 => (cond (!y13.2.2) ((some (.out (v11, v12)))) (cond (!y14.2) ((some (.out (v11, v12)))) (grd (v11.length + [(y14.1.1, y14.1.2.1, ())].length ≤ 140737488355328 / 32 ∧ v11.length + [(y14.1.1, y14.1.2.1, ())].length ≤ 140737488355328) (grd (v12.length + [(w64 (v10 + (w64 ((y13.1.size : Int) + (1 : Int)))))].length ≤ 140737488355328 / 8 ∧ v12.length + [(w64 (v10 + (w64 ((y13.1.size : Int) + (1 : Int)))))].length ≤ 140737488355328) (some (.go ((w64 (v10 + (w64 ((y13.1.size : Int) + (1 : Int))))), (v11 ++ [(y14.1.1, y14.1.2.1, ())]), (v12 ++ [(w64 (v10 + (w64 ((y13.1.size : Int) + (1 : Int)))))]))))))))))) ((some (.out (v11, v12)))))
noncomputable def irR (a0 : ByteArray) : Option ((List LR) × (List Int)) :=
 ((iter (fun s => irRl a0 s.1 s.2.1 s.2.2) ((0 : Int), ([] : List LR), [(0 : Int)])).bind (fun r15 => (some (r15.1, r15.2))))
def irR.res (_ : ByteArray) (_ : (List LR) × (List Int)) : AV := (.tup [(.own 0), (.own 1)])
def irR.out (_ : ByteArray) (y : (List LR) × (List Int)) : List (Option LB) := [some (.arr 70 tLR y.1), some (.arr 3 (.int .i64) y.2)]
def irR.S (ar : List AV) (h : List (Option LB)) (r : AV) (h1 : List (Option LB)) : Prop := ∃ a0 y, irR a0 = some y ∧ leL ar [(.v (.string a0))] ∧ leH h [] ∧ r = irR.res a0 y ∧ h1 = irR.out a0 y
theorem irR.call {ar h a0 y} (H : irR a0 = some y) (h0 : leLk ar [(.v (.string a0))] (leHk h [])) : irR.S ar h (irR.res a0 y) (irR.out a0 y) := ⟨a0, y, H, (ao h0).1, (ao h0).2, rfl, rfl⟩
theorem irR.spec (a0 y) (H : irR a0 = some y) : Spec Tryz.prog 71 [(.v (.string a0))] [] (irR.res a0 y) (irR.out a0 y) := by
 refine si (G69_ok.at tok []) (ct := [(4, some [0, 4, 5, 6, 7, 9, 35, 36]), (6, some [0, 4, 5, 6, 7, 10, 35, 36])]) Tryz.func71 rfl (by kernel_rfl) (by kernel_rfl) rfl ?_
 repeat' first
  | ((with_reducible refine eqg ?_); exact rfl)
  | ((with_reducible refine KOb.mk ?_); kernel_rfl)
  | ((with_reducible intro h); (repeat first | replace H := grd_k H | replace H := os1 H ‹_›); first | replace H := ct1 h H | replace H := cf1 h H | exact absurd h (by decide) | skip)
  | ((with_reducible refine Ob.mk ?_); first | (with_reducible rfl) | (first | ((repeat (first | (with_reducible exact grd_p H) | replace H := grd_k H | replace H := os1 H ‹_›)); done) | rfl | ((repeat (first | exact grd_p H | (have hp := grd_p H; exact hp) | replace H := grd_k H | replace H := os1 H ‹_› | (replace H := bind_some H; obtain ⟨_, _, H⟩ := H))); done) | (repeat (first | exact grd_p H | replace H := grd_k H | replace H := os1 H ‹_›))))
  | (with_reducible exact True.intro)
  | ((conv => whnf); first
      | (with_reducible refine And.intro ?_ ?_)
      | (with_reducible exact True.intro)
      | (with_reducible refine (?_ : Ob _))
      | ((with_reducible refine CallW.mk ?_); (repeat first | replace H := grd_k H | replace H := os1 H ‹_›); replace H := bind_some H; obtain ⟨y, hy, H⟩ := H; first | ((with_reducible have hz : strings_Cut _ _ = some y := hy); clear hz; refine ⟨_, _, strings_Cut.call hy ?_, rfl, rfl, ?_⟩) | ((with_reducible have hz : idR _ _ = some y := hy); clear hz; refine ⟨_, _, idR.call hy ?_, rfl, rfl, ?_⟩))
      | ((repeat first | replace H := grd_k H | replace H := os1 H ‹_›); refine li1 (G69_ok.at tok []) (ct := [(4, some [0, 4, 5, 6, 7, 9, 35, 36]), (6, some [0, 4, 5, 6, 7, 10, 35, 36])]) (F := (fun s1 : Int × (List LR) × (List Int) => ⟨sl [(0, (.v (.string a0))), (4, (.own 0)), (5, (.own 1)), (6, (.v (.int .i64 s1.1)))], [some (.arr 70 tLR s1.2.1), some (.arr 3 (.int .i64) s1.2.2)]⟩)) (step := (fun s : Int × (List LR) × (List Int) => irRl _ s.1 s.2.1 s.2.2)) _ H (by kernel_rfl) (sa ?_) ?_; rotate_left; (intro s1 r v hr H); rotate_right)
      | ((repeat first | replace H := grd_k H | replace H := os1 H ‹_›); refine as1 H (by assumption) (sa ?_))
      | ((with_reducible refine fm ?_); (repeat first | replace H := grd_k H | replace H := os1 H ‹_›); have H := Option.some.inj H; subst H))
  | constructor
def G70 : Env := G69.add 71 [] irR.S
theorem G70_ok : EnvOk Tryz.prog G70 := G69_ok.add ent_71 fun ar h r h1 ⟨a0, y, hy, e1, e2, e3, e4⟩ => by
 subst e3 e4; exact (irR.spec a0 y hy).le e1 e2
attribute [local irreducible] irR

noncomputable def iLrl (a0 : Log) (v17 : Bool) (v18 : Bool) (v19 : Int) (v20 : Int) (v21 : (List LR)) (v22 : (List Int)) : Option (Lp (Bool × Bool × Int × Int × (List LR) × (List Int)) ((Bool × Bool × (List LR)))) :=
 (cond (decide (v20 < v19)) (grd (0 ≤ v20 ∧ v20 < (v22.length : Int)) (cond v18 (some (.go (v17, true, v19, (w64 (v20 + (1 : Int))), v21, v22))) (some (.go (v17, (decide ((v22.getD v20.toNat 0) = (a0.1.size : Int))), v19, (w64 (v20 + (1 : Int))), v21, v22))))) ((some (.out (v17, v18, v21)))))
noncomputable def iLr (a0 : Log) : Option ((List LR) × Bool) :=
 (grd (a0.1.size + a0.2.1.size ≤ 9223372036854775807) ((irR (a0.1 ++ a0.2.1)).bind fun y1 => ((grd (0 ≤ (w64 ((y1.2.length : Int) - (1 : Int))) ∧ (w64 ((y1.2.length : Int) - (1 : Int))) < (y1.2.length : Int)) (cond (decide ((y1.2.getD ((w64 ((y1.2.length : Int) - (1 : Int))).toNat) 0) = ((a0.1 ++ a0.2.1).size : Int))) ((some ((decide (a0.2.2.1 = (y1.1.length : Int))), y1.1, y1.2))) ((some (false, y1.1, y1.2))))).bind fun z2 => ((iter (fun s => iLrl a0 s.1 s.2.1 s.2.2.1 s.2.2.2.1 s.2.2.2.2.1 s.2.2.2.2.2) (z2.1, false, (z2.2.2.length : Int), (0 : Int), z2.2.1, z2.2.2)).bind (fun r23 => (cond r23.1 ((some (r23.2.2, r23.2.1))) ((some (r23.2.2, false)))))))))
def iLr.res (_ : Log) (y : (List LR) × Bool) : AV := (.tup [(.own 0), (.bl y.2)])
def iLr.out (_ : Log) (y : (List LR) × Bool) : List (Option LB) := [some (.arr 70 tLR y.1)]
def iLr.S (ar : List AV) (h : List (Option LB)) (r : AV) (h1 : List (Option LB)) : Prop := ∃ a0 y, iLr a0 = some y ∧ leL ar [(.agg [(.v (.string a0.1)), (.v (.string a0.2.1)), (.v (.int .i64 a0.2.2.1))])] ∧ leH h [] ∧ r = iLr.res a0 y ∧ h1 = iLr.out a0 y
theorem iLr.call {ar h a0 y} (H : iLr a0 = some y) (h0 : leLk ar [(.agg [(.v (.string a0.1)), (.v (.string a0.2.1)), (.v (.int .i64 a0.2.2.1))])] (leHk h [])) : iLr.S ar h (iLr.res a0 y) (iLr.out a0 y) := ⟨a0, y, H, (ao h0).1, (ao h0).2, rfl, rfl⟩
theorem iLr.spec (a0 y) (H : iLr a0 = some y) : Spec Tryz.prog 73 [(.agg [(.v (.string a0.1)), (.v (.string a0.2.1)), (.v (.int .i64 a0.2.2.1))])] [] (iLr.res a0 y) (iLr.out a0 y) := by
 refine si (G70_ok.at tok []) (ct := [(4, none), (3, some [1, 4, 5, 6, 31, 32, 33, 34, 35, 45, 46, 47, 48, 49, 55])]) Tryz.func73 rfl (by kernel_rfl) (by kernel_rfl) rfl ?_
 repeat' first
  | ((with_reducible refine eqg ?_); exact rfl)
  | ((with_reducible refine KOb.mk ?_); kernel_rfl)
  | ((with_reducible intro h); (repeat first | replace H := grd_k H | replace H := os1 H ‹_›); first | replace H := ct1 h H | replace H := cf1 h H | exact absurd h (by decide) | skip)
  | ((with_reducible refine Ob.mk ?_); first | (with_reducible rfl) | (first | ((repeat (first | (with_reducible exact grd_p H) | replace H := grd_k H | replace H := os1 H ‹_›)); done) | rfl | ((repeat (first | exact grd_p H | (have hp := grd_p H; exact hp) | replace H := grd_k H | replace H := os1 H ‹_› | (replace H := bind_some H; obtain ⟨_, _, H⟩ := H))); done) | (repeat (first | exact grd_p H | replace H := grd_k H | replace H := os1 H ‹_›))))
  | (with_reducible exact True.intro)
  | ((conv => whnf); first
      | (with_reducible refine And.intro ?_ ?_)
      | (with_reducible exact True.intro)
      | (with_reducible refine (?_ : Ob _))
      | ((with_reducible refine CallW.mk ?_); (repeat first | replace H := grd_k H | replace H := os1 H ‹_›); replace H := bind_some H; obtain ⟨y, hy, H⟩ := H; first | ((with_reducible have hz : irR _ = some y := hy); clear hz; refine ⟨_, _, irR.call hy ?_, rfl, rfl, ?_⟩))
      | ((repeat first | replace H := grd_k H | replace H := os1 H ‹_›); refine li1 (G70_ok.at tok []) (ct := [(4, none), (3, some [1, 4, 5, 6, 31, 32, 33, 34, 35, 45, 46, 47, 48, 49, 55])]) (F := (fun s1 : Bool × Bool × Int × Int × (List LR) × (List Int) => ⟨sl [(1, (.loc 0 0 0)), (5, (.own 1)), (7, (.bl s1.1)), (8, (.bl s1.2.1)), (37, (.own 2)), (38, (.v (.int .i64 s1.2.2.1))), (39, (.v (.int .i64 s1.2.2.2.1)))], [some (.box 27 [(.v (.string a0.1)), (.v (.string a0.2.1)), (.v (.int .i64 a0.2.2.1))]), some (.arr 70 tLR s1.2.2.2.2.1), some (.arr 3 (.int .i64) s1.2.2.2.2.2)]⟩)) (step := (fun s : Bool × Bool × Int × Int × (List LR) × (List Int) => iLrl _ s.1 s.2.1 s.2.2.1 s.2.2.2.1 s.2.2.2.2.1 s.2.2.2.2.2)) _ H (by kernel_rfl) (sa ?_) ?_; rotate_left; (intro s1 r v hr H); rotate_right)
      | ((with_reducible refine cutAt (id := 4) ?_); (repeat first | replace H := grd_k H | replace H := os1 H ‹_›); first | (replace H := bind_some H; obtain ⟨z, hz, H⟩ := H; refine CutC.mk (id := 4) ⟨sl [(1, (.loc 0 0 0)), (5, (.own 1)), (6, (.own 2)), (7, (.bl z.1))], [some (.box 27 [(.v (.string a0.1)), (.v (.string a0.2.1)), (.v (.int .i64 a0.2.2.1))]), some (.arr 70 tLR z.2.1), some (.arr 3 (.int .i64) z.2.2)]⟩ ?_ ?_; (replace H := hz)))
      | ((repeat first | replace H := grd_k H | replace H := os1 H ‹_›); have H := Option.some.inj H; subst H; with_reducible refine sa ?_)
      | ((repeat first | replace H := grd_k H | replace H := os1 H ‹_›); refine as1 H (by assumption) (sa ?_))
      | ((with_reducible refine fm ?_); (repeat first | replace H := grd_k H | replace H := os1 H ‹_›); have H := Option.some.inj H; subst H))
  | constructor
def G71 : Env := G70.add 73 [] iLr.S
theorem G71_ok : EnvOk Tryz.prog G71 := G70_ok.add ent_73 fun ar h r h1 ⟨a0, y, hy, e1, e2, e3, e4⟩ => by
 subst e3 e4; exact (iLr.spec a0 y hy).le e1 e2
attribute [local irreducible] iLr

noncomputable def iIVL (a0 : Log) : Option (Bool) :=
 ((iLr (a0.1, a0.2.1, a0.2.2.1, ())).bind fun y1 => (some y1.2))
def iIVL.res (_ : Log) (y : Bool) : AV := (.bl y)
def iIVL.out (_ : Log) (_ : Bool) : List (Option LB) := []
def iIVL.S (ar : List AV) (h : List (Option LB)) (r : AV) (h1 : List (Option LB)) : Prop := ∃ a0 y, iIVL a0 = some y ∧ leL ar [(.agg [(.v (.string a0.1)), (.v (.string a0.2.1)), (.v (.int .i64 a0.2.2.1))])] ∧ leH h [] ∧ r = iIVL.res a0 y ∧ h1 = iIVL.out a0 y
theorem iIVL.call {ar h a0 y} (H : iIVL a0 = some y) (h0 : leLk ar [(.agg [(.v (.string a0.1)), (.v (.string a0.2.1)), (.v (.int .i64 a0.2.2.1))])] (leHk h [])) : iIVL.S ar h (iIVL.res a0 y) (iIVL.out a0 y) := ⟨a0, y, H, (ao h0).1, (ao h0).2, rfl, rfl⟩
theorem iIVL.spec (a0 y) (H : iIVL a0 = some y) : Spec Tryz.prog 69 [(.agg [(.v (.string a0.1)), (.v (.string a0.2.1)), (.v (.int .i64 a0.2.2.1))])] [] (iIVL.res a0 y) (iIVL.out a0 y) := by
 refine si (G71_ok.at tok []) (ct := []) Tryz.func69 rfl (by kernel_rfl) (by kernel_rfl) rfl ?_
 repeat' first
  | ((with_reducible refine eqg ?_); exact rfl)
  | ((with_reducible refine KOb.mk ?_); kernel_rfl)
  | ((with_reducible intro h); (repeat first | replace H := grd_k H | replace H := os1 H ‹_›); first | replace H := ct1 h H | replace H := cf1 h H | exact absurd h (by decide) | skip)
  | ((with_reducible refine Ob.mk ?_); first | (with_reducible rfl) | (first | ((repeat (first | (with_reducible exact grd_p H) | replace H := grd_k H | replace H := os1 H ‹_›)); done) | rfl | ((repeat (first | exact grd_p H | (have hp := grd_p H; exact hp) | replace H := grd_k H | replace H := os1 H ‹_› | (replace H := bind_some H; obtain ⟨_, _, H⟩ := H))); done) | (repeat (first | exact grd_p H | replace H := grd_k H | replace H := os1 H ‹_›))))
  | (with_reducible exact True.intro)
  | ((conv => whnf); first
      | (with_reducible refine And.intro ?_ ?_)
      | (with_reducible exact True.intro)
      | (with_reducible refine (?_ : Ob _))
      | ((with_reducible refine CallW.mk ?_); (repeat first | replace H := grd_k H | replace H := os1 H ‹_›); replace H := bind_some H; obtain ⟨y, hy, H⟩ := H; first | ((with_reducible have hz : iLr _ = some y := hy); clear hz; refine ⟨_, _, iLr.call hy ?_, rfl, rfl, ?_⟩))
      | ((with_reducible refine fm ?_); (repeat first | replace H := grd_k H | replace H := os1 H ‹_›); have H := Option.some.inj H; subst H))
  | constructor
def G72 : Env := G71.add 69 [] iIVL.S
theorem G72_ok : EnvOk Tryz.prog G72 := G71_ok.add ent_69 fun ar h r h1 ⟨a0, y, hy, e1, e2, e3, e4⟩ => by
 subst e3 e4; exact (iIVL.spec a0 y hy).le e1 e2
attribute [local irreducible] iIVL

end Go.Proofs.YtaobinhdnklojaaGreatDoor
namespace Go.Proofs.YtaobinhdnklojaaGreatDoor
open Go.RowKit
set_option maxHeartbeats 100000000
set_option maxRecDepth 100000
attribute [local irreducible] Ob l5 Sub Spec Fin Again CallW CutC KOb iter

attribute [local irreducible] slNf iIR iIVL

noncomputable def iIVC (a0 : C1) : Option (Bool) :=
 ((iIR (a0.1.1, a0.1.2.1, a0.1.2.2.1, a0.1.2.2.2.1, a0.1.2.2.2.2.1, ())).bind fun y1 => (cond y1 ((iIVL (a0.2.1.1, a0.2.1.2.1, a0.2.1.2.2.1, ())).bind fun y2 => (some y2)) ((some false))))
def iIVC.res (_ : C1) (y : Bool) : AV := (.bl y)
def iIVC.out (_ : C1) (_ : Bool) : List (Option LB) := []
def iIVC.S (ar : List AV) (h : List (Option LB)) (r : AV) (h1 : List (Option LB)) : Prop := ∃ a0 y, iIVC a0 = some y ∧ leL ar [(.agg [(.v (.int .i64 a0.1.1)), (.tree tS a0.1.2.1), (.v (.int .i64 a0.1.2.2.1)), (.v (.int .i64 a0.1.2.2.2.1)), (.v (.int .i64 a0.1.2.2.2.2.1)), (.v (.string a0.2.1.1)), (.v (.string a0.2.1.2.1)), (.v (.int .i64 a0.2.1.2.2.1))])] ∧ leH h [] ∧ r = iIVC.res a0 y ∧ h1 = iIVC.out a0 y
theorem iIVC.call {ar h a0 y} (H : iIVC a0 = some y) (h0 : leLk ar [(.agg [(.v (.int .i64 a0.1.1)), (.tree tS a0.1.2.1), (.v (.int .i64 a0.1.2.2.1)), (.v (.int .i64 a0.1.2.2.2.1)), (.v (.int .i64 a0.1.2.2.2.2.1)), (.v (.string a0.2.1.1)), (.v (.string a0.2.1.2.1)), (.v (.int .i64 a0.2.1.2.2.1))])] (leHk h [])) : iIVC.S ar h (iIVC.res a0 y) (iIVC.out a0 y) := ⟨a0, y, H, (ao h0).1, (ao h0).2, rfl, rfl⟩
theorem iIVC.spec (a0 y) (H : iIVC a0 = some y) : Spec Tryz.prog 46 [(.agg [(.v (.int .i64 a0.1.1)), (.tree tS a0.1.2.1), (.v (.int .i64 a0.1.2.2.1)), (.v (.int .i64 a0.1.2.2.2.1)), (.v (.int .i64 a0.1.2.2.2.2.1)), (.v (.string a0.2.1.1)), (.v (.string a0.2.1.2.1)), (.v (.int .i64 a0.2.1.2.2.1))])] [] (iIVC.res a0 y) (iIVC.out a0 y) := by
 refine si (G72_ok.at tok []) (ct := []) Tryz.func46 rfl (by kernel_rfl) (by kernel_rfl) rfl ?_
 repeat' first
  | ((with_reducible refine eqg ?_); exact rfl)
  | ((with_reducible refine KOb.mk ?_); kernel_rfl)
  | ((with_reducible intro h); (repeat first | replace H := grd_k H | replace H := os1 H ‹_›); first | replace H := ct1 h H | replace H := cf1 h H | exact absurd h (by decide) | skip)
  | ((with_reducible refine Ob.mk ?_); first | (with_reducible rfl) | (first | ((repeat (first | (with_reducible exact grd_p H) | replace H := grd_k H | replace H := os1 H ‹_›)); done) | rfl | ((repeat (first | exact grd_p H | (have hp := grd_p H; exact hp) | replace H := grd_k H | replace H := os1 H ‹_› | (replace H := bind_some H; obtain ⟨_, _, H⟩ := H))); done) | (repeat (first | exact grd_p H | replace H := grd_k H | replace H := os1 H ‹_›))))
  | (with_reducible exact True.intro)
  | ((conv => whnf); first
      | (with_reducible refine And.intro ?_ ?_)
      | (with_reducible exact True.intro)
      | (with_reducible refine (?_ : Ob _))
      | ((with_reducible refine CallW.mk ?_); (repeat first | replace H := grd_k H | replace H := os1 H ‹_›); replace H := bind_some H; obtain ⟨y, hy, H⟩ := H; first | ((with_reducible have hz : iIR _ = some y := hy); clear hz; refine ⟨_, _, iIR.call hy ?_, rfl, rfl, ?_⟩) | ((with_reducible have hz : iIVL _ = some y := hy); clear hz; refine ⟨_, _, iIVL.call hy ?_, rfl, rfl, ?_⟩))
      | ((with_reducible refine fm ?_); (repeat first | replace H := grd_k H | replace H := os1 H ‹_›); have H := Option.some.inj H; subst H))
  | constructor
def G73 : Env := G72.add 46 [] iIVC.S
theorem G73_ok : EnvOk Tryz.prog G73 := G72_ok.add ent_46 fun ar h r h1 ⟨a0, y, hy, e1, e2, e3, e4⟩ => by
 subst e3 e4; exact (iIVC.spec a0 y hy).le e1 e2
attribute [local irreducible] iIVC

noncomputable def strings_Split (a0 : ByteArray) (a1 : ByteArray) : Option ((List ByteArray)) :=
 (grd (a0.size < 4294967281 ∧ 1 ≤ a1.size) ((some (splitB a0 a1))))
def strings_Split.res (_ : ByteArray) (_ : ByteArray) (_ : (List ByteArray)) : AV := (.own 0)
def strings_Split.out (_ : ByteArray) (_ : ByteArray) (y : (List ByteArray)) : List (Option LB) := [some (.arr 9 .str y)]
def strings_Split.S (ar : List AV) (h : List (Option LB)) (r : AV) (h1 : List (Option LB)) : Prop := ∃ a0 a1 y, strings_Split a0 a1 = some y ∧ leL ar [(.v (.string a0)), (.v (.string a1))] ∧ leH h [] ∧ r = strings_Split.res a0 a1 y ∧ h1 = strings_Split.out a0 a1 y
theorem strings_Split.call {ar h a0 a1 y} (H : strings_Split a0 a1 = some y) (h0 : leLk ar [(.v (.string a0)), (.v (.string a1))] (leHk h [])) : strings_Split.S ar h (strings_Split.res a0 a1 y) (strings_Split.out a0 a1 y) := ⟨a0, a1, y, H, (ao h0).1, (ao h0).2, rfl, rfl⟩
theorem strings_Split.spec (a0 a1 y) (H : strings_Split a0 a1 = some y) : Spec Tryz.prog 55 [(.v (.string a0)), (.v (.string a1))] [] (strings_Split.res a0 a1 y) (strings_Split.out a0 a1 y) := by
 have hg := grd_p H
 have H := Option.some.inj (grd_k H)
 subst H
 exact esS a0 a1 hg
def G74 : Env := G73.add 55 [] strings_Split.S
theorem G74_ok : EnvOk Tryz.prog G74 := G73_ok.add ent_55 fun ar h r h1 ⟨a0, a1, y, hy, e1, e2, e3, e4⟩ => by
 subst e3 e4; exact (strings_Split.spec a0 a1 y hy).le e1 e2
attribute [local irreducible] strings_Split

noncomputable def iPI (a0 : ByteArray) : Option (Int × Bool) :=
 (some (((pI a0).1), ((pI a0).2)))
def iPI.res (_ : ByteArray) (y : Int × Bool) : AV := (.tup [(.v (.int .i64 y.1)), (.bl y.2)])
def iPI.out (_ : ByteArray) (_ : Int × Bool) : List (Option LB) := []
def iPI.S (ar : List AV) (h : List (Option LB)) (r : AV) (h1 : List (Option LB)) : Prop := ∃ a0 y, iPI a0 = some y ∧ leL ar [(.v (.string a0))] ∧ leH h [] ∧ r = iPI.res a0 y ∧ h1 = iPI.out a0 y
theorem iPI.call {ar h a0 y} (H : iPI a0 = some y) (h0 : leLk ar [(.v (.string a0))] (leHk h [])) : iPI.S ar h (iPI.res a0 y) (iPI.out a0 y) := ⟨a0, y, H, (ao h0).1, (ao h0).2, rfl, rfl⟩
theorem iPI.spec (a0 y) (H : iPI a0 = some y) : Spec Tryz.prog 87 [(.v (.string a0))] [] (iPI.res a0 y) (iPI.out a0 y) := by
 have H := Option.some.inj H
 subst H
 exact eiPI a0
def G75 : Env := G74.add 87 [] iPI.S
theorem G75_ok : EnvOk Tryz.prog G75 := G74_ok.add ent_87 fun ar h r h1 ⟨a0, y, hy, e1, e2, e3, e4⟩ => by
 subst e3 e4; exact (iPI.spec a0 y hy).le e1 e2
attribute [local irreducible] iPI

noncomputable def isO (a0 : ByteArray) (a1 : (List Int)) : Option (RS1 × Bool) :=
 (cond (decide (a0 = (ByteArray.mk #[115, 116, 111, 112]))) (cond (!decide ((a1.length : Int) = (0 : Int))) ((some (((1 : Int), (0 : Int), ()), false))) ((some (((1 : Int), (0 : Int), ()), true)))) (cond (decide (a0 = (ByteArray.mk #[115, 108, 111, 119]))) (cond (!decide ((a1.length : Int) = (0 : Int))) ((some (((1 : Int), (1 : Int), ()), false))) ((some (((1 : Int), (1 : Int), ()), true)))) (cond (decide (a0 = (ByteArray.mk #[102, 97, 115, 116]))) (cond (!decide ((a1.length : Int) = (0 : Int))) ((some (((1 : Int), (2 : Int), ()), false))) ((some (((1 : Int), (2 : Int), ()), true)))) (cond (decide (a0 = (ByteArray.mk #[108, 111, 99, 107]))) (cond (!decide ((a1.length : Int) = (0 : Int))) ((some (((1 : Int), (3 : Int), ()), false))) ((some (((1 : Int), (3 : Int), ()), true)))) (cond (decide (a0 = (ByteArray.mk #[116, 117, 114, 110]))) (cond (!decide ((a1.length : Int) = (0 : Int))) ((some (((2 : Int), (0 : Int), ()), false))) ((some (((2 : Int), (0 : Int), ()), true)))) (cond (decide (a0 = (ByteArray.mk #[116, 97, 107, 101]))) (cond (!decide ((a1.length : Int) = (0 : Int))) ((some (((4 : Int), (0 : Int), ()), false))) ((some (((4 : Int), (0 : Int), ()), true)))) (cond (decide (a0 = (ByteArray.mk #[104, 97, 110, 103]))) (cond (!decide ((a1.length : Int) = (1 : Int))) ((some (((3 : Int), (0 : Int), ()), false))) (grd (0 ≤ (0 : Int) ∧ (0 : Int) < (a1.length : Int)) ((some (((3 : Int), (a1.getD ((0 : Int).toNat) 0), ()), true))))) (cond (decide (a0 = (ByteArray.mk #[100, 111, 111, 114]))) (cond (!decide ((a1.length : Int) = (1 : Int))) ((some (((7 : Int), (0 : Int), ()), false))) (grd (0 ≤ (0 : Int) ∧ (0 : Int) < (a1.length : Int)) ((some (((7 : Int), (a1.getD ((0 : Int).toNat) 0), ()), true))))) (cond (decide (a0 = (ByteArray.mk #[98, 111, 97, 114, 100]))) (cond (!decide ((a1.length : Int) = (1 : Int))) ((some (((5 : Int), (0 : Int), ()), false))) (grd (0 ≤ (0 : Int) ∧ (0 : Int) < (a1.length : Int)) ((some (((5 : Int), (a1.getD ((0 : Int).toNat) 0), ()), true))))) (cond (decide (a0 = (ByteArray.mk #[108, 101, 97, 118, 101]))) (cond (!decide ((a1.length : Int) = (1 : Int))) ((some (((6 : Int), (0 : Int), ()), false))) (grd (0 ≤ (0 : Int) ∧ (0 : Int) < (a1.length : Int)) ((some (((6 : Int), (a1.getD ((0 : Int).toNat) 0), ()), true))))) ((some (((0 : Int), (0 : Int), ()), false)))))))))))))
def isO.res (_ : ByteArray) (_ : (List Int)) (y : RS1 × Bool) : AV := (.tup [(.agg [(.v (.int .i64 y.1.1)), (.v (.int .i64 y.1.2.1))]), (.bl y.2)])
def isO.out (_ : ByteArray) (_ : (List Int)) (_ : RS1 × Bool) : List (Option LB) := []
def isO.S (ar : List AV) (h : List (Option LB)) (r : AV) (h1 : List (Option LB)) : Prop := ∃ a0 a1 y, isO a0 a1 = some y ∧ leL ar [(.v (.string a0)), (.tree (.int .i64) a1)] ∧ leH h [] ∧ r = isO.res a0 a1 y ∧ h1 = isO.out a0 a1 y
theorem isO.call {ar h a0 a1 y} (H : isO a0 a1 = some y) (h0 : leLk ar [(.v (.string a0)), (.tree (.int .i64) a1)] (leHk h [])) : isO.S ar h (isO.res a0 a1 y) (isO.out a0 a1 y) := ⟨a0, a1, y, H, (ao h0).1, (ao h0).2, rfl, rfl⟩
theorem isO.spec (a0 a1 y) (H : isO a0 a1 = some y) : Spec Tryz.prog 88 [(.v (.string a0)), (.tree (.int .i64) a1)] [] (isO.res a0 a1 y) (isO.out a0 a1 y) := by
 refine si (G75_ok.at tok []) (ct := [(11, some [1, 4, 6, 7, 9, 20]), (24, some [1, 4, 6, 7])]) Tryz.func88 rfl (by kernel_rfl) (by kernel_rfl) rfl ?_
 repeat' first
  | ((with_reducible refine eqg ?_); exact rfl)
  | ((with_reducible refine KOb.mk ?_); kernel_rfl)
  | ((with_reducible intro h); (repeat (first | (have hgp := grd_p H; replace H := grd_k H) | replace H := os1 H ‹_›)); first | replace H := ct1 h H | replace H := cf1 h H | exact absurd h (by decide) | skip)
  | ((with_reducible refine Ob.mk ?_); first | assumption | (with_reducible rfl) | (first | ((repeat (first | (with_reducible exact grd_p H) | replace H := grd_k H | replace H := os1 H ‹_›)); done) | rfl | ((repeat (first | exact grd_p H | (have hp := grd_p H; exact hp) | replace H := grd_k H | replace H := os1 H ‹_› | (replace H := bind_some H; obtain ⟨_, _, H⟩ := H))); done) | (repeat (first | exact grd_p H | replace H := grd_k H | replace H := os1 H ‹_›))))
  | (with_reducible exact True.intro)
  | ((conv => whnf); first
      | (with_reducible refine And.intro ?_ ?_)
      | (with_reducible exact True.intro)
      | (with_reducible refine (?_ : Ob _))
      | ((with_reducible refine fm ?_); (repeat first | replace H := grd_k H | replace H := os1 H ‹_›); have H := Option.some.inj H; subst H))
  | constructor
def G76 : Env := G75.add 88 [] isO.S
theorem G76_ok : EnvOk Tryz.prog G76 := G75_ok.add ent_88 fun ar h r h1 ⟨a0, a1, y, hy, e1, e2, e3, e4⟩ => by
 subst e3 e4; exact (isO.spec a0 a1 y hy).le e1 e2
attribute [local irreducible] isO

noncomputable def iRa1 (a0 : Slot) : Option (Bool) :=
 (some a0.2.1)
def iRa1.res (_ : Slot) (y : Bool) : AV := (.bl y)
def iRa1.out (_ : Slot) (_ : Bool) : List (Option LB) := []
def iRa1.S (ar : List AV) (h : List (Option LB)) (r : AV) (h1 : List (Option LB)) : Prop := ∃ a0 y, iRa1 a0 = some y ∧ leL ar [(.agg [(.v (.int .i64 a0.1)), (.bl a0.2.1), (.v (.int .i64 a0.2.2.1))])] ∧ leH h [] ∧ r = iRa1.res a0 y ∧ h1 = iRa1.out a0 y
theorem iRa1.call {ar h a0 y} (H : iRa1 a0 = some y) (h0 : leLk ar [(.agg [(.v (.int .i64 a0.1)), (.bl a0.2.1), (.v (.int .i64 a0.2.2.1))])] (leHk h [])) : iRa1.S ar h (iRa1.res a0 y) (iRa1.out a0 y) := ⟨a0, y, H, (ao h0).1, (ao h0).2, rfl, rfl⟩
theorem iRa1.spec (a0 y) (H : iRa1 a0 = some y) : Spec Tryz.prog 160 [(.agg [(.v (.int .i64 a0.1)), (.bl a0.2.1), (.v (.int .i64 a0.2.2.1))])] [] (iRa1.res a0 y) (iRa1.out a0 y) := by
 refine si (G76_ok.at tok []) (ct := []) Tryz.func160 rfl (by kernel_rfl) (by kernel_rfl) rfl ?_
 repeat' first
  | ((with_reducible refine eqg ?_); exact rfl)
  | ((with_reducible refine KOb.mk ?_); kernel_rfl)
  | ((with_reducible intro h); (repeat first | replace H := grd_k H | replace H := os1 H ‹_›); first | replace H := ct1 h H | replace H := cf1 h H | exact absurd h (by decide) | skip)
  | ((with_reducible refine Ob.mk ?_); first | (with_reducible rfl) | (first | ((repeat (first | (with_reducible exact grd_p H) | replace H := grd_k H | replace H := os1 H ‹_›)); done) | rfl | ((repeat (first | exact grd_p H | (have hp := grd_p H; exact hp) | replace H := grd_k H | replace H := os1 H ‹_› | (replace H := bind_some H; obtain ⟨_, _, H⟩ := H))); done) | (repeat (first | exact grd_p H | replace H := grd_k H | replace H := os1 H ‹_›))))
  | (with_reducible exact True.intro)
  | ((conv => whnf); first
      | (with_reducible refine And.intro ?_ ?_)
      | (with_reducible exact True.intro)
      | (with_reducible refine (?_ : Ob _))
      | ((with_reducible refine fm ?_); (repeat first | replace H := grd_k H | replace H := os1 H ‹_›); have H := Option.some.inj H; subst H))
  | constructor
def G77 : Env := G76.add 160 [] iRa1.S
theorem G77_ok : EnvOk Tryz.prog G77 := G76_ok.add ent_160 fun ar h r h1 ⟨a0, y, hy, e1, e2, e3, e4⟩ => by
 subst e3 e4; exact (iRa1.spec a0 y hy).le e1 e2
attribute [local irreducible] iRa1

noncomputable def sGiS (a1 : Int) : Option (((List Slot)) ⊕ (Unit)) :=
 ((cond (decide (a1 < (0 : Int))) (grd (False) none) ((some ()))).bind fun _ => (cond (decide ((0 : Int) < (w64 (a1 - (w64 ((0 : Int) - (0 : Int))))))) (grd (0 ≤ (0 : Int) ∧ (0 : Int) ≤ (0 : Int) ∧ (0 : Int) ≤ (0 : Int)) (grd (0 < (w64 (a1 - (w64 ((0 : Int) - (0 : Int))))) ∧ (24 : Int) * (w64 (a1 - (w64 ((0 : Int) - (0 : Int))))) ≤ 140737488355328 ∧ (w64 (a1 - (w64 ((0 : Int) - (0 : Int))))) ≤ 140737488355328) (grd (0 ≤ (0 : Int) ∧ (0 : Int) ≤ (0 : Int) ∧ (0 : Int) ≤ ((List.replicate (w64 (a1 - (w64 ((0 : Int) - (0 : Int))))).toNat ((0 : Int), false, (0 : Int), ())).length : Int)) ((some (Sum.inl ((List.replicate (w64 (a1 - (w64 ((0 : Int) - (0 : Int))))).toNat ((0 : Int), false, (0 : Int), ())).take (0 : Int).toNat))))))) ((some (Sum.inr ())))))
def sGiS.res (_ : Int) (y : ((List Slot)) ⊕ (Unit)) : AV := match y with
 | (.inl _) => (.own 0)
 | (.inr _) => (.v (.slice none 0 0))
def sGiS.out (_ : Int) (y : ((List Slot)) ⊕ (Unit)) : List (Option LB) := match y with
 | (.inl y) => [some (.arr 96 tS y)]
 | (.inr _) => []
def sGiS.S (ar : List AV) (h : List (Option LB)) (r : AV) (h1 : List (Option LB)) : Prop := ∃ a1 y, sGiS a1 = some y ∧ leL ar [(.v (.slice none 0 0)), (.v (.int .i64 a1))] ∧ leH h [] ∧ r = sGiS.res a1 y ∧ h1 = sGiS.out a1 y
theorem sGiS.call {ar h a1 y} (H : sGiS a1 = some y) (h0 : leLk ar [(.v (.slice none 0 0)), (.v (.int .i64 a1))] (leHk h [])) : sGiS.S ar h (sGiS.res a1 y) (sGiS.out a1 y) := ⟨a1, y, H, (ao h0).1, (ao h0).2, rfl, rfl⟩
theorem sGiS.spec (a1 y) (H : sGiS a1 = some y) : Spec Tryz.prog 189 [(.v (.slice none 0 0)), (.v (.int .i64 a1))] [] (sGiS.res a1 y) (sGiS.out a1 y) := by
 have hlen : Nat.ble ([] : List (Option LB)).length (sGiS.out a1 y).length = true := by
  rcases y with y | y <;> rfl
 refine si (G77_ok.at tok [25]) (ct := [(3, none), (6, some [0])]) Tryz.func189 rfl (by kernel_rfl) (by kernel_rfl) hlen ?_
 repeat' first
  | ((with_reducible refine eqg ?_); exact rfl)
  | ((with_reducible refine KOb.mk ?_); kernel_rfl)
  | ((with_reducible intro h); (repeat first | replace H := grd_k H | replace H := os1 H ‹_›); first | replace H := ct1 h H | replace H := cf1 h H | exact absurd h (by decide) | skip)
  | ((with_reducible refine Ob.mk ?_); first | (with_reducible rfl) | (first | ((repeat (first | (with_reducible exact grd_p H) | replace H := grd_k H | replace H := os1 H ‹_›)); done) | rfl | ((repeat (first | exact grd_p H | (have hp := grd_p H; exact hp) | replace H := grd_k H | replace H := os1 H ‹_› | (replace H := bind_some H; obtain ⟨_, _, H⟩ := H))); done) | (repeat (first | exact grd_p H | replace H := grd_k H | replace H := os1 H ‹_›))))
  | (with_reducible exact True.intro)
  | ((conv => whnf); first
      | (with_reducible refine And.intro ?_ ?_)
      | (with_reducible exact True.intro)
      | (with_reducible refine (?_ : Ob _))
      | ((with_reducible refine cutAt (id := 3) ?_); (repeat first | replace H := grd_k H | replace H := os1 H ‹_›); first | (replace H := bind_some H; obtain ⟨z, hz, H⟩ := H; refine CutC.mk (id := 3) ⟨sl [(0, (.v (.slice none 0 0))), (1, (.v (.int .i64 a1)))], []⟩ ?_ ?_; (replace H := hz)))
      | ((repeat first | replace H := grd_k H | replace H := os1 H ‹_›); have H := Option.some.inj H; subst H; with_reducible refine sa ?_)
      | ((with_reducible refine fm ?_); (repeat first | replace H := grd_k H | replace H := os1 H ‹_›); have H := Option.some.inj H; subst H))
  | constructor
 all_goals exact viewz _ _
def G78 : Env := G77.add 189 [true] sGiS.S
theorem G78_ok : EnvOk Tryz.prog G78 := G77_ok.add ent_189 fun ar h r h1 ⟨a1, y, hy, e1, e2, e3, e4⟩ => by
 subst e3 e4; exact (sGiS.spec a1 y hy).le e1 e2
attribute [local irreducible] sGiS

end Go.Proofs.YtaobinhdnklojaaGreatDoor
namespace Go.Proofs.YtaobinhdnklojaaGreatDoor
open Go.RowKit
set_option maxHeartbeats 100000000
set_option maxRecDepth 100000
attribute [local irreducible] Ob l5 Sub Spec Fin Again CallW CutC KOb iter

attribute [local irreducible] slNf iRa1 sGiS

noncomputable def sCiS3 (a0 : (List (List Slot))) (v3 : Int) (v4 : Int) : Option (Lp (Int × Int) ((Int))) :=
 (cond (decide (v4 < (a0.length : Int))) (grd (0 ≤ v4 ∧ v4 < (a0.length : Int)) (cond (decide ((w64 (v3 + ((a0.getD v4.toNat []).length : Int))) < (0 : Int))) (grd (False) none) (some (.go ((w64 (v3 + ((a0.getD v4.toNat []).length : Int))), (w64 (v4 + (1 : Int)))))))) ((some (.out v3))))
noncomputable def sCiS2 (a0 : (List (List Slot))) (v11 : Int) (v12 : (List Slot)) : Option (Lp (Int × (List Slot)) (((List Slot)))) :=
 (cond (decide (v11 < (a0.length : Int))) (grd (0 ≤ v11 ∧ v11 < (a0.length : Int)) (grd (v12.length + (a0.getD v11.toNat []).length ≤ 140737488355328 / 24 ∧ v12.length + (a0.getD v11.toNat []).length ≤ 140737488355328) (some (.go ((w64 (v11 + (1 : Int))), (v12 ++ (a0.getD v11.toNat []))))))) ((some (.out v12))))
noncomputable def sCiS1 (a0 : (List (List Slot))) : Option ((List Slot)) :=
 ((iter (fun s => sCiS3 a0 s.1 s.2) ((0 : Int), (0 : Int))).bind (fun r5 => ((sGiS r5).bind (Sum.elim (fun y7 => ((iter (fun s => sCiS2 a0 s.1 s.2) ((0 : Int), y7)).bind (fun r13 => (some r13)))) (fun _ => (grd (False) none))))))
def sCiS1.res (_ : (List (List Slot))) (_ : (List Slot)) : AV := (.own 0)
def sCiS1.out (_ : (List (List Slot))) (y : (List Slot)) : List (Option LB) := [some (.arr 96 tS y)]
def sCiS1.S (ar : List AV) (h : List (Option LB)) (r : AV) (h1 : List (Option LB)) : Prop := ∃ a0 y, sCiS1 a0 = some y ∧ leL ar [(.tree (.sl tS) a0)] ∧ leH h [] ∧ r = sCiS1.res a0 y ∧ h1 = sCiS1.out a0 y
theorem sCiS1.call {ar h a0 y} (H : sCiS1 a0 = some y) (h0 : leLk ar [(.tree (.sl tS) a0)] (leHk h [])) : sCiS1.S ar h (sCiS1.res a0 y) (sCiS1.out a0 y) := ⟨a0, y, H, (ao h0).1, (ao h0).2, rfl, rfl⟩
theorem sCiS1.spec (a0 y) (H : sCiS1 a0 = some y) : Spec Tryz.prog 161 [(.tree (.sl tS) a0)] [] (sCiS1.res a0 y) (sCiS1.out a0 y) := by
 refine si (G78_ok.at tok []) (ct := [(15, some [6])]) Tryz.func161 rfl (by kernel_rfl) (by kernel_rfl) rfl ?_
 repeat' first
  | ((with_reducible refine eqg ?_); exact rfl)
  | ((with_reducible refine KOb.mk ?_); kernel_rfl)
  | ((with_reducible intro h); (repeat first | replace H := grd_k H | replace H := os1 H ‹_›); first | replace H := ct1 h H | replace H := cf1 h H | exact absurd h (by decide) | skip)
  | ((with_reducible refine Ob.mk ?_); first | (with_reducible rfl) | (first | ((repeat (first | (with_reducible exact grd_p H) | replace H := grd_k H | replace H := os1 H ‹_›)); done) | rfl | ((repeat (first | exact grd_p H | (have hp := grd_p H; exact hp) | replace H := grd_k H | replace H := os1 H ‹_› | (replace H := bind_some H; obtain ⟨_, _, H⟩ := H))); done) | (repeat (first | exact grd_p H | replace H := grd_k H | replace H := os1 H ‹_›))))
  | (with_reducible exact True.intro)
  | ((conv => whnf); first
      | (with_reducible refine And.intro ?_ ?_)
      | (with_reducible exact True.intro)
      | (with_reducible refine (?_ : Ob _))
      | ((with_reducible refine CallW.mk ?_); (repeat first | replace H := grd_k H | replace H := os1 H ‹_›); replace H := bind_some H; obtain ⟨y, hy, H⟩ := H; first | ((with_reducible have hz : sGiS _ = some y := hy); clear hz; rcases y with y | y <;> refine ⟨_, _, sGiS.call hy ?_, rfl, rfl, ?_⟩))
      | ((repeat first | replace H := grd_k H | replace H := os1 H ‹_›); refine li1 (G78_ok.at tok []) (ct := [(15, some [6])]) (F := (fun s1 : Int × Int => ⟨sl [(0, (.tree (.sl tS) a0)), (3, (.v (.int .i64 s1.1))), (9, (.tree (.sl tS) a0)), (10, (.v (.int .i64 (a0.length : Int)))), (11, (.v (.int .i64 s1.2)))], []⟩)) (step := (fun s : Int × Int => sCiS3 _ s.1 s.2)) _ H (by kernel_rfl) (sa ?_) ?_; rotate_left; (intro s1 r v hr H); rotate_right)
      | ((repeat first | replace H := grd_k H | replace H := os1 H ‹_›); refine li1 (G78_ok.at tok []) (ct := [(15, some [6])]) (F := (fun s2 : Int × (List Slot) => ⟨sl [(6, (.own 0)), (25, (.tree (.sl tS) a0)), (26, (.v (.int .i64 (a0.length : Int)))), (27, (.v (.int .i64 s2.1)))], [some (.arr 96 tS s2.2)]⟩)) (step := (fun s : Int × (List Slot) => sCiS2 _ s.1 s.2)) _ H (by kernel_rfl) (sa ?_) ?_; rotate_left; (intro s2 r v hr H); rotate_right)
      | ((repeat first | replace H := grd_k H | replace H := os1 H ‹_›); refine as1 H (by assumption) (sa ?_))
      | ((with_reducible refine fm ?_); (repeat first | replace H := grd_k H | replace H := os1 H ‹_›); have H := Option.some.inj H; subst H)
      | (exact (grd_no H).elim))
  | constructor
 all_goals exact viewz _ _
def G79 : Env := G78.add 161 [] sCiS1.S
theorem G79_ok : EnvOk Tryz.prog G79 := G78_ok.add ent_161 fun ar h r h1 ⟨a0, y, hy, e1, e2, e3, e4⟩ => by
 subst e3 e4; exact (sCiS1.spec a0 y hy).le e1 e2
attribute [local irreducible] sCiS1

noncomputable def iRcA (a0 : Slot) (a100 : Int) : Option (Bool) :=
 (cond (decide ((0 : Int) < a0.1)) ((some (decide (a0.1 = a100)))) ((some false)))
def iRcA.res (_ : Slot) (_ : Int) (y : Bool) : AV := (.bl y)
def iRcA.out (_ : Slot) (_ : Int) (_ : Bool) : List (Option LB) := []
def iRcA.S (ar : List AV) (h : List (Option LB)) (r : AV) (h1 : List (Option LB)) : Prop := ∃ a0 a100 y, iRcA a0 a100 = some y ∧ leL ar [(.agg [(.v (.int .i64 a0.1)), (.bl a0.2.1), (.v (.int .i64 a0.2.2.1))]), (.bptr [(.v (.int .i64 a100))] 0)] ∧ leH h [] ∧ r = iRcA.res a0 a100 y ∧ h1 = iRcA.out a0 a100 y
theorem iRcA.call {ar h a0 a100 y} (H : iRcA a0 a100 = some y) (h0 : leLk ar [(.agg [(.v (.int .i64 a0.1)), (.bl a0.2.1), (.v (.int .i64 a0.2.2.1))]), (.bptr [(.v (.int .i64 a100))] 0)] (leHk h [])) : iRcA.S ar h (iRcA.res a0 a100 y) (iRcA.out a0 a100 y) := ⟨a0, a100, y, H, (ao h0).1, (ao h0).2, rfl, rfl⟩
theorem iRcA.spec (a0 a100 y) (H : iRcA a0 a100 = some y) : Spec Tryz.prog 190 [(.agg [(.v (.int .i64 a0.1)), (.bl a0.2.1), (.v (.int .i64 a0.2.2.1))]), (.bptr [(.v (.int .i64 a100))] 0)] [] (iRcA.res a0 a100 y) (iRcA.out a0 a100 y) := by
 refine si (G79_ok.at tok []) (ct := []) Tryz.func190 rfl (by kernel_rfl) (by kernel_rfl) rfl ?_
 repeat' first
  | ((with_reducible refine eqg ?_); exact rfl)
  | ((with_reducible refine KOb.mk ?_); kernel_rfl)
  | ((with_reducible intro h); (repeat first | replace H := grd_k H | replace H := os1 H ‹_›); first | replace H := ct1 h H | replace H := cf1 h H | exact absurd h (by decide) | skip)
  | ((with_reducible refine Ob.mk ?_); first | (with_reducible rfl) | (first | ((repeat (first | (with_reducible exact grd_p H) | replace H := grd_k H | replace H := os1 H ‹_›)); done) | rfl | ((repeat (first | exact grd_p H | (have hp := grd_p H; exact hp) | replace H := grd_k H | replace H := os1 H ‹_› | (replace H := bind_some H; obtain ⟨_, _, H⟩ := H))); done) | (repeat (first | exact grd_p H | replace H := grd_k H | replace H := os1 H ‹_›))))
  | (with_reducible exact True.intro)
  | ((conv => whnf); first
      | (with_reducible refine And.intro ?_ ?_)
      | (with_reducible exact True.intro)
      | (with_reducible refine (?_ : Ob _))
      | ((with_reducible refine fm ?_); (repeat first | replace H := grd_k H | replace H := os1 H ‹_›); have H := Option.some.inj H; subst H))
  | constructor
def G80 : Env := G79.add 190 [] iRcA.S
theorem G80_ok : EnvOk Tryz.prog G80 := G79_ok.add ent_190 fun ar h r h1 ⟨a0, a100, y, hy, e1, e2, e3, e4⟩ => by
 subst e3 e4; exact (iRcA.spec a0 a100 y hy).le e1 e2
attribute [local irreducible] iRcA

noncomputable def sIFi3 (a0 : (List Slot)) (a100 : Int) (v4 : Int) : Option (Lp (Int) ((Int) ⊕ (Unit))) :=
 (cond (decide (v4 < (a0.length : Int))) (grd (0 ≤ v4 ∧ v4 < (a0.length : Int)) ((iRcA ((a0.getD v4.toNat dS).1, (a0.getD v4.toNat dS).2.1, (a0.getD v4.toNat dS).2.2.1, ()) a100).bind fun y5 => (cond y5 ((some (.out (Sum.inl v4)))) (some (.go (w64 (v4 + (1 : Int)))))))) ((some (.out (Sum.inr ())))))
noncomputable def sIFi (a0 : (List Slot)) (a100 : Int) : Option (Int) :=
 ((iter (fun s => sIFi3 a0 a100 s) (0 : Int)).bind (Sum.elim (fun r7 => (some r7)) (fun _ => (some ((-1) : Int)))))
def sIFi.res (_ : (List Slot)) (_ : Int) (y : Int) : AV := (.v (.int .i64 y))
def sIFi.out (_ : (List Slot)) (_ : Int) (_ : Int) : List (Option LB) := []
def sIFi.S (ar : List AV) (h : List (Option LB)) (r : AV) (h1 : List (Option LB)) : Prop := ∃ a0 a100 y, sIFi a0 a100 = some y ∧ leL ar [(.tree tS a0), (.fn 190 [(.bptr [(.v (.int .i64 a100))] 0)])] ∧ leH h [] ∧ r = sIFi.res a0 a100 y ∧ h1 = sIFi.out a0 a100 y
theorem sIFi.call {ar h a0 a100 y} (H : sIFi a0 a100 = some y) (h0 : leLk ar [(.tree tS a0), (.fn 190 [(.bptr [(.v (.int .i64 a100))] 0)])] (leHk h [])) : sIFi.S ar h (sIFi.res a0 a100 y) (sIFi.out a0 a100 y) := ⟨a0, a100, y, H, (ao h0).1, (ao h0).2, rfl, rfl⟩
theorem sIFi.spec (a0 a100 y) (H : sIFi a0 a100 = some y) : Spec Tryz.prog 156 [(.tree tS a0), (.fn 190 [(.bptr [(.v (.int .i64 a100))] 0)])] [] (sIFi.res a0 a100 y) (sIFi.out a0 a100 y) := by
 refine si (G80_ok.at tok []) (ct := []) Tryz.func156 rfl (by kernel_rfl) (by kernel_rfl) rfl ?_
 repeat' first
  | ((with_reducible refine eqg ?_); exact rfl)
  | ((with_reducible refine KOb.mk ?_); kernel_rfl)
  | ((with_reducible intro h); (repeat first | replace H := grd_k H | replace H := os1 H ‹_›); first | replace H := ct1 h H | replace H := cf1 h H | exact absurd h (by decide) | skip)
  | ((with_reducible refine Ob.mk ?_); first | (with_reducible rfl) | (first | ((repeat (first | (with_reducible exact grd_p H) | replace H := grd_k H | replace H := os1 H ‹_›)); done) | rfl | ((repeat (first | exact grd_p H | (have hp := grd_p H; exact hp) | replace H := grd_k H | replace H := os1 H ‹_› | (replace H := bind_some H; obtain ⟨_, _, H⟩ := H))); done) | (repeat (first | exact grd_p H | replace H := grd_k H | replace H := os1 H ‹_›))))
  | (with_reducible exact True.intro)
  | ((conv => whnf); first
      | (with_reducible refine And.intro ?_ ?_)
      | (with_reducible exact True.intro)
      | (with_reducible refine (?_ : Ob _))
      | ((with_reducible refine CallW.mk ?_); (repeat first | replace H := grd_k H | replace H := os1 H ‹_›); replace H := bind_some H; obtain ⟨y, hy, H⟩ := H; first | ((with_reducible have hz : iRcA _ _ = some y := hy); clear hz; refine ⟨_, _, iRcA.call hy ?_, rfl, rfl, ?_⟩))
      | ((repeat first | replace H := grd_k H | replace H := os1 H ‹_›); refine li1 (G80_ok.at tok []) (ct := []) (F := (fun s1 : Int => ⟨sl [(0, (.tree tS a0)), (1, (.fn 190 [(.bptr [(.v (.int .i64 a100))] 0)])), (7, (.v (.int .i64 (a0.length : Int)))), (8, (.v (.int .i64 s1)))], []⟩)) (step := (fun s : Int => sIFi3 _ _ s)) _ H (by kernel_rfl) (sa ?_) ?_; rotate_left; (intro s1 r v hr H); rotate_right)
      | ((repeat first | replace H := grd_k H | replace H := os1 H ‹_›); refine as1 H (by assumption) (sa ?_))
      | ((with_reducible refine fm ?_); (repeat first | replace H := grd_k H | replace H := os1 H ‹_›); have H := Option.some.inj H; subst H))
  | constructor
 all_goals exact viewz _ _
def G81 : Env := G80.addOr 156 [] sIFi.S
theorem G81_ok : EnvOk Tryz.prog G81 := G80_ok.addOr ent_156 fun ar h r h1 ⟨a0, a100, y, hy, e1, e2, e3, e4⟩ => by
 subst e3 e4; exact (sIFi.spec a0 a100 y hy).le e1 e2
attribute [local irreducible] sIFi

noncomputable def iRcA1 (a0 : R1) (a1 : Int) : Option (Int) :=
 ((sIFi a0.2.1 a1).bind fun y1 => (some y1))
def iRcA1.res (_ : R1) (_ : Int) (y : Int) : AV := (.v (.int .i64 y))
def iRcA1.out (_ : R1) (_ : Int) (_ : Int) : List (Option LB) := []
def iRcA1.S (ar : List AV) (h : List (Option LB)) (r : AV) (h1 : List (Option LB)) : Prop := ∃ a0 a1 y, iRcA1 a0 a1 = some y ∧ leL ar [(.agg [(.v (.int .i64 a0.1)), (.tree tS a0.2.1), (.v (.int .i64 a0.2.2.1)), (.v (.int .i64 a0.2.2.2.1)), (.v (.int .i64 a0.2.2.2.2.1))]), (.v (.int .i64 a1))] ∧ leH h [] ∧ r = iRcA1.res a0 a1 y ∧ h1 = iRcA1.out a0 a1 y
theorem iRcA1.call {ar h a0 a1 y} (H : iRcA1 a0 a1 = some y) (h0 : leLk ar [(.agg [(.v (.int .i64 a0.1)), (.tree tS a0.2.1), (.v (.int .i64 a0.2.2.1)), (.v (.int .i64 a0.2.2.2.1)), (.v (.int .i64 a0.2.2.2.2.1))]), (.v (.int .i64 a1))] (leHk h [])) : iRcA1.S ar h (iRcA1.res a0 a1 y) (iRcA1.out a0 a1 y) := ⟨a0, a1, y, H, (ao h0).1, (ao h0).2, rfl, rfl⟩
theorem iRcA1.spec (a0 a1 y) (H : iRcA1 a0 a1 = some y) : Spec Tryz.prog 162 [(.agg [(.v (.int .i64 a0.1)), (.tree tS a0.2.1), (.v (.int .i64 a0.2.2.1)), (.v (.int .i64 a0.2.2.2.1)), (.v (.int .i64 a0.2.2.2.2.1))]), (.v (.int .i64 a1))] [] (iRcA1.res a0 a1 y) (iRcA1.out a0 a1 y) := by
 refine si (G81_ok.at tok []) (ct := []) Tryz.func162 rfl (by kernel_rfl) (by kernel_rfl) rfl ?_
 repeat' first
  | ((with_reducible refine eqg ?_); exact rfl)
  | ((with_reducible refine KOb.mk ?_); kernel_rfl)
  | ((with_reducible intro h); (repeat first | replace H := grd_k H | replace H := os1 H ‹_›); first | replace H := ct1 h H | replace H := cf1 h H | exact absurd h (by decide) | skip)
  | ((with_reducible refine Ob.mk ?_); first | (with_reducible rfl) | (first | ((repeat (first | (with_reducible exact grd_p H) | replace H := grd_k H | replace H := os1 H ‹_›)); done) | rfl | ((repeat (first | exact grd_p H | (have hp := grd_p H; exact hp) | replace H := grd_k H | replace H := os1 H ‹_› | (replace H := bind_some H; obtain ⟨_, _, H⟩ := H))); done) | (repeat (first | exact grd_p H | replace H := grd_k H | replace H := os1 H ‹_›))))
  | (with_reducible exact True.intro)
  | ((conv => whnf); first
      | (with_reducible refine And.intro ?_ ?_)
      | (with_reducible exact True.intro)
      | (with_reducible refine (?_ : Ob _))
      | ((with_reducible refine CallW.mk ?_); (repeat first | replace H := grd_k H | replace H := os1 H ‹_›); replace H := bind_some H; obtain ⟨y, hy, H⟩ := H; first | ((with_reducible have hz : sIFi _ _ = some y := hy); clear hz; refine Exists.intro _ (Exists.intro _ ⟨Or.inl (sIFi.call hy ?_), rfl, rfl, ?_⟩)))
      | ((with_reducible refine fm ?_); (repeat first | replace H := grd_k H | replace H := os1 H ‹_›); have H := Option.some.inj H; subst H))
  | constructor
def G82 : Env := G81.add 162 [] iRcA1.S
theorem G82_ok : EnvOk Tryz.prog G82 := G81_ok.add ent_162 fun ar h r h1 ⟨a0, a1, y, hy, e1, e2, e3, e4⟩ => by
 subst e3 e4; exact (iRcA1.spec a0 a1 y hy).le e1 e2
attribute [local irreducible] iRcA1

noncomputable def iRsO (a0 : R1) (a1 : Int) : Option (Int) :=
 (grd ((2 : Int) ≠ 0) ((some (w64 (Int.tdiv (w64 (a1 * (a0.2.1.length : Int))) (2 : Int))))))
def iRsO.res (_ : R1) (_ : Int) (y : Int) : AV := (.v (.int .i64 y))
def iRsO.out (_ : R1) (_ : Int) (_ : Int) : List (Option LB) := []
def iRsO.S (ar : List AV) (h : List (Option LB)) (r : AV) (h1 : List (Option LB)) : Prop := ∃ a0 a1 y, iRsO a0 a1 = some y ∧ leL ar [(.agg [(.v (.int .i64 a0.1)), (.tree tS a0.2.1), (.v (.int .i64 a0.2.2.1)), (.v (.int .i64 a0.2.2.2.1)), (.v (.int .i64 a0.2.2.2.2.1))]), (.v (.int .i64 a1))] ∧ leH h [] ∧ r = iRsO.res a0 a1 y ∧ h1 = iRsO.out a0 a1 y
theorem iRsO.call {ar h a0 a1 y} (H : iRsO a0 a1 = some y) (h0 : leLk ar [(.agg [(.v (.int .i64 a0.1)), (.tree tS a0.2.1), (.v (.int .i64 a0.2.2.1)), (.v (.int .i64 a0.2.2.2.1)), (.v (.int .i64 a0.2.2.2.2.1))]), (.v (.int .i64 a1))] (leHk h [])) : iRsO.S ar h (iRsO.res a0 a1 y) (iRsO.out a0 a1 y) := ⟨a0, a1, y, H, (ao h0).1, (ao h0).2, rfl, rfl⟩
theorem iRsO.spec (a0 a1 y) (H : iRsO a0 a1 = some y) : Spec Tryz.prog 130 [(.agg [(.v (.int .i64 a0.1)), (.tree tS a0.2.1), (.v (.int .i64 a0.2.2.1)), (.v (.int .i64 a0.2.2.2.1)), (.v (.int .i64 a0.2.2.2.2.1))]), (.v (.int .i64 a1))] [] (iRsO.res a0 a1 y) (iRsO.out a0 a1 y) := by
 refine si (G82_ok.at tok []) (ct := []) Tryz.func130 rfl (by kernel_rfl) (by kernel_rfl) rfl ?_
 repeat' first
  | ((with_reducible refine eqg ?_); exact rfl)
  | ((with_reducible refine KOb.mk ?_); kernel_rfl)
  | ((with_reducible intro h); (repeat first | replace H := grd_k H | replace H := os1 H ‹_›); first | replace H := ct1 h H | replace H := cf1 h H | exact absurd h (by decide) | skip)
  | ((with_reducible refine Ob.mk ?_); first | (with_reducible rfl) | (first | ((repeat (first | (with_reducible exact grd_p H) | replace H := grd_k H | replace H := os1 H ‹_›)); done) | rfl | ((repeat (first | exact grd_p H | (have hp := grd_p H; exact hp) | replace H := grd_k H | replace H := os1 H ‹_› | (replace H := bind_some H; obtain ⟨_, _, H⟩ := H))); done) | (repeat (first | exact grd_p H | replace H := grd_k H | replace H := os1 H ‹_›))))
  | (with_reducible exact True.intro)
  | ((conv => whnf); first
      | (with_reducible refine And.intro ?_ ?_)
      | (with_reducible exact True.intro)
      | (with_reducible refine (?_ : Ob _))
      | ((with_reducible refine fm ?_); (repeat first | replace H := grd_k H | replace H := os1 H ‹_›); have H := Option.some.inj H; subst H))
  | constructor
def G83 : Env := G82.add 130 [] iRsO.S
theorem G83_ok : EnvOk Tryz.prog G83 := G82_ok.add ent_130 fun ar h r h1 ⟨a0, a1, y, hy, e1, e2, e3, e4⟩ => by
 subst e3 e4; exact (iRsO.spec a0 a1 y hy).le e1 e2
attribute [local irreducible] iRsO

noncomputable def sIFi4 (a0 : (List Slot)) (v4 : Int) : Option (Lp (Int) ((Int) ⊕ (Unit))) :=
 (cond (decide (v4 < (a0.length : Int))) (grd (0 ≤ v4 ∧ v4 < (a0.length : Int)) ((iRa1 ((a0.getD v4.toNat dS).1, (a0.getD v4.toNat dS).2.1, (a0.getD v4.toNat dS).2.2.1, ())).bind fun y5 => (cond y5 ((some (.out (Sum.inl v4)))) (some (.go (w64 (v4 + (1 : Int)))))))) ((some (.out (Sum.inr ())))))
noncomputable def sIFi1 (a0 : (List Slot)) : Option (Int) :=
 ((iter (fun s => sIFi4 a0 s) (0 : Int)).bind (Sum.elim (fun r7 => (some r7)) (fun _ => (some ((-1) : Int)))))
def sIFi1.res (_ : (List Slot)) (y : Int) : AV := (.v (.int .i64 y))
def sIFi1.out (_ : (List Slot)) (_ : Int) : List (Option LB) := []
def sIFi1.S (ar : List AV) (h : List (Option LB)) (r : AV) (h1 : List (Option LB)) : Prop := ∃ a0 y, sIFi1 a0 = some y ∧ leL ar [(.tree tS a0), (.fn 160 [])] ∧ leH h [] ∧ r = sIFi1.res a0 y ∧ h1 = sIFi1.out a0 y
theorem sIFi1.call {ar h a0 y} (H : sIFi1 a0 = some y) (h0 : leLk ar [(.tree tS a0), (.fn 160 [])] (leHk h [])) : sIFi1.S ar h (sIFi1.res a0 y) (sIFi1.out a0 y) := ⟨a0, y, H, (ao h0).1, (ao h0).2, rfl, rfl⟩
theorem sIFi1.spec (a0 y) (H : sIFi1 a0 = some y) : Spec Tryz.prog 156 [(.tree tS a0), (.fn 160 [])] [] (sIFi1.res a0 y) (sIFi1.out a0 y) := by
 refine si (G83_ok.at tok []) (ct := []) Tryz.func156 rfl (by kernel_rfl) (by kernel_rfl) rfl ?_
 repeat' first
  | ((with_reducible refine eqg ?_); exact rfl)
  | ((with_reducible refine KOb.mk ?_); kernel_rfl)
  | ((with_reducible intro h); (repeat first | replace H := grd_k H | replace H := os1 H ‹_›); first | replace H := ct1 h H | replace H := cf1 h H | exact absurd h (by decide) | skip)
  | ((with_reducible refine Ob.mk ?_); first | (with_reducible rfl) | (first | ((repeat (first | (with_reducible exact grd_p H) | replace H := grd_k H | replace H := os1 H ‹_›)); done) | rfl | ((repeat (first | exact grd_p H | (have hp := grd_p H; exact hp) | replace H := grd_k H | replace H := os1 H ‹_› | (replace H := bind_some H; obtain ⟨_, _, H⟩ := H))); done) | (repeat (first | exact grd_p H | replace H := grd_k H | replace H := os1 H ‹_›))))
  | (with_reducible exact True.intro)
  | ((conv => whnf); first
      | (with_reducible refine And.intro ?_ ?_)
      | (with_reducible exact True.intro)
      | (with_reducible refine (?_ : Ob _))
      | ((with_reducible refine CallW.mk ?_); (repeat first | replace H := grd_k H | replace H := os1 H ‹_›); replace H := bind_some H; obtain ⟨y, hy, H⟩ := H; first | ((with_reducible have hz : iRa1 _ = some y := hy); clear hz; refine ⟨_, _, iRa1.call hy ?_, rfl, rfl, ?_⟩))
      | ((repeat first | replace H := grd_k H | replace H := os1 H ‹_›); refine li1 (G83_ok.at tok []) (ct := []) (F := (fun s1 : Int => ⟨sl [(0, (.tree tS a0)), (1, (.fn 160 [])), (7, (.v (.int .i64 (a0.length : Int)))), (8, (.v (.int .i64 s1)))], []⟩)) (step := (fun s : Int => sIFi4 _ s)) _ H (by kernel_rfl) (sa ?_) ?_; rotate_left; (intro s1 r v hr H); rotate_right)
      | ((repeat first | replace H := grd_k H | replace H := os1 H ‹_›); refine as1 H (by assumption) (sa ?_))
      | ((with_reducible refine fm ?_); (repeat first | replace H := grd_k H | replace H := os1 H ‹_›); have H := Option.some.inj H; subst H))
  | constructor
 all_goals exact viewz _ _
def G84 : Env := G83.addOr 156 [] sIFi1.S
theorem G84_ok : EnvOk Tryz.prog G84 := G83_ok.addOr ent_156 fun ar h r h1 ⟨a0, y, hy, e1, e2, e3, e4⟩ => by
 subst e3 e4; exact (sIFi1.spec a0 y hy).le e1 e2
attribute [local irreducible] sIFi1

end Go.Proofs.YtaobinhdnklojaaGreatDoor
