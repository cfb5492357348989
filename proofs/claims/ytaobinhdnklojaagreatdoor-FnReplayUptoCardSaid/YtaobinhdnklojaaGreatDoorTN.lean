/-
  Plain laws of numbers in texts, and of texts between separators.
-/
import Derived.Test.YtaobinhdnklojaaGreatDoorC8027
import Derived.Test.YtaobinhdnklojaaGreatDoorRows
import Derived.Test.YtaobinhdnklojaaGreatDoorX0
import Derived.WalkKit
import Derived.ProofKit
import Derived.OpenShut
import Derived.JoinedCond
import Derived.Deep.Slices
import Derived.Test.YtaobinhdnklojaaGreatDoorC803
namespace Go.Proofs.YtaobinhdnklojaaGreatDoor
open Go.RowKit
set_option maxHeartbeats 100000000
set_option maxRecDepth 100000
attribute [local irreducible] Ob l5 Sub Spec Fin Again CallW CutC KOb iter

attribute [local irreducible] slNf iw irR iIVL sIFi sIFi1 sCFi sCiS icRi sNC sRL iNC iECi iRL lmSS lvB slCr slCc sDRS sSS sDRL lvC

noncomputable def iCL (a0 : Log) (a1 : Int) (a2 : Bool) : Option (ByteArray × Bool) :=
 ((iIVL (a0.1, a0.2.1, a0.2.2.1, ())).bind fun y1 => (cond (!y1) ((some ((ByteArray.mk #[]), false))) ((iw a1 (0 : Int) (a0.2.1.size : Int)).bind fun y2 => (cond (!y2) ((some ((ByteArray.mk #[]), false))) (grd (0 ≤ (0 : Int) ∧ (0 : Int) ≤ a1 ∧ a1 ≤ (a0.2.1.size : Int)) (grd (a0.1.size + (bsub a0.2.1 (0 : Int) a1).size ≤ 9223372036854775807) (grd ((a0.1 ++ (bsub a0.2.1 (0 : Int) a1)).size ≤ 140737488355328) (cond a2 (cond (decide ((0 : Int) < a1)) (grd (0 ≤ (w64 (((mkRow (a0.1 ++ (bsub a0.2.1 (0 : Int) a1))).length : Int) - (1 : Int))) ∧ (w64 (((mkRow (a0.1 ++ (bsub a0.2.1 (0 : Int) a1))).length : Int) - (1 : Int))) < ((mkRow (a0.1 ++ (bsub a0.2.1 (0 : Int) a1))).length : Int)) (grd (0 ≤ (w64 (((mkRow (a0.1 ++ (bsub a0.2.1 (0 : Int) a1))).length : Int) - (1 : Int))) ∧ (w64 (((mkRow (a0.1 ++ (bsub a0.2.1 (0 : Int) a1))).length : Int) - (1 : Int))) < ((mkRow (a0.1 ++ (bsub a0.2.1 (0 : Int) a1))).length : Int)) ((some ((sON (bN ((mkRow (a0.1 ++ (bsub a0.2.1 (0 : Int) a1))).set ((w64 (((mkRow (a0.1 ++ (bsub a0.2.1 (0 : Int) a1))).length : Int) - (1 : Int))).toNat) ((wu8 ((255 : Int) - (((mkRow (a0.1 ++ (bsub a0.2.1 (0 : Int) a1))).getD ((w64 (((mkRow (a0.1 ++ (bsub a0.2.1 (0 : Int) a1))).length : Int) - (1 : Int))).toNat) d_mbyte).1))), ())))), true))))) ((some ((sON (bN (mkRow (a0.1 ++ (bsub a0.2.1 (0 : Int) a1))))), true)))) ((some ((sON (bN (mkRow (a0.1 ++ (bsub a0.2.1 (0 : Int) a1))))), true)))))))))))
def iCL.res (_ : Log) (_ : Int) (_ : Bool) (y : ByteArray × Bool) : AV := (.tup [(.v (.string y.1)), (.bl y.2)])
def iCL.out (_ : Log) (_ : Int) (_ : Bool) (_ : ByteArray × Bool) : List (Option LB) := []
def iCL.S (ar : List AV) (h : List (Option LB)) (r : AV) (h1 : List (Option LB)) : Prop := ∃ a0 a1 a2 y, iCL a0 a1 a2 = some y ∧ leL ar [(.agg [(.v (.string a0.1)), (.v (.string a0.2.1)), (.v (.int .i64 a0.2.2.1))]), (.v (.int .i64 a1)), (.bl a2)] ∧ leH h [] ∧ r = iCL.res a0 a1 a2 y ∧ h1 = iCL.out a0 a1 a2 y
theorem iCL.call {ar h a0 a1 a2 y} (H : iCL a0 a1 a2 = some y) (h0 : leLk ar [(.agg [(.v (.string a0.1)), (.v (.string a0.2.1)), (.v (.int .i64 a0.2.2.1))]), (.v (.int .i64 a1)), (.bl a2)] (leHk h [])) : iCL.S ar h (iCL.res a0 a1 a2 y) (iCL.out a0 a1 a2 y) := ⟨a0, a1, a2, y, H, (ao h0).1, (ao h0).2, rfl, rfl⟩
theorem iCL.spec (a0 a1 a2 y) (H : iCL a0 a1 a2 = some y) : Spec Tryz.prog 33 [(.agg [(.v (.string a0.1)), (.v (.string a0.2.1)), (.v (.int .i64 a0.2.2.1))]), (.v (.int .i64 a1)), (.bl a2)] [] (iCL.res a0 a1 a2 y) (iCL.out a0 a1 a2 y) := by
 refine si (G162_ok.at tok []) (ct := [(2, some [1, 2, 3, 19, 30, 31]), (5, some [8, 32])]) Tryz.func33 rfl (by kernel_rfl) (by kernel_rfl) rfl ?_
 repeat' first
  | ((with_reducible refine eqg ?_); exact rfl)
  | ((with_reducible refine KOb.mk ?_); kernel_rfl)
  | ((with_reducible intro h); (repeat first | replace H := grd_k H | replace H := os1 H ‹_›); first | replace H := ct1 h H | replace H := cf1 h H | exact absurd h (by decide) | skip)
  | ((with_reducible refine Ob.mk ?_); first | (with_reducible rfl) | (first | ((repeat (first | (with_reducible exact grd_p H) | replace H := grd_k H | replace H := os1 H ‹_›)); done) | rfl | ((repeat (first | exact grd_p H | (have hp := grd_p H; exact hp) | replace H := grd_k H | replace H := os1 H ‹_› | (replace H := bind_some H; obtain ⟨_, _, H⟩ := H))); done) | (repeat (first | exact grd_p H | replace H := grd_k H | replace H := os1 H ‹_›))))
  | (with_reducible exact True.intro)
  | ((conv => whnf); first
      | (with_reducible refine And.intro ?_ ?_)
      | (with_reducible exact True.intro)
      | (with_reducible refine (?_ : Ob _))
      | ((with_reducible refine CallW.mk ?_); (repeat first | replace H := grd_k H | replace H := os1 H ‹_›); replace H := bind_some H; obtain ⟨y, hy, H⟩ := H; first | ((with_reducible have hz : iIVL _ = some y := hy); clear hz; refine ⟨_, _, iIVL.call hy ?_, rfl, rfl, ?_⟩) | ((with_reducible have hz : iw _ _ _ = some y := hy); clear hz; refine ⟨_, _, iw.call hy ?_, rfl, rfl, ?_⟩))
      | ((with_reducible refine fm ?_); (repeat first | replace H := grd_k H | replace H := os1 H ‹_›); have H := Option.some.inj H; subst H))
  | constructor
def G163 : Env := G162.add 33 [] iCL.S
theorem G163_ok : EnvOk Tryz.prog G163 := G162_ok.add ent_33 fun ar h r h1 ⟨a0, a1, a2, y, hy, e1, e2, e3, e4⟩ => by
 subst e3 e4; exact (iCL.spec a0 a1 a2 y hy).le e1 e2
attribute [local irreducible] iCL

noncomputable def iRL1 (a0 : ByteArray) : Option (Log × Int × Bool) :=
 (cond (decide ((30000 : Int) < (a0.size : Int))) ((some (((ByteArray.mk #[]), (ByteArray.mk #[]), (0 : Int), ()), (0 : Int), false))) ((irR a0).bind fun y1 => (grd (0 ≤ (w64 ((y1.2.length : Int) - (1 : Int))) ∧ (w64 ((y1.2.length : Int) - (1 : Int))) < (y1.2.length : Int)) (grd (0 ≤ (0 : Int) ∧ (0 : Int) ≤ (y1.2.getD ((w64 ((y1.2.length : Int) - (1 : Int))).toNat) 0) ∧ (y1.2.getD ((w64 ((y1.2.length : Int) - (1 : Int))).toNat) 0) ≤ (a0.size : Int)) ((some (((bsub a0 (0 : Int) (y1.2.getD ((w64 ((y1.2.length : Int) - (1 : Int))).toNat) 0)), (ByteArray.mk #[]), (y1.1.length : Int), ()), (y1.2.getD ((w64 ((y1.2.length : Int) - (1 : Int))).toNat) 0), true)))))))
def iRL1.res (_ : ByteArray) (y : Log × Int × Bool) : AV := (.tup [(.agg [(.v (.string y.1.1)), (.v (.string y.1.2.1)), (.v (.int .i64 y.1.2.2.1))]), (.v (.int .i64 y.2.1)), (.bl y.2.2)])
def iRL1.out (_ : ByteArray) (_ : Log × Int × Bool) : List (Option LB) := []
def iRL1.S (ar : List AV) (h : List (Option LB)) (r : AV) (h1 : List (Option LB)) : Prop := ∃ a0 y, iRL1 a0 = some y ∧ leL ar [(.v (.string a0))] ∧ leH h [] ∧ r = iRL1.res a0 y ∧ h1 = iRL1.out a0 y
theorem iRL1.call {ar h a0 y} (H : iRL1 a0 = some y) (h0 : leLk ar [(.v (.string a0))] (leHk h [])) : iRL1.S ar h (iRL1.res a0 y) (iRL1.out a0 y) := ⟨a0, y, H, (ao h0).1, (ao h0).2, rfl, rfl⟩
theorem iRL1.spec (a0 y) (H : iRL1 a0 = some y) : Spec Tryz.prog 34 [(.v (.string a0))] [] (iRL1.res a0 y) (iRL1.out a0 y) := by
 refine si (G163_ok.at tok []) (ct := [(4, some [0, 2, 5, 6])]) Tryz.func34 rfl (by kernel_rfl) (by kernel_rfl) rfl ?_
 repeat' first
  | ((with_reducible refine eqg ?_); exact rfl)
  | ((with_reducible refine KOb.mk ?_); kernel_rfl)
  | ((with_reducible intro h); (repeat first | replace H := grd_k H | replace H := os1 H ‹_›); first | replace H := ct1 h H | replace H := cf1 h H | exact absurd h (by decide) | skip)
  | ((with_reducible refine Ob.mk ?_); first | (with_reducible rfl) | (first | ((repeat (first | (with_reducible exact grd_p H) | replace H := grd_k H | replace H := os1 H ‹_›)); done) | rfl | ((repeat (first | exact grd_p H | (have hp := grd_p H; exact hp) | replace H := grd_k H | replace H := os1 H ‹_› | (replace H := bind_some H; obtain ⟨_, _, H⟩ := H))); done) | (repeat (first | exact grd_p H | replace H := grd_k H | replace H := os1 H ‹_›))))
  | (with_reducible exact True.intro)
  | ((conv => whnf); first
      | (with_reducible refine And.intro ?_ ?_)
      | (with_reducible exact True.intro)
      | (with_reducible refine (?_ : Ob _))
      | ((with_reducible refine CallW.mk ?_); (repeat first | replace H := grd_k H | replace H := os1 H ‹_›); replace H := bind_some H; obtain ⟨y, hy, H⟩ := H; first | ((with_reducible have hz : irR _ = some y := hy); clear hz; refine ⟨_, _, irR.call hy ?_, rfl, rfl, ?_⟩))
      | ((with_reducible refine fm ?_); (repeat first | replace H := grd_k H | replace H := os1 H ‹_›); have H := Option.some.inj H; subst H))
  | constructor
def G164 : Env := G163.add 34 [] iRL1.S
theorem G164_ok : EnvOk Tryz.prog G164 := G163_ok.add ent_34 fun ar h r h1 ⟨a0, y, hy, e1, e2, e3, e4⟩ => by
 subst e3 e4; exact (iRL1.spec a0 y hy).le e1 e2
attribute [local irreducible] iRL1

noncomputable def lFRl  (v65 : Int) (v66 : Int) (v67 : Int) (v68 : Int) (v69 : (List Slot)) (v70 : Int) (v71 : Int) (v72 : Int) (v73 : ByteArray) (v74 : ByteArray) (v75 : Int) (v76 : (List ByteArray)) : Option (Lp (Int × Int × Int × Int × (List Slot) × Int × Int × Int × ByteArray × ByteArray × Int × (List ByteArray)) ((Int × Int × Int × (List Slot) × Int × Int × Int × ByteArray × ByteArray × Int))) :=
 (cond (decide (v67 < (v76.length : Int))) (grd (0 ≤ v67 ∧ v67 < (v76.length : Int)) ((iECi v68 v69 v70 v71 v72 v73 v74 v75 (v76.getD v67.toNat (ByteArray.mk #[]))).bind fun y77 => (some (.go (v65, v66, (w64 (v67 + (1 : Int))), y77.1.1.1, y77.1.1.2.1, y77.1.1.2.2.1, y77.1.1.2.2.2.1, y77.1.1.2.2.2.2.1, y77.1.2.1.1, y77.1.2.1.2.1, y77.1.2.1.2.2.1, v76))))) ((some (.out (v65, v66, v68, v69, v70, v71, v72, v73, v74, v75)))))
noncomputable def lFR (a0 : (List Int)) : Option (Bool) :=
 ((lvB a0).bind fun y1 => (cond y1 ((some true)) ((sDRL a0).bind fun y2 => ((iRL y2.1 y2.2.1 (y2.2.2.1, y2.2.2.2.1, y2.2.2.2.2.1, ())).bind fun y3 => ((sRL y2.1 y2.2.1 (y2.2.2.1, y2.2.2.2.1, y2.2.2.2.2.1, ())).bind fun y4 => (cond (!decide (y3.1 = y4.1)) ((some false)) (cond (!(y3.2 == y4.2)) ((some false)) ((sDRS a0).bind fun y5 => (((iNC y2.1 y2.2.1).bind (Sum.elim (fun y7 => (some ((Tg.mk : Tg 1), y2.1, y2.2.1, y5.2, false, y7.1.1, [], y7.1.2.2.1, y7.1.2.2.2.1, y7.1.2.2.2.2.1, y7.2.1.1, y7.2.1.2.1, y7.2.1.2.2.1))) (fun y8 => (some ((Tg.mk : Tg 1), y2.1, y2.2.1, y5.2, true, y8.1.1, y8.1.2.1, y8.1.2.2.1, y8.1.2.2.2.1, y8.1.2.2.2.2.1, y8.2.1.1, y8.2.1.2.1, y8.2.1.2.2.1))))).bind fun z9 => (((sNC z9.2.1 z9.2.2.1).bind (Sum.elim (fun y11 => (some ((Tg.mk : Tg 2), z9.2.1, z9.2.2.1, z9.2.2.2.1, z9.2.2.2.2.1, false, z9.2.2.2.2.2.1, z9.2.2.2.2.2.2.1, z9.2.2.2.2.2.2.2.1, z9.2.2.2.2.2.2.2.2.1, z9.2.2.2.2.2.2.2.2.2.1, z9.2.2.2.2.2.2.2.2.2.2.1, z9.2.2.2.2.2.2.2.2.2.2.2.1, z9.2.2.2.2.2.2.2.2.2.2.2.2, y11.1.1, [], y11.1.2.2.1, y11.1.2.2.2.1, y11.1.2.2.2.2.1, y11.2.1.1, y11.2.1.2.1, y11.2.1.2.2.1))) (fun y12 => (some ((Tg.mk : Tg 2), z9.2.1, z9.2.2.1, z9.2.2.2.1, z9.2.2.2.2.1, true, z9.2.2.2.2.2.1, z9.2.2.2.2.2.2.1, z9.2.2.2.2.2.2.2.1, z9.2.2.2.2.2.2.2.2.1, z9.2.2.2.2.2.2.2.2.2.1, z9.2.2.2.2.2.2.2.2.2.2.1, z9.2.2.2.2.2.2.2.2.2.2.2.1, z9.2.2.2.2.2.2.2.2.2.2.2.2, y12.1.1, y12.1.2.1, y12.1.2.2.1, y12.1.2.2.2.1, y12.1.2.2.2.2.1, y12.2.1.1, y12.2.1.2.1, y12.2.1.2.2.1))))).bind fun z13 => ((lvC ((z13.2.2.2.2.2.2.1, z13.2.2.2.2.2.2.2.1, z13.2.2.2.2.2.2.2.2.1, z13.2.2.2.2.2.2.2.2.2.1, z13.2.2.2.2.2.2.2.2.2.2.1, ()), (z13.2.2.2.2.2.2.2.2.2.2.2.1, z13.2.2.2.2.2.2.2.2.2.2.2.2.1, z13.2.2.2.2.2.2.2.2.2.2.2.2.2.1, ()), ()) ((z13.2.2.2.2.2.2.2.2.2.2.2.2.2.2.1, z13.2.2.2.2.2.2.2.2.2.2.2.2.2.2.2.1, z13.2.2.2.2.2.2.2.2.2.2.2.2.2.2.2.2.1, z13.2.2.2.2.2.2.2.2.2.2.2.2.2.2.2.2.2.1, z13.2.2.2.2.2.2.2.2.2.2.2.2.2.2.2.2.2.2.1, ()), (z13.2.2.2.2.2.2.2.2.2.2.2.2.2.2.2.2.2.2.2.1, z13.2.2.2.2.2.2.2.2.2.2.2.2.2.2.2.2.2.2.2.2.1, z13.2.2.2.2.2.2.2.2.2.2.2.2.2.2.2.2.2.2.2.2.2, ()), ())).bind fun y14 => (cond (!y14) ((some false)) (cond (!(z13.2.2.2.2.1 == z13.2.2.2.2.2.1)) ((some false)) (cond (!z13.2.2.2.2.1) ((some true)) ((sSS z13.2.2.2.1 (ByteArray.mk #[10])).bind fun y15 => ((iter (fun s => lFRl s.1 s.2.1 s.2.2.1 s.2.2.2.1 s.2.2.2.2.1 s.2.2.2.2.2.1 s.2.2.2.2.2.2.1 s.2.2.2.2.2.2.2.1 s.2.2.2.2.2.2.2.2.1 s.2.2.2.2.2.2.2.2.2.1 s.2.2.2.2.2.2.2.2.2.2.1 s.2.2.2.2.2.2.2.2.2.2.2) (z13.2.1, z13.2.2.1, (0 : Int), z13.2.2.2.2.2.2.1, z13.2.2.2.2.2.2.2.1, z13.2.2.2.2.2.2.2.2.1, z13.2.2.2.2.2.2.2.2.2.1, z13.2.2.2.2.2.2.2.2.2.2.1, z13.2.2.2.2.2.2.2.2.2.2.2.1, z13.2.2.2.2.2.2.2.2.2.2.2.2.1, z13.2.2.2.2.2.2.2.2.2.2.2.2.2.1, y15.1)).bind (fun r78 => ((iRL r78.1 r78.2.1 (r78.2.2.2.2.2.2.2.1, r78.2.2.2.2.2.2.2.2.1, r78.2.2.2.2.2.2.2.2.2, ())).bind fun y79 => (grd ((7 : Int) ≠ 0) ((iCL (r78.2.2.2.2.2.2.2.1, r78.2.2.2.2.2.2.2.2.1, r78.2.2.2.2.2.2.2.2.2, ()) (w64 ((r78.2.2.2.2.2.2.2.2.1.size : Int) - (Int.tmod (r78.2.2.2.2.2.2.2.2.1.size : Int) (7 : Int)))) false).bind fun y80 => ((iRL1 y80.1).bind fun y81 => ((iRL r78.1 r78.2.1 (y81.1.1, y81.1.2.1, y81.1.2.2.1, ())).bind fun y82 => (cond y79.2 (cond (decide (y79.1 = r78.2.2.2.2.2.2.2.2.2)) (cond y81.2.2 (cond y82.2 ((some (decide (y82.1 = y81.1.2.2.1)))) ((some false))) ((some false))) ((some false))) ((some false)))))))))))))))))))))))))
def lFR.res (_ : (List Int)) (y : Bool) : AV := (.bl y)
def lFR.out (_ : (List Int)) (_ : Bool) : List (Option LB) := []
def lFR.S (ar : List AV) (h : List (Option LB)) (r : AV) (h1 : List (Option LB)) : Prop := ∃ a0 y, lFR a0 = some y ∧ leL ar [(.tree (.int .u8) a0)] ∧ leH h [] ∧ r = lFR.res a0 y ∧ h1 = lFR.out a0 y
theorem lFR.call {ar h a0 y} (H : lFR a0 = some y) (h0 : leLk ar [(.tree (.int .u8) a0)] (leHk h [])) : lFR.S ar h (lFR.res a0 y) (lFR.out a0 y) := ⟨a0, y, H, (ao h0).1, (ao h0).2, rfl, rfl⟩
theorem lFR.spec (a0 y) (H : lFR a0 = some y) : Spec Tryz.prog 7 [(.tree (.int .u8) a0)] [] (lFR.res a0 y) (lFR.out a0 y) := by
 refine si (G164_ok.at tok []) (ct := [(10, none), (11, none), (5, some [0, 3, 4, 5, 6, 7, 54, 55, 56, 80, 81, 82, 145, 146, 147, 148, 149, 152, 155, 158, 159, 160, 161]), (7, some [0, 3, 4, 57, 80, 81, 82, 145, 146, 147, 148, 149, 152, 155, 158, 159, 160, 161]), (16, some [3, 4, 12, 16, 145, 146, 147, 148, 149, 152, 155, 158, 159, 160, 161]), (22, some [3, 4, 12, 19, 20, 21, 145, 146, 147, 148, 149, 152, 155, 158, 159, 160, 161]), (24, some [12, 19, 20, 23, 25, 26, 27, 145, 146, 147, 148, 149, 152, 155, 158, 159, 160, 161])]) Tryz.func7 rfl (by kernel_rfl) (by kernel_rfl) rfl ?_
 repeat' first
  | ((with_reducible refine eqg ?_); exact rfl)
  | ((with_reducible refine KOb.mk ?_); kernel_rfl)
  | ((with_reducible intro h); (repeat first | replace H := grd_k H | replace H := os1 H ‹_›); first | replace H := ct1 h H | replace H := cf1 h H | exact absurd h (by decide) | skip)
  | ((with_reducible refine Ob.mk ?_); first | (with_reducible rfl) | (first | ((repeat (first | (with_reducible exact grd_p H) | replace H := grd_k H | replace H := os1 H ‹_›)); done) | rfl | ((repeat (first | exact grd_p H | (have hp := grd_p H; exact hp) | replace H := grd_k H | replace H := os1 H ‹_› | (replace H := bind_some H; obtain ⟨_, _, H⟩ := H))); done) | (repeat (first | exact grd_p H | replace H := grd_k H | replace H := os1 H ‹_›))))
  | (with_reducible exact True.intro)
  | ((conv => whnf); first
      | (with_reducible refine And.intro ?_ ?_)
      | (with_reducible exact True.intro)
      | (with_reducible refine (?_ : Ob _))
      | ((with_reducible refine CallW.mk ?_); (repeat first | replace H := grd_k H | replace H := os1 H ‹_›); replace H := bind_some H; obtain ⟨y, hy, H⟩ := H; first | ((with_reducible have hz : lvB _ = some y := hy); clear hz; refine ⟨_, _, lvB.call hy ?_, rfl, rfl, ?_⟩) | ((with_reducible have hz : sDRL _ = some y := hy); clear hz; refine ⟨_, _, sDRL.call hy ?_, rfl, rfl, ?_⟩) | ((with_reducible have hz : iRL _ _ _ = some y := hy); clear hz; refine ⟨_, _, iRL.call hy ?_, rfl, rfl, ?_⟩) | ((with_reducible have hz : sRL _ _ _ = some y := hy); clear hz; refine ⟨_, _, sRL.call hy ?_, rfl, rfl, ?_⟩) | ((with_reducible have hz : sDRS _ = some y := hy); clear hz; refine ⟨_, _, sDRS.call hy ?_, rfl, rfl, ?_⟩) | ((with_reducible have hz : iNC _ _ = some y := hy); clear hz; rcases y with y | y <;> refine ⟨_, _, iNC.call hy ?_, rfl, rfl, ?_⟩) | ((with_reducible have hz : sNC _ _ = some y := hy); clear hz; rcases y with y | y <;> refine ⟨_, _, sNC.call hy ?_, rfl, rfl, ?_⟩) | ((with_reducible have hz : lvC _ _ = some y := hy); clear hz; refine ⟨_, _, lvC.call hy ?_, rfl, rfl, ?_⟩) | ((with_reducible have hz : sSS _ _ = some y := hy); clear hz; refine ⟨_, _, sSS.call hy ?_, rfl, rfl, ?_⟩) | ((with_reducible have hz : iECi _ _ _ _ _ _ _ _ _ = some y := hy); clear hz; refine Exists.intro _ (Exists.intro _ ⟨Or.inl (iECi.call hy ?_), rfl, rfl, ?_⟩)) | ((with_reducible have hz : iCL _ _ _ = some y := hy); clear hz; refine ⟨_, _, iCL.call hy ?_, rfl, rfl, ?_⟩) | ((with_reducible have hz : iRL1 _ = some y := hy); clear hz; refine ⟨_, _, iRL1.call hy ?_, rfl, rfl, ?_⟩))
      | ((repeat first | replace H := grd_k H | replace H := os1 H ‹_›); refine li1 (G164_ok.at tok []) (ct := [(10, none), (11, none), (5, some [0, 3, 4, 5, 6, 7, 54, 55, 56, 80, 81, 82, 145, 146, 147, 148, 149, 152, 155, 158, 159, 160, 161]), (7, some [0, 3, 4, 57, 80, 81, 82, 145, 146, 147, 148, 149, 152, 155, 158, 159, 160, 161]), (16, some [3, 4, 12, 16, 145, 146, 147, 148, 149, 152, 155, 158, 159, 160, 161]), (22, some [3, 4, 12, 19, 20, 21, 145, 146, 147, 148, 149, 152, 155, 158, 159, 160, 161]), (24, some [12, 19, 20, 23, 25, 26, 27, 145, 146, 147, 148, 149, 152, 155, 158, 159, 160, 161])]) (F := (fun s1 : Int × Int × Int × Int × (List Slot) × Int × Int × Int × ByteArray × ByteArray × Int × (List ByteArray) => ⟨sl [(3, (.v (.int .i64 s1.1))), (4, (.v (.int .i64 s1.2.1))), (12, (.loc 0 0 0)), (16, (.own 1)), (18, (.v (.int .i64 s1.2.2.1)))], [some (.box 40 [(.v (.int .i64 s1.2.2.2.1)), (.tree tS s1.2.2.2.2.1), (.v (.int .i64 s1.2.2.2.2.2.1)), (.v (.int .i64 s1.2.2.2.2.2.2.1)), (.v (.int .i64 s1.2.2.2.2.2.2.2.1)), (.v (.string s1.2.2.2.2.2.2.2.2.1)), (.v (.string s1.2.2.2.2.2.2.2.2.2.1)), (.v (.int .i64 s1.2.2.2.2.2.2.2.2.2.2.1))]), some (.arr 9 .str s1.2.2.2.2.2.2.2.2.2.2.2)]⟩)) (step := (fun s : Int × Int × Int × Int × (List Slot) × Int × Int × Int × ByteArray × ByteArray × Int × (List ByteArray) => lFRl s.1 s.2.1 s.2.2.1 s.2.2.2.1 s.2.2.2.2.1 s.2.2.2.2.2.1 s.2.2.2.2.2.2.1 s.2.2.2.2.2.2.2.1 s.2.2.2.2.2.2.2.2.1 s.2.2.2.2.2.2.2.2.2.1 s.2.2.2.2.2.2.2.2.2.2.1 s.2.2.2.2.2.2.2.2.2.2.2)) _ H (by kernel_rfl) (sa ?_) ?_; rotate_left; (intro s1 r v hr H); rotate_right)
      | ((with_reducible refine cutAt (id := 10) ?_); (repeat first | replace H := grd_k H | replace H := os1 H ‹_›); first | (replace H := bind_some H; obtain ⟨z, hz, H⟩ := H; have hT : Tg 1 × Int × Int × ByteArray × Bool × Int × (List Slot) × Int × Int × Int × ByteArray × ByteArray × Int := z; clear hT; refine CutC.mk (id := 10) ⟨sl [(3, (.v (.int .i64 z.2.1))), (4, (.v (.int .i64 z.2.2.1))), (11, (.v (.string z.2.2.2.1))), (12, (.loc 0 0 0)), (13, (.bl z.2.2.2.2.1))], [some (.box 40 [(.v (.int .i64 z.2.2.2.2.2.1)), (.tree tS z.2.2.2.2.2.2.1), (.v (.int .i64 z.2.2.2.2.2.2.2.1)), (.v (.int .i64 z.2.2.2.2.2.2.2.2.1)), (.v (.int .i64 z.2.2.2.2.2.2.2.2.2.1)), (.v (.string z.2.2.2.2.2.2.2.2.2.2.1)), (.v (.string z.2.2.2.2.2.2.2.2.2.2.2.1)), (.v (.int .i64 z.2.2.2.2.2.2.2.2.2.2.2.2))])]⟩ ?_ ?_; (replace H := hz)))
      | ((with_reducible refine cutAt (id := 11) ?_); (repeat first | replace H := grd_k H | replace H := os1 H ‹_›); first | (replace H := bind_some H; obtain ⟨z, hz, H⟩ := H; have hT : Tg 2 × Int × Int × ByteArray × Bool × Bool × Int × (List Slot) × Int × Int × Int × ByteArray × ByteArray × Int × Int × (List Slot) × Int × Int × Int × ByteArray × ByteArray × Int := z; clear hT; refine CutC.mk (id := 11) ⟨sl [(3, (.v (.int .i64 z.2.1))), (4, (.v (.int .i64 z.2.2.1))), (11, (.v (.string z.2.2.2.1))), (12, (.loc 0 0 0)), (13, (.bl z.2.2.2.2.1)), (14, (.loc 1 0 0)), (15, (.bl z.2.2.2.2.2.1))], [some (.box 40 [(.v (.int .i64 z.2.2.2.2.2.2.1)), (.tree tS z.2.2.2.2.2.2.2.1), (.v (.int .i64 z.2.2.2.2.2.2.2.2.1)), (.v (.int .i64 z.2.2.2.2.2.2.2.2.2.1)), (.v (.int .i64 z.2.2.2.2.2.2.2.2.2.2.1)), (.v (.string z.2.2.2.2.2.2.2.2.2.2.2.1)), (.v (.string z.2.2.2.2.2.2.2.2.2.2.2.2.1)), (.v (.int .i64 z.2.2.2.2.2.2.2.2.2.2.2.2.2.1))]), some (.box 40 [(.v (.int .i64 z.2.2.2.2.2.2.2.2.2.2.2.2.2.2.1)), (.tree tS z.2.2.2.2.2.2.2.2.2.2.2.2.2.2.2.1), (.v (.int .i64 z.2.2.2.2.2.2.2.2.2.2.2.2.2.2.2.2.1)), (.v (.int .i64 z.2.2.2.2.2.2.2.2.2.2.2.2.2.2.2.2.2.1)), (.v (.int .i64 z.2.2.2.2.2.2.2.2.2.2.2.2.2.2.2.2.2.2.1)), (.v (.string z.2.2.2.2.2.2.2.2.2.2.2.2.2.2.2.2.2.2.2.1)), (.v (.string z.2.2.2.2.2.2.2.2.2.2.2.2.2.2.2.2.2.2.2.2.1)), (.v (.int .i64 z.2.2.2.2.2.2.2.2.2.2.2.2.2.2.2.2.2.2.2.2.2))])]⟩ ?_ ?_; (replace H := hz)))
      | ((repeat first | replace H := grd_k H | replace H := os1 H ‹_›); have H := Option.some.inj H; subst H; with_reducible refine sa ?_)
      | ((repeat first | replace H := grd_k H | replace H := os1 H ‹_›); refine as1 H (by assumption) (sa ?_))
      | ((with_reducible refine fm ?_); (repeat first | replace H := grd_k H | replace H := os1 H ‹_›); have H := Option.some.inj H; subst H))
  | constructor
def G165 : Env := G164.add 7 [] lFR.S
theorem G165_ok : EnvOk Tryz.prog G165 := G164_ok.add ent_7 fun ar h r h1 ⟨a0, y, hy, e1, e2, e3, e4⟩ => by
 subst e3 e4; exact (lFR.spec a0 y hy).le e1 e2
attribute [local irreducible] lFR

end Go.Proofs.YtaobinhdnklojaaGreatDoor
namespace Go.Proofs.YtaobinhdnklojaaGreatDoor
open Go.RowKit
attribute [local irreducible] Ob l5 Sub Spec Fin Again CallW CutC KOb iter

attribute [local irreducible] slNf sIFi sIFi1 sCFi sCiS icRi iECi lmSS slCr slCc

end Go.Proofs.YtaobinhdnklojaaGreatDoor
namespace Go.Proofs.YtaobinhdnklojaaGreatDoor
open Go.ChangeShapes Go.WideShapes Go.ChangeAt Go.RowKit

mutual
def tyOk (P : Program) : Ty → TypeId → Bool
 | .int k, t => match P.underlying t with | some (.int k') => decide (k' = k) | _ => false
 | .bool, t => match P.underlying t with | some .bool => true | _ => false
 | .str, t => match P.underlying t with | some .string => true | _ => false
 | .st ss, t => match P.underlying t with | some (.struct fs) => tysOk P ss fs.toList 0 && decide (P.cellsOf t = Ty.ns ss) | _ => false
 | .sl e, t => match P.underlying t with | some (.slice u) => tyOk P e u && decide (P.cellsOf u = e.n) && decide (0 < e.n) | _ => false
def tysOk (P : Program) : List Ty → List Field → Nat → Bool
 | [], [], _ => true
 | s :: ss, f :: fs, o => decide (f.offset = o) && decide (P.cellsOf f.type = s.n) && tyOk P s f.type && tysOk P ss fs (o + s.n)
 | _, _, _ => false
end
mutual
def Ty.fit : (t : Ty) → t.den → Prop
 | .int k, (n : Int) => k.min ≤ n ∧ n ≤ k.max
 | .bool, _ => True
 | .str, s => ByteArray.size s ≤ 1048576
 | .st fs, x => Ty.fits fs x
 | .sl e, (xs : List e.den) => xs.length ≤ 1048576 ∧ ∀ x ∈ xs, Ty.fit e x
def Ty.fits : (ts : List Ty) → Ty.dens ts → Prop
 | [], _ => True
 | t :: ts, x => Ty.fit t x.1 ∧ Ty.fits ts x.2
end
def Cs (w : World) (l : List AV) (cs : List Value) : Prop := l.length = cs.length ∧ ∀ (i : Nat) (c : AV) (x : Value), l[i]? = some c → cs[i]? = some x → x.oneCell' = true ∧ Rt w (fun b => b < w.heap.size) c x
theorem Cs.append {w : World} {l l' : List AV} {cs cs' : List Value} (h : Cs w l cs) (h' : Cs w l' cs') : Cs w (l ++ l') (cs ++ cs') := by
 refine ⟨by simp [h.1, h'.1], fun i c x h1 h2 => ?_⟩
 by_cases hi : i < l.length
 ·rw [List.getElem?_append_left hi] at h1
  rw [List.getElem?_append_left (by rw [← h.1]; exact hi)] at h2
  exact h.2 i c x h1 h2
 ·rw [List.getElem?_append_right (by omega)] at h1
  rw [List.getElem?_append_right (by rw [← h.1]; omega), ← h.1] at h2
  exact h'.2 _ c x h1 h2
theorem Cs.one {w : World} {c : AV} {x : Value} (hx : x.oneCell' = true) (h : Rt w (fun b => b < w.heap.size) c x) : Cs w [c] [x] := by
 refine ⟨rfl, fun i c' x' h1 h2 => ?_⟩
 cases i with
 | zero => simp at h1 h2; subst h1 h2; exact ⟨hx, h⟩
 | succ i => simp at h1
theorem Cs.nil {w : World} : Cs w [] [] := ⟨rfl, fun i c x h1 => by simp at h1⟩

section
variable {H : Type} {enc : TypeId × Value → H} {P : Program} {w : World} {spare : Nat → Bool} {held : Bool}
theorem bulk_part {d : DataW H} : ∀ {l : List (DataW H)}, d ∈ l → Rows.uptoBulk d ≤ Rows.uptoBulkAll l
 | x :: r, h => by
   simp only [Rows.uptoBulkAll]
   rcases List.mem_cons.1 h with e | e
   ·subst e; omega
   ·have := bulk_part e; omega
theorem bulk_pos (d : DataW H) : 1 ≤ Rows.uptoBulk d := by
 cases d with
 | lit l => cases l <;> simp [Rows.uptoBulk]
 | _ => simp [Rows.uptoBulk]
theorem bulk_len : ∀ (l : List (DataW H)), l.length ≤ Rows.uptoBulkAll l
 | [] => by simp
 | x :: r => by have := bulk_pos x; have := bulk_len r; simp only [Rows.uptoBulkAll, List.length_cons]; omega

def OpensAt (enc : TypeId × Value → H) (P : Program) (w : World) (spare : Nat → Bool) (held : Bool) (n : Nat) : Prop :=
 ∀ (sh : Ty) (t : TypeId) (cs : List Value) (d : DataW H) (ps : List MemPlace), tyOk P sh t = true → DataW.trod enc P w 0 spare held n t cs = some (d, ps) → Rows.uptoBulk d ≤ 1048576 →
   ∃ x : sh.den, sh.fit x ∧ Cs w (sh.enc x) cs
theorem of1 {n : Nat} (ih : OpensAt enc P w spare held n) : ∀ (ss : List Ty) (fs : List Field) (o : Nat) (cs : List Value) (xs : List (DataW H × List MemPlace)), tysOk P ss fs o = true → cs.length = Ty.ns ss →
  xs.length = fs.length → (∀ (i : Nat) (f : Field), fs[i]? = some f → DataW.trod enc P w 0 spare held n f.type ((cs.drop (f.offset - o)).take (P.cellsOf f.type)) = xs[i]?) → Rows.uptoBulkAll (xs.map (·.1)) ≤ 1048576 →
  ∃ l : Ty.dens ss, Ty.fits ss l ∧ Cs w (Ty.encs ss l) cs
 | [], [], o, cs, xs, _, hl, hx, _, _ => by
   have : cs = [] := by simpa [Ty.ns] using hl
   subst this
   exact ⟨(), by simp [Ty.fits], by simpa [Ty.encs] using Cs.nil⟩
 | s :: ss, f :: fs, o, cs, x :: xs, hok, hl, hx, hf, hb => by
   simp only [tysOk, Bool.and_eq_true, decide_eq_true_eq] at hok
   obtain ⟨⟨⟨ho, hc⟩, hs⟩, hss⟩ := hok
   simp only [Ty.ns] at hl
   simp only [List.map_cons, Rows.uptoBulkAll] at hb
   have h0 := hf 0 f rfl
   rw [ho, hc, Nat.sub_self, List.drop_zero] at h0
   obtain ⟨d, h1, h3⟩ := ih s f.type (cs.take s.n) x.1 x.2 hs h0 (by omega)
   obtain ⟨l, g1, g3⟩ := of1 ih ss fs (o + s.n) (cs.drop s.n) xs hss (by rw [List.length_drop]; omega) (by simpa using hx) (fun i g hg => by
    have h4 := hf (i + 1) g (by simpa using hg)
    have h5 : o + s.n ≤ g.offset := shs_off hss i g hg
    rw [List.drop_drop, show s.n + (g.offset - (o + s.n)) = g.offset - o by omega]
    simpa using h4) (by omega)
   refine ⟨(d, l), ⟨h1, g1⟩, ?_⟩
   have := h3.append g3
   rw [List.take_append_drop] at this
   exact this
 | [], _ :: _, o, cs, xs, hok, _, _, _, _ => by simp [tysOk] at hok
 | _ :: _, [], o, cs, xs, hok, _, _, _, _ => by simp [tysOk] at hok
 | _ :: _, _ :: _, o, cs, [], _, _, hx, _, _ => by simp at hx
where
 shs_off {P : Program} : ∀ {ss : List Ty} {fs : List Field} {o : Nat}, tysOk P ss fs o = true → ∀ (i : Nat) (f : Field), fs[i]? = some f → o ≤ f.offset
 | _, [], o, _, i, f, h => by simp at h
 | [], _ :: _, o, hok, i, f, h => by simp [tysOk] at hok
 | s :: ss, g :: fs, o, hok, i, f, h => by
   simp only [tysOk, Bool.and_eq_true, decide_eq_true_eq] at hok
   cases i with
   | zero => simp at h; subst h; omega
   | succ i => have := shs_off hok.2 i f (by simpa using h); omega

theorem opens (hbig : 1048576 ≤ bL) : ∀ n, OpensAt enc P w spare held n
 | 0, _, _, _, _, _, _, h, _ => by simp [DataW.trod] at h
 | n + 1, .int k, t, cs, d, ps, hok, h, hb => by
   unfold tyOk at hok; split at hok
   ·rename_i k' hu
    obtain rfl := of_decide_eq_true hok
    obtain ⟨m, rfl, hx, hw⟩ := DataW.trod_int hu h
    cases hx
    refine ⟨m, ?_, Cs.one rfl (.v _)⟩
    show k'.min ≤ m ∧ m ≤ k'.max
    simpa [Lit.wf] using hw
   ·cases hok
 | n + 1, .bool, t, cs, d, ps, hok, h, hb => by
   unfold tyOk at hok; split at hok
   ·rename_i hu
    obtain ⟨m, rfl, hx⟩ := DataW.trod_bool hu h
    cases hx
    exact ⟨m, trivial, Cs.one rfl (.bl _)⟩
   ·cases hok
 | n + 1, .str, t, cs, d, ps, hok, h, hb => by
   unfold tyOk at hok; split at hok
   ·rename_i hu
    obtain ⟨s, rfl, hx, hw⟩ := DataW.trod_string hu h
    cases hx
    have h1 : Rows.uptoBulk (DataW.lit (H := H) (.string s.data.toList)) = s.size + 1 := by simp only [Rows.uptoBulk]; rw [Array.length_toList]; rfl
    rw [h1] at hb
    refine ⟨s, ?_, Cs.one rfl (.v _)⟩
    show s.size ≤ 1048576
    omega
   ·cases hok
 | n + 1, .st ss, t, cs, d, ps, hok, h, hb => by
   unfold tyOk at hok; split at hok
   ·rename_i fs hu
    simp only [Bool.and_eq_true, decide_eq_true_eq] at hok
    obtain ⟨xs, n', hn, hx, hl, hxl, hf⟩ := DataW.trod_struct hu h
    cases hn
    simp only [Prod.mk.injEq] at hx
    obtain ⟨rfl, rfl⟩ := hx
    simp only [Rows.uptoBulk] at hb
    obtain ⟨l, h1, h3⟩ := of1 (opens hbig n) ss fs.toList 0 cs xs hok.1 (by rw [hl]; exact hok.2) (by simpa using hxl) (fun i f hi => by rw [Nat.sub_zero]; exact hf i f (by simpa using hi)) (by omega)
    exact ⟨l, h1, h3⟩
   ·cases hok
 | n + 1, .sl e, t, cs, d, ps, hok, h, hb => by
   unfold tyOk at hok; split at hok
   ·rename_i u hu
    simp only [Bool.and_eq_true, decide_eq_true_eq] at hok
    obtain ⟨⟨hok, hc⟩, hpos⟩ := hok
    rcases DataW.trod_slice hu h with ⟨rfl, hx⟩ | ⟨a, len, cap, elems, rest, n', hn, rfl, hx, _, hlc, hm, hlen, hel, _, _⟩
    ·cases hx
     refine ⟨([] : List e.den), ⟨by simp, by simp⟩, ?_⟩
     refine Cs.one rfl (.tree e [] none 0 0 0 0 (fun _ _ => .bool false) rfl (by simp) (by simp) (by simp) (by simp) (by simp) (by simp))
    ·cases hn
     simp only [Prod.mk.injEq] at hx
     obtain ⟨rfl, rfl⟩ := hx
     simp only [Rows.uptoBulk] at hb
     have hlb : len ≤ 1048576 := by
      have := bulk_len (elems.map (·.1)); rw [List.length_map, hlen] at this; omega
     have hone : ∀ i : Nat, i < len → ∃ (x : e.den) (cs' : List Value), e.fit x ∧ w.cells? 0 (a.add (i * e.n)) e.n = some cs' ∧ Cs w (e.enc x) cs' := by
      intro i hi
      have h1 := hel i hi
      obtain ⟨y, hy⟩ : ∃ y, elems[i]? = some y := ⟨elems[i]'(by omega), List.getElem?_eq_getElem _⟩
      rw [hy, hc] at h1
      obtain ⟨cs', h2, h3⟩ := Option.bind_eq_some_iff.1 h1
      have hy' : y.1 ∈ elems.map (·.1) := List.mem_map.2 ⟨y, List.mem_of_getElem? hy, rfl⟩
      have := bulk_part hy'
      obtain ⟨x, g1, g3⟩ := opens hbig n e u cs' y.1 y.2 hok h3 (by omega)
      exact ⟨x, cs', g1, h2, g3⟩
     classical
     let X : Nat → e.den := fun i => if hi : i < len then (hone i hi).choose else e.dflt
     have hX : ∀ i, i < len → ∃ cs' : List Value, e.fit (X i) ∧ w.cells? 0 (a.add (i * e.n)) e.n = some cs' ∧ Cs w (e.enc (X i)) cs' := fun i hi => by
      have := (hone i hi).choose_spec
      simpa only [X, dif_pos hi] using this
     let Y : Nat → List Value := fun i => if hi : i < len then (hX i hi).choose else []
     have hY : ∀ i, i < len → e.fit (X i) ∧ w.cells? 0 (a.add (i * e.n)) e.n = some (Y i) ∧ Cs w (e.enc (X i)) (Y i) := fun i hi => by
      have := (hX i hi).choose_spec
      simpa only [Y, dif_pos hi] using this
     have hln : ((List.range len).map X).length = len := by simp
     have hrow : ∀ k, k < len → rowT e ((List.range len).map X) k = e.enc (X k) := fun k hk => by
      simp [rowT, List.getD_eq_getElem?_getD, hk]
     have hspot : 0 < len → a.spot = none := fun hl0 => by
      obtain ⟨_, h2, _⟩ := hY 0 hl0
      obtain ⟨_, _, h3⟩ := World.cells?_some h2
      have h4 := h3 0 hpos
      obtain ⟨_, hlen3, _⟩ := World.cells?_some h2
      rw [List.getElem?_eq_getElem (by omega)] at h4
      unfold World.cell? at h4
      have h5 : (a.add (0 * e.n)).add 0 = a := by simp [Addr.add]
      rw [h5] at h4
      split at h4
      ·split at h4
       ·cases h4
       ·rename_i hs; simpa using hs
      ·cases h4
     have hcell : ∀ k j c, k < len → (e.enc (X k))[j]? = some c → ∃ x, (Y k)[j]? = some x ∧ w.cell? ⟨a.block, a.off + k * e.n + j, none⟩ = some x ∧ x.oneCell' = true ∧ Rt w (fun b => b < w.heap.size) c x := fun k j c hk hj => by
      obtain ⟨_, h2, h3⟩ := hY k hk
      obtain ⟨_, hl3, h4⟩ := World.cells?_some h2
      have hj2 : j < e.n := by rw [← hl3, ← h3.1]; exact (List.getElem?_eq_some_iff.1 hj).1
      have h5 := h4 j hj2
      have hs := hspot (by omega)
      obtain ⟨bl, off, sp⟩ := a
      simp only at hs
      subst hs
      have h6 : ((⟨bl, off, none⟩ : Addr).add (k * e.n)).add j = ⟨bl, off + k * e.n + j, none⟩ := by
       unfold Addr.add; split <;> split <;> simp_all
      rw [h6] at h5
      have h7 : (Y k)[j]? = some ((Y k)[j]'(by omega)) := List.getElem?_eq_getElem (by omega)
      rw [h7] at h5
      exact ⟨_, h7, h5, h3.2 j c _ hj h7⟩
     refine ⟨(List.range len).map X, ⟨by rw [hln]; exact hlb, fun x hx => ?_⟩, ?_⟩
     ·obtain ⟨i, hi, rfl⟩ := List.mem_map.1 hx
      exact (hY i (List.mem_range.1 hi)).1
     ·refine Cs.one rfl (.tree e _ (some a) len cap a.block a.off (fun k j => ((Y k)[j]?).getD (.bool false)) hln.symm (by rw [hln]; omega) (by rw [hln]; exact hlc) hm ?_ ?_ ?_)
      ·intro hl0
       rw [hln] at hl0
       refine ⟨?_, ?_⟩
       ·have := hspot hl0
        obtain ⟨bl, off, sp⟩ := a
        simp only at this; subst this; rfl
       ·obtain ⟨_, h2, h3⟩ := hY 0 hl0
        have hl4 := (World.cells?_some h2).2.1
        have hc0 : (e.enc (X 0))[0]? = some ((e.enc (X 0))[0]'(by rw [h3.1]; omega)) := List.getElem?_eq_getElem _
        obtain ⟨_, _, h5, _⟩ := hcell 0 0 _ hl0 hc0
        unfold World.cell? at h5
        split at h5
        ·rename_i hh; exact (Array.getElem?_eq_some_iff.1 hh).1
        ·cases h5
      ·intro k j c hk hj
       rw [hln] at hk
       rw [hrow k hk] at hj
       obtain ⟨x, h1, h2, h3, _⟩ := hcell k j c hk hj
       simp only [h1]
       exact ⟨h2, h3⟩
      ·intro k j c hk hj
       rw [hln] at hk
       rw [hrow k hk] at hj
       obtain ⟨x, h1, _, _, h4⟩ := hcell k j c hk hj
       simp only [h1]
       exact h4
   ·cases hok
end
def Ty.av (t : Ty) (x : t.den) : AV :=
 match t, x with
 | .int k, n => .v (.int k n)
 | .bool, b => .bl b
 | .str, s => .v (.string s)
 | .st fs, x => .agg (Ty.encs fs x)
 | .sl e, xs => .tree e xs
def Ty.avs : (ts : List Ty) → Ty.dens ts → List AV
 | [], _ => []
 | t :: ts, x => t.av x.1 :: Ty.avs ts x.2
theorem avs_length : ∀ (ts : List Ty) (x : Ty.dens ts), (Ty.avs ts x).length = ts.length
 | [], _ => rfl
 | t :: ts, x => by simp [Ty.avs, avs_length ts]
def tyTop (P : Program) : List Ty → List TypeId → Bool
 | [], [] => true
 | s :: ss, t :: ts => tyOk P s t && tyTop P ss ts
 | _, _ => false

section
variable {H : Type} {enc : TypeId × Value → H} {P : Program}
theorem cells1 {w : World} {c : AV} {x y : Value} (hx : x.cells.toList = [y]) (hxy : x = y) (h : Cs w [c] x.cells.toList) : Rt w (fun b => b < w.heap.size) c x := by
 rw [hx] at h; rw [hxy]; exact (h.2 0 c y rfl rfl).2

theorem open_top {W : World} {base : Nat} {spare : Nat → Bool} {held : Bool} {r : Reach} {sh : Ty} {t : TypeId} {v : Value} {d : DataW H} {ps : List MemPlace} (hok : tyOk P sh t = true) (hval : Value.okWide P W r base t v)
  (h : DataW.Trod enc P W 0 spare held t v d ps) (hb : Rows.uptoBulk d ≤ 1048576) : ∃ x : sh.den, sh.fit x ∧ Rt W (fun b => b < W.heap.size) (sh.av x) v := by
 obtain ⟨n, hn⟩ := h
 obtain ⟨x, h1, h3⟩ := opens (by decide) n sh t _ d ps hok hn hb
 refine ⟨x, h1, ?_⟩
 cases sh with
 | int k =>
   unfold tyOk at hok; split at hok
   ·rename_i k' hu
    obtain ⟨m', rfl⟩ := okWide_int hu hval
    exact cells1 rfl rfl h3
   ·cases hok
 | bool =>
   unfold tyOk at hok; split at hok
   ·rename_i hu
    obtain ⟨m', rfl⟩ := okWide_bool hu hval
    exact cells1 rfl rfl h3
   ·cases hok
 | str =>
   unfold tyOk at hok; split at hok
   ·rename_i hu
    obtain ⟨m', rfl⟩ := okWide_string hu hval
    exact cells1 rfl rfl h3
   ·cases hok
 | sl e =>
   unfold tyOk at hok; split at hok
   ·rename_i hu
    obtain ⟨a, len, cap, rfl⟩ := okWide_slice hu hval
    exact cells1 rfl rfl h3
   ·cases hok
 | st ss =>
   unfold tyOk at hok; split at hok
   ·rename_i hu
    obtain ⟨cs, rfl, _⟩ := okWide_struct hu hval
    have h4 : (Value.agg cs).cells.toList = cs.toList := rfl
    rw [h4] at h3
    refine .agg _ cs (by rw [← Array.length_toList]; exact h3.1.symm) fun i c x e1 e2 => (h3.2 i c x e1 (by simpa using e2)).2
   ·cases hok

theorem open_all {W : World} {base : Nat} {spare : Nat → Bool} {held : Bool} {r : Reach} : ∀ {ss : List Ty} {ts : List TypeId} {vs : List Value} {ds : List (DataW H)} {ps : List MemPlace}, tyTop P ss ts = true →
  (∀ (j : Nat) t v, ts[j]? = some t → vs[j]? = some v → Value.okWide P W r base t v) → DataW.TrodAll enc P W 0 spare held ts vs ds ps → Rows.uptoBulkAll ds ≤ 1048576 →
  ∃ xs : Ty.dens ss, Ty.fits ss xs ∧ vs.length = ss.length ∧ ds.length = ts.length ∧ ∀ (i : Nat) (c : AV) (v : Value), (Ty.avs ss xs)[i]? = some c → vs[i]? = some v → Rt W (fun b => b < W.heap.size) c v
 | [], [], vs, ds, ps, _, _, h, _ => by
   obtain ⟨rfl, rfl, rfl⟩ := trodAll_nil h
   exact ⟨(), trivial, rfl, rfl, by simp [Ty.avs]⟩
 | s :: ss, t :: ts, vs, ds, ps, hok, hval, h, hb => by
   obtain ⟨v, vs, d, ds, p, q, rfl, rfl, rfl, h0, h1⟩ := trodAll_cons h
   simp only [tyTop, Bool.and_eq_true] at hok
   simp only [Rows.uptoBulkAll] at hb
   obtain ⟨x, g1, g3⟩ := open_top hok.1 (hval 0 t v rfl rfl) h0 (by omega)
   obtain ⟨xs, k1, k3, k4, k5⟩ := open_all hok.2 (fun j t v e1 e2 => hval (j + 1) t v (by simpa using e1) (by simpa using e2)) h1 (by omega)
   refine ⟨(x, xs), ⟨g1, k1⟩, by simp [k3], by simp [k4], fun i y u e1 e2 => ?_⟩
   cases i with
   | zero => simp [Ty.avs] at e1 e2; subst e1 e2; exact g3
   | succ i => exact k5 i y u (by simpa [Ty.avs] using e1) (by simpa using e2)
 | [], _ :: _, _, _, _, hok, _, _, _ => by simp [tyTop] at hok
 | _ :: _, [], _, _, _, hok, _, _, _ => by simp [tyTop] at hok

theorem tAs (hl : laidOutB P = true) {W W' : World} (hb : Below W.heap.size W W') : ∀ {ts : List TypeId} {vs : List Value} {ds : List (DataW H)} {ps : List MemPlace},
  (ts.all fun t => P.readableRec t && decide (t < P.types.size)) = true → DataW.TrodAll enc P W 0 (fun _ => true) true ts vs ds ps → (∀ x ∈ ps, x.block < W.heap.size) → DataW.TrodAll enc P W' 0 (fun b => decide (b < W.heap.size)) true ts vs ds ps
 | [], vs, ds, ps, _, h, _ => by
   obtain ⟨rfl, rfl, rfl⟩ := trodAll_nil h
   rfl
 | t :: ts, vs, ds, ps, ht, h, hlt => by
   obtain ⟨v, vs, d, ds, p, q, rfl, rfl, rfl, h0, h1⟩ := trodAll_cons h
   simp only [List.all_cons, Bool.and_eq_true, decide_eq_true_eq] at ht
   exact ⟨p, q, Below.trod hl ht.1.1 ht.1.2 h0 hb (fun x hx => hlt x (by simp [hx])), tAs hl hb ht.2 h1 (fun x hx => hlt x (by simp [hx])), rfl⟩

theorem post_of_true {fn : Func} {s : ChangeSpec} {W W' : World} {args : Array Value} {ds gs : List (DataW H)} {before : List MemPlace} {tb : TypeId} (hW : DataW.Whole enc P fn.params.toList s.vars false W args.toList ds gs before)
  (hvs : s.vars = []) (hl : laidOutB P = true) (hrr : (fn.params.toList.all fun t => P.readableRec t && decide (t < P.types.size)) = true) (hrt : fn.resultTypes = #[tb]) (hub : P.underlying tb = some .bool)
  (hfn : s.fn H (ds ++ gs) = { results := [.lit (.bool true)], args := ds }) (hk : Below W.heap.size W W') : s.post enc P fn false true false false W args (.bool true) W' := by
 have hlt := hW.lt
 have hW' := hW
 obtain ⟨p, q, hA, hV, rfl, hfz, hnd⟩ := hW
 rw [hvs] at hV
 obtain ⟨rfl, rfl⟩ := trodVars_none hV
 refine ⟨ds, [], p ++ [], [], p, [], hW', ?_, ?_, ?_, hk.frame _, fun h => by cases h⟩
 ·rw [hfn, hrt]
  exact trodAll_mk1 (shut_bool hub true)
 ·rw [hfn]
  exact tAs hl hk hrr hA (fun x hx => hlt x (by simp [hx]))
 ·rw [hfn, hvs]; rfl


theorem law_upto {f : FuncId} {fn : Func} {s : ChangeSpec} {shs : List Ty} {tb : TypeId} (hvs : s.vars = []) (hl : laidOutB P = true) (hrr : (fn.params.toList.all fun t => P.readableRec t && decide (t < P.types.size)) = true) (hrt : fn.resultTypes = #[tb])
  (hub : P.underlying tb = some .bool) (hfn : ∀ ds : List (DataW H), ds.length = fn.params.toList.length → s.fn H (ds ++ []) = { results := [.lit (.bool true)], args := ds }) (hsh : tyTop P shs fn.params.toList = true)
  (hspec : ∀ xs : Ty.dens shs, Ty.fits shs xs → Spec P f (Ty.avs shs xs) [] (.bl true) [])
  (W : World) (base : Nat) (args : Array Value) (ds gs : List (DataW H)) (before : List MemPlace) (hval : ∀ (j : Nat) t v, fn.params[j]? = some t → args[j]? = some v → Value.okWide P W .any base t v)
  (hW : DataW.Whole enc P fn.params.toList s.vars false W args.toList ds gs before) (hb : Rows.uptoBulkAll (ds ++ gs) ≤ 1048576)
  (GB : Nat → Prop) (hGB : ∀ b, GB b → b < W.heap.size) (hLw : Lw GB W) :
  Calls P f args W fun e W' => ∃ v, e = .returned v ∧ s.post enc P fn false true false false W args v W' := by
 have hW' := hW
 obtain ⟨p, q, hA, hV, rfl, hfz, hnd⟩ := hW
 rw [hvs] at hV
 obtain ⟨rfl, rfl⟩ := trodVars_none hV
 rw [List.append_nil] at hb
 obtain ⟨xs, h1, h3, h4, h5⟩ := open_all hsh (fun j t v e1 e2 => hval j t v (by simpa using e1) (by simpa using e2)) hA hb
 refine (hspec xs h1 W GB (fun _ => ⟨0, 0, 0, .bool false⟩) (fun _ => True) args hLw (fun b hb => ⟨hGB b hb, fun ⟨id, lb, e, _⟩ => by simp at e, trivial⟩) ?_ (by rw [avs_length, ← h3]; simp) ?_).mono ?_
 ·exact ⟨fun i j li lj e => by simp at e, fun id lb e => by simp at e, fun id lb e => by simp at e⟩
 ·intro i c x e1 e2
  exact .imm _ _ ((h5 i c x e1 (by simpa using e2)).mono fun b hb => ⟨⟨.inl trivial, hb, fun id lb e => by simp at e⟩, rfl⟩)
 ·rintro e W1 ⟨x, V', rfl, hk, _, _, _, hr⟩
  have := b_inv (c := .bl true) rfl hr
  subst this
  refine ⟨_, rfl, post_of_true hW' hvs hl hrr hrt hub (hfn ds h4) ?_⟩
  exact ⟨hk.os, hk.tape, hk.output, hk.size, fun k hk' => hk.block k hk' fun hm => by simp [blkOf] at hm⟩
end
end Go.Proofs.YtaobinhdnklojaaGreatDoor
namespace Go.Proofs.YtaobinhdnklojaaGreatDoor
open Go.RowKit

theorem dv (d : Nat) (h : d < 10) : Lib.digitVal (UInt8.ofNat (48 + d)) = some d := by
 unfold Lib.digitVal
 rw [UInt8.toNat_ofNat', Nat.mod_eq_of_lt (by omega), if_pos (by omega)]
 congr 1; omega
theorem dFa (b : UInt8) : ∀ (l : List UInt8) (acc : Nat), Lib.decFrom acc (l ++ [b]) = (Lib.decFrom acc l).bind fun m => (Lib.digitVal b).map fun d => m * 10 + d
 | [], acc => by
   show (match Lib.digitVal b with | some d => Lib.decFrom (acc * 10 + d) [] | none => none) = (some acc).bind fun m => (Lib.digitVal b).map fun d => m * 10 + d
   cases Lib.digitVal b <;> rfl
 | c :: l, acc => by
   show (match Lib.digitVal c with | some d => Lib.decFrom (acc * 10 + d) (l ++ [b]) | none => none) = (match Lib.digitVal c with | some d => Lib.decFrom (acc * 10 + d) l | none => none).bind _
   cases Lib.digitVal c with
   | none => rfl
   | some d => exact dFa b l _
theorem dFd (n : Nat) : Lib.decFrom 0 (Lib.decDigits n) = some n := by
 induction n using Nat.strongRecOn with
 | ind n ih =>
   unfold Lib.decDigits
   split
   ·rename_i h
    show (match Lib.digitVal (UInt8.ofNat (48 + n)) with | some d => Lib.decFrom (0 * 10 + d) [] | none => none) = some n
    rw [dv n h]
    show some (0 * 10 + n) = some n
    congr 1; omega
   ·rename_i h
    rw [dFa, ih (n / 10) (by omega), Option.bind_some, dv _ (Nat.mod_lt _ (by omega)), Option.map_some]
    congr 1; omega
theorem dec_cons (n : Nat) : ∃ b r, Lib.decDigits n = b :: r ∧ 48 ≤ b.toNat ∧ b.toNat ≤ 57 := by
 cases h : Lib.decDigits n with
 | nil => have := dl2 n; rw [h] at this; simp at this
 | cons b r => exact ⟨b, r, rfl, dec_mem n b (by rw [h]; simp)⟩
theorem decNat_dec (n : Nat) : Lib.decNat (Lib.decDigits n) = some n := by
 obtain ⟨b, r, h, _⟩ := dec_cons n
 have h2 := dFd n
 unfold Lib.decNat
 rw [h] at h2 ⊢
 exact h2
theorem atoi_itoa (n : Int) : Lib.atoi (Lib.itoa n) = some n := by
 unfold Lib.itoa
 split
 ·rename_i h
  show Lib.atoi (45 :: Lib.decDigits n.natAbs) = _
  unfold Lib.atoi
  dsimp only
  rw [if_pos (show ((45 : UInt8) == 45) = true from rfl), decNat_dec, Option.map_some]
  congr 1; omega
 ·rename_i h
  obtain ⟨b, r, e, h1, h2⟩ := dec_cons n.toNat
  have h3 := decNat_dec n.toNat
  rw [e] at h3 ⊢
  have n45 : (b == 45) = false := by
   rw [beq_eq_false_iff_ne]; rintro rfl
   have : (45 : UInt8).toNat = 45 := rfl
   omega
  have n43 : (b == 43) = false := by
   rw [beq_eq_false_iff_ne]; rintro rfl
   have : (43 : UInt8).toNat = 43 := rfl
   omega
  unfold Lib.atoi
  dsimp only
  rw [if_neg (show ¬ ((b == 45) = true) by rw [n45]; simp), if_neg (show ¬ ((b == 43) = true) by rw [n43]; simp), h3, Option.map_some]
  congr 1; omega
theorem il (n : Int) (h : -999999 ≤ n ∧ n ≤ 999999) : (Lib.itoa n).length ≤ 7 ∧ 1 ≤ (Lib.itoa n).length := by
 unfold Lib.itoa
 split
 ·have := dl1 5 n.natAbs (by have : (10 : Nat) ^ (5 + 1) = 1000000 := by decide
                             omega)
  have := dl2 n.natAbs
  simp; omega
 ·have := dl1 5 n.toNat (by have : (10 : Nat) ^ (5 + 1) = 1000000 := by decide
                            omega)
  have := dl2 n.toNat
  omega
theorem parseI_itoa (n : Int) (h : -999999 ≤ n ∧ n ≤ 999999) : pI (bs (Lib.itoa n)) = (n, true) := by
 unfold pI
 rw [if_pos (by rw [bs1]; exact (il n h).1), lb1, atoi_itoa]
 dsimp only
 rw [if_pos ⟨h, rfl⟩]
theorem parseI_cases (l : List UInt8) : (∃ n : Int, (-999999 ≤ n ∧ n ≤ 999999) ∧ l = Lib.itoa n ∧ pI (bs l) = (n, true)) ∨ (pI (bs l) = (0, false) ∧ ∀ n : Int, -999999 ≤ n ∧ n ≤ 999999 → l ≠ Lib.itoa n) := by
 by_cases h : ∃ n : Int, (-999999 ≤ n ∧ n ≤ 999999) ∧ l = Lib.itoa n
 ·obtain ⟨n, hn, rfl⟩ := h
  exact .inl ⟨n, hn, rfl, parseI_itoa n hn⟩
 ·refine .inr ⟨?_, fun n hn e => h ⟨n, hn, e⟩⟩
  unfold pI
  split
  ·split
   ·rename_i n e
    rw [if_neg]
    rintro ⟨hn, e2⟩
    exact h ⟨n, hn, (bi.1 e2).symm⟩
   ·rfl
  ·rfl

theorem spl_app (c : UInt8) (a r : List UInt8) (h : c ∉ a) : spl c (a ++ c :: r) = a :: spl c r := by
 induction a with
 | nil => conv => lhs; unfold spl; 
          simp
 | cons b a ih =>
   simp only [List.mem_cons, not_or] at h
   have ih := ih h.2
   conv => lhs; rw [List.cons_append]; unfold spl
   rw [if_neg (fun e => h.1 e.symm), ih]
theorem spl_not (c : UInt8) (l : List UInt8) (h : c ∉ l) : spl c l = [l] := by
 induction l with
 | nil => rfl
 | cons b l ih =>
   simp only [List.mem_cons, not_or] at h
   have ih := ih h.2
   unfold spl
   rw [if_neg (fun e => h.1 e.symm), ih]
theorem splitK_spl (c : UInt8) : ∀ (k : Nat) (l : List UInt8), l.count c = k → Lib.splitK [c] 0 k l = spl c l
 | 0, l, h => by
   rw [spl_not c l (List.count_eq_zero.1 h)]; rfl
 | k + 1, l, h => by
   have hm : c ∈ l := List.count_pos_iff.1 (by omega)
   obtain ⟨r, e⟩ := bs4 c l hm
   have hi := io1 c l
   rw [if_pos hm] at hi
   have hcr : r.count c = k := by
    have h0 : (bef c l).count c = 0 := List.count_eq_zero.2 (bn c l)
    rw [e, List.count_append, List.count_cons_self, h0] at h
    omega
   have ih := splitK_spl c k r hcr
   unfold Lib.splitK
   rw [hi, if_neg (by simp)]
   have hd : l.drop (((bef c l).length : Int).toNat + [c].length) = r := by
    conv => lhs; rw [e]
    rw [ba1 c _ _ (bn c l), Int.toNat_natCast, ← List.drop_drop, List.drop_left]; rfl
   rw [hd, ih, Int.toNat_natCast, Nat.add_zero, bef_take]
   conv => rhs; rw [e]
   rw [spl_app c _ _ (bn c l)]
theorem map_bs (xs : List ByteArray) (ys : List (List UInt8)) (h : xs.map (·.data.toList) = ys) : xs = ys.map bs := by
 subst h
 rw [List.map_map]
 conv => lhs; rw [← List.map_id xs]
 exact List.map_congr_left fun x _ => (bs_list x).symm
theorem sBe (c : UInt8) (l : List UInt8) : splitB (bs l) (bs [c]) = (spl c l).map bs := by
 refine map_bs _ _ ?_
 unfold splitB
 rw [Lib.splitB_data, lb1, lb1]
 have e : Lib.countB (bs l) (bs [c]) = l.count c := by
  have h1 := Lib.count_one c l
  have h2 : Lib.countB (bs l) (bs [c]) = Lib.count l [c] := by
   show Lib.count (bs l).data.toList (bs [c]).data.toList = _
   rw [lb1, lb1]
  rw [h2, h1]
 rw [e]
 exact splitK_spl c _ l rfl
end Go.Proofs.YtaobinhdnklojaaGreatDoor
