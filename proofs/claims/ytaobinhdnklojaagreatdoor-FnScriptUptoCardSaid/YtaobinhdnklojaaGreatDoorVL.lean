/-
  A log that a console has kept is replayed to its end, and so is every beginning of it.
-/
import Derived.Test.YtaobinhdnklojaaGreatDoorVC
import Derived.Test.YtaobinhdnklojaaGreatDoorC8029
namespace Go.Proofs.YtaobinhdnklojaaGreatDoor
open Go.RowKit

theorem ws0 : ByteArray.mk #[100, 111, 111, 114] = bs [100, 111, 111, 114] := rfl
theorem ws1 : ByteArray.mk #[100, 111, 111, 114, 115] = bs [100, 111, 111, 114, 115] := rfl
theorem ws2 : ByteArray.mk #[100, 111, 119, 110] = bs [100, 111, 119, 110] := rfl
theorem ws3 : ByteArray.mk #[102, 97, 115, 116] = bs [102, 97, 115, 116] := rfl
theorem ws4 : ByteArray.mk #[104, 97, 110, 103] = bs [104, 97, 110, 103] := rfl
theorem ws5 : ByteArray.mk #[108, 101, 97, 118, 101] = bs [108, 101, 97, 118, 101] := rfl
theorem ws6 : ByteArray.mk #[108, 111, 99, 107] = bs [108, 111, 99, 107] := rfl
theorem ws7 : ByteArray.mk #[112, 101, 111, 112, 108, 101] = bs [112, 101, 111, 112, 108, 101] := rfl
theorem ws8 : ByteArray.mk #[115, 108, 111, 119] = bs [115, 108, 111, 119] := rfl
theorem ws9 : ByteArray.mk #[115, 116, 111, 112] = bs [115, 116, 111, 112] := rfl
theorem ws10 : ByteArray.mk #[116, 117, 114, 110] = bs [116, 117, 114, 110] := rfl
theorem ws11 : ByteArray.mk #[116, 97, 107, 101] = bs [116, 97, 107, 101] := rfl
theorem ws12 : ByteArray.mk #[117, 112] = bs [117, 112] := rfl
theorem ws13 : ByteArray.mk #[98, 111, 97, 114, 100] = bs [98, 111, 97, 114, 100] := rfl
theorem ws14 : ByteArray.mk #[99, 108, 101, 97, 114] = bs [99, 108, 101, 97, 114] := rfl
theorem ws15 : ByteArray.mk #[99, 97, 98, 105, 110] = bs [99, 97, 98, 105, 110] := rfl
theorem dw (w v : List UInt8) : decide (bs w = bs v) = decide (w = v) := by
 by_cases h : w = v
 ·rw [h, decide_eq_true rfl, decide_eq_true rfl]
 ·rw [decide_eq_false h, decide_eq_false (fun e => h (bi.1 e))]
noncomputable def sOL (w : List UInt8) (a1 : (List Int)) : Option (RS1 × Bool) :=
 (cond (decide (w = [115, 116, 111, 112])) (cond (!decide ((a1.length : Int) = (0 : Int))) ((some (((1 : Int), (0 : Int), ()), false))) ((some (((1 : Int), (0 : Int), ()), true)))) (cond (decide (w = [115, 108, 111, 119])) (cond (!decide ((a1.length : Int) = (0 : Int))) ((some (((1 : Int), (1 : Int), ()), false))) ((some (((1 : Int), (1 : Int), ()), true)))) (cond (decide (w = [102, 97, 115, 116])) (cond (!decide ((a1.length : Int) = (0 : Int))) ((some (((1 : Int), (2 : Int), ()), false))) ((some (((1 : Int), (2 : Int), ()), true)))) (cond (decide (w = [108, 111, 99, 107])) (cond (!decide ((a1.length : Int) = (0 : Int))) ((some (((1 : Int), (3 : Int), ()), false))) ((some (((1 : Int), (3 : Int), ()), true)))) (cond (decide (w = [116, 117, 114, 110])) (cond (!decide ((a1.length : Int) = (0 : Int))) ((some (((2 : Int), (0 : Int), ()), false))) ((some (((2 : Int), (0 : Int), ()), true)))) (cond (decide (w = [116, 97, 107, 101])) (cond (!decide ((a1.length : Int) = (0 : Int))) ((some (((4 : Int), (0 : Int), ()), false))) ((some (((4 : Int), (0 : Int), ()), true)))) (cond (decide (w = [104, 97, 110, 103])) (cond (!decide ((a1.length : Int) = (1 : Int))) ((some (((3 : Int), (0 : Int), ()), false))) (grd (0 ≤ (0 : Int) ∧ (0 : Int) < (a1.length : Int)) ((some (((3 : Int), (a1.getD ((0 : Int).toNat) 0), ()), true))))) (cond (decide (w = [100, 111, 111, 114])) (cond (!decide ((a1.length : Int) = (1 : Int))) ((some (((7 : Int), (0 : Int), ()), false))) (grd (0 ≤ (0 : Int) ∧ (0 : Int) < (a1.length : Int)) ((some (((7 : Int), (a1.getD ((0 : Int).toNat) 0), ()), true))))) (cond (decide (w = [98, 111, 97, 114, 100])) (cond (!decide ((a1.length : Int) = (1 : Int))) ((some (((5 : Int), (0 : Int), ()), false))) (grd (0 ≤ (0 : Int) ∧ (0 : Int) < (a1.length : Int)) ((some (((5 : Int), (a1.getD ((0 : Int).toNat) 0), ()), true))))) (cond (decide (w = [108, 101, 97, 118, 101])) (cond (!decide ((a1.length : Int) = (1 : Int))) ((some (((6 : Int), (0 : Int), ()), false))) (grd (0 ≤ (0 : Int) ∧ (0 : Int) < (a1.length : Int)) ((some (((6 : Int), (a1.getD ((0 : Int).toNat) 0), ()), true))))) ((some (((0 : Int), (0 : Int), ()), false)))))))))))))
theorem stepOfL_eq (a1 : (List Int)) (w : List UInt8) : isO (bs w) a1 = sOL w a1 := by
 unfold isO sOL
 simp only [ws0, ws3, ws4, ws5, ws6, ws8, ws9, ws10, ws11, ws13, dw]
noncomputable def askL (a0 : R1) (w : List UInt8) (a2 : (List Int)) : Option (ByteArray × Bool) :=
 (cond (decide ((a2.length : Int) = (1 : Int))) (cond (decide (w = [99, 97, 98, 105, 110])) (grd (0 ≤ (0 : Int) ∧ (0 : Int) < (a2.length : Int)) ((iCA (a0.1, a0.2.1, a0.2.2.1, a0.2.2.2.1, a0.2.2.2.2.1, ()) (a2.getD ((0 : Int).toNat) 0)).bind fun y1 => ((strconv_Itoa y1.1).bind fun y2 => (some (y2, y1.2))))) (cond (decide (w = [117, 112])) (grd (0 ≤ (0 : Int) ∧ (0 : Int) < (a2.length : Int)) ((iTT (a0.1, a0.2.1, a0.2.2.1, a0.2.2.2.1, a0.2.2.2.2.1, ()) (a2.getD ((0 : Int).toNat) 0) true).bind fun y3 => ((strconv_Itoa y3.1).bind fun y4 => (some (y4, y3.2))))) (cond (decide (w = [100, 111, 119, 110])) (grd (0 ≤ (0 : Int) ∧ (0 : Int) < (a2.length : Int)) ((iTT (a0.1, a0.2.1, a0.2.2.1, a0.2.2.2.1, a0.2.2.2.2.1, ()) (a2.getD ((0 : Int).toNat) 0) false).bind fun y5 => ((strconv_Itoa y5.1).bind fun y6 => (some (y6, y5.2))))) ((strconv_Itoa (0 : Int)).bind fun y7 => (some (y7, false)))))) (cond (decide ((0 : Int) < (a2.length : Int))) ((some ((ByteArray.mk #[]), false))) (cond (decide (w = [112, 101, 111, 112, 108, 101])) ((iRpO (a0.1, a0.2.1, a0.2.2.1, a0.2.2.2.1, a0.2.2.2.2.1, ())).bind fun y8 => ((ilT [a0.2.2.1, y8.1, a0.2.2.2.1, a0.2.2.2.2.1]).bind fun y9 => (some (y9, true)))) (cond (decide (w = [100, 111, 111, 114, 115])) ((iOD (a0.1, a0.2.1, a0.2.2.1, a0.2.2.2.1, a0.2.2.2.2.1, ())).bind (Sum.elim (fun _ => ((ilT []).bind fun y12 => (some (y12, false)))) (fun y13 => ((ilT y13).bind fun y14 => (some (y14, true)))))) (cond (decide (w = [99, 108, 101, 97, 114])) ((iIC (a0.1, a0.2.1, a0.2.2.1, a0.2.2.2.1, a0.2.2.2.2.1, ())).bind fun y15 => (cond y15.1 ((some ((ByteArray.mk #[121, 101, 115]), true))) ((some ((ByteArray.mk #[110, 111]), true))))) ((some ((ByteArray.mk #[]), false))))))))
theorem askL_eq (a0 : R1) (a2 : (List Int)) (w : List UInt8) : ia a0 (bs w) a2 = askL a0 w a2 := by
 unfold ia askL
 simp only [ws1, ws2, ws7, ws12, ws14, ws15, dw]
noncomputable def wordL (a0 : C1) (w : List UInt8) : Option ((C1 × ByteArray × (List Slot)) ⊕ (C1 × ByteArray × (List Slot))) :=
 (cond (decide (w = [115, 116, 111, 112])) ((slM ((a0.1.1, a0.1.2.1, a0.1.2.2.1, a0.1.2.2.2.1, a0.1.2.2.2.2.1, ()), (a0.2.1.1, a0.2.1.2.1, a0.2.1.2.2.1, ()), ()) (1 : Int) (0 : Int)).bind (Sum.elim (fun y2 => (some (Sum.inl (((y2.1.1.1, y2.2.2, y2.1.1.2.2.1, y2.1.1.2.2.2.1, y2.1.1.2.2.2.2.1, ()), (y2.1.2.1.1, y2.1.2.1.2.1, y2.1.2.1.2.2.1, ()), ()), y2.2.1, y2.2.2)))) (fun y3 => (some (Sum.inr (((y3.1.1.1, y3.1.1.2.1, y3.1.1.2.2.1, y3.1.1.2.2.2.1, y3.1.1.2.2.2.2.1, ()), (y3.1.2.1.1, y3.1.2.1.2.1, y3.1.2.1.2.2.1, ()), ()), y3.2.1, y3.2.2)))))) (cond (decide (w = [115, 108, 111, 119])) ((slM ((a0.1.1, a0.1.2.1, a0.1.2.2.1, a0.1.2.2.2.1, a0.1.2.2.2.2.1, ()), (a0.2.1.1, a0.2.1.2.1, a0.2.1.2.2.1, ()), ()) (1 : Int) (1 : Int)).bind (Sum.elim (fun y5 => (some (Sum.inl (((y5.1.1.1, y5.2.2, y5.1.1.2.2.1, y5.1.1.2.2.2.1, y5.1.1.2.2.2.2.1, ()), (y5.1.2.1.1, y5.1.2.1.2.1, y5.1.2.1.2.2.1, ()), ()), y5.2.1, y5.2.2)))) (fun y6 => (some (Sum.inr (((y6.1.1.1, y6.1.1.2.1, y6.1.1.2.2.1, y6.1.1.2.2.2.1, y6.1.1.2.2.2.2.1, ()), (y6.1.2.1.1, y6.1.2.1.2.1, y6.1.2.1.2.2.1, ()), ()), y6.2.1, y6.2.2)))))) (cond (decide (w = [102, 97, 115, 116])) ((slM ((a0.1.1, a0.1.2.1, a0.1.2.2.1, a0.1.2.2.2.1, a0.1.2.2.2.2.1, ()), (a0.2.1.1, a0.2.1.2.1, a0.2.1.2.2.1, ()), ()) (1 : Int) (2 : Int)).bind (Sum.elim (fun y8 => (some (Sum.inl (((y8.1.1.1, y8.2.2, y8.1.1.2.2.1, y8.1.1.2.2.2.1, y8.1.1.2.2.2.2.1, ()), (y8.1.2.1.1, y8.1.2.1.2.1, y8.1.2.1.2.2.1, ()), ()), y8.2.1, y8.2.2)))) (fun y9 => (some (Sum.inr (((y9.1.1.1, y9.1.1.2.1, y9.1.1.2.2.1, y9.1.1.2.2.2.1, y9.1.1.2.2.2.2.1, ()), (y9.1.2.1.1, y9.1.2.1.2.1, y9.1.2.1.2.2.1, ()), ()), y9.2.1, y9.2.2)))))) (cond (decide (w = [108, 111, 99, 107])) ((slM ((a0.1.1, a0.1.2.1, a0.1.2.2.1, a0.1.2.2.2.1, a0.1.2.2.2.2.1, ()), (a0.2.1.1, a0.2.1.2.1, a0.2.1.2.2.1, ()), ()) (1 : Int) (3 : Int)).bind (Sum.elim (fun y11 => (some (Sum.inl (((y11.1.1.1, y11.2.2, y11.1.1.2.2.1, y11.1.1.2.2.2.1, y11.1.1.2.2.2.2.1, ()), (y11.1.2.1.1, y11.1.2.1.2.1, y11.1.2.1.2.2.1, ()), ()), y11.2.1, y11.2.2)))) (fun y12 => (some (Sum.inr (((y12.1.1.1, y12.1.1.2.1, y12.1.1.2.2.1, y12.1.1.2.2.2.1, y12.1.1.2.2.2.2.1, ()), (y12.1.2.1.1, y12.1.2.1.2.1, y12.1.2.1.2.2.1, ()), ()), y12.2.1, y12.2.2)))))) (cond (decide (w = [116, 117, 114, 110])) ((slM ((a0.1.1, a0.1.2.1, a0.1.2.2.1, a0.1.2.2.2.1, a0.1.2.2.2.2.1, ()), (a0.2.1.1, a0.2.1.2.1, a0.2.1.2.2.1, ()), ()) (2 : Int) (0 : Int)).bind (Sum.elim (fun y14 => (some (Sum.inl (((y14.1.1.1, y14.2.2, y14.1.1.2.2.1, y14.1.1.2.2.2.1, y14.1.1.2.2.2.2.1, ()), (y14.1.2.1.1, y14.1.2.1.2.1, y14.1.2.1.2.2.1, ()), ()), y14.2.1, y14.2.2)))) (fun y15 => (some (Sum.inr (((y15.1.1.1, y15.1.1.2.1, y15.1.1.2.2.1, y15.1.1.2.2.2.1, y15.1.1.2.2.2.2.1, ()), (y15.1.2.1.1, y15.1.2.1.2.1, y15.1.2.1.2.2.1, ()), ()), y15.2.1, y15.2.2)))))) (cond (decide (w = [116, 97, 107, 101])) ((slM ((a0.1.1, a0.1.2.1, a0.1.2.2.1, a0.1.2.2.2.1, a0.1.2.2.2.2.1, ()), (a0.2.1.1, a0.2.1.2.1, a0.2.1.2.2.1, ()), ()) (4 : Int) (0 : Int)).bind (Sum.elim (fun y17 => (some (Sum.inl (((y17.1.1.1, y17.2.2, y17.1.1.2.2.1, y17.1.1.2.2.2.1, y17.1.1.2.2.2.2.1, ()), (y17.1.2.1.1, y17.1.2.1.2.1, y17.1.2.1.2.2.1, ()), ()), y17.2.1, y17.2.2)))) (fun y18 => (some (Sum.inr (((y18.1.1.1, y18.1.1.2.1, y18.1.1.2.2.1, y18.1.1.2.2.2.1, y18.1.1.2.2.2.2.1, ()), (y18.1.2.1.1, y18.1.2.1.2.1, y18.1.2.1.2.2.1, ()), ()), y18.2.1, y18.2.2)))))) (cond (decide (w = [112, 101, 111, 112, 108, 101])) ((slS4 (a0.1.1, a0.1.2.1, a0.1.2.2.1, a0.1.2.2.2.1, a0.1.2.2.2.2.1, ())).bind fun y19 => ((slL1 [a0.1.2.2.1, y19.1, a0.1.2.2.2.1, a0.1.2.2.2.2.1] true).bind fun y20 => (some (Sum.inl (((a0.1.1, a0.1.2.1, a0.1.2.2.1, a0.1.2.2.2.1, a0.1.2.2.2.2.1, ()), (a0.2.1.1, a0.2.1.2.1, a0.2.1.2.2.1, ()), ()), y20, a0.1.2.1))))) (cond (decide (w = [100, 111, 111, 114, 115])) ((slO (a0.1.1, a0.1.2.1, a0.1.2.2.1, a0.1.2.2.2.1, a0.1.2.2.2.2.1, ())).bind fun y21 => ((slL1 y21 true).bind fun y22 => (some (Sum.inl (((a0.1.1, a0.1.2.1, a0.1.2.2.1, a0.1.2.2.2.1, a0.1.2.2.2.2.1, ()), (a0.2.1.1, a0.2.1.2.1, a0.2.1.2.2.1, ()), ()), y22, a0.1.2.1))))) (cond (decide (w = [99, 108, 101, 97, 114])) ((sIC (a0.1.1, a0.1.2.1, a0.1.2.2.1, a0.1.2.2.2.1, a0.1.2.2.2.2.1, ())).bind fun y23 => (cond y23.1 ((some (Sum.inl (((a0.1.1, a0.1.2.1, a0.1.2.2.1, a0.1.2.2.2.1, a0.1.2.2.2.2.1, ()), (a0.2.1.1, a0.2.1.2.1, a0.2.1.2.2.1, ()), ()), (ByteArray.mk #[121, 101, 115]), a0.1.2.1)))) ((some (Sum.inl (((a0.1.1, a0.1.2.1, a0.1.2.2.1, a0.1.2.2.2.1, a0.1.2.2.2.2.1, ()), (a0.2.1.1, a0.2.1.2.1, a0.2.1.2.2.1, ()), ()), (ByteArray.mk #[110, 111]), a0.1.2.1)))))) ((some (Sum.inl (((a0.1.1, a0.1.2.1, a0.1.2.2.1, a0.1.2.2.2.1, a0.1.2.2.2.2.1, ()), (a0.2.1.1, a0.2.1.2.1, a0.2.1.2.2.1, ()), ()), (ByteArray.mk #[63]), a0.1.2.1)))))))))))))
theorem wordL_eq (a0 : C1) (w : List UInt8) : slW a0 (bs w) = wordL a0 w := by
 unfold slW wordL
 simp only [ws1, ws3, ws6, ws7, ws8, ws9, ws10, ws11, ws14, dw]
noncomputable def oneL (a0 : C1) (w : List UInt8) (a2 : Int) : Option ((C1 × ByteArray × (List Slot)) ⊕ (C1 × ByteArray × (List Slot))) :=
 (cond (decide (w = [104, 97, 110, 103])) ((slM ((a0.1.1, a0.1.2.1, a0.1.2.2.1, a0.1.2.2.2.1, a0.1.2.2.2.2.1, ()), (a0.2.1.1, a0.2.1.2.1, a0.2.1.2.2.1, ()), ()) (3 : Int) a2).bind (Sum.elim (fun y2 => (some (Sum.inl (((y2.1.1.1, y2.2.2, y2.1.1.2.2.1, y2.1.1.2.2.2.1, y2.1.1.2.2.2.2.1, ()), (y2.1.2.1.1, y2.1.2.1.2.1, y2.1.2.1.2.2.1, ()), ()), y2.2.1, y2.2.2)))) (fun y3 => (some (Sum.inr (((y3.1.1.1, y3.1.1.2.1, y3.1.1.2.2.1, y3.1.1.2.2.2.1, y3.1.1.2.2.2.2.1, ()), (y3.1.2.1.1, y3.1.2.1.2.1, y3.1.2.1.2.2.1, ()), ()), y3.2.1, y3.2.2)))))) (cond (decide (w = [100, 111, 111, 114])) ((slM ((a0.1.1, a0.1.2.1, a0.1.2.2.1, a0.1.2.2.2.1, a0.1.2.2.2.2.1, ()), (a0.2.1.1, a0.2.1.2.1, a0.2.1.2.2.1, ()), ()) (7 : Int) a2).bind (Sum.elim (fun y5 => (some (Sum.inl (((y5.1.1.1, y5.2.2, y5.1.1.2.2.1, y5.1.1.2.2.2.1, y5.1.1.2.2.2.2.1, ()), (y5.1.2.1.1, y5.1.2.1.2.1, y5.1.2.1.2.2.1, ()), ()), y5.2.1, y5.2.2)))) (fun y6 => (some (Sum.inr (((y6.1.1.1, y6.1.1.2.1, y6.1.1.2.2.1, y6.1.1.2.2.2.1, y6.1.1.2.2.2.2.1, ()), (y6.1.2.1.1, y6.1.2.1.2.1, y6.1.2.1.2.2.1, ()), ()), y6.2.1, y6.2.2)))))) (cond (decide (w = [98, 111, 97, 114, 100])) ((slM ((a0.1.1, a0.1.2.1, a0.1.2.2.1, a0.1.2.2.2.1, a0.1.2.2.2.2.1, ()), (a0.2.1.1, a0.2.1.2.1, a0.2.1.2.2.1, ()), ()) (5 : Int) a2).bind (Sum.elim (fun y8 => (some (Sum.inl (((y8.1.1.1, y8.2.2, y8.1.1.2.2.1, y8.1.1.2.2.2.1, y8.1.1.2.2.2.2.1, ()), (y8.1.2.1.1, y8.1.2.1.2.1, y8.1.2.1.2.2.1, ()), ()), y8.2.1, y8.2.2)))) (fun y9 => (some (Sum.inr (((y9.1.1.1, y9.1.1.2.1, y9.1.1.2.2.1, y9.1.1.2.2.2.1, y9.1.1.2.2.2.2.1, ()), (y9.1.2.1.1, y9.1.2.1.2.1, y9.1.2.1.2.2.1, ()), ()), y9.2.1, y9.2.2)))))) (cond (decide (w = [108, 101, 97, 118, 101])) ((slM ((a0.1.1, a0.1.2.1, a0.1.2.2.1, a0.1.2.2.2.1, a0.1.2.2.2.2.1, ()), (a0.2.1.1, a0.2.1.2.1, a0.2.1.2.2.1, ()), ()) (6 : Int) a2).bind (Sum.elim (fun y11 => (some (Sum.inl (((y11.1.1.1, y11.2.2, y11.1.1.2.2.1, y11.1.1.2.2.2.1, y11.1.1.2.2.2.2.1, ()), (y11.1.2.1.1, y11.1.2.1.2.1, y11.1.2.1.2.2.1, ()), ()), y11.2.1, y11.2.2)))) (fun y12 => (some (Sum.inr (((y12.1.1.1, y12.1.1.2.1, y12.1.1.2.2.1, y12.1.1.2.2.2.1, y12.1.1.2.2.2.2.1, ()), (y12.1.2.1.1, y12.1.2.1.2.1, y12.1.2.1.2.2.1, ()), ()), y12.2.1, y12.2.2)))))) (cond (decide (w = [99, 97, 98, 105, 110])) ((sCA1 (a0.1.1, a0.1.2.1, a0.1.2.2.1, a0.1.2.2.2.1, a0.1.2.2.2.2.1, ()) a2).bind fun y13 => (cond (!y13.2) ((some (Sum.inl (((a0.1.1, a0.1.2.1, a0.1.2.2.1, a0.1.2.2.2.1, a0.1.2.2.2.2.1, ()), (a0.2.1.1, a0.2.1.2.1, a0.2.1.2.2.1, ()), ()), (ByteArray.mk #[63]), a0.1.2.1)))) ((slN y13.1).bind fun y14 => (some (Sum.inl (((a0.1.1, a0.1.2.1, a0.1.2.2.1, a0.1.2.2.2.1, a0.1.2.2.2.2.1, ()), (a0.2.1.1, a0.2.1.2.1, a0.2.1.2.2.1, ()), ()), y14, a0.1.2.1)))))) (cond (decide (w = [117, 112])) ((sTT (a0.1.1, a0.1.2.1, a0.1.2.2.1, a0.1.2.2.2.1, a0.1.2.2.2.2.1, ()) a2 true).bind fun y15 => (cond (!y15.2) ((some (Sum.inl (((a0.1.1, a0.1.2.1, a0.1.2.2.1, a0.1.2.2.2.1, a0.1.2.2.2.2.1, ()), (a0.2.1.1, a0.2.1.2.1, a0.2.1.2.2.1, ()), ()), (ByteArray.mk #[63]), a0.1.2.1)))) ((slN y15.1).bind fun y16 => (some (Sum.inl (((a0.1.1, a0.1.2.1, a0.1.2.2.1, a0.1.2.2.2.1, a0.1.2.2.2.2.1, ()), (a0.2.1.1, a0.2.1.2.1, a0.2.1.2.2.1, ()), ()), y16, a0.1.2.1)))))) (cond (decide (w = [100, 111, 119, 110])) ((sTT (a0.1.1, a0.1.2.1, a0.1.2.2.1, a0.1.2.2.2.1, a0.1.2.2.2.2.1, ()) a2 false).bind fun y17 => (cond (!y17.2) ((some (Sum.inl (((a0.1.1, a0.1.2.1, a0.1.2.2.1, a0.1.2.2.2.1, a0.1.2.2.2.2.1, ()), (a0.2.1.1, a0.2.1.2.1, a0.2.1.2.2.1, ()), ()), (ByteArray.mk #[63]), a0.1.2.1)))) ((slN y17.1).bind fun y18 => (some (Sum.inl (((a0.1.1, a0.1.2.1, a0.1.2.2.1, a0.1.2.2.2.1, a0.1.2.2.2.2.1, ()), (a0.2.1.1, a0.2.1.2.1, a0.2.1.2.2.1, ()), ()), y18, a0.1.2.1)))))) ((some (Sum.inl (((a0.1.1, a0.1.2.1, a0.1.2.2.1, a0.1.2.2.2.1, a0.1.2.2.2.2.1, ()), (a0.2.1.1, a0.2.1.2.1, a0.2.1.2.2.1, ()), ()), (ByteArray.mk #[63]), a0.1.2.1)))))))))))
theorem oneL_eq (a0 : C1) (a2 : Int) (w : List UInt8) : slO4 a0 (bs w) a2 = oneL a0 w a2 := by
 unfold slO4 oneL
 simp only [ws0, ws2, ws4, ws5, ws12, ws13, ws15, dw]
noncomputable def tailI (a0 : R1) (w : List UInt8) (nums : List Int) : Option ((R1 × ByteArray × (List Slot)) ⊕ (R1 × ByteArray × (List Slot))) :=
 ((sOL w nums).bind fun y21 => (cond y21.2 ((iRs (a0.1, a0.2.1, a0.2.2.1, a0.2.2.2.1, a0.2.2.2.2.1, ()) (y21.1.1, y21.1.2.1, ())).bind (Sum.elim (fun _ => (some (Sum.inl ((a0.1, a0.2.1, a0.2.2.1, a0.2.2.2.1, a0.2.2.2.2.1, ()), (ByteArray.mk #[63]), a0.2.1)))) (fun y24 => ((isR (y24.1, y24.2.1, y24.2.2.1, y24.2.2.2.1, y24.2.2.2.2.1, ()) (y21.1.1, y21.1.2.1, ())).bind fun y25 => (some (Sum.inr ((y24.1, y24.2.1, y24.2.2.1, y24.2.2.2.1, y24.2.2.2.2.1, ()), y25, a0.2.1))))))) ((askL a0 w nums).bind fun y26 => (cond y26.2 ((some (Sum.inl ((a0.1, a0.2.1, a0.2.2.1, a0.2.2.2.1, a0.2.2.2.2.1, ()), y26.1, a0.2.1)))) ((some (Sum.inl ((a0.1, a0.2.1, a0.2.2.1, a0.2.2.2.1, a0.2.2.2.2.1, ()), (ByteArray.mk #[63]), a0.2.1))))))))
theorem tail_step (a : R1) (w : List UInt8) (nums : List Int) (k v : Int) (hg : gd a = true) (h : sOL w nums = some ((k, v, ()), true)) :
  tailI a w nums = some (match outc a (k, v, ()) with | none => RI a a false [63] | some y => RI a y true (repL y k v)) := by
 have e1 := step_eq a (k, v, ()) hg
 unfold tailI
 rw [h, Option.bind_some]
 dsimp only
 rw [cond_true]
 have e1 : iRs (a.1, a.2.1, a.2.2.1, a.2.2.2.1, a.2.2.2.2.1, ()) (k, v, ()) = _ := e1
 rw [e1, Option.bind_some]
 cases ho : outc a (k, v, ()) with
 | none => rfl
 | some y =>
   have hr := (sRe y k v (og _ _ _ ho) (step_ask hg ho)).1
   have hr : isR (y.1, y.2.1, y.2.2.1, y.2.2.2.1, y.2.2.2.2.1, ()) (k, v, ()) = _ := hr
   rw [Option.elim_some, Sum.elim_inr, hr]
   rfl
theorem ta (a : R1) (w : List UInt8) (nums : List Int) (s : RS1) (R : List UInt8) (h : sOL w nums = some (s, false)) (ha : ∃ b z, askL a w nums = some (z, b) ∧ ((b = true ∧ z = bs R) ∨ (b = false ∧ R = [63]))) :
  tailI a w nums = some (RI a a false R) := by
 obtain ⟨b, z, e, hz⟩ := ha
 unfold tailI
 rw [h, Option.bind_some]
 dsimp only
 rw [cond_false, e, Option.bind_some]
 rcases hz with ⟨rfl, rfl⟩ | ⟨rfl, rfl⟩ <;> rfl
def Both (a : R1) (x : Option ((R1 × ByteArray × (List Slot)) ⊕ (R1 × ByteArray × (List Slot)))) (f : Log → Option ((C1 × ByteArray × (List Slot)) ⊕ (C1 × ByteArray × (List Slot)))) : Prop :=
 ∃ y b R, x = some (RI a y b R) ∧ (∀ g, f g = some (RS a y g b R)) ∧ gd y = true ∧ Fine R ∧ (b = false → y = a)
theorem bs2 (a : R1) (w : List UInt8) (nums : List Int) (k v : Int) (hg : gd a = true) (h : sOL w nums = some ((k, v, ()), true)) (f : Log → Option ((C1 × ByteArray × (List Slot)) ⊕ (C1 × ByteArray × (List Slot))))
  (hf : ∀ g, f g = (slM (a, g, ()) k v).bind (Sum.elim (fun y2 => (some (Sum.inl (((y2.1.1.1, y2.2.2, y2.1.1.2.2.1, y2.1.1.2.2.2.1, y2.1.1.2.2.2.2.1, ()), (y2.1.2.1.1, y2.1.2.1.2.1, y2.1.2.1.2.2.1, ()), ()), y2.2.1, y2.2.2)))) (fun y3 => (some (Sum.inr (((y3.1.1.1, y3.1.1.2.1, y3.1.1.2.2.1, y3.1.1.2.2.2.1, y3.1.1.2.2.2.2.1, ()), (y3.1.2.1.1, y3.1.2.1.2.1, y3.1.2.1.2.2.1, ()), ()), y3.2.1, y3.2.2)))))) :
  Both a (tailI a w nums) f := by
 have e1 := tail_step a w nums k v hg h
 have e2 : ∀ g, f g = some (match outc a (k, v, ()) with | none => RS a a g false [63] | some y => RS a y g true (repL y k v)) := fun g => by
  rw [hf, make_spec a g k v hg]
  cases outc a (k, v, ()) <;> rfl
 cases ho : outc a (k, v, ()) with
 | none => rw [ho] at e1; exact ⟨a, false, [63], e1, fun g => by rw [e2, ho], hg, by decide, fun _ => rfl⟩
 | some y =>
   rw [ho] at e1
   have hr := (sRe y k v (og _ _ _ ho) (step_ask hg ho)).2
   exact ⟨y, true, repL y k v, e1, fun g => by rw [e2, ho], og _ _ _ ho, hr, fun h => by cases h⟩
theorem opnL_small {l : List Slot} (hl : l.length ≤ 10) : Small (opnL l l.length) := by
 refine ⟨by have := opnL_le l l.length; omega, fun x hx => ?_⟩
 obtain ⟨j, hj, _, rfl⟩ := opnL_mem hx
 omega
theorem doors_both (a : R1) (hg : gd a = true) : iOD a = some (Sum.inr (opnL a.2.1 a.2.1.length)) ∧ slO a = some (opnL a.2.1 a.2.1.length) := by
 have h := gl hg
 have e2 : iIR (a.1, a.2.1, a.2.2.1, a.2.2.2.1, a.2.2.2.2.1, ()) = some (gd a) := iRe a h
 have H1 : iter (fun s => slOl a s.1 s.2) ((0 : Int), ([] : List Int)) = some (opnL a.2.1 a.2.1.length) :=
  if1 a.2.1.length (fun k => ((k : Int), opnL a.2.1 k)) (fun k hk => by
   show slOl a (k : Int) (opnL a.2.1 k) = _
   have hle := opnL_le a.2.1 k
   unfold slOl
   rw [cd1 (by omega), gp1 (by omega), wn (by omega), oLs]
   show cond (opn a.2.1 k) _ _ = _
   cases opn a.2.1 k
   ·rfl
   ·rw [cond_true, gp1 (by simp; omega)]; rfl) (by
   show slOl a (a.2.1.length : Int) (opnL a.2.1 a.2.1.length) = _
   unfold slOl
   rw [cd (by omega)]) rfl
 have H2 : iter (fun s => iODl a s.1 s.2) ((0 : Int), ([] : List Int)) = some (opnL a.2.1 a.2.1.length) :=
  if1 a.2.1.length (fun k => ((k : Int), opnL a.2.1 k)) (fun k hk => by
   show iODl a (k : Int) (opnL a.2.1 k) = _
   have hle := opnL_le a.2.1 k
   unfold iODl
   rw [cd1 (by omega), gp1 (by omega), wn (by omega), oLs]
   show cond (opn a.2.1 k) _ _ = _
   cases opn a.2.1 k
   ·rfl
   ·rw [cond_true, gp1 (by simp; omega)]; rfl) (by
   show iODl a (a.2.1.length : Int) (opnL a.2.1 a.2.1.length) = _
   unfold iODl
   rw [cd (by omega)]) rfl
 constructor
 ·unfold iOD
  rw [e2, hg, Option.bind_some, Bool.not_true, cond_false, H2]; rfl
 ·unfold slO
  rw [H1]; rfl
theorem people_both (a : R1) (hg : gd a = true) : ∃ z, slS4 a = some (sm a.2.1, z) ∧ iRpO a = some (sm a.2.1, z) ∧ Small [a.2.2.1, sm a.2.1, a.2.2.2.1, a.2.2.2.2.1] := by
 obtain ⟨m, l, w, t, d, ⟨⟩⟩ := a
 obtain ⟨_, hl, hw, ht, hd, hk⟩ := go1 hg
 obtain ⟨y, s1, s2, _⟩ := sum_ok (m, l, w, t, d, ()) (by show l.length ≤ 10; omega) (fun k h => iOp (hk k h))
 obtain ⟨z, s3⟩ := sum_val (m, l, w, t, d, ()) (by show l.length ≤ 10; omega) (fun k h => iOp (hk k h))
 have hb := sm_le l (fun k h => iOp (hk k h)) l.length (by omega)
 rw [List.take_length] at hb
 have e := Option.some.inj (s2.symm.trans s3)
 rw [e] at s1
 refine ⟨z, s1, s3, by show (4 : Nat) ≤ 12; decide, fun x hx => ?_⟩
 simp only [List.mem_cons, List.not_mem_nil, or_false] at hx
 rcases hx with h | h | h | h <;> rw [h] <;> omega
theorem word_both (a : R1) (w : List UInt8) (hg : gd a = true) : Both a (tailI a w []) (fun g => wordL (a, g, ()) w) := by
 by_cases h1 : w = [115, 116, 111, 112]
 ·subst h1; exact bs2 a _ [] 1 0 hg rfl _ fun g => by show wordL (a, g, ()) _ = _; unfold wordL; rw [cd1 rfl]
 by_cases h2 : w = [115, 108, 111, 119]
 ·subst h2; exact bs2 a _ [] 1 1 hg rfl _ fun g => by show wordL (a, g, ()) _ = _; unfold wordL; rw [cd h1, cd1 rfl]
 by_cases h3 : w = [102, 97, 115, 116]
 ·subst h3; exact bs2 a _ [] 1 2 hg rfl _ fun g => by show wordL (a, g, ()) _ = _; unfold wordL; rw [cd h1, cd h2, cd1 rfl]
 by_cases h4 : w = [108, 111, 99, 107]
 ·subst h4; exact bs2 a _ [] 1 3 hg rfl _ fun g => by show wordL (a, g, ()) _ = _; unfold wordL; rw [cd h1, cd h2, cd h3, cd1 rfl]
 by_cases h5 : w = [116, 117, 114, 110]
 ·subst h5; exact bs2 a _ [] 2 0 hg rfl _ fun g => by show wordL (a, g, ()) _ = _; unfold wordL; rw [cd h1, cd h2, cd h3, cd h4, cd1 rfl]
 by_cases h6 : w = [116, 97, 107, 101]
 ·subst h6; exact bs2 a _ [] 4 0 hg rfl _ fun g => by show wordL (a, g, ()) _ = _; unfold wordL; rw [cd h1, cd h2, cd h3, cd h4, cd h5, cd1 rfl]
 have hstep : ∃ s, sOL w [] = some (s, false) := by
  unfold sOL
  rw [cd h1, cd h2, cd h3, cd h4, cd h5, cd h6]
  have key : ∀ (b : Bool) (x y : Option (RS1 × Bool)), (∃ s, x = some (s, false)) → (∃ s, y = some (s, false)) → ∃ s, cond b x y = some (s, false) := by
   rintro (_ | _) x y hx hy
   ·exact hy
   ·exact hx
  refine key _ _ _ ⟨_, rfl⟩ (key _ _ _ ⟨_, rfl⟩ (key _ _ _ ⟨_, rfl⟩ (key _ _ _ ⟨_, rfl⟩ ⟨_, rfl⟩)))
 obtain ⟨s, hs⟩ := hstep
 have ask0 : askL a w [] = cond (decide (w = [112, 101, 111, 112, 108, 101])) ((iRpO (a.1, a.2.1, a.2.2.1, a.2.2.2.1, a.2.2.2.2.1, ())).bind fun y8 => ((ilT [a.2.2.1, y8.1, a.2.2.2.1, a.2.2.2.2.1]).bind fun y9 => (some (y9, true)))) (cond (decide (w = [100, 111, 111, 114, 115])) ((iOD (a.1, a.2.1, a.2.2.1, a.2.2.2.1, a.2.2.2.2.1, ())).bind (Sum.elim (fun _ => ((ilT []).bind fun y12 => (some (y12, false)))) (fun y13 => ((ilT y13).bind fun y14 => (some (y14, true)))))) (cond (decide (w = [99, 108, 101, 97, 114])) ((iIC (a.1, a.2.1, a.2.2.1, a.2.2.2.1, a.2.2.2.2.1, ())).bind fun y15 => (cond y15.1 ((some ((ByteArray.mk #[121, 101, 115]), true))) ((some ((ByteArray.mk #[110, 111]), true))))) ((some ((ByteArray.mk #[]), false))))) := rfl
 obtain ⟨z, p1, p2, psm⟩ := people_both a hg
 have p1 : slS4 (a.1, a.2.1, a.2.2.1, a.2.2.2.1, a.2.2.2.2.1, ()) = _ := p1
 have p2 : iRpO (a.1, a.2.1, a.2.2.1, a.2.2.2.1, a.2.2.2.2.1, ()) = _ := p2
 by_cases h7 : w = [112, 101, 111, 112, 108, 101]
 ·refine ⟨a, false, numsL [a.2.2.1, sm a.2.1, a.2.2.2.1, a.2.2.2.2.1], ta a w [] s _ hs ⟨true, _, ?_, .inl ⟨rfl, rfl⟩⟩, fun g => ?_, hg, nLs _ psm, fun _ => rfl⟩
  ·rw [ask0, cd1 h7, p2, Option.bind_some]
   dsimp only
   rw [lTe _ psm]; rfl
  ·show wordL (a, g, ()) _ = _
   unfold wordL
   rw [cd h1, cd h2, cd h3, cd h4, cd h5, cd h6, cd1 h7]
   dsimp only
   rw [p1, Option.bind_some]
   dsimp only
   rw [lLe _ psm]; rfl
 by_cases h8 : w = [100, 111, 111, 114, 115]
 ·obtain ⟨d1, d2⟩ := doors_both a hg
  have d1 : iOD (a.1, a.2.1, a.2.2.1, a.2.2.2.1, a.2.2.2.2.1, ()) = _ := d1
  have d2 : slO (a.1, a.2.1, a.2.2.1, a.2.2.2.1, a.2.2.2.2.1, ()) = _ := d2
  have hsm : Small (opnL a.2.1 a.2.1.length) := by
   obtain ⟨m, l, w', t, d, ⟨⟩⟩ := a
   obtain ⟨_, hl, _⟩ := go1 hg
   exact opnL_small (l := l) (by omega)
  refine ⟨a, false, numsL (opnL a.2.1 a.2.1.length), ta a w [] s _ hs ⟨true, _, ?_, .inl ⟨rfl, rfl⟩⟩, fun g => ?_, hg, nLs _ hsm, fun _ => rfl⟩
  ·rw [ask0, cd h7, cd1 h8, d1, Option.bind_some, Sum.elim_inr, lTe _ hsm]; rfl
  ·show wordL (a, g, ()) _ = _
   unfold wordL
   rw [cd h1, cd h2, cd h3, cd h4, cd h5, cd h6, cd h7, cd1 h8]
   dsimp only
   rw [d2, Option.bind_some, lLe _ hsm]; rfl
 by_cases h9 : w = [99, 108, 101, 97, 114]
 ·have e1 : slG (a.1, a.2.1, a.2.2.1, a.2.2.2.1, a.2.2.2.2.1, ()) = some (gd a) := gSe a (gl hg)
  have e2 : iIR (a.1, a.2.1, a.2.2.1, a.2.2.2.1, a.2.2.2.2.1, ()) = some (gd a) := iRe a (gl hg)
  have c1 : iIC (a.1, a.2.1, a.2.2.1, a.2.2.2.1, a.2.2.2.2.1, ()) = some (decide (sm a.2.1 = 0) && decide (a.2.2.2.1 = 0), true) := by
   unfold iIC
   rw [e2, hg, Option.bind_some, Bool.not_true, cond_false, p2, Option.bind_some]
   dsimp only
   by_cases hz : sm a.2.1 = 0
   ·rw [cd1 hz, decide_eq_true hz, Bool.true_and]
   ·rw [cd hz, decide_eq_false hz, Bool.false_and]
  have c2 : sIC (a.1, a.2.1, a.2.2.1, a.2.2.2.1, a.2.2.2.2.1, ()) = some (decide (sm a.2.1 = 0) && decide (a.2.2.2.1 = 0), true) := by
   unfold sIC
   rw [e1, hg, Option.bind_some, Bool.not_true, cond_false, p1, Option.bind_some]
   dsimp only
   by_cases hz : a.2.2.2.1 = 0
   ·rw [cd1 hz, decide_eq_true hz, Bool.and_true]
   ·rw [cd hz, decide_eq_false hz, Bool.and_false]
  generalize (decide (sm a.2.1 = 0) && decide (a.2.2.2.1 = 0)) = c at c1 c2
  refine ⟨a, false, if c = true then [121, 101, 115] else [110, 111], ta a w [] s _ hs ⟨true, _, ?_, .inl ⟨rfl, rfl⟩⟩, fun g => ?_, hg, by cases c <;> decide, fun _ => rfl⟩
  ·rw [ask0, cd h7, cd h8, cd1 h9, c1, Option.bind_some]
   cases c <;> rfl
  ·show wordL (a, g, ()) _ = _
   unfold wordL
   rw [cd h1, cd h2, cd h3, cd h4, cd h5, cd h6, cd h7, cd h8, cd1 h9]
   dsimp only
   rw [c2, Option.bind_some]
   cases c <;> rfl
 ·refine ⟨a, false, [63], ta a w [] s _ hs ⟨false, ByteArray.mk #[], ?_, .inr ⟨rfl, rfl⟩⟩, fun g => ?_, hg, by decide, fun _ => rfl⟩
  ·rw [ask0, cd h7, cd h8, cd h9]
  ·show wordL (a, g, ()) _ = _
   unfold wordL
   rw [cd h1, cd h2, cd h3, cd h4, cd h5, cd h6, cd h7, cd h8, cd h9]
   rfl
theorem trn_small (L k : Nat) (up : Bool) (h : 0 < L ∧ L ≤ 10) : 0 ≤ trn L k up ∧ trn L k up ≤ 10 := by
 unfold trn
 split
 ·have := Nat.mod_lt (L / 2 + L - k) h.1
  omega
 ·have := Nat.mod_lt (L - k) h.1
  omega
theorem one_both (a : R1) (w : List UInt8) (n : Int) (hg : gd a = true) : Both a (tailI a w [n]) (fun g => oneL (a, g, ()) w n) := by
 by_cases h1 : w = [104, 97, 110, 103]
 ·subst h1; exact bs2 a _ [n] 3 n hg rfl _ fun g => by show oneL (a, g, ()) _ n = _; unfold oneL; rw [cd1 rfl]
 by_cases h2 : w = [100, 111, 111, 114]
 ·subst h2; exact bs2 a _ [n] 7 n hg rfl _ fun g => by show oneL (a, g, ()) _ n = _; unfold oneL; rw [cd h1, cd1 rfl]
 by_cases h3 : w = [98, 111, 97, 114, 100]
 ·subst h3; exact bs2 a _ [n] 5 n hg rfl _ fun g => by show oneL (a, g, ()) _ n = _; unfold oneL; rw [cd h1, cd h2, cd1 rfl]
 by_cases h4 : w = [108, 101, 97, 118, 101]
 ·subst h4; exact bs2 a _ [n] 6 n hg rfl _ fun g => by show oneL (a, g, ()) _ n = _; unfold oneL; rw [cd h1, cd h2, cd h3, cd1 rfl]
 have hstep : ∃ s, sOL w [n] = some (s, false) := by
  unfold sOL
  rw [cd h1, cd h2, cd h3, cd h4]
  have key : ∀ (b : Bool) (x y : Option (RS1 × Bool)), (∃ s, x = some (s, false)) → (∃ s, y = some (s, false)) → ∃ s, cond b x y = some (s, false) := by
   rintro (_ | _) x y hx hy
   ·exact hy
   ·exact hx
  exact key _ _ _ ⟨_, rfl⟩ (key _ _ _ ⟨_, rfl⟩ (key _ _ _ ⟨_, rfl⟩ (key _ _ _ ⟨_, rfl⟩ (key _ _ _ ⟨_, rfl⟩ (key _ _ _ ⟨_, rfl⟩ ⟨_, rfl⟩)))))
 obtain ⟨s, hs⟩ := hstep
 have hlen : 0 < a.2.1.length ∧ a.2.1.length ≤ 10 := by
  obtain ⟨m, l, w', t, d, ⟨⟩⟩ := a
  obtain ⟨_, hl, _⟩ := go1 hg
  show 0 < l.length ∧ l.length ≤ 10
  omega
 have cab1 : ∃ z b, sCA1 (a.1, a.2.1, a.2.2.1, a.2.2.2.1, a.2.2.2.2.1, ()) n = some (z, b) ∧ iCA (a.1, a.2.1, a.2.2.1, a.2.2.2.1, a.2.2.2.2.1, ()) n = some (z, b) ∧ 0 ≤ z ∧ z ≤ 10 := by
  rcases at_ok a n (gl hg) with ⟨e1, e2, _⟩ | ⟨k, e1, e2, _, hk, _⟩
  ·exact ⟨_, _, e1, e2, by omega, by omega⟩
  ·exact ⟨_, _, e1, e2, by omega, by omega⟩
 have trn1 : ∀ up, ∃ z b, sTT (a.1, a.2.1, a.2.2.1, a.2.2.2.1, a.2.2.2.2.1, ()) n up = some (z, b) ∧ iTT (a.1, a.2.1, a.2.2.1, a.2.2.2.1, a.2.2.2.2.1, ()) n up = some (z, b) ∧ 0 ≤ z ∧ z ≤ 10 := fun up => by
  rcases turns_ok a n up (gl hg) with ⟨_, _, e1, e2⟩ | ⟨k, _, _, _, _, _, e1, e2, _⟩
  ·exact ⟨_, _, e1, e2, by omega, by omega⟩
  ·have := trn_small a.2.1.length k up hlen
   exact ⟨_, _, e1, e2, this.1, this.2⟩
 have ask1 : askL a w [n] = cond (decide (w = [99, 97, 98, 105, 110])) ((iCA (a.1, a.2.1, a.2.2.1, a.2.2.2.1, a.2.2.2.2.1, ()) n).bind fun y1 => ((strconv_Itoa y1.1).bind fun y2 => (some (y2, y1.2)))) (cond (decide (w = [117, 112])) ((iTT (a.1, a.2.1, a.2.2.1, a.2.2.2.1, a.2.2.2.2.1, ()) n true).bind fun y3 => ((strconv_Itoa y3.1).bind fun y4 => (some (y4, y3.2)))) (cond (decide (w = [100, 111, 119, 110])) ((iTT (a.1, a.2.1, a.2.2.1, a.2.2.2.1, a.2.2.2.2.1, ()) n false).bind fun y5 => ((strconv_Itoa y5.1).bind fun y6 => (some (y6, y5.2)))) ((strconv_Itoa (0 : Int)).bind fun y7 => (some (y7, false))))) := rfl
 have fin : ∀ (z : Int) (b : Bool) (f : Log → Option ((C1 × ByteArray × (List Slot)) ⊕ (C1 × ByteArray × (List Slot)))), 0 ≤ z → z ≤ 10 → askL a w [n] = ((strconv_Itoa z).bind fun y2 => (some (y2, b))) →
   (∀ g, f g = cond (!b) (some (RS a a g false [63])) ((slN z).bind fun y => some (.inl ((a, g, ()), y, a.2.1)))) → Both a (tailI a w [n]) f := fun z b f h0 h10 ha hf => by
  have hi := is1 z (by omega)
  rw [itoa_int z (by omega), Option.bind_some] at ha
  refine ⟨a, false, if b = true then Lib.itoa z else [63], ta a w [n] s _ hs ⟨b, _, ha, ?_⟩, fun g => ?_, hg, ?_, fun _ => rfl⟩
  ·cases b
   ·exact .inr ⟨rfl, rfl⟩
   ·exact .inl ⟨rfl, rfl⟩
  ·rw [hf, lNi z (by omega)]
   cases b <;> rfl
  ·cases b
   ·show Fine [63]; exact ⟨by decide, by decide⟩
   ·show Fine (Lib.itoa z); exact ⟨by omega, ip z⟩
 by_cases h5 : w = [99, 97, 98, 105, 110]
 ·obtain ⟨z, b, e1, e2, h0, h10⟩ := cab1
  refine fin z b _ h0 h10 ?_ fun g => ?_
  ·rw [ask1, cd1 h5, e2]; rfl
  ·show oneL (a, g, ()) _ n = _
   unfold oneL
   rw [cd h1, cd h2, cd h3, cd h4, cd1 h5]
   dsimp only
   rw [e1]; rfl
 by_cases h6 : w = [117, 112]
 ·obtain ⟨z, b, e1, e2, h0, h10⟩ := trn1 true
  refine fin z b _ h0 h10 ?_ fun g => ?_
  ·rw [ask1, cd h5, cd1 h6, e2]; rfl
  ·show oneL (a, g, ()) _ n = _
   unfold oneL
   rw [cd h1, cd h2, cd h3, cd h4, cd h5, cd1 h6]
   dsimp only
   rw [e1]; rfl
 by_cases h7 : w = [100, 111, 119, 110]
 ·obtain ⟨z, b, e1, e2, h0, h10⟩ := trn1 false
  refine fin z b _ h0 h10 ?_ fun g => ?_
  ·rw [ask1, cd h5, cd h6, cd1 h7, e2]; rfl
  ·show oneL (a, g, ()) _ n = _
   unfold oneL
   rw [cd h1, cd h2, cd h3, cd h4, cd h5, cd h6, cd1 h7]
   dsimp only
   rw [e1]; rfl
 ·refine fin 0 false _ (by omega) (by omega) ?_ fun g => ?_
  ·rw [ask1, cd h5, cd h6, cd h7]
  ·show oneL (a, g, ()) _ n = _
   unfold oneL
   rw [cd h1, cd h2, cd h3, cd h4, cd h5, cd h6, cd h7]
   rfl
theorem many_tail (a : R1) (w : List UInt8) (ns : List Int) (h : 2 ≤ ns.length) : tailI a w ns = some (RI a a false [63]) := by
 have hstep : ∃ s, sOL w ns = some (s, false) := by
  have h0 : ¬ ((ns.length : Int) = 0) := by omega
  have h1 : ¬ ((ns.length : Int) = 1) := by omega
  unfold sOL
  simp only [cn1 h0, cn1 h1]
  have key : ∀ (b : Bool) (x y : Option (RS1 × Bool)), (∃ s, x = some (s, false)) → (∃ s, y = some (s, false)) → ∃ s, cond b x y = some (s, false) := by
   rintro (_ | _) x y hx hy
   ·exact hy
   ·exact hx
  repeat (first | exact ⟨_, rfl⟩ | refine key _ _ _ ⟨_, rfl⟩ ?_)
 obtain ⟨s, hs⟩ := hstep
 refine ta a w ns s _ hs ⟨false, ByteArray.mk #[], ?_, .inr ⟨rfl, rfl⟩⟩
 unfold askL
 rw [cd (by omega), cd1 (by omega)]
end Go.Proofs.YtaobinhdnklojaaGreatDoor
namespace Go.Proofs.YtaobinhdnklojaaGreatDoor
open Go.RowKit

def nO : List (List UInt8) → Option (List Int)
 | [] => some []
 | w :: ws => if (pI (bs w)).2 = true then (nO ws).map fun l => (pI (bs w)).1 :: l else none
theorem nOl : ∀ (ws : List (List UInt8)) (ns : List Int), nO ws = some ns → ns.length = ws.length
 | [], ns, h => by cases h; rfl
 | w :: ws, ns, h => by
   unfold nO at h
   split at h
   ·obtain ⟨l, e, rfl⟩ := Option.map_eq_some_iff.1 h
    simp [nOl ws l e]
   ·cases h
theorem run_loop (w0 : List UInt8) (rest : List (List UInt8)) (hr : rest.length ≤ 2000) : ∀ (r p : List (List UInt8)) (acc : List Int), rest = p ++ r → acc.length = p.length →
  iter (fun s => irl s.1 s.2.1 s.2.2.1 s.2.2.2.1 s.2.2.2.2) (rest.length, (rest.length : Int), (p.length : Int), (w0 :: rest).map bs, acc) = some (match nO r with | none => Sum.inl () | some ns => Sum.inr ((w0 :: rest).map bs, acc ++ ns))
 | [], p, acc, e, ha => by
   have hl : rest.length = p.length := by rw [e]; simp
   refine io ?_
   show irl rest.length (rest.length : Int) (p.length : Int) ((w0 :: rest).map bs) acc = _
   unfold irl
   rw [cd (by omega)]
   show some (Lp.out (Sum.inr ((w0 :: rest).map bs, acc))) = some (Lp.out (Sum.inr ((w0 :: rest).map bs, acc ++ [])))
   rw [List.append_nil]
 | w :: r, p, acc, e, ha => by
   have hl : rest.length = p.length + (r.length + 1) := by rw [e]; simp
   have hg : ((w0 :: rest).map bs).getD ((1 : Int).toNat + (p.length : Int).toNat) (ByteArray.mk #[]) = bs w := by
    rw [Int.toNat_natCast, show (1 : Int).toNat = 1 from rfl, e]
    simp [List.getD_eq_getElem?_getD, Nat.add_comm 1]
   have hp : iPI (bs w) = some ((pI (bs w)).1, (pI (bs w)).2) := rfl
   by_cases hv : (pI (bs w)).2 = true
   ·have e2 : nO (w :: r) = (nO r).map fun l => (pI (bs w)).1 :: l := by
     conv => lhs; unfold nO
     rw [if_pos hv]
    have step : irl rest.length (rest.length : Int) (p.length : Int) ((w0 :: rest).map bs) acc = some (.go (rest.length, (rest.length : Int), ((p ++ [w]).length : Int), (w0 :: rest).map bs, acc ++ [(pI (bs w)).1])) := by
     unfold irl
     rw [cd1 (by omega), gp1 (by omega), hg, hp, Option.bind_some]
     dsimp only
     rw [hv, Bool.not_true, cond_false, gp1 (by simp; omega), wn (by omega)]
     simp
    have ih := run_loop w0 rest hr r (p ++ [w]) (acc ++ [(pI (bs w)).1]) (by rw [e]; simp) (by simp [ha])
    refine ((ig step).trans ih).trans ?_
    rw [e2]
    cases nO r with
    | none => rfl
    | some ns =>
      show some (Sum.inr ((w0 :: rest).map bs, acc ++ [(pI (bs w)).1] ++ ns)) = some (Sum.inr ((w0 :: rest).map bs, acc ++ ((pI (bs w)).1 :: ns)))
      rw [List.append_assoc]; rfl
   ·have hv' : (pI (bs w)).2 = false := by simpa using hv
    have e2 : nO (w :: r) = none := by
     conv => lhs; unfold nO
     rw [if_neg hv]
    rw [e2]
    refine io ?_
    show irl rest.length (rest.length : Int) (p.length : Int) ((w0 :: rest).map bs) acc = _
    unfold irl
    rw [cd1 (by omega), gp1 (by omega), hg, hp, Option.bind_some]
    dsimp only
    rw [hv', Bool.not_false, cond_true]
theorem impl_run_eq (a : R1) (l w0 : List UInt8) (rest : List (List UInt8)) (hl : l.length ≤ 1000) (h : spl 32 l = w0 :: rest) :
  ir a (bs l) = match nO rest with | none => some (RI a a false [63]) | some ns => tailI a w0 ns := by
 have hlen := sl2 32 l
 rw [h] at hlen
 have hlen : rest.length + 1 ≤ l.length + 1 := hlen
 have es : strings_Split (bs l) (ByteArray.mk #[32]) = some ((w0 :: rest).map bs) := by
  unfold strings_Split
  rw [gp1 ⟨by rw [bs1]; omega, by decide⟩]
  have := sBe 32 l
  rw [h] at this
  exact congrArg some this
 have hm : (((w0 :: rest).map bs).length : Int) = (rest.length : Int) + 1 := by simp
 have hn : (((w0 :: rest).map bs).length : Int) - 1 = (rest.length : Int) := by omega
 have lp := run_loop w0 rest (by omega) rest [] [] rfl rfl
 unfold ir
 rw [es, Option.bind_some, gp1 (by omega), hn, Int.toNat_natCast]
 rw [show (([] : List (List UInt8)).length : Int) = (0 : Int) from rfl] at lp
 rw [lp, Option.bind_some]
 cases nO rest with
 | none => rfl
 | some ns =>
   have g1 : 0 ≤ (0 : Int) ∧ (0 : Int) < (((w0 :: rest).map bs).length : Int) := by omega
   have g2 : ((w0 :: rest).map bs).getD (0 : Int).toNat (ByteArray.mk #[]) = bs w0 := rfl
   dsimp only
   rw [Sum.elim_inr]
   dsimp only
   simp only [gp1 g1, g2, stepOfL_eq, askL_eq, List.nil_append]
   rfl
theorem run_both (a : R1) (l : List UInt8) (hg : gd a = true) (hl : l.length ≤ 1000) : Both a (ir a (bs l)) (fun g => slR (a, g, ()) (bs l)) := by
 cases hs : spl 32 l with
 | nil => exact absurd hs (sn 32 l)
 | cons w0 rest =>
   have ei := impl_run_eq a l w0 rest hl hs
   have hlen := sl2 32 l
   have hsplit : slS (bs l) (32 : Int) = some ((w0 :: rest).map bs) := by
    have := se l 32 (by omega)
    rw [hs] at this
    exact this
   cases rest with
   | nil =>
     have hw : w0 = l := by
      by_cases hm : (32 : UInt8) ∈ l
      ·have := (spl_two 32 l).2 hm
       rw [hs] at this; simp at this
      ·rw [spl_not 32 l hm] at hs
       cases hs; rfl
     obtain ⟨y, b, R, e1, e2, h3, h4, h5⟩ := word_both a w0 hg
     refine ⟨y, b, R, ei.trans e1, fun g => ?_, h3, h4, h5⟩
     have e2 : wordL (a, g, ()) w0 = _ := e2 g
     show slR (a, g, ()) (bs l) = _
     unfold slR
     rw [hsplit, Option.bind_some, cd1 (by simp)]
     have e3 : slW ((a.1, a.2.1, a.2.2.1, a.2.2.2.1, a.2.2.2.2.1, ()), (g.1, g.2.1, g.2.2.1, ()), ()) (bs l) = some (RS a y g b R) := by
      rw [← hw]
      exact (wordL_eq (a, g, ()) w0).trans e2
     dsimp only
     rw [e3]
     cases b
     ·rw [h5 rfl]; rfl
     ·rfl
   | cons x rest =>
     have hx : x.length ≤ 1000000 := by
      have hx2 : x ∈ spl 32 l := by rw [hs]; simp
      have : ∀ (l : List UInt8) (z : List UInt8), z ∈ spl 32 l → z.length ≤ l.length := by
       intro l
       induction l with
       | nil => intro z hz; simp [spl] at hz; simp [hz]
       | cons c l ih =>
         intro z hz
         unfold spl at hz
         split at hz
         ·rcases List.mem_cons.1 hz with hz | hz
          ·simp [hz]
          ·have := ih z hz; simp; omega
         ·cases hq : spl 32 l with
          | nil => exact absurd hq (sn 32 l)
          | cons q qs =>
            rw [hq] at hz
            rcases List.mem_cons.1 hz with hz | hz
            ·have := ih q (by rw [hq]; simp)
             rw [hz]; simp; omega
            ·have := ih z (by rw [hq]; simp [hz])
             simp; omega
      have := this l x hx2
      omega
     have hp : sPI (bs x) = some (pI (bs x)) := by
      unfold sPI
      rw [l1Read_eq x hx]; rfl
     have g1 : 0 ≤ (1 : Int) ∧ (1 : Int) < (((w0 :: x :: rest).map bs).length : Int) := by simp; omega
     have g0 : 0 ≤ (0 : Int) ∧ (0 : Int) < (((w0 :: x :: rest).map bs).length : Int) := by simp; omega
     have spec0 : ∀ g, slR (a, g, ()) (bs l) = cond (!(pI (bs x)).2) (some (RS a a g false [63])) (cond (!decide ((((w0 :: x :: rest).map bs).length : Int) = (2 : Int))) (some (RS a a g false [63])) ((oneL (a, g, ()) w0 (pI (bs x)).1).bind (Sum.elim (fun y2 => (some (Sum.inl (((y2.1.1.1, y2.2.2, y2.1.1.2.2.1, y2.1.1.2.2.2.1, y2.1.1.2.2.2.2.1, ()), (y2.1.2.1.1, y2.1.2.1.2.1, y2.1.2.1.2.2.1, ()), ()), y2.2.1, y2.2.2)))) (fun y3 => (some (Sum.inr (((y3.1.1.1, y3.1.1.2.1, y3.1.1.2.2.1, y3.1.1.2.2.2.1, y3.1.1.2.2.2.2.1, ()), (y3.1.2.1.1, y3.1.2.1.2.1, y3.1.2.1.2.2.1, ()), ()), y3.2.1, y3.2.2))))))) := fun g => by
      unfold slR
      rw [hsplit, Option.bind_some, cd (by simp; omega), gp1 g1]
      have hgx : ((w0 :: x :: rest).map bs).getD (1 : Int).toNat (ByteArray.mk #[]) = bs x := rfl
      rw [hgx, hp, Option.bind_some, gp1 g0]
      have hg0 : ((w0 :: x :: rest).map bs).getD (0 : Int).toNat (ByteArray.mk #[]) = bs w0 := rfl
      rw [hg0]
      dsimp only
      rw [oneL_eq]
      rfl
     by_cases hv : (pI (bs x)).2 = true
     ·cases rest with
      | nil =>
        have en : nO [x] = some [(pI (bs x)).1] := by
         unfold nO
         rw [if_pos hv]; rfl
        rw [en] at ei
        obtain ⟨y, b, R, e1, e2, h3, h4, h5⟩ := one_both a w0 (pI (bs x)).1 hg
        refine ⟨y, b, R, ei.trans e1, fun g => ?_, h3, h4, h5⟩
        have e2 : oneL (a, g, ()) w0 (pI (bs x)).1 = _ := e2 g
        show slR (a, g, ()) (bs l) = _
        rw [spec0, hv, Bool.not_true, cond_false, cn (by simp), e2]
        cases b
        ·rw [h5 rfl]; rfl
        ·rfl
      | cons z rest =>
        refine ⟨a, false, [63], ?_, fun g => ?_, hg, by decide, fun _ => rfl⟩
        ·rw [ei]
         cases hn : nO (x :: z :: rest) with
         | none => rfl
         | some ns =>
           have := nOl _ _ hn
           exact many_tail a w0 ns (by rw [this]; simp)
        ·show slR (a, g, ()) (bs l) = _
         rw [spec0, hv, Bool.not_true, cond_false, cn1 (by simp; omega)]
     ·have hv' : (pI (bs x)).2 = false := by simpa using hv
      have en : nO (x :: rest) = none := by
       conv => lhs; unfold nO
       rw [if_neg hv]
      rw [en] at ei
      exact ⟨a, false, [63], ei, fun g => by show slR (a, g, ()) (bs l) = _; rw [spec0, hv', Bool.not_false, cond_true], hg, by decide, fun _ => rfl⟩
end Go.Proofs.YtaobinhdnklojaaGreatDoor
namespace Go.Proofs.YtaobinhdnklojaaGreatDoor
open Go.RowKit

theorem validI (a : R1) (D P : List UInt8) (n : Int) (ha : a.2.1.length ≤ 1048576) (hD : D.length ≤ 1048576) (hP : P.length ≤ 1048576) : iIVC (a, (bs D, bs P, n, ()), ()) = some (gd a && okLog D P n) := by
 have e2 : iIR (a.1, a.2.1, a.2.2.1, a.2.2.2.1, a.2.2.2.2.1, ()) = some (gd a) := iRe a ha
 unfold iIVC
 dsimp only
 rw [e2, Option.bind_some, ve D P n (by omega) (by omega)]
 cases gd a <;> rfl
theorem validS (a : R1) (D P : List UInt8) (n : Int) (ha : a.2.1.length ≤ 1048576) (hD : D.length ≤ 1048576) (hP : P.length ≤ 1048576) : slG1 (a, (bs D, bs P, n, ()), ()) = some (gd a && okLog D P n) := by
 have e2 : slG (a.1, a.2.1, a.2.2.1, a.2.2.2.1, a.2.2.2.2.1, ()) = some (gd a) := gSe a ha
 unfold slG1
 dsimp only
 rw [e2, Option.bind_some, log_eq D P n (by omega) (by omega)]
 cases gd a <;> rfl
theorem copyOwn_eq (a : R1) (ha : a.2.1.length ≤ 1048576) : icR (a.1, a.2.1, a.2.2.1, a.2.2.2.1, a.2.2.2.2.1, ()) = some (a, a.2.1) := by
 unfold icR sCiS4
 dsimp only
 rw [gp1 (by simp; omega)]; rfl
theorem cTe (a : R1) (h0 : 0 < a.2.1.length) (ha : a.2.1.length ≤ 1048576) : icRi a.1 a.2.1 a.2.2.1 a.2.2.2.1 a.2.2.2.2.1 = some a := by
 unfold icRi
 rw [clone_eq a.2.1 ⟨h0, ha⟩]; rfl
theorem ownC_eq (a : R1) (g : Log) (ha : a.2.1.length ≤ 1048576) : slO3 (a, g, ()) = some (a, g, ()) := by
 unfold slO3 slO2
 dsimp only
 rw [gp1 (by simp; omega)]; rfl
inductive Exec (a : R1) (D P : List UInt8) (n : Int) (l : List UInt8) : R1 → List UInt8 → Int → List UInt8 → Prop where
 | no (h : (gd a && okLog D P n) = false) : Exec a D P n l a P n [110, 111]
 | bad (h : (gd a && okLog D P n) = true) (hb : goodB l [] = false) : Exec a D P n l a P n [98, 97, 100]
 | full (h : (gd a && okLog D P n) = true) (hb : goodB l [] = true) (h60 : n = 60) : Exec a D P n l a P n [102, 117, 108, 108]
 | run (h : (gd a && okLog D P n) = true) (hb : goodB l [] = true) (h60 : n ≠ 60) (y : R1) (b : Bool) (R P' : List UInt8) (m : Int) (hr : ir a (bs l) = some (RI a y b R)) (hg : gd y = true) (hR : Fine R) (hy : b = false → y = a)
   (k : Int) (ha : iAR (bs D, bs P, n, ()) (bs l, bs R, ()) = some ((bs D, bs P', m, ()), k)) (h0 : k ≠ 0 → P' = P ∧ m = n)
   (h1 : k = 0 → ∃ q : Nat, n = (q : Int) ∧ okLog D P n = true ∧ q ≠ 60 ∧ goodB l R = true ∧ P' = P ++ lineL q l R ∧ m = ((q + 1 : Nat) : Int)) : Exec a D P n l y P' m R
theorem Exec.len {a : R1} {D P l : List UInt8} {n : Int} {y : R1} {P' R : List UInt8} {m : Int} (h : Exec a D P n l y P' m R) (ha : a.2.1.length ≤ 1048576) : y.2.1.length ≤ 1048576 ∧ R.length ≤ 100 := by
 cases h with
 | no h => exact ⟨ha, by decide⟩
 | bad h hb => exact ⟨ha, by decide⟩
 | full h hb h60 => exact ⟨ha, by decide⟩
 | run h hb h60 y b R P' m hr hg hR hy k ha' h0 h1 => exact ⟨gl hg, hR.1⟩
theorem oLl {D P : List UInt8} {n : Int} (h : okLog D P n = true) : D.length + P.length ≤ 24000 := by
 obtain ⟨h1, _, _⟩ := oLo h
 have := ts2 60 0 (D ++ P) (by omega)
 have e : tot (rsOf (D ++ P)) ≤ 60 * 400 := this
 rw [h1, List.length_append] at e
 omega
theorem Exec.valid {a : R1} {D P l : List UInt8} {n : Int} {y : R1} {P' R : List UInt8} {m : Int} (h : Exec a D P n l y P' m R) (hv : (gd a && okLog D P n) = true) : (gd y && okLog D P' m) = true := by
 cases h with
 | no h => rw [hv] at h; cases h
 | bad h hb => exact hv
 | full h hb h60 => exact hv
 | run h hb h60 y b R P' m hr hg hR hy k ha' h0 h1 =>
   rw [Bool.and_eq_true] at hv ⊢
   refine ⟨hg, ?_⟩
   by_cases hk : k = 0
   ·obtain ⟨q, rfl, hv2, hq, hgb, rfl, rfl⟩ := h1 hk
    exact (more_ok hv2 hq hgb).2
   ·obtain ⟨rfl, rfl⟩ := h0 hk
    exact hv.2
theorem exec_both (a : R1) (D P l : List UInt8) (n : Int) (ha : a.2.1.length ≤ 1048576) (hD : D.length ≤ 1048576) (hP : P.length ≤ 1048576) (hl : l.length ≤ 1048576) :
  ∃ y P' m R, Exec a D P n l y P' m R ∧ sEC (a, (bs D, bs P, n, ()), ()) (bs l) = some ((y, (bs D, bs P', m, ()), ()), bs R) ∧
    iEC (a, (bs D, bs P, n, ()), ()) (bs l) = some ((y, (bs D, bs P', m, ()), ()), bs R, a.2.1) ∧
    (0 < a.2.1.length → iECi a.1 a.2.1 a.2.2.1 a.2.2.2.1 a.2.2.2.2.1 (bs D) (bs P) n (bs l) = some ((y, (bs D, bs P', m, ()), ()), bs R)) := by
 have v1 := validI a D P n ha hD hP
 have v2 := validS a D P n ha hD hP
 have c1 := copyOwn_eq a ha
 have c3 := ownC_eq a (bs D, bs P, n, ()) ha
 have v1 : iIVC ((a.1, a.2.1, a.2.2.1, a.2.2.2.1, a.2.2.2.2.1, ()), (bs D, bs P, n, ()), ()) = _ := v1
 have v2 : slG1 ((a.1, a.2.1, a.2.2.1, a.2.2.2.1, a.2.2.2.2.1, ()), (bs D, bs P, n, ()), ()) = _ := v2
 have c3 : slO3 ((a.1, a.2.1, a.2.2.1, a.2.2.2.1, a.2.2.2.2.1, ()), (bs D, bs P, n, ()), ()) = _ := c3
 have r1 : iIVR (bs l, ByteArray.mk #[], ()) = some (goodB l []) := iVe l [] (by omega) (by simp)
 have r2 : slG2 (bs l, ByteArray.mk #[], ()) = some (goodB l []) := good_eq l [] (by omega) (by simp)
 unfold sEC iEC iECi
 dsimp only
 rw [c1, c3]
 simp only [Option.bind_some]
 rw [v1, v2]
 simp only [Option.bind_some]
 cases hv : (gd a && okLog D P n) with
 | false =>
   refine ⟨a, P, n, _, .no hv, rfl, rfl, fun h0 => ?_⟩
   rw [cTe a h0 ha]
   rfl
 | true =>
   simp only [Bool.not_true, cond_false, r1, r2, Option.bind_some]
   cases hb : goodB l [] with
   | false =>
     refine ⟨a, P, n, _, .bad hv hb, rfl, rfl, fun h0 => ?_⟩
     rw [cTe a h0 ha]
     rfl
   | true =>
     simp only [Bool.not_true, cond_false]
     by_cases h60 : n = 60
     ·simp only [cd1 h60]
      refine ⟨a, P, n, _, .full hv hb h60, rfl, rfl, fun h0 => ?_⟩
      rw [cTe a h0 ha]
      rfl
     ·simp only [cd h60]
      have hga : gd a = true := by rw [Bool.and_eq_true] at hv; exact hv.1
      have hll := (gBo hb).2.1
      obtain ⟨y, b, R, e1, e2, hgy, hR, hyb⟩ := run_both a l hga (by omega)
      have e2 : slR ((a.1, a.2.1, a.2.2.1, a.2.2.2.1, a.2.2.2.2.1, ()), (bs D, bs P, n, ()), ()) (bs l) = some (RS a y (bs D, bs P, n, ()) b R) := e2 _
      have e1' : ir (a.1, a.2.1, a.2.2.1, a.2.2.2.1, a.2.2.2.2.1, ()) (bs l) = some (RI a y b R) := e1
      have hR1 := hR.1
      obtain ⟨P', m, k, a1, a2, _, a4, a5⟩ := append_both D P l R n hD hP (by omega) (by omega)
      have c4 : slO3 ((y.1, y.2.1, y.2.2.1, y.2.2.2.1, y.2.2.2.2.1, ()), (bs D, bs P, n, ()), ()) = _ := ownC_eq y (bs D, bs P, n, ()) (gl hgy)
      refine ⟨y, P', m, R, .run hv hb h60 y b R P' m e1 hgy hR hyb k a2 a4 a5, ?_, ?_, fun h0 => ?_⟩
      ·rw [e2, Option.bind_some]
       cases b with
       | true =>
         show ((slO3 _).bind _) = _
         rw [c4]
         simp only [Option.bind_some]
         rw [cd (by rw [bs1]; omega)]
         simp only [Option.bind_some, a1]
       | false =>
         obtain rfl := hyb rfl
         show ((slO3 _).bind _) = _
         rw [c4]
         simp only [Option.bind_some]
         rw [cd (by rw [bs1]; omega)]
         simp only [Option.bind_some, a1]
      ·rw [e1', Option.bind_some]
       cases b with
       | true =>
         show (Option.bind (some _) _) = _
         simp only [Option.bind_some]
         rw [cd (by rw [bs1]; omega)]
         simp only [Option.bind_some, a2]
       | false =>
         obtain rfl := hyb rfl
         show (Option.bind (some _) _) = _
         simp only [Option.bind_some]
         rw [cd (by rw [bs1]; omega)]
         simp only [Option.bind_some, a2]
      ·rw [cTe a h0 ha]
       simp only [Option.bind_some]
       rw [e1', Option.bind_some]
       cases b with
       | true =>
         show (Option.bind (some _) _) = _
         simp only [Option.bind_some]
         rw [cd (by rw [bs1]; omega)]
         simp only [Option.bind_some, a2]
       | false =>
         obtain rfl := hyb rfl
         show (Option.bind (some _) _) = _
         simp only [Option.bind_some]
         rw [cd (by rw [bs1]; omega)]
         simp only [Option.bind_some, a2]
end Go.Proofs.YtaobinhdnklojaaGreatDoor
namespace Go.Proofs.YtaobinhdnklojaaGreatDoor
open Go.RowKit

theorem iter_tot {S R : Type} {f : S → Option (Lp S R)} (I : Nat → S → Prop) (Q : R → Prop) (n : Nat)
  (h : ∀ k s, k < n → I k s → (∃ s', f s = some (.go s') ∧ I (k + 1) s') ∨ ∃ r, f s = some (.out r) ∧ Q r)
  (h' : ∀ s, I n s → ∃ r, f s = some (.out r) ∧ Q r) {s : S} (h0 : I 0 s) : ∃ r, iter f s = some r ∧ Q r := by
 have key : ∀ d k s, k + d = n → I k s → ∃ r, iter f s = some r ∧ Q r := by
  intro d
  induction d with
  | zero =>
    intro k s hk hI
    obtain rfl : k = n := by omega
    obtain ⟨r, a, q⟩ := h' s hI
    exact ⟨r, io a, q⟩
  | succ d ih =>
    intro k s hk hI
    rcases h k s (by omega) hI with ⟨s', a, hI'⟩ | ⟨r, a, q⟩
    ·obtain ⟨r, e, q⟩ := ih (k + 1) s' (by omega) hI'
     exact ⟨r, (ig a).trans e, q⟩
    ·exact ⟨r, io a, q⟩
 exact key n 0 s (by omega) h0
end Go.Proofs.YtaobinhdnklojaaGreatDoor
namespace Go.Proofs.YtaobinhdnklojaaGreatDoor
open Go.RowKit

theorem vS {a : R1} {D P : List UInt8} {n : Int} (h : (gd a && okLog D P n) = true) : gd a = true ∧ okLog D P n = true := by
 rwa [Bool.and_eq_true] at h
theorem gd_pos {a : R1} (h : gd a = true) : 0 < a.2.1.length := by
 obtain ⟨m, l, w, t, d, u⟩ := a
 obtain ⟨_, hl, _⟩ := go1 h
 show 0 < l.length
 omega
theorem script_loop (lines : List (List UInt8)) (hn : lines.length ≤ 30) (hs : ∀ z ∈ lines, z.length ≤ 4000) (a : R1) (D P : List UInt8) (n : Int) (hv : (gd a && okLog D P n) = true) :
  ∃ xs : List ByteArray, xs.length = lines.length ∧
    iter (fun s => sRSl s.1 s.2.1 s.2.2.1 s.2.2.2.1 s.2.2.2.2.1 s.2.2.2.2.2.1 s.2.2.2.2.2.2.1 s.2.2.2.2.2.2.2.1 s.2.2.2.2.2.2.2.2.1 s.2.2.2.2.2.2.2.2.2.1 s.2.2.2.2.2.2.2.2.2.2) ((0 : Int), a.1, a.2.1, a.2.2.1, a.2.2.2.1, a.2.2.2.2.1, bs D, bs P, n, ([] : List ByteArray), lines.map bs) = some xs ∧
    iter (fun s => iRSl s.1 s.2.1 s.2.2.1 s.2.2.2.1 s.2.2.2.2.1 s.2.2.2.2.2.1 s.2.2.2.2.2.2.1 s.2.2.2.2.2.2.2.1 s.2.2.2.2.2.2.2.2.1 s.2.2.2.2.2.2.2.2.2.1 s.2.2.2.2.2.2.2.2.2.2.1 s.2.2.2.2.2.2.2.2.2.2.2) (((lines.map bs).length : Int), (0 : Int), a.1, a.2.1, a.2.2.1, a.2.2.2.1, a.2.2.2.2.1, bs D, bs P, n, ([] : List ByteArray), lines.map bs) = some xs := by
 obtain ⟨r, r', e1, e2, rfl, hr⟩ := iter_rel (f := fun s : Int × Int × (List Slot) × Int × Int × Int × ByteArray × ByteArray × Int × (List ByteArray) × (List ByteArray) => sRSl s.1 s.2.1 s.2.2.1 s.2.2.2.1 s.2.2.2.2.1 s.2.2.2.2.2.1 s.2.2.2.2.2.2.1 s.2.2.2.2.2.2.2.1 s.2.2.2.2.2.2.2.2.1 s.2.2.2.2.2.2.2.2.2.1 s.2.2.2.2.2.2.2.2.2.2)
  (g := fun s : Int × Int × Int × (List Slot) × Int × Int × Int × ByteArray × ByteArray × Int × (List ByteArray) × (List ByteArray) => iRSl s.1 s.2.1 s.2.2.1 s.2.2.2.1 s.2.2.2.2.1 s.2.2.2.2.2.1 s.2.2.2.2.2.2.1 s.2.2.2.2.2.2.2.1 s.2.2.2.2.2.2.2.2.1 s.2.2.2.2.2.2.2.2.2.1 s.2.2.2.2.2.2.2.2.2.2.1 s.2.2.2.2.2.2.2.2.2.2.2)
  (fun (k : Nat) s t => ∃ (a : R1) (P : List UInt8) (n : Int) (xs : List ByteArray), (gd a && okLog D P n) = true ∧ xs.length = k ∧ s = ((k : Int), a.1, a.2.1, a.2.2.1, a.2.2.2.1, a.2.2.2.2.1, bs D, bs P, n, xs, lines.map bs) ∧ t = (((lines.map bs).length : Int), (k : Int), a.1, a.2.1, a.2.2.1, a.2.2.2.1, a.2.2.2.2.1, bs D, bs P, n, xs, lines.map bs))
  (fun r r' => r = r' ∧ r.length = lines.length) lines.length
  (by
   rintro k _ _ hk ⟨a, P, n, xs, hv, hx, rfl, rfl⟩
   refine .inl ?_
   obtain ⟨hg, ho⟩ := vS hv
   have hlen := oLl ho
   have hz : (lines[k]).length ≤ 4000 := hs _ (List.getElem_mem hk)
   obtain ⟨y, P', m, R, hex, x1, _, x3⟩ := exec_both a D P lines[k] n (gl hg) (by omega) (by omega) (by omega)
   have x3 := x3 (gd_pos hg)
   have x1 : sEC ((a.1, a.2.1, a.2.2.1, a.2.2.2.1, a.2.2.2.2.1, ()), (bs D, bs P, n, ()), ()) (bs lines[k]) = _ := x1
   have hgd : (lines.map bs).getD k (ByteArray.mk #[]) = bs lines[k] := by
    rw [gDe _ _ _ (by simpa using hk), List.getElem_map]
   have hm : (lines.map bs).length = lines.length := List.length_map ..
   have hw : w64 ((k : Int) + 1) = ((k + 1 : Nat) : Int) := wn (by omega)
   refine ⟨_, _, ?_, ?_, y, P', m, xs ++ [bs R], hex.valid hv, by simp [hx], rfl, rfl⟩
   ·dsimp only
    unfold sRSl
    rw [cd1 (by omega), gp1 (by omega), Int.toNat_natCast, hgd, x1, Option.bind_some, gp1 (by simp; omega), hw]
   ·dsimp only
    unfold iRSl
    rw [cd1 (by omega), gp1 (by omega), Int.toNat_natCast, hgd, x3, Option.bind_some, gp1 (by simp; omega), hw])
  (by
   rintro _ _ ⟨a, P, n, xs, hv, hx, rfl, rfl⟩
   have hm : (lines.map bs).length = lines.length := List.length_map ..
   refine ⟨xs, xs, ?_, ?_, rfl, hx⟩
   ·dsimp only
    unfold sRSl
    rw [cd (by omega)]
   ·dsimp only
    unfold iRSl
    rw [cd (by omega)])
  (s := ((0 : Int), a.1, a.2.1, a.2.2.1, a.2.2.2.1, a.2.2.2.2.1, bs D, bs P, n, ([] : List ByteArray), lines.map bs)) (t := (((lines.map bs).length : Int), (0 : Int), a.1, a.2.1, a.2.2.1, a.2.2.2.1, a.2.2.2.2.1, bs D, bs P, n, ([] : List ByteArray), lines.map bs)) ⟨a, P, n, [], hv, rfl, rfl, rfl⟩
 exact ⟨r, hr, e1, e2⟩
theorem sp1 (c : UInt8) : ∀ (l z : List UInt8), z ∈ spl c l → z.length ≤ l.length := by
 intro l
 induction l with
 | nil => intro z hz; simp [spl] at hz; simp [hz]
 | cons b l ih =>
   intro z hz
   unfold spl at hz
   split at hz
   ·rcases List.mem_cons.1 hz with hz | hz
    ·simp [hz]
    ·have := ih z hz; simp; omega
   ·cases hq : spl c l with
    | nil => exact absurd hq (sn c l)
    | cons q qs =>
      rw [hq] at hz
      rcases List.mem_cons.1 hz with hz | hz
      ·have := ih q (by rw [hq]; simp)
       rw [hz]; simp; omega
      ·have := ih z (by rw [hq]; simp [hz])
       simp; omega
theorem script_both (a : R1) (D P q : List UInt8) (n : Int) (ha : a.2.1.length ≤ 1048576) (hD : D.length ≤ 1048576) (hP : P.length ≤ 1048576) (hq : q.length ≤ 1048576) :
  ∃ o : Option (List ByteArray), sRS (a, (bs D, bs P, n, ()), ()) (bs q) = some (o.getD [], o.isSome) ∧ iRS (a, (bs D, bs P, n, ()), ()) (bs q) = some (o.elim (.inl ()) .inr) ∧
    (∀ xs, o = some xs → (gd a && okLog D P n) = true ∧ q.length ≤ 4000 ∧ (spl 10 q).length ≤ 30 ∧ xs.length = (spl 10 q).length) ∧ (o = none → ¬ ((gd a && okLog D P n) = true ∧ q.length ≤ 4000 ∧ (spl 10 q).length ≤ 30)) := by
 have v1 := validI a D P n ha hD hP
 have v2 := validS a D P n ha hD hP
 have v1 : iIVC ((a.1, a.2.1, a.2.2.1, a.2.2.2.1, a.2.2.2.2.1, ()), (bs D, bs P, n, ()), ()) = _ := v1
 have v2 : slG1 ((a.1, a.2.1, a.2.2.1, a.2.2.2.1, a.2.2.2.2.1, ()), (bs D, bs P, n, ()), ()) = _ := v2
 have s1 : slS (bs q) (10 : Int) = some ((spl 10 q).map bs) := se q 10 (by omega)
 have s2 : strings_Split (bs q) (ByteArray.mk #[10]) = some ((spl 10 q).map bs) := by
  unfold strings_Split
  rw [gp1 ⟨by rw [bs1]; omega, by decide⟩]
  exact congrArg some (sBe 10 q)
 have hm : ((spl 10 q).map bs).length = (spl 10 q).length := List.length_map ..
 unfold sRS iRS
 dsimp only
 rw [s1, s2, Option.bind_some, Option.bind_some, v1, v2, Option.bind_some, Option.bind_some]
 cases hv : (gd a && okLog D P n) with
 | false =>
   refine ⟨none, rfl, rfl, ?_, ?_⟩
   ·intro xs h; cases h
   ·intro _ h; cases h.1
 | true =>
   simp only [Bool.not_true, cond_false]
   by_cases h4 : (4000 : Int) < ((bs q).size : Int)
   ·rw [cd1 h4, cd1 h4]
    rw [bs1] at h4
    exact ⟨none, rfl, rfl, (fun xs h => by cases h), fun _ h => by omega⟩
   rw [cd h4, cd h4]
   rw [bs1] at h4
   by_cases h30 : (30 : Int) < (((spl 10 q).map bs).length : Int)
   ·rw [cd1 h30, cd1 h30]
    exact ⟨none, rfl, rfl, (fun xs h => by cases h), fun _ h => by omega⟩
   rw [cd h30, cd h30]
   obtain ⟨xs, hx, e1, e2⟩ := script_loop (spl 10 q) (by omega) (fun z hz => by have := sp1 10 q z hz; omega) a D P n hv
   rw [e1, e2]
   exact ⟨some xs, rfl, rfl, (fun ys h => by cases h; exact ⟨trivial, by omega, by omega, hx⟩), fun h => by cases h⟩
end Go.Proofs.YtaobinhdnklojaaGreatDoor
namespace Go.Proofs.YtaobinhdnklojaaGreatDoor
open Go.RowKit

theorem append_spec (D P c r : List UInt8) (n : Int) (hD : D.length ≤ 1048576) (hP : P.length ≤ 1048576) (hc : c.length ≤ 1048576) (hr : r.length ≤ 1048576) :
  ∃ P' m k, sAR (bs D, bs P, n, ()) (bs c, bs r, ()) = some ((bs D, bs P', m, ()), k) ∧ P'.length ≤ P.length + c.length + r.length + 16 := by
 unfold sAR
 simp only [log_eq D P n (by omega) (by omega), Option.bind_some, good_eq c r (by omega) (by omega)]
 cases hv : okLog D P n with
 | false => exact ⟨P, n, 1, rfl, by omega⟩
 | true =>
   cases hg : goodB c r with
   | false => exact ⟨P, n, 1, rfl, by omega⟩
   | true =>
     simp only [Bool.not_true, cond_false]
     by_cases h60 : n = 60
     ·rw [cd1 h60]; exact ⟨P, n, 2, rfl, by omega⟩
     ·have hn := oLc hv
      obtain ⟨k, rfl⟩ : ∃ k : Nat, n = k := ⟨n.toNat, by omega⟩
      have h1 := tLl k c r (by omega)
      have h2 := sLl1 (textL k c r)
      have h3 : (lineL k c r).length = (sealL (textL k c r)).length + 1 := by simp [lineL]
      rw [cd h60, lLe1 k c r (by omega) (by omega) (by omega)]
      simp only [Option.bind_some, bs1, ba]
      rw [gp1 (by omega)]
      exact ⟨P ++ lineL k c r, _, 0, rfl, by rw [List.length_append]; omega⟩
theorem sync_spec (D P : List UInt8) (n : Int) (hD : D.length ≤ 1048576) (hP : P.length ≤ 1048576) :
  sSL (bs D, bs P, n, ()) = some (if okLog D P n = true then ((bs (D ++ P), bs [], n, ()), true) else ((bs [], bs [], 0, ()), false)) := by
 unfold sSL
 simp only [log_eq D P n (by omega) (by omega), Option.bind_some]
 cases okLog D P n with
 | false => rfl
 | true =>
   rw [Bool.not_true, cond_false, gp1 (by rw [bs1, bs1]; omega), ba]
   rfl
theorem oo (c : l1Cur) (n k : Int) (h : CG c n) (hn : n ≤ 100000000000) : Gives (slCo c k) (n + 2) (fun _ => True) := by
 obtain ⟨code, at', seed, u⟩ := c
 unfold slCo
 refine gb (po _ n _ h hn) fun a code1 at1 seed1 ha hc => ?_
 dsimp only
 exact Gives.ret hc trivial
theorem of_ok (c : l1Cur) (n : Int) (l : List ByteArray) (m : Nat) (hl : l ≠ []) (hm : ∀ x ∈ l, x.size ≤ m) (h : CG c n) (hn : n ≤ 100000000000) : Gives (slCo1 c l) (n + 2) (fun v => v.size ≤ m) := by
 obtain ⟨code, at', seed, u⟩ := c
 unfold slCo1
 refine gb (po _ n _ h hn) fun a code1 at1 seed1 ha hc => ?_
 dsimp only
 have hpos : 0 < l.length := List.length_pos_iff.2 hl
 have hlt : a < (l.length : Int) := by omega
 refine gg ⟨ha.1, hlt⟩ (Gives.ret hc ?_)
 have hi : a.toNat < l.length := by omega
 show (l.getD a.toNat (ByteArray.mk #[])).size ≤ m
 rw [gDe _ _ _ hi]; exact hm _ (List.getElem_mem hi)
theorem lRo (c : l1Cur) (n : Int) (h : CG c n) (hn : n ≤ 10000000000) : Gives (slCl c) (n + 8) (fun e => e.1.size ≤ 20 ∧ e.2.1.size ≤ 20) := by
 obtain ⟨code, at', seed, u⟩ := c
 unfold slCl
 refine gb (of_ok _ n _ 20 (by simp) (by intro x hx; simp only [List.mem_cons, List.not_mem_nil, or_false] at hx; rcases hx with rfl | rfl | rfl | rfl | rfl <;> decide) h (by omega)) fun a code1 at1 seed1 ha hc => ?_
 dsimp only
 refine gb (of_ok _ (n + 2) _ 20 (by simp) (by intro x hx; simp only [List.mem_cons, List.not_mem_nil, or_false] at hx; rcases hx with rfl | rfl | rfl | rfl | rfl <;> decide) hc (by omega)) fun b code2 at2 seed2 hb hc => ?_
 dsimp only
 refine gb (po _ (n + 2 + 2) _ hc (by omega)) fun p code3 at3 seed3 hp hc => ?_
 dsimp only
 refine gc (fun _ => ?_) (fun _ => gc (fun _ => ?_) (fun _ => ?_))
 ·refine gg (by omega) ?_
  refine gb (of_ok _ (n + 2 + 2 + 2) _ 20 (by simp) (by intro x hx; simp only [List.mem_cons, List.not_mem_nil, or_false] at hx; rcases hx with rfl | rfl | rfl | rfl | rfl <;> decide) hc (by omega)) fun q code4 at4 seed4 hq hc => ?_
  exact Gives.ret (hc.up (by omega)) ⟨hq, hb⟩
 ·refine gb (of_ok _ (n + 2 + 2 + 2) _ 20 (by simp) (by intro x hx; simp only [List.mem_cons, List.not_mem_nil, or_false] at hx; rcases hx with rfl | rfl | rfl <;> decide) hc (by omega)) fun q code4 at4 seed4 hq hc => ?_
  exact Gives.ret (hc.up (by omega)) ⟨ha, hq⟩
 ·exact Gives.ret (hc.up (by omega)) ⟨ha, hb⟩
theorem app_step (d p : ByteArray) (m : Int) (e : LR) (B : Nat) (h : d.size + p.size ≤ B) (hB : B ≤ 1000000) (he : e.1.size ≤ 20 ∧ e.2.1.size ≤ 20) : ∃ d' p' m' k, sAR (d, p, m, ()) (e.1, e.2.1, ()) = some ((d', p', m', ()), k) ∧ d'.size + p'.size ≤ B + 60 := by
 obtain ⟨c, r, u⟩ := e
 obtain ⟨D, rfl⟩ := bs_ex d
 obtain ⟨P, rfl⟩ := bs_ex p
 obtain ⟨c, rfl⟩ := bs_ex c
 obtain ⟨r, rfl⟩ := bs_ex r
 simp only [bs1] at h he
 obtain ⟨P', m', k, e1, hl⟩ := append_spec D P c r m (by omega) (by omega) (by omega) (by omega)
 exact ⟨_, _, _, _, e1, by simp only [bs1]; omega⟩
theorem sync_step (d p : ByteArray) (m : Int) (B : Nat) (h : d.size + p.size ≤ B) (hB : B ≤ 1000000) : ∃ d' p' m' k, sSL (d, p, m, ()) = some ((d', p', m', ()), k) ∧ d'.size + p'.size ≤ B := by
 obtain ⟨D, rfl⟩ := bs_ex d
 obtain ⟨P, rfl⟩ := bs_ex p
 simp only [bs1] at h
 have e1 := sync_spec D P m (by omega) (by omega)
 rw [e1]
 split
 ·exact ⟨_, _, _, _, rfl, by simp only [bs1, List.length_append, List.length_nil]; omega⟩
 ·exact ⟨_, _, _, _, rfl, by simp [bs1]⟩
theorem log_loop : ∀ (v : Nat) (code : List Int) (at' seed : Int) (d p : ByteArray) (m n : Int) (B : Nat), v ≤ 10 → CG (code, at', seed, ()) n → n + 10 * v ≤ 1000000000 → d.size + p.size ≤ B → B + 60 * v ≤ 900000 →
  ∃ code' at2 seed' d' p' m', iter (fun s => slCl3 s.1 s.2.1 s.2.2.1 s.2.2.2.1 s.2.2.2.2.1 s.2.2.2.2.2.1 s.2.2.2.2.2.2) ((v : Int), code, at', seed, d, p, m) = some (code', at2, seed', d', p', m') ∧ CG (code', at2, seed', ()) (n + 10 * v) ∧ d'.size + p'.size ≤ B + 60 * v
 | 0, code, at', seed, d, p, m, n, B, _, hc, _, hs, _ => by
   refine ⟨code, at', seed, d, p, m, io ?_, hc.up (by omega), by omega⟩
   show slCl3 ((0 : Nat) : Int) code at' seed d p m = _
   unfold slCl3
   rw [cd (by omega)]
 | v + 1, code, at', seed, d, p, m, n, B, hv, hc, hn, hs, hB => by
   obtain ⟨e, ⟨code1, at1, seed1, u1⟩, e1, hc1, he⟩ := lRo _ n hc (by omega)
   obtain ⟨d1, p1, m1, k1, e2, hs1⟩ := app_step d p m e B hs (by omega) he
   obtain ⟨b, ⟨code2, at2, seed2, u2⟩, e3, hc2, _⟩ := oo _ (n + 8) 4 hc1 (by omega)
   have hw : w64 (((v + 1 : Nat) : Int) - 1) = (v : Int) := by rw [wi (by omega) (by omega)]; omega
   have hc2 : CG (code2, at2, seed2, ()) (n + 10) := hc2.up (by omega)
   have step : ∃ d2 p2 m2, slCl3 ((v + 1 : Nat) : Int) code at' seed d p m = some (.go ((v : Int), code2, at2, seed2, d2, p2, m2)) ∧ d2.size + p2.size ≤ B + 60 := by
    unfold slCl3
    rw [cd1 (by omega), hw]
    simp only [e1, e2, e3, Option.bind_some]
    cases b
    ·exact ⟨_, _, _, rfl, hs1⟩
    ·obtain ⟨d2, p2, m2, k2, e4, hs2⟩ := sync_step d1 p1 m1 (B + 60) hs1 (by omega)
     simp only [e4, Option.bind_some, cond_true]
     exact ⟨_, _, _, rfl, hs2⟩
   obtain ⟨d2, p2, m2, e4, hs2⟩ := step
   obtain ⟨code3, at3, seed3, d3, p3, m3, e5, hc3, hs3⟩ := log_loop v code2 at2 seed2 d2 p2 m2 (n + 10) (B + 60) (by omega) hc2 (by omega) hs2 (by omega)
   exact ⟨code3, at3, seed3, d3, p3, m3, (ig e4).trans e5, hc3.up (by omega), by omega⟩
theorem log_ok (c : l1Cur) (n : Int) (h : CG c n) (hn : n ≤ 100000000) : Gives (slCl1 c) (n + 100) (fun l => l.1.size + l.2.1.size ≤ 1000) := by
 obtain ⟨code, at', seed, u⟩ := c
 unfold slCl1
 refine gb (po _ n _ h (by omega)) fun a code1 at1 seed1 ha hc => ?_
 dsimp only
 obtain ⟨v, rfl⟩ : ∃ v : Nat, a = (v : Int) := ⟨a.toNat, by omega⟩
 obtain ⟨code3, at3, seed3, d3, p3, m3, e5, hc3, hs3⟩ := log_loop v code1 at1 seed1 (ByteArray.mk #[]) (ByteArray.mk #[]) 0 (n + 2) 0 (by omega) hc (by omega) (by decide) (by omega)
 rw [e5]
 exact Gives.ret (hc3.up (by omega)) (by show d3.size + p3.size ≤ 1000; omega)
theorem spoilt_ok (c : l1Cur) (n : Int) (A Q : List UInt8) (hA : A.length ≤ 100000) (hQ : Q.length = 5) (h : CG c n) (hn : n ≤ 100000000) : Gives (slCs c (bs A) (bs Q)) (n + 10) (fun s => s.size ≤ A.length + 5) := by
 obtain ⟨code, at', seed, u⟩ := c
 unfold slCs
 simp only [bs1, bb, ba]
 refine gc (fun _ => ?_) (fun h0 => ?_)
 ·refine gg (by omega) (Gives.ret (h.up (by omega)) ?_)
  show (bs _).size ≤ _
  rw [bs1]; simp; omega
 ·have hne : A ≠ [] := fun e => by subst e; exact absurd h0 (by decide)
  have hpos : 0 < A.length := List.length_pos_iff.2 hne
  refine gb (po _ n _ h (by omega)) fun i code1 at1 seed1 hi hc => ?_
  dsimp only
  refine gb (po _ (n + 2) _ hc (by omega)) fun j code2 at2 seed2 hj hc => ?_
  dsimp only
  have hi1 : i < (A.length : Int) := by omega
  have hj1 : j < (Q.length : Int) := by omega
  have hw : w64 (i + 1) = i + 1 := wi (by omega) (by omega)
  refine gg (by omega) (gg (by simp only [List.length_take, List.length_drop]; omega) ?_)
  refine gb (po _ (n + 2 + 2) _ hc (by omega)) fun q code3 at3 seed3 hq hc => ?_
  dsimp only
  rw [hw]
  refine gc (fun _ => ?_) (fun _ => gc (fun _ => ?_) (fun _ => ?_))
  ·refine gg (by omega) (gg (by simp only [List.length_take, List.length_drop]; omega) (gg (by omega) (gg (by simp only [List.length_append, List.length_take, List.length_drop]; omega) (Gives.ret (hc.up (by omega)) ?_))))
   rw [bs1]; simp only [List.length_append, List.length_take, List.length_drop]; omega
  ·refine gg (by omega) (gg (by simp only [List.length_take, List.length_drop]; omega) (gg (by omega) (gg (by simp only [List.length_append, List.length_take, List.length_drop]; omega) (Gives.ret (hc.up (by omega)) ?_))))
   rw [bs1]; simp only [List.length_append, List.length_take, List.length_drop]; omega
  ·refine gg (by omega) (gg (by omega) (gg (by simp only [List.length_take, List.length_drop]; omega) (Gives.ret (hc.up (by omega)) ?_)))
   rw [bs1]; simp only [List.length_append, List.length_take, List.length_drop]; omega
theorem anyLog_ok (c : l1Cur) (n : Int) (h : CG c n) (hn : n ≤ 10000000) : Gives (slCa1 c) (n + 200) (fun l => l.1.size ≤ 3000 ∧ l.2.1.size ≤ 3000) := by
 obtain ⟨code, at', seed, u⟩ := c
 unfold slCa1
 refine gb (log_ok _ n h (by omega)) fun l code1 at1 seed1 hl hc => ?_
 obtain ⟨d, p, m, u2⟩ := l
 have hl : d.size + p.size ≤ 1000 := hl
 dsimp only
 refine gb (po _ (n + 100) _ hc (by omega)) fun q code2 at2 seed2 hq hc => ?_
 dsimp only
 refine gc (fun _ => ?_) (fun _ => gc (fun _ => ?_) (fun _ => gc (fun _ => ?_) (fun _ => ?_)))
 ·exact Gives.ret (hc.up (by omega)) ⟨by show d.size ≤ 3000; omega, by show p.size ≤ 3000; omega⟩
 ·obtain ⟨P, rfl⟩ := bs_ex p
  have hP := bs1 P
  refine gb (spoilt_ok _ (n + 100 + 2) P [35, 64, 10, 48, 49] (by omega) rfl hc (by omega)) fun s code3 at3 seed3 hs hc => ?_
  exact Gives.ret (hc.up (by omega)) ⟨by show d.size ≤ 3000; omega, by show s.size ≤ 3000; omega⟩
 ·refine gg (by omega) (Gives.ret (hc.up (by omega)) ⟨?_, by show p.size ≤ 3000; omega⟩)
  show (d ++ p).size ≤ 3000
  rw [ba_app_size]; omega
 ·exact Gives.ret (hc.up (by omega)) ⟨by show d.size ≤ 3000; omega, by show p.size ≤ 3000; omega⟩
theorem start_ok {code : List Int} (hb : ∀ x ∈ code, 0 ≤ x ∧ x ≤ 255) (hl : code.length ≤ 1048576) : CG (code, 0, 0, ()) 0 := ⟨hb, hl, by show (0 : Int) ≤ 0; omega, by show (0 : Int) ≤ 0; omega⟩
theorem ropeStep_ok (c : l1Cur) (r : R1) (n : Int) (hr : r.2.1.length ≤ 1048576) (h : CG c n) (hn : n ≤ 1000000000) : G1 (slCr2 c r) (n + 20) r.2.1 := by
 obtain ⟨code, at', seed, u⟩ := c
 have tail : ∀ (code : List Int) (at' seed : Int), CG (code, at', seed, ()) (n + 6) → G1 ((slCo (code, at', seed, ()) (20 : Int)).bind fun y14 => (cond y14.1 ((slCa (y14.2.1, y14.2.2.1, y14.2.2.2.1, ()) [(0 : Int), (8 : Int), (2 : Int)]).bind fun y15 => ((slCa (y15.2.1, y15.2.2.1, y15.2.2.2.1, ()) [((-1) : Int), (2 : Int), (0 : Int)]).bind fun y16 => (some ((y15.1, y16.1, ()), (y16.2.1, y16.2.2.1, y16.2.2.2.1, ()), r.2.1)))) ((slCp (y14.2.1, y14.2.2.1, y14.2.2.2.1, ()) (2 : Int)).bind fun y17 => (some (((5 : Int), y17.1, ()), (y17.2.1, y17.2.2.1, y17.2.2.2.1, ()), r.2.1))))) (n + 20) r.2.1 := fun code at' seed hc => by
  refine gb1 (oo _ (n + 6) 20 hc (by omega)) fun b code1 at1 seed1 _ hc => ?_
  dsimp only
  refine gc1 (fun _ => ?_) (fun _ => ?_)
  ·refine gb1 (ao1 _ (n + 6 + 2) _ (by simp) hc (by omega)) fun x code2 at2 seed2 _ hc => ?_
   dsimp only
   refine gb1 (ao1 _ (n + 6 + 2 + 2) _ (by simp) hc (by omega)) fun y code3 at3 seed3 _ hc => ?_
   exact G1.ret (hc.up (by omega))
  ·refine gb1 (po _ (n + 6 + 2) _ hc (by omega)) fun x code2 at2 seed2 _ hc => ?_
   exact G1.ret (hc.up (by omega))
 unfold slCr2
 refine gb1 (po _ n _ h (by omega)) fun a code1 at1 seed1 ha hc => ?_
 dsimp only
 refine gc1 (fun _ => ?_) (fun _ => ?_)
 ·refine gb1 (ao1 _ (n + 2) _ (by simp) hc (by omega)) fun x code2 at2 seed2 _ hc => ?_
  exact G1.ret (hc.up (by omega))
 obtain ⟨b, hb⟩ : ∃ b : Bool, (cond (decide (a = (1 : Int))) ((some (a, true, code1, at1, seed1))) (cond (decide (a = (2 : Int))) ((some (a, true, code1, at1, seed1))) ((some (a, (decide (a = (3 : Int))), code1, at1, seed1))))) = some (a, b, code1, at1, seed1) := by
  by_cases h1 : a = 1
  ·rw [cd1 h1]; exact ⟨_, rfl⟩
  ·rw [cd h1]
   by_cases h2 : a = 2
   ·rw [cd1 h2]; exact ⟨_, rfl⟩
   ·rw [cd h2]; exact ⟨_, rfl⟩
 rw [hb, Option.bind_some]
 dsimp only
 refine gc1 (fun _ => ?_) (fun _ => gc1 (fun _ => ?_) (fun _ => gc1 (fun _ => ?_) (fun _ => gc1 (fun _ => ?_) (fun _ => gc1 (fun _ => ?_) (fun _ => gc1 (fun _ => ?_) (fun _ => ?_))))))
 ·refine gc1 (fun _ => ?_) (fun _ => G1.ret (hc.up (by omega)))
  obtain ⟨y, e⟩ := openAny (r.1, r.2.1, r.2.2.1, r.2.2.2.1, r.2.2.2.2.1, ()) hr
  rw [e, Option.bind_some]
  refine gc1 (fun _ => gc1 (fun _ => G1.ret (hc.up (by omega))) (fun _ => G1.ret (hc.up (by omega)))) (fun _ => G1.ret (hc.up (by omega)))
 ·refine gb1 (ao1 _ (n + 2) _ (by simp) hc (by omega)) fun x code2 at2 seed2 _ hc => ?_
  exact G1.ret (hc.up (by omega))
 ·refine gb1 (oo _ (n + 2) 3 hc (by omega)) fun x code2 at2 seed2 _ hc => ?_
  dsimp only
  exact gc1 (fun _ => G1.ret (hc.up (by omega))) (fun _ => tail _ _ _ (hc.up (by omega)))
 ·refine gb1 (po _ (n + 2) _ hc (by omega)) fun x code2 at2 seed2 _ hc => ?_
  exact G1.ret (hc.up (by omega))
 ·refine gb1 (po _ (n + 2) _ hc (by omega)) fun x code2 at2 seed2 _ hc => ?_
  exact G1.ret (hc.up (by omega))
 ·refine gb1 (po _ (n + 2) _ hc (by omega)) fun x code2 at2 seed2 _ hc => ?_
  exact G1.ret (hc.up (by omega))
 ·exact tail _ _ _ (hc.up (by omega))
theorem rl : ∀ (v : Nat) (code : List Int) (at' seed m w t d : Int) (l : List Slot) (n : Int), v ≤ 100 → CG (code, at', seed, ()) n → n + 20 * v ≤ 1000000000 → l.length ≤ 10 → 4 ≤ l.length →
  ∃ code' at2 seed' m' w' t' d' l', iter (fun s => slCr3 s.1 s.2.1 s.2.2.1 s.2.2.2.1 s.2.2.2.2.1 s.2.2.2.2.2.1 s.2.2.2.2.2.2.1 s.2.2.2.2.2.2.2.1 s.2.2.2.2.2.2.2.2) ((v : Int), code, at', seed, m, w, t, d, l) = some (code', at2, seed', m', w', t', d', l') ∧ CG (code', at2, seed', ()) (n + 20 * v) ∧ l'.length ≤ 10 ∧ 4 ≤ l'.length
 | 0, code, at', seed, m, w, t, d, l, n, _, hc, _, hl, h4 => by
   refine ⟨code, at', seed, m, w, t, d, l, io ?_, hc.up (by omega), hl, h4⟩
   show slCr3 ((0 : Nat) : Int) code at' seed m w t d l = _
   unfold slCr3
   rw [cd (by omega)]
 | v + 1, code, at', seed, m, w, t, d, l, n, hv, hc, hn, hl, h4 => by
   obtain ⟨e, ⟨code1, at1, seed1, u1⟩, e1, hc1⟩ := ropeStep_ok _ (m, l, w, t, d, ()) n (by show l.length ≤ 1048576; omega) hc (by omega)
   obtain ⟨o, e2, ho⟩ := specStep_any (m, l, w, t, d, ()) e hl
   have e2 : sSR (m, l, w, t, d, ()) (e.1, e.2.1, ()) = some (o.elim (.inl (0, [], 0, 0, 0, ())) .inr) := e2
   have hw : w64 (((v + 1 : Nat) : Int) - 1) = (v : Int) := by rw [wi (by omega) (by omega)]; omega
   have step : ∃ m2 w2 t2 d2 l2, slCr3 ((v + 1 : Nat) : Int) code at' seed m w t d l = some (.go ((v : Int), code1, at1, seed1, m2, w2, t2, d2, l2)) ∧ l2.length ≤ 10 ∧ 4 ≤ l2.length := by
    unfold slCr3
    rw [cd1 (by omega), hw]
    simp only [e1, e2, Option.bind_some]
    cases o with
    | none => exact ⟨_, _, _, _, _, rfl, hl, h4⟩
    | some y =>
      obtain ⟨m2, l2, w2, t2, d2, u2⟩ := y
      have hh : l2.length = l.length := ho _ rfl
      exact ⟨_, _, _, _, _, rfl, by show l2.length ≤ 10; omega, by show 4 ≤ l2.length; omega⟩
   obtain ⟨m2, w2, t2, d2, l2, e4, hl2, h42⟩ := step
   obtain ⟨code3, at3, seed3, m3, w3, t3, d3, l3, e5, hc3, hl3, h43⟩ := rl v code1 at1 seed1 m2 w2 t2 d2 l2 (n + 20) (by omega) hc1 (by omega) hl2 h42
   exact ⟨code3, at3, seed3, m3, w3, t3, d3, l3, (ig e4).trans e5, hc3.up (by omega), hl3, h43⟩
theorem ropeway_ok (c : l1Cur) (n : Int) (h : CG c n) (hn : n ≤ 1000000) : ∃ r c', slCr1 c = some (Sum.inr (r, c')) ∧ CG c' (n + 1000) ∧ r.2.1.length ≤ 11 := by
 obtain ⟨code, at', seed, u⟩ := c
 obtain ⟨a, ⟨code1, at1, seed1, u1⟩, e1, hc, ha⟩ := ao1 _ n [(4 : Int), (4 : Int), (6 : Int), (8 : Int), (10 : Int)] (by simp) h (by omega)
 obtain ⟨b, ⟨code2, at2, seed2, u2⟩, e2, hc, hb⟩ := ao1 _ _ [(0 : Int), (3 : Int), (10 : Int), (500 : Int)] (by simp) hc (by omega)
 obtain ⟨e3, ha10, ha4⟩ := newGood a b ha hb
 obtain ⟨p, ⟨code3, at3, seed3, u3⟩, e4, hc, hp⟩ := po _ _ 30 hc (by omega)
 obtain ⟨v, rfl⟩ : ∃ v : Nat, p = (v : Int) := ⟨p.toNat, by omega⟩
 obtain ⟨code4, at4, seed4, m, w, t, d, l, e5, hc, hl, h4⟩ := rl v code3 at3 seed3 0 b 0 0 (List.replicate a.toNat ((0 : Int), false, (0 : Int), ())) _ (by omega) hc (by omega) (by simp; omega) (by simp; omega)
 obtain ⟨q, ⟨code5, at5, seed5, u5⟩, e6, hc, hq⟩ := po _ _ 32 hc (by omega)
 have hc : CG (code5, at5, seed5, ()) (n + 800) := hc.up (by omega)
 unfold slCr1
 simp only [e1, e2, e3, e4, e5, e6, Option.bind_some, Sum.elim_inr]
 by_cases q0 : q = 0
 ·rw [cd1 q0]
  obtain ⟨x, ⟨code6, at6, seed6, u6⟩, e7, hc, _⟩ := ao1 _ _ [((-1) : Int), (4 : Int), (2 : Int)] (by simp) hc (by omega)
  simp only [e7, Option.bind_some]
  exact ⟨_, _, rfl, hc.up (by omega), by show l.length ≤ 11; omega⟩
 rw [cd q0]
 by_cases q1 : q = 1
 ·rw [cd1 q1]
  obtain ⟨x, ⟨code6, at6, seed6, u6⟩, e7, hc, hx⟩ := po _ _ (l.length : Int) hc (by omega)
  obtain ⟨x2, ⟨code7, at7, seed7, u7⟩, e8, hc, _⟩ := ao1 _ _ [(0 : Int), (1 : Int), (21 : Int)] (by simp) hc (by omega)
  obtain ⟨x3, ⟨code8, at8, seed8, u8⟩, e9, hc, _⟩ := oo _ _ 2 hc (by omega)
  obtain ⟨x4, ⟨code9, at9, seed9, u9⟩, e10, hc, _⟩ := ao1 _ _ [(0 : Int), (3 : Int), (9 : Int)] (by simp) hc (by omega)
  simp only [e7, e8, e9, e10, Option.bind_some]
  rw [gp1 (by omega)]
  exact ⟨_, _, rfl, hc.up (by omega), by show (l.set _ _).length ≤ 11; rw [List.length_set]; omega⟩
 rw [cd q1]
 by_cases q2 : q = 2
 ·rw [cd1 q2]
  obtain ⟨x, ⟨code6, at6, seed6, u6⟩, e7, hc, _⟩ := ao1 _ _ [((-1) : Int), (501 : Int), (5 : Int)] (by simp) hc (by omega)
  simp only [e7, Option.bind_some]
  exact ⟨_, _, rfl, hc.up (by omega), by show l.length ≤ 11; omega⟩
 rw [cd q2]
 by_cases q3 : q = 3
 ·rw [cd1 q3, gp1 (by simp; omega)]
  exact ⟨_, _, rfl, hc.up (by omega), by simp; omega⟩
 rw [cd q3]
 exact ⟨_, _, rfl, hc.up (by omega), by show l.length ≤ 11; omega⟩
theorem Gives.tt {α : Type} {a : α} {c : l1Cur} {n : Int} (h : CG c n) : Gives (some (a, c)) n (fun _ => True) := Gives.ret h trivial
end Go.Proofs.YtaobinhdnklojaaGreatDoor
namespace Go.Proofs.YtaobinhdnklojaaGreatDoor
open Go.RowKit

def StepB (e : RS1) : Prop := (-10 : Int) ≤ e.2.1 ∧ e.2.1 ≤ (100 : Int)
theorem ropeStepB_ok (c : l1Cur) (m : Int) (l : List Slot) (w t d : Int) (n : Int) (hr : l.length ≤ 1048576) (h : CG c n) (hn : n ≤ 1000000000) : Gives (slCr c m l w t d) (n + 20) StepB := by
 obtain ⟨code, at', seed, u⟩ := c
 have tail : ∀ (code : List Int) (at' seed : Int), CG (code, at', seed, ()) (n + 6) → Gives ((slCo (code, at', seed, ()) (20 : Int)).bind fun y14 => (cond y14.1 ((slCa (y14.2.1, y14.2.2.1, y14.2.2.2.1, ()) [(0 : Int), (8 : Int), (2 : Int)]).bind fun y15 => ((slCa (y15.2.1, y15.2.2.1, y15.2.2.2.1, ()) [((-1) : Int), (2 : Int), (0 : Int)]).bind fun y16 => (some ((y15.1, y16.1, ()), (y16.2.1, y16.2.2.1, y16.2.2.2.1, ()))))) ((slCp (y14.2.1, y14.2.2.1, y14.2.2.2.1, ()) (2 : Int)).bind fun y17 => (some (((5 : Int), y17.1, ()), (y17.2.1, y17.2.2.1, y17.2.2.2.1, ())))))) (n + 20) StepB := fun code at' seed hc => by
  refine gb (oo _ (n + 6) 20 hc (by omega)) fun b code1 at1 seed1 hx1 hc => ?_
  dsimp only
  refine gc (fun _ => ?_) (fun _ => ?_)
  ·refine gb (ao1 _ (n + 6 + 2) _ (by simp) hc (by omega)) fun x code2 at2 seed2 hx2 hc => ?_
   dsimp only
   refine gb (ao1 _ (n + 6 + 2 + 2) _ (by simp) hc (by omega)) fun y code3 at3 seed3 hx3 hc => ?_
   exact Gives.ret (hc.up (by omega)) (by first | exact ⟨by decide, by decide⟩ | (unfold StepB; dsimp only; omega) | (simp only [List.mem_cons, List.not_mem_nil, or_false] at *; unfold StepB; dsimp only; omega))
  ·refine gb (po _ (n + 6 + 2) _ hc (by omega)) fun x code2 at2 seed2 hx2 hc => ?_
   exact Gives.ret (hc.up (by omega)) (by first | exact ⟨by decide, by decide⟩ | (unfold StepB; dsimp only; omega) | (simp only [List.mem_cons, List.not_mem_nil, or_false] at *; unfold StepB; dsimp only; omega))
 unfold slCr
 refine gb (po _ n _ h (by omega)) fun a code1 at1 seed1 ha hc => ?_
 dsimp only
 refine gc (fun _ => ?_) (fun _ => ?_)
 ·refine gb (ao1 _ (n + 2) _ (by simp) hc (by omega)) fun x code2 at2 seed2 hx2 hc => ?_
  exact Gives.ret (hc.up (by omega)) (by first | exact ⟨by decide, by decide⟩ | (unfold StepB; dsimp only; omega) | (simp only [List.mem_cons, List.not_mem_nil, or_false] at *; unfold StepB; dsimp only; omega))
 obtain ⟨b, hb⟩ : ∃ b : Bool, (cond (decide (a = (1 : Int))) ((some (a, true, code1, at1, seed1))) (cond (decide (a = (2 : Int))) ((some (a, true, code1, at1, seed1))) ((some (a, (decide (a = (3 : Int))), code1, at1, seed1))))) = some (a, b, code1, at1, seed1) := by
  by_cases h1 : a = 1
  ·rw [cd1 h1]; exact ⟨_, rfl⟩
  ·rw [cd h1]
   by_cases h2 : a = 2
   ·rw [cd1 h2]; exact ⟨_, rfl⟩
   ·rw [cd h2]; exact ⟨_, rfl⟩
 rw [hb, Option.bind_some]
 dsimp only
 refine gc (fun _ => ?_) (fun _ => gc (fun _ => ?_) (fun _ => gc (fun _ => ?_) (fun _ => gc (fun _ => ?_) (fun _ => gc (fun _ => ?_) (fun _ => gc (fun _ => ?_) (fun _ => ?_))))))
 ·refine gc (fun _ => ?_) (fun _ => Gives.ret (hc.up (by omega)) ⟨by decide, by decide⟩)
  obtain ⟨y, e⟩ := openAny (m, l, w, t, d, ()) hr
  rw [e, Option.bind_some]
  refine gc (fun _ => gc (fun _ => Gives.ret (hc.up (by omega)) ⟨by decide, by decide⟩) (fun _ => Gives.ret (hc.up (by omega)) ⟨by decide, by decide⟩)) (fun _ => Gives.ret (hc.up (by omega)) ⟨by decide, by decide⟩)
 ·refine gb (ao1 _ (n + 2) _ (by simp) hc (by omega)) fun x code2 at2 seed2 hx2 hc => ?_
  exact Gives.ret (hc.up (by omega)) (by first | exact ⟨by decide, by decide⟩ | (unfold StepB; dsimp only; omega) | (simp only [List.mem_cons, List.not_mem_nil, or_false] at *; unfold StepB; dsimp only; omega))
 ·refine gb (oo _ (n + 2) 3 hc (by omega)) fun x code2 at2 seed2 hx2 hc => ?_
  dsimp only
  exact gc (fun _ => Gives.ret (hc.up (by omega)) ⟨by decide, by decide⟩) (fun _ => tail _ _ _ (hc.up (by omega)))
 ·refine gb (po _ (n + 2) _ hc (by omega)) fun x code2 at2 seed2 hx2 hc => ?_
  exact Gives.ret (hc.up (by omega)) (by first | exact ⟨by decide, by decide⟩ | (unfold StepB; dsimp only; omega) | (simp only [List.mem_cons, List.not_mem_nil, or_false] at *; unfold StepB; dsimp only; omega))
 ·refine gb (po _ (n + 2) _ hc (by omega)) fun x code2 at2 seed2 hx2 hc => ?_
  exact Gives.ret (hc.up (by omega)) (by first | exact ⟨by decide, by decide⟩ | (unfold StepB; dsimp only; omega) | (simp only [List.mem_cons, List.not_mem_nil, or_false] at *; unfold StepB; dsimp only; omega))
 ·refine gb (po _ (n + 2) _ hc (by omega)) fun x code2 at2 seed2 hx2 hc => ?_
  exact Gives.ret (hc.up (by omega)) (by first | exact ⟨by decide, by decide⟩ | (unfold StepB; dsimp only; omega) | (simp only [List.mem_cons, List.not_mem_nil, or_false] at *; unfold StepB; dsimp only; omega))
 ·exact tail _ _ _ (hc.up (by omega))
theorem most_ok (v : Int) (h : -10 ≤ v ∧ v ≤ 100) : ∃ y, slM2 (0 : Int) v = some y ∧ 0 ≤ y ∧ y ≤ 100 := by
 unfold slM2
 by_cases h0 : v < 0
 ·rw [cd1 h0]; exact ⟨0, rfl, by omega, by omega⟩
 ·rw [cd h0]; exact ⟨v, rfl, by omega, by omega⟩
theorem least_ok (v : Int) (h : 0 ≤ v) : ∃ y, slL3 (3 : Int) v = some y ∧ 0 ≤ y ∧ y ≤ 3 := by
 unfold slL3
 by_cases h0 : (3 : Int) < v
 ·rw [cd1 h0]; exact ⟨3, rfl, by omega, by omega⟩
 ·rw [cd h0]; exact ⟨v, rfl, by omega, by omega⟩
theorem co (c : l1Cur) (m : Int) (l : List Slot) (w t d : Int) (g1 g2 : ByteArray) (g3 : Int) (n : Int) (hr : l.length ≤ 1048576) (h : CG c n) (hn : n ≤ 100000000) : Gives (slCc c m l w t d g1 g2 g3) (n + 40) (fun v => v.size ≤ 30) := by
 obtain ⟨code, at', seed, u⟩ := c
 unfold slCc
 refine gb (ropeStepB_ok _ m l w t d n hr h (by omega)) fun s code1 at1 seed1 hs hc => ?_
 obtain ⟨k, v, u1⟩ := s
 have hs : -10 ≤ v ∧ v ≤ 100 := hs
 dsimp only
 refine gb (po _ (n + 20) _ hc (by omega)) fun a code2 at2 seed2 ha hc => ?_
 dsimp only
 obtain ⟨b, hb⟩ : ∃ b : Bool, (cond (decide (a = (0 : Int))) ((some (a, true, code2, at2, seed2, k, v))) (cond (decide (a = (1 : Int))) ((some (a, true, code2, at2, seed2, k, v))) (cond (decide (a = (2 : Int))) ((some (a, true, code2, at2, seed2, k, v))) ((some (a, (decide (a = (3 : Int))), code2, at2, seed2, k, v)))))) = some (a, b, code2, at2, seed2, k, v) := by
  by_cases h1 : a = 0
  ·rw [cd1 h1]; exact ⟨_, rfl⟩
  ·rw [cd h1]
   by_cases h1 : a = 1
   ·rw [cd1 h1]; exact ⟨_, rfl⟩
   ·rw [cd h1]
    by_cases h2 : a = 2
    ·rw [cd1 h2]; exact ⟨_, rfl⟩
    ·rw [cd h2]; exact ⟨_, rfl⟩
 rw [hb, Option.bind_some]
 dsimp only
 obtain ⟨y, e1, y0, y1⟩ := most_ok v hs
 obtain ⟨z, e2, z0, z1⟩ := least_ok y y0
 have hi := is1 y (by omega)
 have hc' : CG (code2, at2, seed2, ()) (n + 40) := hc.up (by omega)
 refine gc (fun _ => ?_) (fun _ => gc (fun _ => ?_) (fun _ => ?_))
 ·rw [e1, Option.bind_some, lNi y (by omega), Option.bind_some]
  refine gc (fun _ => ?_) (fun _ => gc (fun _ => ?_) (fun _ => gc (fun _ => ?_) (fun _ => gc (fun _ => ?_) (fun _ => gc (fun _ => ?_) (fun _ => gc (fun _ => ?_) (fun _ => ?_))))))
  ·rw [Option.bind_some, e2, Option.bind_some]
   refine gg (by simp; omega) (Gives.ret hc' ?_)
   have : z = 0 ∨ z = 1 ∨ z = 2 ∨ z = 3 := by omega
   rcases this with rfl | rfl | rfl | rfl <;> decide
  ·exact Gives.ret hc' (by decide)
  ·have e : ((ByteArray.mk #[104, 97, 110, 103, 32])).size = 5 := rfl
   refine gg (by rw [e, bs1]; omega) (Gives.ret hc' ?_)
   rw [ByteArray.size_append, e, bs1]; omega
  ·exact Gives.ret hc' (by decide)
  ·have e : ((ByteArray.mk #[98, 111, 97, 114, 100, 32])).size = 6 := rfl
   refine gg (by rw [e, bs1]; omega) (Gives.ret hc' ?_)
   rw [ByteArray.size_append, e, bs1]; omega
  ·have e : ((ByteArray.mk #[108, 101, 97, 118, 101, 32])).size = 6 := rfl
   refine gg (by rw [e, bs1]; omega) (Gives.ret hc' ?_)
   rw [ByteArray.size_append, e, bs1]; omega
  ·have e : ((ByteArray.mk #[100, 111, 111, 114, 32])).size = 5 := rfl
   refine gg (by rw [e, bs1]; omega) (Gives.ret hc' ?_)
   rw [ByteArray.size_append, e, bs1]; omega
 ·refine gb (of_ok _ (n + 20 + 2) _ 30 (by simp) (by intro x hx; simp only [List.mem_cons, List.not_mem_nil, or_false] at hx; rcases hx with rfl | rfl | rfl | rfl | rfl | rfl | rfl <;> decide) hc (by omega)) fun x code3 at3 seed3 hx hc => ?_
  exact Gives.ret (hc.up (by omega)) hx
 ·refine gb (of_ok _ (n + 20 + 2) _ 30 (by simp) (by intro x hx; simp only [List.mem_cons, List.not_mem_nil, or_false] at hx; rcases hx with rfl | rfl | rfl | rfl | rfl | rfl | rfl | rfl | rfl | rfl | rfl <;> decide) hc (by omega)) fun x code3 at3 seed3 hx hc => ?_
  exact Gives.ret (hc.up (by omega)) hx
end Go.Proofs.YtaobinhdnklojaaGreatDoor
namespace Go.Proofs.YtaobinhdnklojaaGreatDoor
open Go.RowKit

def ConB (s : C1) : Prop := s.1.2.1.length ≤ 11 ∧ s.2.1.1.size ≤ 30000 ∧ s.2.1.2.1.size ≤ 30000
theorem bs_nil : ByteArray.mk #[] = bs [] := rfl
theorem wp1 (v : Nat) (h : v < 1000000) : w64 (((v + 1 : Nat) : Int) - 1) = (v : Int) := by rw [wi (by omega) (by omega)]; omega
theorem vl {x : Int} {l : List Slot} {w t d : Int} {D P : List UInt8} {n : Int} (h : (gd (x, l, w, t, d, ()) && okLog D P n) = true) : l.length ≤ 10 ∧ D.length + P.length ≤ 24000 := by
 obtain ⟨h1, h2⟩ := vS h
 obtain ⟨_, hl, _⟩ := go1 h1
 exact ⟨by omega, oLl h2⟩
theorem ev1 (x : Int) (l : List Slot) (w t d : Int) (D P z : List UInt8) (n : Int) (hz : z.length ≤ 1048576) (h : (gd (x, l, w, t, d, ()) && okLog D P n) = true) :
  ∃ x' l' w' t' d' P' m R, Exec (x, l, w, t, d, ()) D P n z (x', l', w', t', d', ()) P' m R ∧ (gd (x', l', w', t', d', ()) && okLog D P' m) = true ∧
    sEC ((x, l, w, t, d, ()), (bs D, bs P, n, ()), ()) (bs z) = some (((x', l', w', t', d', ()), (bs D, bs P', m, ()), ()), bs R) ∧
    iECi x l w t d (bs D) (bs P) n (bs z) = some (((x', l', w', t', d', ()), (bs D, bs P', m, ()), ()), bs R) := by
 obtain ⟨h1, h2⟩ := vl h
 obtain ⟨⟨x', l', w', t', d', ⟨⟩⟩, P', m, R, hex, e1, _, e3⟩ := exec_both (x, l, w, t, d, ()) D P z n (by show l.length ≤ 1048576; omega) (by omega) (by omega) hz
 exact ⟨x', l', w', t', d', P', m, R, hex, hex.valid h, e1, e3 (gd_pos (vS h).1)⟩
theorem cl : ∀ (v : Nat) (code : List Int) (at' seed x : Int) (l : List Slot) (w t d : Int) (P : List UInt8) (q n : Int), v ≤ 10 → CG (code, at', seed, ()) n → n + 50 * v ≤ 100000000 → l.length ≤ 11 → P.length ≤ 24000 →
  ∃ code' at2 seed' x' l' w' t' d' P' q', iter (fun s => slCc2 s.1 s.2.1 s.2.2.1 s.2.2.2.1 s.2.2.2.2.1 s.2.2.2.2.2.1 s.2.2.2.2.2.2.1 s.2.2.2.2.2.2.2.1 s.2.2.2.2.2.2.2.2.1 s.2.2.2.2.2.2.2.2.2.1 s.2.2.2.2.2.2.2.2.2.2.1 s.2.2.2.2.2.2.2.2.2.2.2) ((v : Int), code, at', seed, x, l, w, t, d, bs [], bs P, q) = some (code', at2, seed', x', l', w', t', d', bs [], bs P', q') ∧ CG (code', at2, seed', ()) (n + 50 * v) ∧ l'.length ≤ 11 ∧ P'.length ≤ 24000
 | 0, code, at', seed, x, l, w, t, d, P, q, n, _, hc, _, hl, hP => by
   refine ⟨code, at', seed, x, l, w, t, d, P, q, io ?_, hc.up (by omega), hl, hP⟩
   show slCc2 ((0 : Nat) : Int) code at' seed x l w t d (bs []) (bs P) q = _
   unfold slCc2
   rw [cd (by omega)]
 | v + 1, code, at', seed, x, l, w, t, d, P, q, n, hv, hc, hn, hl, hP => by
   have g := validS (x, l, w, t, d, ()) [] P q (by show l.length ≤ 1048576; omega) (by simp) (by omega)
   cases hb : (gd (x, l, w, t, d, ()) && okLog [] P q) with
   | false =>
     refine ⟨code, at', seed, x, l, w, t, d, P, q, io ?_, hc.up (by omega), hl, hP⟩
     show slCc2 ((v + 1 : Nat) : Int) code at' seed x l w t d (bs []) (bs P) q = _
     unfold slCc2
     rw [cd1 (by omega), g, Option.bind_some, hb]; rfl
   | true =>
     obtain ⟨z, ⟨code1, at1, seed1, u⟩, e1, hc1, hz⟩ := co (code, at', seed, ()) x l w t d (bs []) (bs P) q n (by omega) hc (by omega)
     obtain ⟨z, rfl⟩ := bs_ex z
     have hz : (bs z).size ≤ 30 := hz
     rw [bs1] at hz
     obtain ⟨x', l', w', t', d', P', m, R, _, hv', e2, _⟩ := ev1 x l w t d [] P z q (by omega) hb
     obtain ⟨hl', hP'⟩ := vl hv'
     obtain ⟨code', at2, seed', x2, l2, w2, t2, d2, P2, q2, e3, hc2, hl2, hP2⟩ := cl v code1 at1 seed1 x' l' w' t' d' P' m (n + 40) (by omega) hc1 (by omega) (by omega) (by simp at hP'; omega)
     refine ⟨code', at2, seed', x2, l2, w2, t2, d2, P2, q2, (ig ?_).trans e3, hc2.up (by omega), hl2, hP2⟩
     show slCc2 ((v + 1 : Nat) : Int) code at' seed x l w t d (bs []) (bs P) q = _
     unfold slCc2
     rw [cd1 (by omega), g, Option.bind_some, hb, cond_true, e1, Option.bind_some]
     dsimp only
     rw [e2, Option.bind_some, wp1 v (by omega)]
theorem console_ok (c : l1Cur) (n : Int) (h : CG c n) (hn : n ≤ 1000000) : Gives (slCc1 c) (n + 3000) ConB := by
 obtain ⟨code, at', seed, u⟩ := c
 obtain ⟨⟨x, l, w, t, d, u1⟩, ⟨code1, at1, seed1, u2⟩, e1, hc, hl⟩ := ropeway_ok (code, at', seed, ()) n h (by omega)
 have hl : l.length ≤ 11 := hl
 unfold slCc1
 dsimp only
 rw [e1, Option.bind_some, Sum.elim_inr, Option.bind_some]
 dsimp only
 refine gb (po _ (n + 1000) _ hc (by omega)) fun a code2 at2 seed2 ha hc => ?_
 dsimp only
 obtain ⟨v, rfl⟩ : ∃ v : Nat, a = (v : Int) := ⟨a.toNat, by omega⟩
 obtain ⟨code3, at3, seed3, x3, l3, w3, t3, d3, P3, q3, e3, hc3, hl3, hP3⟩ := cl v code2 at2 seed2 x l w t d [] 0 (n + 1000 + 2) (by omega) hc (by omega) hl (by simp)
 rw [bs_nil, e3, Option.bind_some]
 dsimp only
 refine gb (oo _ (n + 2000) 24 (hc3.up (by omega)) (by omega)) fun b code4 at4 seed4 _ hc => ?_
 dsimp only
 refine gc (fun _ => ?_) (fun _ => ?_)
 ·refine gb (anyLog_ok _ (n + 2000 + 2) hc (by omega)) fun g code5 at5 seed5 hg hc => ?_
  obtain ⟨d1, p1, m1, u1⟩ := g
  have hg : d1.size ≤ 3000 ∧ p1.size ≤ 3000 := hg
  exact Gives.ret (hc.up (by omega)) ⟨hl3, by show d1.size ≤ 30000; omega, by show p1.size ≤ 30000; omega⟩
 ·exact Gives.ret (hc.up (by omega)) ⟨hl3, by show (bs []).size ≤ 30000; rw [bs1]; simp, by show (bs P3).size ≤ 30000; rw [bs1]; omega⟩
theorem sl4 : ∀ (v : Nat) (T : ByteArray) (code : List Int) (at' seed x : Int) (l : List Slot) (w t d : Int) (g1 g2 : ByteArray) (g3 n : Int), v ≤ 10 → CG (code, at', seed, ()) n → n + 50 * v ≤ 100000000 → l.length ≤ 1048576 → T.size + 31 * v ≤ 1000 →
  ∃ T' code' at2 seed', iter (fun s => sDRS2 s.1 s.2.1 s.2.2.1 s.2.2.2.1 s.2.2.2.2.1 s.2.2.2.2.2.1 s.2.2.2.2.2.2.1 s.2.2.2.2.2.2.2.1 s.2.2.2.2.2.2.2.2.1 s.2.2.2.2.2.2.2.2.2.1 s.2.2.2.2.2.2.2.2.2.2.1 s.2.2.2.2.2.2.2.2.2.2.2.1 s.2.2.2.2.2.2.2.2.2.2.2.2) (T, (v : Int), code, at', seed, x, l, w, t, d, g1, g2, g3) = some (T', code', at2, seed', x, l, w, t, d, g1, g2, g3) ∧ CG (code', at2, seed', ()) (n + 50 * v) ∧ T'.size ≤ T.size + 31 * v
 | 0, T, code, at', seed, x, l, w, t, d, g1, g2, g3, n, _, hc, _, hl, hT => by
   refine ⟨T, code, at', seed, io ?_, hc.up (by omega), by omega⟩
   show sDRS2 T ((0 : Nat) : Int) code at' seed x l w t d g1 g2 g3 = _
   unfold sDRS2
   rw [cd (by omega)]
 | v + 1, T, code, at', seed, x, l, w, t, d, g1, g2, g3, n, hv, hc, hn, hl, hT => by
   obtain ⟨z, ⟨code1, at1, seed1, u⟩, e1, hc1, hz⟩ := co (code, at', seed, ()) x l w t d g1 g2 g3 n hl hc (by omega)
   have hz : z.size ≤ 30 := hz
   have h1 : (ByteArray.mk #[10]).size = 1 := rfl
   have h2 : (T ++ ByteArray.mk #[10]).size = T.size + 1 := by rw [ByteArray.size_append, h1]
   have h3 : (T ++ ByteArray.mk #[10] ++ z).size = T.size + 1 + z.size := by rw [ByteArray.size_append, h2]
   obtain ⟨T', code', at2, seed', e2, hc2, hT'⟩ := sl4 v (T ++ ByteArray.mk #[10] ++ z) code1 at1 seed1 x l w t d g1 g2 g3 (n + 40) (by omega) hc1 (by omega) hl (by omega)
   refine ⟨T', code', at2, seed', (ig ?_).trans e2, hc2.up (by omega), by omega⟩
   show sDRS2 T ((v + 1 : Nat) : Int) code at' seed x l w t d g1 g2 g3 = _
   unfold sDRS2
   rw [cd1 (by omega), gp1 (by omega), e1, Option.bind_some]
   dsimp only
   rw [gp1 (by omega), wp1 v (by omega)]
theorem sl3 : ∀ (v : Nat) (T : ByteArray) (x : Int) (l : List Slot) (w t d : Int) (g1 g2 : ByteArray) (g3 : Int), T.size + v ≤ 1000 →
  ∃ T', iter (fun s => sDRS1 s.1 s.2.1 s.2.2.1 s.2.2.2.1 s.2.2.2.2.1 s.2.2.2.2.2.1 s.2.2.2.2.2.2.1 s.2.2.2.2.2.2.2.1 s.2.2.2.2.2.2.2.2.1 s.2.2.2.2.2.2.2.2.2) (T, (v : Int), x, l, w, t, d, g1, g2, g3) = some (T', x, l, w, t, d, g1, g2, g3) ∧ T'.size ≤ T.size + v
 | 0, T, x, l, w, t, d, g1, g2, g3, hT => by
   refine ⟨T, io ?_, by omega⟩
   show sDRS1 T ((0 : Nat) : Int) x l w t d g1 g2 g3 = _
   unfold sDRS1
   rw [cd (by omega)]
 | v + 1, T, x, l, w, t, d, g1, g2, g3, hT => by
   have h1 : (ByteArray.mk #[10]).size = 1 := rfl
   have h2 : (T ++ ByteArray.mk #[10]).size = T.size + 1 := by rw [ByteArray.size_append, h1]
   obtain ⟨T', e2, hT'⟩ := sl3 v (T ++ ByteArray.mk #[10]) x l w t d g1 g2 g3 (by omega)
   refine ⟨T', (ig ?_).trans e2, by omega⟩
   show sDRS1 T ((v + 1 : Nat) : Int) x l w t d g1 g2 g3 = _
   unfold sDRS1
   rw [cd1 (by omega), gp1 (by omega), wp1 v (by omega)]
theorem drawScript_ok {code : List Int} (hb : ∀ x ∈ code, 0 ≤ x ∧ x ≤ 255) (hl : code.length ≤ 1048576) : ∃ s t, sDRS code = some (s, t) ∧ ConB s ∧ t.size ≤ 1000 := by
 obtain ⟨⟨⟨x, l, w, t, d, u1⟩, ⟨g1, g2, g3, u2⟩, u3⟩, ⟨code1, at1, seed1, u⟩, e1, hc1, hs⟩ := console_ok (code, 0, 0, ()) 0 (start_ok hb hl) (by omega)
 have hs1 : l.length ≤ 11 := hs.1
 obtain ⟨z, ⟨code2, at2, seed2, u4⟩, e2, hc2, hz⟩ := co (code1, at1, seed1, ()) x l w t d g1 g2 g3 _ (by omega) hc1 (by omega)
 have hz : z.size ≤ 30 := hz
 obtain ⟨a, ⟨code3, at3, seed3, u5⟩, e3, hc3, ha⟩ := po (code2, at2, seed2, ()) _ 5 hc2 (by omega)
 obtain ⟨v, rfl⟩ : ∃ v : Nat, a = (v : Int) := ⟨a.toNat, by omega⟩
 obtain ⟨T', code4, at4, seed4, e4, hc4, hT⟩ := sl4 v z code3 at3 seed3 x l w t d g1 g2 g3 _ (by omega) hc3 (by omega) (by omega) (by omega)
 obtain ⟨b, ⟨code5, at5, seed5, u6⟩, e5, hc5, _⟩ := oo (code4, at4, seed4, ()) _ 20 hc4 (by omega)
 unfold sDRS
 rw [e1, Option.bind_some]
 dsimp only
 rw [e2, Option.bind_some]
 dsimp only
 rw [e3, Option.bind_some]
 dsimp only
 rw [e4, Option.bind_some]
 dsimp only
 rw [e5, Option.bind_some]
 dsimp only
 cases b with
 | false => exact ⟨_, _, rfl, hs, by omega⟩
 | true =>
   obtain ⟨a, ⟨code6, at6, seed6, u7⟩, e6, hc6, ha⟩ := po (code5, at5, seed5, ()) _ 2 hc5 (by omega)
   obtain ⟨k, rfl⟩ : ∃ k : Nat, a = (k : Int) := ⟨a.toNat, by omega⟩
   have hw : w64 ((29 : Int) + (k : Int)) = ((29 + k : Nat) : Int) := by rw [wi (by omega) (by omega)]; omega
   obtain ⟨T2, e7, hT2⟩ := sl3 (29 + k) (ByteArray.mk #[]) x l w t d g1 g2 g3 (by show 0 + (29 + k) ≤ 1000; omega)
   have h0 : (ByteArray.mk #[]).size = 0 := rfl
   rw [cond_true, e6, Option.bind_some]
   dsimp only
   rw [hw, e7, Option.bind_some]
   exact ⟨_, _, rfl, hs, by show T2.size ≤ 1000; omega⟩
end Go.Proofs.YtaobinhdnklojaaGreatDoor
namespace Go.Proofs.YtaobinhdnklojaaGreatDoor
open Go.RowKit

def Rep : R1 → List Rc → R1 → Prop
 | a, [], b => a = b
 | a, x :: xs, b => ∃ y c, ir a (bs x.1) = some (RI a y c x.2.1) ∧ Rep y xs b
theorem Rep.pre : ∀ {xs ys : List Rc} {a b : R1}, Rep a (xs ++ ys) b → ∃ m, Rep a xs m
 | [], _, a, _, _ => ⟨a, rfl⟩
 | _ :: _, _, _, _, ⟨y1, c1, e, h⟩ => by
   obtain ⟨m, hm⟩ := Rep.pre h
   exact ⟨m, y1, c1, e, hm⟩
end Go.Proofs.YtaobinhdnklojaaGreatDoor
