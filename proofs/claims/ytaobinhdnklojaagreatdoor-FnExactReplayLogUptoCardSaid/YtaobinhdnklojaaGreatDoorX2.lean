/-
  What a row's listed variables and the shape of its first world give.
-/
import Derived.Test.YtaobinhdnklojaaGreatDoorVC
import Derived.Test.YtaobinhdnklojaaGreatDoorXQ
import Derived.Test.YtaobinhdnklojaaGreatDoorRows
import Derived.LaidLaws
namespace Go.Proofs.YtaobinhdnklojaaGreatDoor
open Go.RowKit

theorem ws0 : ByteArray.mk #[100, 111, 111, 114] = bs [100, 111, 111, 114] := rfl
theorem ws1 : ByteArray.mk #[100, 111, 111, 114, 115] = bs [100, 111, 111, 114, 115] := rfl
theorem ws2 : ByteArray.mk #[100, 111, 119, 110] = bs [100, 111, 119, 110] := rfl
theorem ws3 : ByteArray.mk #[102, 97, 115, 116] = bs [102, 97, 115, 116] := rfl
theorem ws4 : ByteArray.mk #[104, 97, 110, 103] = bs [104, 97, 110, 103] := rfl
theorem ws5 : ByteArray.mk #[108, 101, 97, 118, 101] = bs [108, 101, 97, 118, 101] := rfl
theorem ws6 : ByteArray.mk #[108, 111, 99, 107] = bs [108, 111, 99, 107] := rfl
theorem ws7 : ByteArray.mk #[112, 101, 111, 112, 108, 101] = bs [112, 101, 111, 112, 108, 101] := rfl
theorem ws8 : ByteArray.mk #[115, 108, 111, 119] = bs [115, 108, 111, 119] := rfl
theorem ws9 : ByteArray.mk #[115, 116, 111, 112] = bs [115, 116, 111, 112] := rfl
theorem ws10 : ByteArray.mk #[116, 117, 114, 110] = bs [116, 117, 114, 110] := rfl
theorem ws11 : ByteArray.mk #[116, 97, 107, 101] = bs [116, 97, 107, 101] := rfl
theorem ws12 : ByteArray.mk #[117, 112] = bs [117, 112] := rfl
theorem ws13 : ByteArray.mk #[98, 111, 97, 114, 100] = bs [98, 111, 97, 114, 100] := rfl
theorem ws14 : ByteArray.mk #[99, 108, 101, 97, 114] = bs [99, 108, 101, 97, 114] := rfl
theorem ws15 : ByteArray.mk #[99, 97, 98, 105, 110] = bs [99, 97, 98, 105, 110] := rfl
theorem dw (w v : List UInt8) : decide (bs w = bs v) = decide (w = v) := by
  by_cases h : w = v
  · rw [h, decide_eq_true rfl, decide_eq_true rfl]
  · rw [decide_eq_false h, decide_eq_false (fun e => h (bs_inj.1 e))]
noncomputable def stepOfL (w : List UInt8) (a1 : (List Int)) : Option (RopeStep × Bool) :=
  (cond (decide (w = [115, 116, 111, 112])) (cond (!decide ((a1.length : Int) = (0 : Int))) ((some (((1 : Int), (0 : Int), ()), false))) ((some (((1 : Int), (0 : Int), ()), true)))) (cond (decide (w = [115, 108, 111, 119])) (cond (!decide ((a1.length : Int) = (0 : Int))) ((some (((1 : Int), (1 : Int), ()), false))) ((some (((1 : Int), (1 : Int), ()), true)))) (cond (decide (w = [102, 97, 115, 116])) (cond (!decide ((a1.length : Int) = (0 : Int))) ((some (((1 : Int), (2 : Int), ()), false))) ((some (((1 : Int), (2 : Int), ()), true)))) (cond (decide (w = [108, 111, 99, 107])) (cond (!decide ((a1.length : Int) = (0 : Int))) ((some (((1 : Int), (3 : Int), ()), false))) ((some (((1 : Int), (3 : Int), ()), true)))) (cond (decide (w = [116, 117, 114, 110])) (cond (!decide ((a1.length : Int) = (0 : Int))) ((some (((2 : Int), (0 : Int), ()), false))) ((some (((2 : Int), (0 : Int), ()), true)))) (cond (decide (w = [116, 97, 107, 101])) (cond (!decide ((a1.length : Int) = (0 : Int))) ((some (((4 : Int), (0 : Int), ()), false))) ((some (((4 : Int), (0 : Int), ()), true)))) (cond (decide (w = [104, 97, 110, 103])) (cond (!decide ((a1.length : Int) = (1 : Int))) ((some (((3 : Int), (0 : Int), ()), false))) (grd (0 ≤ (0 : Int) ∧ (0 : Int) < (a1.length : Int)) ((some (((3 : Int), (a1.getD ((0 : Int).toNat) 0), ()), true))))) (cond (decide (w = [100, 111, 111, 114])) (cond (!decide ((a1.length : Int) = (1 : Int))) ((some (((7 : Int), (0 : Int), ()), false))) (grd (0 ≤ (0 : Int) ∧ (0 : Int) < (a1.length : Int)) ((some (((7 : Int), (a1.getD ((0 : Int).toNat) 0), ()), true))))) (cond (decide (w = [98, 111, 97, 114, 100])) (cond (!decide ((a1.length : Int) = (1 : Int))) ((some (((5 : Int), (0 : Int), ()), false))) (grd (0 ≤ (0 : Int) ∧ (0 : Int) < (a1.length : Int)) ((some (((5 : Int), (a1.getD ((0 : Int).toNat) 0), ()), true))))) (cond (decide (w = [108, 101, 97, 118, 101])) (cond (!decide ((a1.length : Int) = (1 : Int))) ((some (((6 : Int), (0 : Int), ()), false))) (grd (0 ≤ (0 : Int) ∧ (0 : Int) < (a1.length : Int)) ((some (((6 : Int), (a1.getD ((0 : Int).toNat) 0), ()), true))))) ((some (((0 : Int), (0 : Int), ()), false)))))))))))))
theorem stepOfL_eq (a1 : (List Int)) (w : List UInt8) : impl_stepOf (bs w) a1 = stepOfL w a1 := by
  unfold impl_stepOf stepOfL
  simp only [ws0, ws3, ws4, ws5, ws6, ws8, ws9, ws10, ws11, ws13, dw]
noncomputable def askL (a0 : Ropeway) (w : List UInt8) (a2 : (List Int)) : Option (ByteArray × Bool) :=
  (cond (decide ((a2.length : Int) = (1 : Int))) (cond (decide (w = [99, 97, 98, 105, 110])) (grd (0 ≤ (0 : Int) ∧ (0 : Int) < (a2.length : Int)) ((impl_CabinAt (a0.1, a0.2.1, a0.2.2.1, a0.2.2.2.1, a0.2.2.2.2.1, ()) (a2.getD ((0 : Int).toNat) 0)).bind fun y1 => ((strconv_Itoa y1.1).bind fun y2 => (some (y2, y1.2))))) (cond (decide (w = [117, 112])) (grd (0 ≤ (0 : Int) ∧ (0 : Int) < (a2.length : Int)) ((impl_TurnsTo (a0.1, a0.2.1, a0.2.2.1, a0.2.2.2.1, a0.2.2.2.2.1, ()) (a2.getD ((0 : Int).toNat) 0) true).bind fun y3 => ((strconv_Itoa y3.1).bind fun y4 => (some (y4, y3.2))))) (cond (decide (w = [100, 111, 119, 110])) (grd (0 ≤ (0 : Int) ∧ (0 : Int) < (a2.length : Int)) ((impl_TurnsTo (a0.1, a0.2.1, a0.2.2.1, a0.2.2.2.1, a0.2.2.2.2.1, ()) (a2.getD ((0 : Int).toNat) 0) false).bind fun y5 => ((strconv_Itoa y5.1).bind fun y6 => (some (y6, y5.2))))) ((strconv_Itoa (0 : Int)).bind fun y7 => (some (y7, false)))))) (cond (decide ((0 : Int) < (a2.length : Int))) ((some ((ByteArray.mk #[]), false))) (cond (decide (w = [112, 101, 111, 112, 108, 101])) ((impl_Ropeway_peopleOn (a0.1, a0.2.1, a0.2.2.1, a0.2.2.2.1, a0.2.2.2.2.1, ())).bind fun y8 => ((impl_listText [a0.2.2.1, y8.1, a0.2.2.2.1, a0.2.2.2.2.1]).bind fun y9 => (some (y9, true)))) (cond (decide (w = [100, 111, 111, 114, 115])) ((impl_OpenDoors (a0.1, a0.2.1, a0.2.2.1, a0.2.2.2.1, a0.2.2.2.2.1, ())).bind (Sum.elim (fun _ => ((impl_listText []).bind fun y12 => (some (y12, false)))) (fun y13 => ((impl_listText y13).bind fun y14 => (some (y14, true)))))) (cond (decide (w = [99, 108, 101, 97, 114])) ((impl_IsCleared (a0.1, a0.2.1, a0.2.2.1, a0.2.2.2.1, a0.2.2.2.2.1, ())).bind fun y15 => (cond y15.1 ((some ((ByteArray.mk #[121, 101, 115]), true))) ((some ((ByteArray.mk #[110, 111]), true))))) ((some ((ByteArray.mk #[]), false))))))))
theorem askL_eq (a0 : Ropeway) (a2 : (List Int)) (w : List UInt8) : impl_ask a0 (bs w) a2 = askL a0 w a2 := by
  unfold impl_ask askL
  simp only [ws1, ws2, ws7, ws12, ws14, ws15, dw]
noncomputable def wordL (a0 : Console) (w : List UInt8) : Option ((Console × ByteArray × (List Slot)) ⊕ (Console × ByteArray × (List Slot))) :=
  (cond (decide (w = [115, 116, 111, 112])) ((spec_l28Make ((a0.1.1, a0.1.2.1, a0.1.2.2.1, a0.1.2.2.2.1, a0.1.2.2.2.2.1, ()), (a0.2.1.1, a0.2.1.2.1, a0.2.1.2.2.1, ()), ()) (1 : Int) (0 : Int)).bind (Sum.elim (fun y2 => (some (Sum.inl (((y2.1.1.1, y2.2.2, y2.1.1.2.2.1, y2.1.1.2.2.2.1, y2.1.1.2.2.2.2.1, ()), (y2.1.2.1.1, y2.1.2.1.2.1, y2.1.2.1.2.2.1, ()), ()), y2.2.1, y2.2.2)))) (fun y3 => (some (Sum.inr (((y3.1.1.1, y3.1.1.2.1, y3.1.1.2.2.1, y3.1.1.2.2.2.1, y3.1.1.2.2.2.2.1, ()), (y3.1.2.1.1, y3.1.2.1.2.1, y3.1.2.1.2.2.1, ()), ()), y3.2.1, y3.2.2)))))) (cond (decide (w = [115, 108, 111, 119])) ((spec_l28Make ((a0.1.1, a0.1.2.1, a0.1.2.2.1, a0.1.2.2.2.1, a0.1.2.2.2.2.1, ()), (a0.2.1.1, a0.2.1.2.1, a0.2.1.2.2.1, ()), ()) (1 : Int) (1 : Int)).bind (Sum.elim (fun y5 => (some (Sum.inl (((y5.1.1.1, y5.2.2, y5.1.1.2.2.1, y5.1.1.2.2.2.1, y5.1.1.2.2.2.2.1, ()), (y5.1.2.1.1, y5.1.2.1.2.1, y5.1.2.1.2.2.1, ()), ()), y5.2.1, y5.2.2)))) (fun y6 => (some (Sum.inr (((y6.1.1.1, y6.1.1.2.1, y6.1.1.2.2.1, y6.1.1.2.2.2.1, y6.1.1.2.2.2.2.1, ()), (y6.1.2.1.1, y6.1.2.1.2.1, y6.1.2.1.2.2.1, ()), ()), y6.2.1, y6.2.2)))))) (cond (decide (w = [102, 97, 115, 116])) ((spec_l28Make ((a0.1.1, a0.1.2.1, a0.1.2.2.1, a0.1.2.2.2.1, a0.1.2.2.2.2.1, ()), (a0.2.1.1, a0.2.1.2.1, a0.2.1.2.2.1, ()), ()) (1 : Int) (2 : Int)).bind (Sum.elim (fun y8 => (some (Sum.inl (((y8.1.1.1, y8.2.2, y8.1.1.2.2.1, y8.1.1.2.2.2.1, y8.1.1.2.2.2.2.1, ()), (y8.1.2.1.1, y8.1.2.1.2.1, y8.1.2.1.2.2.1, ()), ()), y8.2.1, y8.2.2)))) (fun y9 => (some (Sum.inr (((y9.1.1.1, y9.1.1.2.1, y9.1.1.2.2.1, y9.1.1.2.2.2.1, y9.1.1.2.2.2.2.1, ()), (y9.1.2.1.1, y9.1.2.1.2.1, y9.1.2.1.2.2.1, ()), ()), y9.2.1, y9.2.2)))))) (cond (decide (w = [108, 111, 99, 107])) ((spec_l28Make ((a0.1.1, a0.1.2.1, a0.1.2.2.1, a0.1.2.2.2.1, a0.1.2.2.2.2.1, ()), (a0.2.1.1, a0.2.1.2.1, a0.2.1.2.2.1, ()), ()) (1 : Int) (3 : Int)).bind (Sum.elim (fun y11 => (some (Sum.inl (((y11.1.1.1, y11.2.2, y11.1.1.2.2.1, y11.1.1.2.2.2.1, y11.1.1.2.2.2.2.1, ()), (y11.1.2.1.1, y11.1.2.1.2.1, y11.1.2.1.2.2.1, ()), ()), y11.2.1, y11.2.2)))) (fun y12 => (some (Sum.inr (((y12.1.1.1, y12.1.1.2.1, y12.1.1.2.2.1, y12.1.1.2.2.2.1, y12.1.1.2.2.2.2.1, ()), (y12.1.2.1.1, y12.1.2.1.2.1, y12.1.2.1.2.2.1, ()), ()), y12.2.1, y12.2.2)))))) (cond (decide (w = [116, 117, 114, 110])) ((spec_l28Make ((a0.1.1, a0.1.2.1, a0.1.2.2.1, a0.1.2.2.2.1, a0.1.2.2.2.2.1, ()), (a0.2.1.1, a0.2.1.2.1, a0.2.1.2.2.1, ()), ()) (2 : Int) (0 : Int)).bind (Sum.elim (fun y14 => (some (Sum.inl (((y14.1.1.1, y14.2.2, y14.1.1.2.2.1, y14.1.1.2.2.2.1, y14.1.1.2.2.2.2.1, ()), (y14.1.2.1.1, y14.1.2.1.2.1, y14.1.2.1.2.2.1, ()), ()), y14.2.1, y14.2.2)))) (fun y15 => (some (Sum.inr (((y15.1.1.1, y15.1.1.2.1, y15.1.1.2.2.1, y15.1.1.2.2.2.1, y15.1.1.2.2.2.2.1, ()), (y15.1.2.1.1, y15.1.2.1.2.1, y15.1.2.1.2.2.1, ()), ()), y15.2.1, y15.2.2)))))) (cond (decide (w = [116, 97, 107, 101])) ((spec_l28Make ((a0.1.1, a0.1.2.1, a0.1.2.2.1, a0.1.2.2.2.1, a0.1.2.2.2.2.1, ()), (a0.2.1.1, a0.2.1.2.1, a0.2.1.2.2.1, ()), ()) (4 : Int) (0 : Int)).bind (Sum.elim (fun y17 => (some (Sum.inl (((y17.1.1.1, y17.2.2, y17.1.1.2.2.1, y17.1.1.2.2.2.1, y17.1.1.2.2.2.2.1, ()), (y17.1.2.1.1, y17.1.2.1.2.1, y17.1.2.1.2.2.1, ()), ()), y17.2.1, y17.2.2)))) (fun y18 => (some (Sum.inr (((y18.1.1.1, y18.1.1.2.1, y18.1.1.2.2.1, y18.1.1.2.2.2.1, y18.1.1.2.2.2.2.1, ()), (y18.1.2.1.1, y18.1.2.1.2.1, y18.1.2.1.2.2.1, ()), ()), y18.2.1, y18.2.2)))))) (cond (decide (w = [112, 101, 111, 112, 108, 101])) ((spec_l25Sum (a0.1.1, a0.1.2.1, a0.1.2.2.1, a0.1.2.2.2.1, a0.1.2.2.2.2.1, ())).bind fun y19 => ((spec_l28List [a0.1.2.2.1, y19.1, a0.1.2.2.2.1, a0.1.2.2.2.2.1] true).bind fun y20 => (some (Sum.inl (((a0.1.1, a0.1.2.1, a0.1.2.2.1, a0.1.2.2.2.1, a0.1.2.2.2.2.1, ()), (a0.2.1.1, a0.2.1.2.1, a0.2.1.2.2.1, ()), ()), y20, a0.1.2.1))))) (cond (decide (w = [100, 111, 111, 114, 115])) ((spec_l25Open (a0.1.1, a0.1.2.1, a0.1.2.2.1, a0.1.2.2.2.1, a0.1.2.2.2.2.1, ())).bind fun y21 => ((spec_l28List y21 true).bind fun y22 => (some (Sum.inl (((a0.1.1, a0.1.2.1, a0.1.2.2.1, a0.1.2.2.2.1, a0.1.2.2.2.2.1, ()), (a0.2.1.1, a0.2.1.2.1, a0.2.1.2.2.1, ()), ()), y22, a0.1.2.1))))) (cond (decide (w = [99, 108, 101, 97, 114])) ((spec_IsCleared (a0.1.1, a0.1.2.1, a0.1.2.2.1, a0.1.2.2.2.1, a0.1.2.2.2.2.1, ())).bind fun y23 => (cond y23.1 ((some (Sum.inl (((a0.1.1, a0.1.2.1, a0.1.2.2.1, a0.1.2.2.2.1, a0.1.2.2.2.2.1, ()), (a0.2.1.1, a0.2.1.2.1, a0.2.1.2.2.1, ()), ()), (ByteArray.mk #[121, 101, 115]), a0.1.2.1)))) ((some (Sum.inl (((a0.1.1, a0.1.2.1, a0.1.2.2.1, a0.1.2.2.2.1, a0.1.2.2.2.2.1, ()), (a0.2.1.1, a0.2.1.2.1, a0.2.1.2.2.1, ()), ()), (ByteArray.mk #[110, 111]), a0.1.2.1)))))) ((some (Sum.inl (((a0.1.1, a0.1.2.1, a0.1.2.2.1, a0.1.2.2.2.1, a0.1.2.2.2.2.1, ()), (a0.2.1.1, a0.2.1.2.1, a0.2.1.2.2.1, ()), ()), (ByteArray.mk #[63]), a0.1.2.1)))))))))))))
theorem wordL_eq (a0 : Console) (w : List UInt8) : spec_l28Word a0 (bs w) = wordL a0 w := by
  unfold spec_l28Word wordL
  simp only [ws1, ws3, ws6, ws7, ws8, ws9, ws10, ws11, ws14, dw]
noncomputable def oneL (a0 : Console) (w : List UInt8) (a2 : Int) : Option ((Console × ByteArray × (List Slot)) ⊕ (Console × ByteArray × (List Slot))) :=
  (cond (decide (w = [104, 97, 110, 103])) ((spec_l28Make ((a0.1.1, a0.1.2.1, a0.1.2.2.1, a0.1.2.2.2.1, a0.1.2.2.2.2.1, ()), (a0.2.1.1, a0.2.1.2.1, a0.2.1.2.2.1, ()), ()) (3 : Int) a2).bind (Sum.elim (fun y2 => (some (Sum.inl (((y2.1.1.1, y2.2.2, y2.1.1.2.2.1, y2.1.1.2.2.2.1, y2.1.1.2.2.2.2.1, ()), (y2.1.2.1.1, y2.1.2.1.2.1, y2.1.2.1.2.2.1, ()), ()), y2.2.1, y2.2.2)))) (fun y3 => (some (Sum.inr (((y3.1.1.1, y3.1.1.2.1, y3.1.1.2.2.1, y3.1.1.2.2.2.1, y3.1.1.2.2.2.2.1, ()), (y3.1.2.1.1, y3.1.2.1.2.1, y3.1.2.1.2.2.1, ()), ()), y3.2.1, y3.2.2)))))) (cond (decide (w = [100, 111, 111, 114])) ((spec_l28Make ((a0.1.1, a0.1.2.1, a0.1.2.2.1, a0.1.2.2.2.1, a0.1.2.2.2.2.1, ()), (a0.2.1.1, a0.2.1.2.1, a0.2.1.2.2.1, ()), ()) (7 : Int) a2).bind (Sum.elim (fun y5 => (some (Sum.inl (((y5.1.1.1, y5.2.2, y5.1.1.2.2.1, y5.1.1.2.2.2.1, y5.1.1.2.2.2.2.1, ()), (y5.1.2.1.1, y5.1.2.1.2.1, y5.1.2.1.2.2.1, ()), ()), y5.2.1, y5.2.2)))) (fun y6 => (some (Sum.inr (((y6.1.1.1, y6.1.1.2.1, y6.1.1.2.2.1, y6.1.1.2.2.2.1, y6.1.1.2.2.2.2.1, ()), (y6.1.2.1.1, y6.1.2.1.2.1, y6.1.2.1.2.2.1, ()), ()), y6.2.1, y6.2.2)))))) (cond (decide (w = [98, 111, 97, 114, 100])) ((spec_l28Make ((a0.1.1, a0.1.2.1, a0.1.2.2.1, a0.1.2.2.2.1, a0.1.2.2.2.2.1, ()), (a0.2.1.1, a0.2.1.2.1, a0.2.1.2.2.1, ()), ()) (5 : Int) a2).bind (Sum.elim (fun y8 => (some (Sum.inl (((y8.1.1.1, y8.2.2, y8.1.1.2.2.1, y8.1.1.2.2.2.1, y8.1.1.2.2.2.2.1, ()), (y8.1.2.1.1, y8.1.2.1.2.1, y8.1.2.1.2.2.1, ()), ()), y8.2.1, y8.2.2)))) (fun y9 => (some (Sum.inr (((y9.1.1.1, y9.1.1.2.1, y9.1.1.2.2.1, y9.1.1.2.2.2.1, y9.1.1.2.2.2.2.1, ()), (y9.1.2.1.1, y9.1.2.1.2.1, y9.1.2.1.2.2.1, ()), ()), y9.2.1, y9.2.2)))))) (cond (decide (w = [108, 101, 97, 118, 101])) ((spec_l28Make ((a0.1.1, a0.1.2.1, a0.1.2.2.1, a0.1.2.2.2.1, a0.1.2.2.2.2.1, ()), (a0.2.1.1, a0.2.1.2.1, a0.2.1.2.2.1, ()), ()) (6 : Int) a2).bind (Sum.elim (fun y11 => (some (Sum.inl (((y11.1.1.1, y11.2.2, y11.1.1.2.2.1, y11.1.1.2.2.2.1, y11.1.1.2.2.2.2.1, ()), (y11.1.2.1.1, y11.1.2.1.2.1, y11.1.2.1.2.2.1, ()), ()), y11.2.1, y11.2.2)))) (fun y12 => (some (Sum.inr (((y12.1.1.1, y12.1.1.2.1, y12.1.1.2.2.1, y12.1.1.2.2.2.1, y12.1.1.2.2.2.2.1, ()), (y12.1.2.1.1, y12.1.2.1.2.1, y12.1.2.1.2.2.1, ()), ()), y12.2.1, y12.2.2)))))) (cond (decide (w = [99, 97, 98, 105, 110])) ((spec_CabinAt (a0.1.1, a0.1.2.1, a0.1.2.2.1, a0.1.2.2.2.1, a0.1.2.2.2.2.1, ()) a2).bind fun y13 => (cond (!y13.2) ((some (Sum.inl (((a0.1.1, a0.1.2.1, a0.1.2.2.1, a0.1.2.2.2.1, a0.1.2.2.2.2.1, ()), (a0.2.1.1, a0.2.1.2.1, a0.2.1.2.2.1, ()), ()), (ByteArray.mk #[63]), a0.1.2.1)))) ((spec_l1Num y13.1).bind fun y14 => (some (Sum.inl (((a0.1.1, a0.1.2.1, a0.1.2.2.1, a0.1.2.2.2.1, a0.1.2.2.2.2.1, ()), (a0.2.1.1, a0.2.1.2.1, a0.2.1.2.2.1, ()), ()), y14, a0.1.2.1)))))) (cond (decide (w = [117, 112])) ((spec_TurnsTo (a0.1.1, a0.1.2.1, a0.1.2.2.1, a0.1.2.2.2.1, a0.1.2.2.2.2.1, ()) a2 true).bind fun y15 => (cond (!y15.2) ((some (Sum.inl (((a0.1.1, a0.1.2.1, a0.1.2.2.1, a0.1.2.2.2.1, a0.1.2.2.2.2.1, ()), (a0.2.1.1, a0.2.1.2.1, a0.2.1.2.2.1, ()), ()), (ByteArray.mk #[63]), a0.1.2.1)))) ((spec_l1Num y15.1).bind fun y16 => (some (Sum.inl (((a0.1.1, a0.1.2.1, a0.1.2.2.1, a0.1.2.2.2.1, a0.1.2.2.2.2.1, ()), (a0.2.1.1, a0.2.1.2.1, a0.2.1.2.2.1, ()), ()), y16, a0.1.2.1)))))) (cond (decide (w = [100, 111, 119, 110])) ((spec_TurnsTo (a0.1.1, a0.1.2.1, a0.1.2.2.1, a0.1.2.2.2.1, a0.1.2.2.2.2.1, ()) a2 false).bind fun y17 => (cond (!y17.2) ((some (Sum.inl (((a0.1.1, a0.1.2.1, a0.1.2.2.1, a0.1.2.2.2.1, a0.1.2.2.2.2.1, ()), (a0.2.1.1, a0.2.1.2.1, a0.2.1.2.2.1, ()), ()), (ByteArray.mk #[63]), a0.1.2.1)))) ((spec_l1Num y17.1).bind fun y18 => (some (Sum.inl (((a0.1.1, a0.1.2.1, a0.1.2.2.1, a0.1.2.2.2.1, a0.1.2.2.2.2.1, ()), (a0.2.1.1, a0.2.1.2.1, a0.2.1.2.2.1, ()), ()), y18, a0.1.2.1)))))) ((some (Sum.inl (((a0.1.1, a0.1.2.1, a0.1.2.2.1, a0.1.2.2.2.1, a0.1.2.2.2.2.1, ()), (a0.2.1.1, a0.2.1.2.1, a0.2.1.2.2.1, ()), ()), (ByteArray.mk #[63]), a0.1.2.1)))))))))))
theorem oneL_eq (a0 : Console) (a2 : Int) (w : List UInt8) : spec_l28One a0 (bs w) a2 = oneL a0 w a2 := by
  unfold spec_l28One oneL
  simp only [ws0, ws2, ws4, ws5, ws12, ws13, ws15, dw]
noncomputable def tailI (a0 : Ropeway) (w : List UInt8) (nums : List Int) : Option ((Ropeway × ByteArray × (List Slot)) ⊕ (Ropeway × ByteArray × (List Slot))) :=
  ((stepOfL w nums).bind fun y21 => (cond y21.2 ((impl_Ropeway_step (a0.1, a0.2.1, a0.2.2.1, a0.2.2.2.1, a0.2.2.2.2.1, ()) (y21.1.1, y21.1.2.1, ())).bind (Sum.elim (fun _ => (some (Sum.inl ((a0.1, a0.2.1, a0.2.2.1, a0.2.2.2.1, a0.2.2.2.2.1, ()), (ByteArray.mk #[63]), a0.2.1)))) (fun y24 => ((impl_stepReply (y24.1, y24.2.1, y24.2.2.1, y24.2.2.2.1, y24.2.2.2.2.1, ()) (y21.1.1, y21.1.2.1, ())).bind fun y25 => (some (Sum.inr ((y24.1, y24.2.1, y24.2.2.1, y24.2.2.2.1, y24.2.2.2.2.1, ()), y25, a0.2.1))))))) ((askL a0 w nums).bind fun y26 => (cond y26.2 ((some (Sum.inl ((a0.1, a0.2.1, a0.2.2.1, a0.2.2.2.1, a0.2.2.2.2.1, ()), y26.1, a0.2.1)))) ((some (Sum.inl ((a0.1, a0.2.1, a0.2.2.1, a0.2.2.2.1, a0.2.2.2.2.1, ()), (ByteArray.mk #[63]), a0.2.1))))))))
theorem tail_step (a : Ropeway) (w : List UInt8) (nums : List Int) (k v : Int) (hg : gd a = true) (h : stepOfL w nums = some ((k, v, ()), true)) :
    tailI a w nums = some (match outc a (k, v, ()) with | none => RI a a false [63] | some y => RI a y true (repL y k v)) := by
  have e1 := step_eq a (k, v, ()) hg
  unfold tailI
  rw [h, Option.bind_some]
  dsimp only
  rw [cond_true]
  have e1 : impl_Ropeway_step (a.1, a.2.1, a.2.2.1, a.2.2.2.1, a.2.2.2.2.1, ()) (k, v, ()) = _ := e1
  rw [e1, Option.bind_some]
  cases ho : outc a (k, v, ()) with
  | none => rfl
  | some y =>
    have hr := (stepReply_eq y k v (outc_good _ _ _ ho) (step_ask hg ho)).1
    have hr : impl_stepReply (y.1, y.2.1, y.2.2.1, y.2.2.2.1, y.2.2.2.2.1, ()) (k, v, ()) = _ := hr
    rw [Option.elim_some, Sum.elim_inr, hr]
    rfl
theorem tail_ask (a : Ropeway) (w : List UInt8) (nums : List Int) (s : RopeStep) (R : List UInt8) (h : stepOfL w nums = some (s, false)) (ha : ∃ b z, askL a w nums = some (z, b) ∧ ((b = true ∧ z = bs R) ∨ (b = false ∧ R = [63]))) :
    tailI a w nums = some (RI a a false R) := by
  obtain ⟨b, z, e, hz⟩ := ha
  unfold tailI
  rw [h, Option.bind_some]
  dsimp only
  rw [cond_false, e, Option.bind_some]
  rcases hz with ⟨rfl, rfl⟩ | ⟨rfl, rfl⟩ <;> rfl
def Both (a : Ropeway) (x : Option ((Ropeway × ByteArray × (List Slot)) ⊕ (Ropeway × ByteArray × (List Slot)))) (f : Log → Option ((Console × ByteArray × (List Slot)) ⊕ (Console × ByteArray × (List Slot)))) : Prop :=
  ∃ y b R, x = some (RI a y b R) ∧ (∀ g, f g = some (RS a y g b R)) ∧ gd y = true ∧ Fine R ∧ (b = false → y = a)
theorem both_step (a : Ropeway) (w : List UInt8) (nums : List Int) (k v : Int) (hg : gd a = true) (h : stepOfL w nums = some ((k, v, ()), true)) (f : Log → Option ((Console × ByteArray × (List Slot)) ⊕ (Console × ByteArray × (List Slot))))
    (hf : ∀ g, f g = (spec_l28Make (a, g, ()) k v).bind (Sum.elim (fun y2 => (some (Sum.inl (((y2.1.1.1, y2.2.2, y2.1.1.2.2.1, y2.1.1.2.2.2.1, y2.1.1.2.2.2.2.1, ()), (y2.1.2.1.1, y2.1.2.1.2.1, y2.1.2.1.2.2.1, ()), ()), y2.2.1, y2.2.2)))) (fun y3 => (some (Sum.inr (((y3.1.1.1, y3.1.1.2.1, y3.1.1.2.2.1, y3.1.1.2.2.2.1, y3.1.1.2.2.2.2.1, ()), (y3.1.2.1.1, y3.1.2.1.2.1, y3.1.2.1.2.2.1, ()), ()), y3.2.1, y3.2.2)))))) :
    Both a (tailI a w nums) f := by
  have e1 := tail_step a w nums k v hg h
  have e2 : ∀ g, f g = some (match outc a (k, v, ()) with | none => RS a a g false [63] | some y => RS a y g true (repL y k v)) := fun g => by
    rw [hf, make_spec a g k v hg]
    cases outc a (k, v, ()) <;> rfl
  cases ho : outc a (k, v, ()) with
  | none => rw [ho] at e1; exact ⟨a, false, [63], e1, fun g => by rw [e2, ho], hg, by decide, fun _ => rfl⟩
  | some y =>
    rw [ho] at e1
    have hr := (stepReply_eq y k v (outc_good _ _ _ ho) (step_ask hg ho)).2
    exact ⟨y, true, repL y k v, e1, fun g => by rw [e2, ho], outc_good _ _ _ ho, hr, fun h => by cases h⟩
theorem opnL_small {l : List Slot} (hl : l.length ≤ 10) : Small (opnL l l.length) := by
  refine ⟨by have := opnL_le l l.length; omega, fun x hx => ?_⟩
  obtain ⟨j, hj, _, rfl⟩ := opnL_mem hx
  omega
theorem doors_both (a : Ropeway) (hg : gd a = true) : impl_OpenDoors a = some (Sum.inr (opnL a.2.1 a.2.1.length)) ∧ spec_l25Open a = some (opnL a.2.1 a.2.1.length) := by
  have h := gd_len hg
  have e2 : impl_IsRopeway (a.1, a.2.1, a.2.2.1, a.2.2.2.1, a.2.2.2.2.1, ()) = some (gd a) := isRopeway_eq a h
  have H1 : iter (fun s => spec_l25Open_loop1 a s.1 s.2) ((0 : Int), ([] : List Int)) = some (opnL a.2.1 a.2.1.length) :=
    iter_for a.2.1.length (fun k => ((k : Int), opnL a.2.1 k)) (fun k hk => by
      show spec_l25Open_loop1 a (k : Int) (opnL a.2.1 k) = _
      have hle := opnL_le a.2.1 k
      unfold spec_l25Open_loop1
      rw [cond_dt (by omega), grd_pos (by omega), w64_nat (by omega), opnL_succ]
      show cond (opn a.2.1 k) _ _ = _
      cases opn a.2.1 k
      · rfl
      · rw [cond_true, grd_pos (by simp; omega)]; rfl) (by
      show spec_l25Open_loop1 a (a.2.1.length : Int) (opnL a.2.1 a.2.1.length) = _
      unfold spec_l25Open_loop1
      rw [cond_df (by omega)]) rfl
  have H2 : iter (fun s => impl_OpenDoors_loop1 a s.1 s.2) ((0 : Int), ([] : List Int)) = some (opnL a.2.1 a.2.1.length) :=
    iter_for a.2.1.length (fun k => ((k : Int), opnL a.2.1 k)) (fun k hk => by
      show impl_OpenDoors_loop1 a (k : Int) (opnL a.2.1 k) = _
      have hle := opnL_le a.2.1 k
      unfold impl_OpenDoors_loop1
      rw [cond_dt (by omega), grd_pos (by omega), w64_nat (by omega), opnL_succ]
      show cond (opn a.2.1 k) _ _ = _
      cases opn a.2.1 k
      · rfl
      · rw [cond_true, grd_pos (by simp; omega)]; rfl) (by
      show impl_OpenDoors_loop1 a (a.2.1.length : Int) (opnL a.2.1 a.2.1.length) = _
      unfold impl_OpenDoors_loop1
      rw [cond_df (by omega)]) rfl
  constructor
  · unfold impl_OpenDoors
    rw [e2, hg, Option.bind_some, Bool.not_true, cond_false, H2]; rfl
  · unfold spec_l25Open
    rw [H1]; rfl
theorem people_both (a : Ropeway) (hg : gd a = true) : ∃ z, spec_l25Sum a = some (sm a.2.1, z) ∧ impl_Ropeway_peopleOn a = some (sm a.2.1, z) ∧ Small [a.2.2.1, sm a.2.1, a.2.2.2.1, a.2.2.2.2.1] := by
  obtain ⟨m, l, w, t, d, ⟨⟩⟩ := a
  obtain ⟨_, hl, hw, ht, hd, hk⟩ := gd_out hg
  obtain ⟨y, s1, s2, _⟩ := sum_ok (m, l, w, t, d, ()) (by show l.length ≤ 10; omega) (fun k h => iOk_ppl (hk k h))
  obtain ⟨z, s3⟩ := sum_val (m, l, w, t, d, ()) (by show l.length ≤ 10; omega) (fun k h => iOk_ppl (hk k h))
  have hb := sm_le l (fun k h => iOk_ppl (hk k h)) l.length (by omega)
  rw [List.take_length] at hb
  have e := Option.some.inj (s2.symm.trans s3)
  rw [e] at s1
  refine ⟨z, s1, s3, by show (4 : Nat) ≤ 12; decide, fun x hx => ?_⟩
  simp only [List.mem_cons, List.not_mem_nil, or_false] at hx
  rcases hx with h | h | h | h <;> rw [h] <;> omega
theorem word_both (a : Ropeway) (w : List UInt8) (hg : gd a = true) : Both a (tailI a w []) (fun g => wordL (a, g, ()) w) := by
  by_cases h1 : w = [115, 116, 111, 112]
  · subst h1; exact both_step a _ [] 1 0 hg rfl _ fun g => by show wordL (a, g, ()) _ = _; unfold wordL; rw [cond_dt rfl]
  by_cases h2 : w = [115, 108, 111, 119]
  · subst h2; exact both_step a _ [] 1 1 hg rfl _ fun g => by show wordL (a, g, ()) _ = _; unfold wordL; rw [cond_df h1, cond_dt rfl]
  by_cases h3 : w = [102, 97, 115, 116]
  · subst h3; exact both_step a _ [] 1 2 hg rfl _ fun g => by show wordL (a, g, ()) _ = _; unfold wordL; rw [cond_df h1, cond_df h2, cond_dt rfl]
  by_cases h4 : w = [108, 111, 99, 107]
  · subst h4; exact both_step a _ [] 1 3 hg rfl _ fun g => by show wordL (a, g, ()) _ = _; unfold wordL; rw [cond_df h1, cond_df h2, cond_df h3, cond_dt rfl]
  by_cases h5 : w = [116, 117, 114, 110]
  · subst h5; exact both_step a _ [] 2 0 hg rfl _ fun g => by show wordL (a, g, ()) _ = _; unfold wordL; rw [cond_df h1, cond_df h2, cond_df h3, cond_df h4, cond_dt rfl]
  by_cases h6 : w = [116, 97, 107, 101]
  · subst h6; exact both_step a _ [] 4 0 hg rfl _ fun g => by show wordL (a, g, ()) _ = _; unfold wordL; rw [cond_df h1, cond_df h2, cond_df h3, cond_df h4, cond_df h5, cond_dt rfl]
  have hstep : ∃ s, stepOfL w [] = some (s, false) := by
    unfold stepOfL
    rw [cond_df h1, cond_df h2, cond_df h3, cond_df h4, cond_df h5, cond_df h6]
    have key : ∀ (b : Bool) (x y : Option (RopeStep × Bool)), (∃ s, x = some (s, false)) → (∃ s, y = some (s, false)) → ∃ s, cond b x y = some (s, false) := by
      rintro (_ | _) x y hx hy
      · exact hy
      · exact hx
    refine key _ _ _ ⟨_, rfl⟩ (key _ _ _ ⟨_, rfl⟩ (key _ _ _ ⟨_, rfl⟩ (key _ _ _ ⟨_, rfl⟩ ⟨_, rfl⟩)))
  obtain ⟨s, hs⟩ := hstep
  have ask0 : askL a w [] = cond (decide (w = [112, 101, 111, 112, 108, 101])) ((impl_Ropeway_peopleOn (a.1, a.2.1, a.2.2.1, a.2.2.2.1, a.2.2.2.2.1, ())).bind fun y8 => ((impl_listText [a.2.2.1, y8.1, a.2.2.2.1, a.2.2.2.2.1]).bind fun y9 => (some (y9, true)))) (cond (decide (w = [100, 111, 111, 114, 115])) ((impl_OpenDoors (a.1, a.2.1, a.2.2.1, a.2.2.2.1, a.2.2.2.2.1, ())).bind (Sum.elim (fun _ => ((impl_listText []).bind fun y12 => (some (y12, false)))) (fun y13 => ((impl_listText y13).bind fun y14 => (some (y14, true)))))) (cond (decide (w = [99, 108, 101, 97, 114])) ((impl_IsCleared (a.1, a.2.1, a.2.2.1, a.2.2.2.1, a.2.2.2.2.1, ())).bind fun y15 => (cond y15.1 ((some ((ByteArray.mk #[121, 101, 115]), true))) ((some ((ByteArray.mk #[110, 111]), true))))) ((some ((ByteArray.mk #[]), false))))) := rfl
  obtain ⟨z, p1, p2, psm⟩ := people_both a hg
  have p1 : spec_l25Sum (a.1, a.2.1, a.2.2.1, a.2.2.2.1, a.2.2.2.2.1, ()) = _ := p1
  have p2 : impl_Ropeway_peopleOn (a.1, a.2.1, a.2.2.1, a.2.2.2.1, a.2.2.2.2.1, ()) = _ := p2
  by_cases h7 : w = [112, 101, 111, 112, 108, 101]
  · refine ⟨a, false, numsL [a.2.2.1, sm a.2.1, a.2.2.2.1, a.2.2.2.2.1], tail_ask a w [] s _ hs ⟨true, _, ?_, .inl ⟨rfl, rfl⟩⟩, fun g => ?_, hg, numsL_small _ psm, fun _ => rfl⟩
    · rw [ask0, cond_dt h7, p2, Option.bind_some]
      dsimp only
      rw [listText_eq _ psm]; rfl
    · show wordL (a, g, ()) _ = _
      unfold wordL
      rw [cond_df h1, cond_df h2, cond_df h3, cond_df h4, cond_df h5, cond_df h6, cond_dt h7]
      dsimp only
      rw [p1, Option.bind_some]
      dsimp only
      rw [l28List_eq _ psm]; rfl
  by_cases h8 : w = [100, 111, 111, 114, 115]
  · obtain ⟨d1, d2⟩ := doors_both a hg
    have d1 : impl_OpenDoors (a.1, a.2.1, a.2.2.1, a.2.2.2.1, a.2.2.2.2.1, ()) = _ := d1
    have d2 : spec_l25Open (a.1, a.2.1, a.2.2.1, a.2.2.2.1, a.2.2.2.2.1, ()) = _ := d2
    have hsm : Small (opnL a.2.1 a.2.1.length) := by
      obtain ⟨m, l, w', t, d, ⟨⟩⟩ := a
      obtain ⟨_, hl, _⟩ := gd_out hg
      exact opnL_small (l := l) (by omega)
    refine ⟨a, false, numsL (opnL a.2.1 a.2.1.length), tail_ask a w [] s _ hs ⟨true, _, ?_, .inl ⟨rfl, rfl⟩⟩, fun g => ?_, hg, numsL_small _ hsm, fun _ => rfl⟩
    · rw [ask0, cond_df h7, cond_dt h8, d1, Option.bind_some, Sum.elim_inr, listText_eq _ hsm]; rfl
    · show wordL (a, g, ()) _ = _
      unfold wordL
      rw [cond_df h1, cond_df h2, cond_df h3, cond_df h4, cond_df h5, cond_df h6, cond_df h7, cond_dt h8]
      dsimp only
      rw [d2, Option.bind_some, l28List_eq _ hsm]; rfl
  by_cases h9 : w = [99, 108, 101, 97, 114]
  · have e1 : spec_l25Good (a.1, a.2.1, a.2.2.1, a.2.2.2.1, a.2.2.2.2.1, ()) = some (gd a) := goodS_eq a (gd_len hg)
    have e2 : impl_IsRopeway (a.1, a.2.1, a.2.2.1, a.2.2.2.1, a.2.2.2.2.1, ()) = some (gd a) := isRopeway_eq a (gd_len hg)
    have c1 : impl_IsCleared (a.1, a.2.1, a.2.2.1, a.2.2.2.1, a.2.2.2.2.1, ()) = some (decide (sm a.2.1 = 0) && decide (a.2.2.2.1 = 0), true) := by
      unfold impl_IsCleared
      rw [e2, hg, Option.bind_some, Bool.not_true, cond_false, p2, Option.bind_some]
      dsimp only
      by_cases hz : sm a.2.1 = 0
      · rw [cond_dt hz, decide_eq_true hz, Bool.true_and]
      · rw [cond_df hz, decide_eq_false hz, Bool.false_and]
    have c2 : spec_IsCleared (a.1, a.2.1, a.2.2.1, a.2.2.2.1, a.2.2.2.2.1, ()) = some (decide (sm a.2.1 = 0) && decide (a.2.2.2.1 = 0), true) := by
      unfold spec_IsCleared
      rw [e1, hg, Option.bind_some, Bool.not_true, cond_false, p1, Option.bind_some]
      dsimp only
      by_cases hz : a.2.2.2.1 = 0
      · rw [cond_dt hz, decide_eq_true hz, Bool.and_true]
      · rw [cond_df hz, decide_eq_false hz, Bool.and_false]
    generalize (decide (sm a.2.1 = 0) && decide (a.2.2.2.1 = 0)) = c at c1 c2
    refine ⟨a, false, if c = true then [121, 101, 115] else [110, 111], tail_ask a w [] s _ hs ⟨true, _, ?_, .inl ⟨rfl, rfl⟩⟩, fun g => ?_, hg, by cases c <;> decide, fun _ => rfl⟩
    · rw [ask0, cond_df h7, cond_df h8, cond_dt h9, c1, Option.bind_some]
      cases c <;> rfl
    · show wordL (a, g, ()) _ = _
      unfold wordL
      rw [cond_df h1, cond_df h2, cond_df h3, cond_df h4, cond_df h5, cond_df h6, cond_df h7, cond_df h8, cond_dt h9]
      dsimp only
      rw [c2, Option.bind_some]
      cases c <;> rfl
  · refine ⟨a, false, [63], tail_ask a w [] s _ hs ⟨false, ByteArray.mk #[], ?_, .inr ⟨rfl, rfl⟩⟩, fun g => ?_, hg, by decide, fun _ => rfl⟩
    · rw [ask0, cond_df h7, cond_df h8, cond_df h9]
    · show wordL (a, g, ()) _ = _
      unfold wordL
      rw [cond_df h1, cond_df h2, cond_df h3, cond_df h4, cond_df h5, cond_df h6, cond_df h7, cond_df h8, cond_df h9]
      rfl
theorem trn_small (L k : Nat) (up : Bool) (h : 0 < L ∧ L ≤ 10) : 0 ≤ trn L k up ∧ trn L k up ≤ 10 := by
  unfold trn
  split
  · have := Nat.mod_lt (L / 2 + L - k) h.1
    omega
  · have := Nat.mod_lt (L - k) h.1
    omega
theorem one_both (a : Ropeway) (w : List UInt8) (n : Int) (hg : gd a = true) : Both a (tailI a w [n]) (fun g => oneL (a, g, ()) w n) := by
  by_cases h1 : w = [104, 97, 110, 103]
  · subst h1; exact both_step a _ [n] 3 n hg rfl _ fun g => by show oneL (a, g, ()) _ n = _; unfold oneL; rw [cond_dt rfl]
  by_cases h2 : w = [100, 111, 111, 114]
  · subst h2; exact both_step a _ [n] 7 n hg rfl _ fun g => by show oneL (a, g, ()) _ n = _; unfold oneL; rw [cond_df h1, cond_dt rfl]
  by_cases h3 : w = [98, 111, 97, 114, 100]
  · subst h3; exact both_step a _ [n] 5 n hg rfl _ fun g => by show oneL (a, g, ()) _ n = _; unfold oneL; rw [cond_df h1, cond_df h2, cond_dt rfl]
  by_cases h4 : w = [108, 101, 97, 118, 101]
  · subst h4; exact both_step a _ [n] 6 n hg rfl _ fun g => by show oneL (a, g, ()) _ n = _; unfold oneL; rw [cond_df h1, cond_df h2, cond_df h3, cond_dt rfl]
  have hstep : ∃ s, stepOfL w [n] = some (s, false) := by
    unfold stepOfL
    rw [cond_df h1, cond_df h2, cond_df h3, cond_df h4]
    have key : ∀ (b : Bool) (x y : Option (RopeStep × Bool)), (∃ s, x = some (s, false)) → (∃ s, y = some (s, false)) → ∃ s, cond b x y = some (s, false) := by
      rintro (_ | _) x y hx hy
      · exact hy
      · exact hx
    exact key _ _ _ ⟨_, rfl⟩ (key _ _ _ ⟨_, rfl⟩ (key _ _ _ ⟨_, rfl⟩ (key _ _ _ ⟨_, rfl⟩ (key _ _ _ ⟨_, rfl⟩ (key _ _ _ ⟨_, rfl⟩ ⟨_, rfl⟩)))))
  obtain ⟨s, hs⟩ := hstep
  have hlen : 0 < a.2.1.length ∧ a.2.1.length ≤ 10 := by
    obtain ⟨m, l, w', t, d, ⟨⟩⟩ := a
    obtain ⟨_, hl, _⟩ := gd_out hg
    show 0 < l.length ∧ l.length ≤ 10
    omega
  have cab1 : ∃ z b, spec_CabinAt (a.1, a.2.1, a.2.2.1, a.2.2.2.1, a.2.2.2.2.1, ()) n = some (z, b) ∧ impl_CabinAt (a.1, a.2.1, a.2.2.1, a.2.2.2.1, a.2.2.2.2.1, ()) n = some (z, b) ∧ 0 ≤ z ∧ z ≤ 10 := by
    rcases at_ok a n (gd_len hg) with ⟨e1, e2, _⟩ | ⟨k, e1, e2, _, hk, _⟩
    · exact ⟨_, _, e1, e2, by omega, by omega⟩
    · exact ⟨_, _, e1, e2, by omega, by omega⟩
  have trn1 : ∀ up, ∃ z b, spec_TurnsTo (a.1, a.2.1, a.2.2.1, a.2.2.2.1, a.2.2.2.2.1, ()) n up = some (z, b) ∧ impl_TurnsTo (a.1, a.2.1, a.2.2.1, a.2.2.2.1, a.2.2.2.2.1, ()) n up = some (z, b) ∧ 0 ≤ z ∧ z ≤ 10 := fun up => by
    rcases turns_ok a n up (gd_len hg) with ⟨_, _, e1, e2⟩ | ⟨k, _, _, _, _, _, e1, e2, _⟩
    · exact ⟨_, _, e1, e2, by omega, by omega⟩
    · have := trn_small a.2.1.length k up hlen
      exact ⟨_, _, e1, e2, this.1, this.2⟩
  have ask1 : askL a w [n] = cond (decide (w = [99, 97, 98, 105, 110])) ((impl_CabinAt (a.1, a.2.1, a.2.2.1, a.2.2.2.1, a.2.2.2.2.1, ()) n).bind fun y1 => ((strconv_Itoa y1.1).bind fun y2 => (some (y2, y1.2)))) (cond (decide (w = [117, 112])) ((impl_TurnsTo (a.1, a.2.1, a.2.2.1, a.2.2.2.1, a.2.2.2.2.1, ()) n true).bind fun y3 => ((strconv_Itoa y3.1).bind fun y4 => (some (y4, y3.2)))) (cond (decide (w = [100, 111, 119, 110])) ((impl_TurnsTo (a.1, a.2.1, a.2.2.1, a.2.2.2.1, a.2.2.2.2.1, ()) n false).bind fun y5 => ((strconv_Itoa y5.1).bind fun y6 => (some (y6, y5.2)))) ((strconv_Itoa (0 : Int)).bind fun y7 => (some (y7, false))))) := rfl
  have fin : ∀ (z : Int) (b : Bool) (f : Log → Option ((Console × ByteArray × (List Slot)) ⊕ (Console × ByteArray × (List Slot)))), 0 ≤ z → z ≤ 10 → askL a w [n] = ((strconv_Itoa z).bind fun y2 => (some (y2, b))) →
      (∀ g, f g = cond (!b) (some (RS a a g false [63])) ((spec_l1Num z).bind fun y => some (.inl ((a, g, ()), y, a.2.1)))) → Both a (tailI a w [n]) f := fun z b f h0 h10 ha hf => by
    have hi := itoa_small z (by omega)
    rw [itoa_int z (by omega), Option.bind_some] at ha
    refine ⟨a, false, if b = true then Lib.itoa z else [63], tail_ask a w [n] s _ hs ⟨b, _, ha, ?_⟩, fun g => ?_, hg, ?_, fun _ => rfl⟩
    · cases b
      · exact .inr ⟨rfl, rfl⟩
      · exact .inl ⟨rfl, rfl⟩
    · rw [hf, l1Num_int z (by omega)]
      cases b <;> rfl
    · cases b
      · show Fine [63]; exact ⟨by decide, by decide⟩
      · show Fine (Lib.itoa z); exact ⟨by omega, itoa_plain z⟩
  by_cases h5 : w = [99, 97, 98, 105, 110]
  · obtain ⟨z, b, e1, e2, h0, h10⟩ := cab1
    refine fin z b _ h0 h10 ?_ fun g => ?_
    · rw [ask1, cond_dt h5, e2]; rfl
    · show oneL (a, g, ()) _ n = _
      unfold oneL
      rw [cond_df h1, cond_df h2, cond_df h3, cond_df h4, cond_dt h5]
      dsimp only
      rw [e1]; rfl
  by_cases h6 : w = [117, 112]
  · obtain ⟨z, b, e1, e2, h0, h10⟩ := trn1 true
    refine fin z b _ h0 h10 ?_ fun g => ?_
    · rw [ask1, cond_df h5, cond_dt h6, e2]; rfl
    · show oneL (a, g, ()) _ n = _
      unfold oneL
      rw [cond_df h1, cond_df h2, cond_df h3, cond_df h4, cond_df h5, cond_dt h6]
      dsimp only
      rw [e1]; rfl
  by_cases h7 : w = [100, 111, 119, 110]
  · obtain ⟨z, b, e1, e2, h0, h10⟩ := trn1 false
    refine fin z b _ h0 h10 ?_ fun g => ?_
    · rw [ask1, cond_df h5, cond_df h6, cond_dt h7, e2]; rfl
    · show oneL (a, g, ()) _ n = _
      unfold oneL
      rw [cond_df h1, cond_df h2, cond_df h3, cond_df h4, cond_df h5, cond_df h6, cond_dt h7]
      dsimp only
      rw [e1]; rfl
  · refine fin 0 false _ (by omega) (by omega) ?_ fun g => ?_
    · rw [ask1, cond_df h5, cond_df h6, cond_df h7]
    · show oneL (a, g, ()) _ n = _
      unfold oneL
      rw [cond_df h1, cond_df h2, cond_df h3, cond_df h4, cond_df h5, cond_df h6, cond_df h7]
      rfl
theorem many_tail (a : Ropeway) (w : List UInt8) (ns : List Int) (h : 2 ≤ ns.length) : tailI a w ns = some (RI a a false [63]) := by
  have hstep : ∃ s, stepOfL w ns = some (s, false) := by
    have h0 : ¬ ((ns.length : Int) = 0) := by omega
    have h1 : ¬ ((ns.length : Int) = 1) := by omega
    unfold stepOfL
    simp only [cond_ndf h0, cond_ndf h1]
    have key : ∀ (b : Bool) (x y : Option (RopeStep × Bool)), (∃ s, x = some (s, false)) → (∃ s, y = some (s, false)) → ∃ s, cond b x y = some (s, false) := by
      rintro (_ | _) x y hx hy
      · exact hy
      · exact hx
    repeat (first | exact ⟨_, rfl⟩ | refine key _ _ _ ⟨_, rfl⟩ ?_)
  obtain ⟨s, hs⟩ := hstep
  refine tail_ask a w ns s _ hs ⟨false, ByteArray.mk #[], ?_, .inr ⟨rfl, rfl⟩⟩
  unfold askL
  rw [cond_df (by omega), cond_dt (by omega)]
end Go.Proofs.YtaobinhdnklojaaGreatDoor
namespace Go.Proofs.YtaobinhdnklojaaGreatDoor
open Go.RowKit

def numsOf : List (List UInt8) → Option (List Int)
  | [] => some []
  | w :: ws => if (parseI (bs w)).2 = true then (numsOf ws).map fun l => (parseI (bs w)).1 :: l else none
theorem numsOf_length : ∀ (ws : List (List UInt8)) (ns : List Int), numsOf ws = some ns → ns.length = ws.length
  | [], ns, h => by cases h; rfl
  | w :: ws, ns, h => by
    unfold numsOf at h
    split at h
    · obtain ⟨l, e, rfl⟩ := Option.map_eq_some_iff.1 h
      simp [numsOf_length ws l e]
    · cases h
theorem run_loop (w0 : List UInt8) (rest : List (List UInt8)) (hr : rest.length ≤ 2000) : ∀ (r p : List (List UInt8)) (acc : List Int), rest = p ++ r → acc.length = p.length →
    iter (fun s => impl_run_loop1 s.1 s.2.1 s.2.2.1 s.2.2.2.1 s.2.2.2.2) (rest.length, (rest.length : Int), (p.length : Int), (w0 :: rest).map bs, acc) = some (match numsOf r with | none => Sum.inl () | some ns => Sum.inr ((w0 :: rest).map bs, acc ++ ns))
  | [], p, acc, e, ha => by
    have hl : rest.length = p.length := by rw [e]; simp
    refine iter_out ?_
    show impl_run_loop1 rest.length (rest.length : Int) (p.length : Int) ((w0 :: rest).map bs) acc = _
    unfold impl_run_loop1
    rw [cond_df (by omega)]
    show some (Lp.out (Sum.inr ((w0 :: rest).map bs, acc))) = some (Lp.out (Sum.inr ((w0 :: rest).map bs, acc ++ [])))
    rw [List.append_nil]
  | w :: r, p, acc, e, ha => by
    have hl : rest.length = p.length + (r.length + 1) := by rw [e]; simp
    have hg : ((w0 :: rest).map bs).getD ((1 : Int).toNat + (p.length : Int).toNat) (ByteArray.mk #[]) = bs w := by
      rw [Int.toNat_natCast, show (1 : Int).toNat = 1 from rfl, e]
      simp [List.getD_eq_getElem?_getD, Nat.add_comm 1]
    have hp : impl_ParseInt (bs w) = some ((parseI (bs w)).1, (parseI (bs w)).2) := rfl
    by_cases hv : (parseI (bs w)).2 = true
    · have e2 : numsOf (w :: r) = (numsOf r).map fun l => (parseI (bs w)).1 :: l := by
        conv => lhs; unfold numsOf
        rw [if_pos hv]
      have step : impl_run_loop1 rest.length (rest.length : Int) (p.length : Int) ((w0 :: rest).map bs) acc = some (.go (rest.length, (rest.length : Int), ((p ++ [w]).length : Int), (w0 :: rest).map bs, acc ++ [(parseI (bs w)).1])) := by
        unfold impl_run_loop1
        rw [cond_dt (by omega), grd_pos (by omega), hg, hp, Option.bind_some]
        dsimp only
        rw [hv, Bool.not_true, cond_false, grd_pos (by simp; omega), w64_nat (by omega)]
        simp
      have ih := run_loop w0 rest hr r (p ++ [w]) (acc ++ [(parseI (bs w)).1]) (by rw [e]; simp) (by simp [ha])
      refine ((iter_go step).trans ih).trans ?_
      rw [e2]
      cases numsOf r with
      | none => rfl
      | some ns =>
        show some (Sum.inr ((w0 :: rest).map bs, acc ++ [(parseI (bs w)).1] ++ ns)) = some (Sum.inr ((w0 :: rest).map bs, acc ++ ((parseI (bs w)).1 :: ns)))
        rw [List.append_assoc]; rfl
    · have hv' : (parseI (bs w)).2 = false := by simpa using hv
      have e2 : numsOf (w :: r) = none := by
        conv => lhs; unfold numsOf
        rw [if_neg hv]
      rw [e2]
      refine iter_out ?_
      show impl_run_loop1 rest.length (rest.length : Int) (p.length : Int) ((w0 :: rest).map bs) acc = _
      unfold impl_run_loop1
      rw [cond_dt (by omega), grd_pos (by omega), hg, hp, Option.bind_some]
      dsimp only
      rw [hv', Bool.not_false, cond_true]
theorem impl_run_eq (a : Ropeway) (l w0 : List UInt8) (rest : List (List UInt8)) (hl : l.length ≤ 1000) (h : spl 32 l = w0 :: rest) :
    impl_run a (bs l) = match numsOf rest with | none => some (RI a a false [63]) | some ns => tailI a w0 ns := by
  have hlen := spl_length 32 l
  rw [h] at hlen
  have hlen : rest.length + 1 ≤ l.length + 1 := hlen
  have es : strings_Split (bs l) (ByteArray.mk #[32]) = some ((w0 :: rest).map bs) := by
    unfold strings_Split
    rw [grd_pos ⟨by rw [bs_size]; omega, by decide⟩]
    have := splitB_eq 32 l
    rw [h] at this
    exact congrArg some this
  have hm : (((w0 :: rest).map bs).length : Int) = (rest.length : Int) + 1 := by simp
  have hn : (((w0 :: rest).map bs).length : Int) - 1 = (rest.length : Int) := by omega
  have lp := run_loop w0 rest (by omega) rest [] [] rfl rfl
  unfold impl_run
  rw [es, Option.bind_some, grd_pos (by omega), hn, Int.toNat_natCast]
  rw [show (([] : List (List UInt8)).length : Int) = (0 : Int) from rfl] at lp
  rw [lp, Option.bind_some]
  cases numsOf rest with
  | none => rfl
  | some ns =>
    have g1 : 0 ≤ (0 : Int) ∧ (0 : Int) < (((w0 :: rest).map bs).length : Int) := by omega
    have g2 : ((w0 :: rest).map bs).getD (0 : Int).toNat (ByteArray.mk #[]) = bs w0 := rfl
    dsimp only
    rw [Sum.elim_inr]
    dsimp only
    simp only [grd_pos g1, g2, stepOfL_eq, askL_eq, List.nil_append]
    rfl
theorem run_both (a : Ropeway) (l : List UInt8) (hg : gd a = true) (hl : l.length ≤ 1000) : Both a (impl_run a (bs l)) (fun g => spec_l28Run (a, g, ()) (bs l)) := by
  cases hs : spl 32 l with
  | nil => exact absurd hs (spl_ne 32 l)
  | cons w0 rest =>
    have ei := impl_run_eq a l w0 rest hl hs
    have hlen := spl_length 32 l
    have hsplit : spec_l1Split (bs l) (32 : Int) = some ((w0 :: rest).map bs) := by
      have := split_eq l 32 (by omega)
      rw [hs] at this
      exact this
    cases rest with
    | nil =>
      have hw : w0 = l := by
        by_cases hm : (32 : UInt8) ∈ l
        · have := (spl_two 32 l).2 hm
          rw [hs] at this; simp at this
        · rw [spl_not 32 l hm] at hs
          cases hs; rfl
      obtain ⟨y, b, R, e1, e2, h3, h4, h5⟩ := word_both a w0 hg
      refine ⟨y, b, R, ei.trans e1, fun g => ?_, h3, h4, h5⟩
      have e2 : wordL (a, g, ()) w0 = _ := e2 g
      show spec_l28Run (a, g, ()) (bs l) = _
      unfold spec_l28Run
      rw [hsplit, Option.bind_some, cond_dt (by simp)]
      have e3 : spec_l28Word ((a.1, a.2.1, a.2.2.1, a.2.2.2.1, a.2.2.2.2.1, ()), (g.1, g.2.1, g.2.2.1, ()), ()) (bs l) = some (RS a y g b R) := by
        rw [← hw]
        exact (wordL_eq (a, g, ()) w0).trans e2
      dsimp only
      rw [e3]
      cases b
      · rw [h5 rfl]; rfl
      · rfl
    | cons x rest =>
      have hx : x.length ≤ 1000000 := by
        have hx2 : x ∈ spl 32 l := by rw [hs]; simp
        have : ∀ (l : List UInt8) (z : List UInt8), z ∈ spl 32 l → z.length ≤ l.length := by
          intro l
          induction l with
          | nil => intro z hz; simp [spl] at hz; simp [hz]
          | cons c l ih =>
            intro z hz
            unfold spl at hz
            split at hz
            · rcases List.mem_cons.1 hz with hz | hz
              · simp [hz]
              · have := ih z hz; simp; omega
            · cases hq : spl 32 l with
              | nil => exact absurd hq (spl_ne 32 l)
              | cons q qs =>
                rw [hq] at hz
                rcases List.mem_cons.1 hz with hz | hz
                · have := ih q (by rw [hq]; simp)
                  rw [hz]; simp; omega
                · have := ih z (by rw [hq]; simp [hz])
                  simp; omega
        have := this l x hx2
        omega
      have hp : spec_ParseInt (bs x) = some (parseI (bs x)) := by
        unfold spec_ParseInt
        rw [l1Read_eq x hx]; rfl
      have g1 : 0 ≤ (1 : Int) ∧ (1 : Int) < (((w0 :: x :: rest).map bs).length : Int) := by simp; omega
      have g0 : 0 ≤ (0 : Int) ∧ (0 : Int) < (((w0 :: x :: rest).map bs).length : Int) := by simp; omega
      have spec0 : ∀ g, spec_l28Run (a, g, ()) (bs l) = cond (!(parseI (bs x)).2) (some (RS a a g false [63])) (cond (!decide ((((w0 :: x :: rest).map bs).length : Int) = (2 : Int))) (some (RS a a g false [63])) ((oneL (a, g, ()) w0 (parseI (bs x)).1).bind (Sum.elim (fun y2 => (some (Sum.inl (((y2.1.1.1, y2.2.2, y2.1.1.2.2.1, y2.1.1.2.2.2.1, y2.1.1.2.2.2.2.1, ()), (y2.1.2.1.1, y2.1.2.1.2.1, y2.1.2.1.2.2.1, ()), ()), y2.2.1, y2.2.2)))) (fun y3 => (some (Sum.inr (((y3.1.1.1, y3.1.1.2.1, y3.1.1.2.2.1, y3.1.1.2.2.2.1, y3.1.1.2.2.2.2.1, ()), (y3.1.2.1.1, y3.1.2.1.2.1, y3.1.2.1.2.2.1, ()), ()), y3.2.1, y3.2.2))))))) := fun g => by
        unfold spec_l28Run
        rw [hsplit, Option.bind_some, cond_df (by simp; omega), grd_pos g1]
        have hgx : ((w0 :: x :: rest).map bs).getD (1 : Int).toNat (ByteArray.mk #[]) = bs x := rfl
        rw [hgx, hp, Option.bind_some, grd_pos g0]
        have hg0 : ((w0 :: x :: rest).map bs).getD (0 : Int).toNat (ByteArray.mk #[]) = bs w0 := rfl
        rw [hg0]
        dsimp only
        rw [oneL_eq]
        rfl
      by_cases hv : (parseI (bs x)).2 = true
      · cases rest with
        | nil =>
          have en : numsOf [x] = some [(parseI (bs x)).1] := by
            unfold numsOf
            rw [if_pos hv]; rfl
          rw [en] at ei
          obtain ⟨y, b, R, e1, e2, h3, h4, h5⟩ := one_both a w0 (parseI (bs x)).1 hg
          refine ⟨y, b, R, ei.trans e1, fun g => ?_, h3, h4, h5⟩
          have e2 : oneL (a, g, ()) w0 (parseI (bs x)).1 = _ := e2 g
          show spec_l28Run (a, g, ()) (bs l) = _
          rw [spec0, hv, Bool.not_true, cond_false, cond_ndt (by simp), e2]
          cases b
          · rw [h5 rfl]; rfl
          · rfl
        | cons z rest =>
          refine ⟨a, false, [63], ?_, fun g => ?_, hg, by decide, fun _ => rfl⟩
          · rw [ei]
            cases hn : numsOf (x :: z :: rest) with
            | none => rfl
            | some ns =>
              have := numsOf_length _ _ hn
              exact many_tail a w0 ns (by rw [this]; simp)
          · show spec_l28Run (a, g, ()) (bs l) = _
            rw [spec0, hv, Bool.not_true, cond_false, cond_ndf (by simp; omega)]
      · have hv' : (parseI (bs x)).2 = false := by simpa using hv
        have en : numsOf (x :: rest) = none := by
          conv => lhs; unfold numsOf
          rw [if_neg hv]
        rw [en] at ei
        exact ⟨a, false, [63], ei, fun g => by show spec_l28Run (a, g, ()) (bs l) = _; rw [spec0, hv', Bool.not_false, cond_true], hg, by decide, fun _ => rfl⟩
end Go.Proofs.YtaobinhdnklojaaGreatDoor
namespace Go.Proofs.YtaobinhdnklojaaGreatDoor
open Go.RowKit

theorem validI (a : Ropeway) (D P : List UInt8) (n : Int) (ha : a.2.1.length ≤ 1048576) (hD : D.length ≤ 1048576) (hP : P.length ≤ 1048576) : impl_IsValidConsole (a, (bs D, bs P, n, ()), ()) = some (gd a && okLog D P n) := by
  have e2 : impl_IsRopeway (a.1, a.2.1, a.2.2.1, a.2.2.2.1, a.2.2.2.2.1, ()) = some (gd a) := isRopeway_eq a ha
  unfold impl_IsValidConsole
  dsimp only
  rw [e2, Option.bind_some, valid_eq D P n (by omega) (by omega)]
  cases gd a <;> rfl
theorem validS (a : Ropeway) (D P : List UInt8) (n : Int) (ha : a.2.1.length ≤ 1048576) (hD : D.length ≤ 1048576) (hP : P.length ≤ 1048576) : spec_l28Good (a, (bs D, bs P, n, ()), ()) = some (gd a && okLog D P n) := by
  have e2 : spec_l25Good (a.1, a.2.1, a.2.2.1, a.2.2.2.1, a.2.2.2.2.1, ()) = some (gd a) := goodS_eq a ha
  unfold spec_l28Good
  dsimp only
  rw [e2, Option.bind_some, log_eq D P n (by omega) (by omega)]
  cases gd a <;> rfl
theorem copyOwn_eq (a : Ropeway) (ha : a.2.1.length ≤ 1048576) : impl_copyRopeway (a.1, a.2.1, a.2.2.1, a.2.2.2.1, a.2.2.2.2.1, ()) = some (a, a.2.1) := by
  unfold impl_copyRopeway slices_Clone___impl_Slot_impl_Slot_
  dsimp only
  rw [grd_pos (by simp; omega)]; rfl
theorem copyTree_eq (a : Ropeway) (h0 : 0 < a.2.1.length) (ha : a.2.1.length ≤ 1048576) : impl_copyRopeway_i1 a.1 a.2.1 a.2.2.1 a.2.2.2.1 a.2.2.2.2.1 = some a := by
  unfold impl_copyRopeway_i1
  rw [clone_eq a.2.1 ⟨h0, ha⟩]; rfl
theorem ownC_eq (a : Ropeway) (g : Log) (ha : a.2.1.length ≤ 1048576) : spec_l28Own (a, g, ()) = some (a, g, ()) := by
  unfold spec_l28Own spec_l25Own
  dsimp only
  rw [grd_pos (by simp; omega)]; rfl
inductive Exec (a : Ropeway) (D P : List UInt8) (n : Int) (l : List UInt8) : Ropeway → List UInt8 → Int → List UInt8 → Prop where
  | no (h : (gd a && okLog D P n) = false) : Exec a D P n l a P n [110, 111]
  | bad (h : (gd a && okLog D P n) = true) (hb : goodB l [] = false) : Exec a D P n l a P n [98, 97, 100]
  | full (h : (gd a && okLog D P n) = true) (hb : goodB l [] = true) (h60 : n = 60) : Exec a D P n l a P n [102, 117, 108, 108]
  | run (h : (gd a && okLog D P n) = true) (hb : goodB l [] = true) (h60 : n ≠ 60) (y : Ropeway) (b : Bool) (R P' : List UInt8) (m : Int) (hr : impl_run a (bs l) = some (RI a y b R)) (hg : gd y = true) (hR : Fine R) (hy : b = false → y = a)
      (k : Int) (ha : impl_AppendRecord (bs D, bs P, n, ()) (bs l, bs R, ()) = some ((bs D, bs P', m, ()), k)) (h0 : k ≠ 0 → P' = P ∧ m = n)
      (h1 : k = 0 → ∃ q : Nat, n = (q : Int) ∧ okLog D P n = true ∧ q ≠ 60 ∧ goodB l R = true ∧ P' = P ++ lineL q l R ∧ m = ((q + 1 : Nat) : Int)) : Exec a D P n l y P' m R
theorem Exec.len {a : Ropeway} {D P l : List UInt8} {n : Int} {y : Ropeway} {P' R : List UInt8} {m : Int} (h : Exec a D P n l y P' m R) (ha : a.2.1.length ≤ 1048576) : y.2.1.length ≤ 1048576 ∧ R.length ≤ 100 := by
  cases h with
  | no h => exact ⟨ha, by decide⟩
  | bad h hb => exact ⟨ha, by decide⟩
  | full h hb h60 => exact ⟨ha, by decide⟩
  | run h hb h60 y b R P' m hr hg hR hy k ha' h0 h1 => exact ⟨gd_len hg, hR.1⟩
theorem okLog_len {D P : List UInt8} {n : Int} (h : okLog D P n = true) : D.length + P.length ≤ 24000 := by
  obtain ⟨h1, _, _⟩ := okLog_out h
  have := tot_small 60 0 (D ++ P) (by omega)
  have e : tot (rsOf (D ++ P)) ≤ 60 * 400 := this
  rw [h1, List.length_append] at e
  omega
theorem Exec.valid {a : Ropeway} {D P l : List UInt8} {n : Int} {y : Ropeway} {P' R : List UInt8} {m : Int} (h : Exec a D P n l y P' m R) (hv : (gd a && okLog D P n) = true) : (gd y && okLog D P' m) = true := by
  cases h with
  | no h => rw [hv] at h; cases h
  | bad h hb => exact hv
  | full h hb h60 => exact hv
  | run h hb h60 y b R P' m hr hg hR hy k ha' h0 h1 =>
    rw [Bool.and_eq_true] at hv ⊢
    refine ⟨hg, ?_⟩
    by_cases hk : k = 0
    · obtain ⟨q, rfl, hv2, hq, hgb, rfl, rfl⟩ := h1 hk
      exact (more_ok hv2 hq hgb).2
    · obtain ⟨rfl, rfl⟩ := h0 hk
      exact hv.2
theorem exec_both (a : Ropeway) (D P l : List UInt8) (n : Int) (ha : a.2.1.length ≤ 1048576) (hD : D.length ≤ 1048576) (hP : P.length ≤ 1048576) (hl : l.length ≤ 1048576) :
    ∃ y P' m R, Exec a D P n l y P' m R ∧ spec_ExecuteCommand (a, (bs D, bs P, n, ()), ()) (bs l) = some ((y, (bs D, bs P', m, ()), ()), bs R) ∧
      impl_ExecuteCommand (a, (bs D, bs P, n, ()), ()) (bs l) = some ((y, (bs D, bs P', m, ()), ()), bs R, a.2.1) ∧
      (0 < a.2.1.length → impl_ExecuteCommand_i1 a.1 a.2.1 a.2.2.1 a.2.2.2.1 a.2.2.2.2.1 (bs D) (bs P) n (bs l) = some ((y, (bs D, bs P', m, ()), ()), bs R)) := by
  have v1 := validI a D P n ha hD hP
  have v2 := validS a D P n ha hD hP
  have c1 := copyOwn_eq a ha
  have c3 := ownC_eq a (bs D, bs P, n, ()) ha
  have v1 : impl_IsValidConsole ((a.1, a.2.1, a.2.2.1, a.2.2.2.1, a.2.2.2.2.1, ()), (bs D, bs P, n, ()), ()) = _ := v1
  have v2 : spec_l28Good ((a.1, a.2.1, a.2.2.1, a.2.2.2.1, a.2.2.2.2.1, ()), (bs D, bs P, n, ()), ()) = _ := v2
  have c3 : spec_l28Own ((a.1, a.2.1, a.2.2.1, a.2.2.2.1, a.2.2.2.2.1, ()), (bs D, bs P, n, ()), ()) = _ := c3
  have r1 : impl_IsValidRecord (bs l, ByteArray.mk #[], ()) = some (goodB l []) := isValid_eq l [] (by omega) (by simp)
  have r2 : spec_l27Good (bs l, ByteArray.mk #[], ()) = some (goodB l []) := good_eq l [] (by omega) (by simp)
  unfold spec_ExecuteCommand impl_ExecuteCommand impl_ExecuteCommand_i1
  dsimp only
  rw [c1, c3]
  simp only [Option.bind_some]
  rw [v1, v2]
  simp only [Option.bind_some]
  cases hv : (gd a && okLog D P n) with
  | false =>
    refine ⟨a, P, n, _, .no hv, rfl, rfl, fun h0 => ?_⟩
    rw [copyTree_eq a h0 ha]
    rfl
  | true =>
    simp only [Bool.not_true, cond_false, r1, r2, Option.bind_some]
    cases hb : goodB l [] with
    | false =>
      refine ⟨a, P, n, _, .bad hv hb, rfl, rfl, fun h0 => ?_⟩
      rw [copyTree_eq a h0 ha]
      rfl
    | true =>
      simp only [Bool.not_true, cond_false]
      by_cases h60 : n = 60
      · simp only [cond_dt h60]
        refine ⟨a, P, n, _, .full hv hb h60, rfl, rfl, fun h0 => ?_⟩
        rw [copyTree_eq a h0 ha]
        rfl
      · simp only [cond_df h60]
        have hga : gd a = true := by rw [Bool.and_eq_true] at hv; exact hv.1
        have hll := (goodB_out hb).2.1
        obtain ⟨y, b, R, e1, e2, hgy, hR, hyb⟩ := run_both a l hga (by omega)
        have e2 : spec_l28Run ((a.1, a.2.1, a.2.2.1, a.2.2.2.1, a.2.2.2.2.1, ()), (bs D, bs P, n, ()), ()) (bs l) = some (RS a y (bs D, bs P, n, ()) b R) := e2 _
        have e1' : impl_run (a.1, a.2.1, a.2.2.1, a.2.2.2.1, a.2.2.2.2.1, ()) (bs l) = some (RI a y b R) := e1
        have hR1 := hR.1
        obtain ⟨P', m, k, a1, a2, _, a4, a5⟩ := append_both D P l R n hD hP (by omega) (by omega)
        have c4 : spec_l28Own ((y.1, y.2.1, y.2.2.1, y.2.2.2.1, y.2.2.2.2.1, ()), (bs D, bs P, n, ()), ()) = _ := ownC_eq y (bs D, bs P, n, ()) (gd_len hgy)
        refine ⟨y, P', m, R, .run hv hb h60 y b R P' m e1 hgy hR hyb k a2 a4 a5, ?_, ?_, fun h0 => ?_⟩
        · rw [e2, Option.bind_some]
          cases b with
          | true =>
            show ((spec_l28Own _).bind _) = _
            rw [c4]
            simp only [Option.bind_some]
            rw [cond_df (by rw [bs_size]; omega)]
            simp only [Option.bind_some, a1]
          | false =>
            obtain rfl := hyb rfl
            show ((spec_l28Own _).bind _) = _
            rw [c4]
            simp only [Option.bind_some]
            rw [cond_df (by rw [bs_size]; omega)]
            simp only [Option.bind_some, a1]
        · rw [e1', Option.bind_some]
          cases b with
          | true =>
            show (Option.bind (some _) _) = _
            simp only [Option.bind_some]
            rw [cond_df (by rw [bs_size]; omega)]
            simp only [Option.bind_some, a2]
          | false =>
            obtain rfl := hyb rfl
            show (Option.bind (some _) _) = _
            simp only [Option.bind_some]
            rw [cond_df (by rw [bs_size]; omega)]
            simp only [Option.bind_some, a2]
        · rw [copyTree_eq a h0 ha]
          simp only [Option.bind_some]
          rw [e1', Option.bind_some]
          cases b with
          | true =>
            show (Option.bind (some _) _) = _
            simp only [Option.bind_some]
            rw [cond_df (by rw [bs_size]; omega)]
            simp only [Option.bind_some, a2]
          | false =>
            obtain rfl := hyb rfl
            show (Option.bind (some _) _) = _
            simp only [Option.bind_some]
            rw [cond_df (by rw [bs_size]; omega)]
            simp only [Option.bind_some, a2]
end Go.Proofs.YtaobinhdnklojaaGreatDoor
namespace Go.Proofs.YtaobinhdnklojaaGreatDoor
open Go.RowKit

end Go.Proofs.YtaobinhdnklojaaGreatDoor
namespace Go.Proofs.YtaobinhdnklojaaGreatDoor
open Go.RowKit

theorem validSplit {a : Ropeway} {D P : List UInt8} {n : Int} (h : (gd a && okLog D P n) = true) : gd a = true ∧ okLog D P n = true := by
  rwa [Bool.and_eq_true] at h
theorem gd_pos {a : Ropeway} (h : gd a = true) : 0 < a.2.1.length := by
  obtain ⟨m, l, w, t, d, u⟩ := a
  obtain ⟨_, hl, _⟩ := gd_out h
  show 0 < l.length
  omega
theorem newR_ok (n w : Int) : (spec_NewRopeway n w = some (Sum.inl (0, [], 0, 0, 0, ())) ∧ impl_NewRopeway n w = some (Sum.inl (0, [], 0, 0, 0, ()))) ∨
    ∃ l, spec_NewRopeway n w = some (Sum.inr (0, l, w, 0, 0, ())) ∧ impl_NewRopeway n w = some (Sum.inr (0, l, w, 0, 0, ())) ∧ gd (0, l, w, 0, 0, ()) = true := by
  unfold spec_NewRopeway impl_NewRopeway
  simp only [l1In_eq, within_eq, Option.bind_some]
  by_cases h : 4 ≤ n ∧ n ≤ 10
  case neg => left; rw [cond_ndf h, cond_ndf h]; exact ⟨rfl, rfl⟩
  rw [cond_ndt h, cond_ndt h, grd_pos (by omega), grd_pos (by omega)]
  have hl : (List.replicate n.toNat ((0 : Int), false, (0 : Int), ())).length ≤ 1048576 := by simp; omega
  have e1 := goodS_eq ((0 : Int), List.replicate n.toNat ((0 : Int), false, (0 : Int), ()), w, (0 : Int), (0 : Int), ()) hl
  have e2 := isRopeway_eq ((0 : Int), List.replicate n.toNat ((0 : Int), false, (0 : Int), ()), w, (0 : Int), (0 : Int), ()) hl
  rw [e1, e2]
  simp only [Option.bind_some]
  cases hg : gd ((0 : Int), List.replicate n.toNat ((0 : Int), false, (0 : Int), ()), w, (0 : Int), (0 : Int), ())
  · exact .inl ⟨rfl, rfl⟩
  · exact .inr ⟨_, rfl, rfl, hg⟩
theorem okLog_empty : okLog [] [] 0 = true := by
  have : rsOf [] = [] := by
    show par (59 + 1) 0 [] = []
    unfold par
    simp
  unfold okLog
  rw [List.append_nil, this]
  rfl
theorem par_good : ∀ (f k : Nat) (l : List UInt8) (x : Rc), x ∈ par f k l → goodB x.1 x.2.1 = true
  | 0, k, l, x, h => by simp [par] at h
  | f + 1, k, l, x, h => by
    unfold par at h
    split at h
    · split at h
      · rename_i c r hd
        rcases List.mem_cons.1 h with h | h
        · rw [h]; exact (decL_some hd).1
        · exact par_good f (k + 1) _ x h
      · simp at h
    · simp at h
theorem replay_loop (recs : List Rc) (hn : recs.length ≤ 60) (hs : ∀ x ∈ recs, goodB x.1 x.2.1 = true) (a : Ropeway) (D P : List UInt8) (n : Int) (hv : (gd a && okLog D P n) = true) :
    ∃ o : Option Int,
      iter (fun s => spec_ReplayLog_loop1 s.1 s.2.1 s.2.2.1 s.2.2.2.1 s.2.2.2.2.1 s.2.2.2.2.2.1 s.2.2.2.2.2.2.1 s.2.2.2.2.2.2.2.1 s.2.2.2.2.2.2.2.2.1 s.2.2.2.2.2.2.2.2.2) ((0 : Int), a.1, a.2.1, a.2.2.1, a.2.2.2.1, a.2.2.2.2.1, bs D, bs P, n, recs.map recOf) = some (o.elim (.inr (recs.map recOf)) .inl) ∧
      iter (fun s => impl_ReplayLog_loop1 s.1 s.2.1 s.2.2.1 s.2.2.2.1 s.2.2.2.2.1 s.2.2.2.2.2.1 s.2.2.2.2.2.2.1 s.2.2.2.2.2.2.2.1 s.2.2.2.2.2.2.2.2.1 s.2.2.2.2.2.2.2.2.2.1 s.2.2.2.2.2.2.2.2.2.2.1 s.2.2.2.2.2.2.2.2.2.2.2) (recs.map recOf, recs.map recOf, ((recs.map recOf).length : Int), (0 : Int), a.1, a.2.1, a.2.2.1, a.2.2.2.1, a.2.2.2.2.1, bs D, bs P, n) = some (o.elim (.inr (recs.map recOf)) .inl) := by
  obtain ⟨r, r', e1, e2, o, rfl, rfl⟩ := iter_rel (f := fun s : Int × Int × (List Slot) × Int × Int × Int × ByteArray × ByteArray × Int × (List LogRecord) => spec_ReplayLog_loop1 s.1 s.2.1 s.2.2.1 s.2.2.2.1 s.2.2.2.2.1 s.2.2.2.2.2.1 s.2.2.2.2.2.2.1 s.2.2.2.2.2.2.2.1 s.2.2.2.2.2.2.2.2.1 s.2.2.2.2.2.2.2.2.2)
    (g := fun s : (List LogRecord) × (List LogRecord) × Int × Int × Int × (List Slot) × Int × Int × Int × ByteArray × ByteArray × Int => impl_ReplayLog_loop1 s.1 s.2.1 s.2.2.1 s.2.2.2.1 s.2.2.2.2.1 s.2.2.2.2.2.1 s.2.2.2.2.2.2.1 s.2.2.2.2.2.2.2.1 s.2.2.2.2.2.2.2.2.1 s.2.2.2.2.2.2.2.2.2.1 s.2.2.2.2.2.2.2.2.2.2.1 s.2.2.2.2.2.2.2.2.2.2.2)
    (fun (k : Nat) s t => ∃ (a : Ropeway) (P : List UInt8) (n : Int), (gd a && okLog D P n) = true ∧ s = ((k : Int), a.1, a.2.1, a.2.2.1, a.2.2.2.1, a.2.2.2.2.1, bs D, bs P, n, recs.map recOf) ∧ t = (recs.map recOf, recs.map recOf, ((recs.map recOf).length : Int), (k : Int), a.1, a.2.1, a.2.2.1, a.2.2.2.1, a.2.2.2.2.1, bs D, bs P, n))
    (fun r r' => ∃ o : Option Int, r = o.elim (.inr (recs.map recOf)) .inl ∧ r' = o.elim (.inr (recs.map recOf)) .inl) recs.length
    (by
      rintro k _ _ hk ⟨a, P, n, hv, rfl, rfl⟩
      obtain ⟨hg, ho⟩ := validSplit hv
      have hlen := okLog_len ho
      have hz := goodB_out (hs _ (List.getElem_mem hk))
      obtain ⟨y, P', m, R, hex, x1, _, x3⟩ := exec_both a D P recs[k].1 n (gd_len hg) (by omega) (by omega) (by omega)
      have x3 := x3 (gd_pos hg)
      have x1 : spec_ExecuteCommand ((a.1, a.2.1, a.2.2.1, a.2.2.2.1, a.2.2.2.2.1, ()), (bs D, bs P, n, ()), ()) (bs recs[k].1) = _ := x1
      have hm : (recs.map recOf).length = recs.length := List.length_map ..
      have hgd : (recs.map recOf).getD k d_LogRecord = recOf recs[k] := by
        rw [getD_eq _ _ _ (by simpa using hk), List.getElem_map]
      have hw : w64 ((k : Int) + 1) = ((k + 1 : Nat) : Int) := w64_nat (by omega)
      have f1 : spec_ReplayLog_loop1 (k : Int) a.1 a.2.1 a.2.2.1 a.2.2.2.1 a.2.2.2.2.1 (bs D) (bs P) n (recs.map recOf) = (cond (!decide (bs R = bs recs[k].2.1)) ((some (.out (Sum.inl (k : Int))))) (some (.go (((k + 1 : Nat) : Int), y.1, y.2.1, y.2.2.1, y.2.2.2.1, y.2.2.2.2.1, bs D, bs P', m, recs.map recOf)))) := by
        unfold spec_ReplayLog_loop1
        have g : 0 ≤ (k : Int) ∧ (k : Int) < ((recs.map recOf).length : Int) := by omega
        rw [cond_dt (by omega), grd_pos g, Int.toNat_natCast, hgd]
        show (Option.bind (spec_ExecuteCommand ((a.1, a.2.1, a.2.2.1, a.2.2.2.1, a.2.2.2.2.1, ()), (bs D, bs P, n, ()), ()) (bs recs[k].1)) _) = _
        rw [x1, Option.bind_some, grd_pos g, hw]
        rfl
      have f2 : impl_ReplayLog_loop1 (recs.map recOf) (recs.map recOf) ((recs.map recOf).length : Int) (k : Int) a.1 a.2.1 a.2.2.1 a.2.2.2.1 a.2.2.2.2.1 (bs D) (bs P) n = (cond (!decide (bs R = bs recs[k].2.1)) ((some (.out (Sum.inl (k : Int))))) (some (.go (recs.map recOf, recs.map recOf, ((recs.map recOf).length : Int), ((k + 1 : Nat) : Int), y.1, y.2.1, y.2.2.1, y.2.2.2.1, y.2.2.2.2.1, bs D, bs P', m)))) := by
        unfold impl_ReplayLog_loop1
        have g : 0 ≤ (k : Int) ∧ (k : Int) < ((recs.map recOf).length : Int) := by omega
        rw [cond_dt (by omega), grd_pos g, Int.toNat_natCast, hgd]
        show (Option.bind (impl_ExecuteCommand_i1 a.1 a.2.1 a.2.2.1 a.2.2.2.1 a.2.2.2.2.1 (bs D) (bs P) n (bs recs[k].1)) _) = _
        rw [x3, Option.bind_some, hw]
        rfl
      by_cases he : bs R = bs recs[k].2.1
      · rw [cond_ndt he] at f1 f2
        exact .inl ⟨_, _, f1, f2, y, P', m, hex.valid hv, rfl, rfl⟩
      · rw [cond_ndf he] at f1 f2
        exact .inr ⟨_, _, f1, f2, some (k : Int), rfl, rfl⟩)
    (by
      rintro _ _ ⟨a, P, n, hv, rfl, rfl⟩
      have hm : (recs.map recOf).length = recs.length := List.length_map ..
      refine ⟨.inr (recs.map recOf), .inr (recs.map recOf), ?_, ?_, none, rfl, rfl⟩
      · dsimp only
        unfold spec_ReplayLog_loop1
        rw [cond_df (by omega)]
      · dsimp only
        unfold impl_ReplayLog_loop1
        rw [cond_df (by omega)])
    (s := ((0 : Int), a.1, a.2.1, a.2.2.1, a.2.2.2.1, a.2.2.2.2.1, bs D, bs P, n, recs.map recOf)) (t := (recs.map recOf, recs.map recOf, ((recs.map recOf).length : Int), (0 : Int), a.1, a.2.1, a.2.2.1, a.2.2.2.1, a.2.2.2.2.1, bs D, bs P, n)) ⟨a, P, n, hv, rfl, rfl⟩
  exact ⟨o, e1, e2⟩
theorem replay_both (n w : Int) (D P : List UInt8) (c : Int) (hD : D.length ≤ 1048576) (hP : P.length ≤ 1048576) : ∃ z, spec_ReplayLog n w (bs D, bs P, c, ()) = some z ∧ impl_ReplayLog n w (bs D, bs P, c, ()) = some z := by
  have l1 : spec_l27Log (bs D, bs P, c, ()) = some (okLog D P c) := log_eq D P c (by omega) (by omega)
  have l2 := records_eq D P c (by omega) (by omega)
  have l3 : impl_LogRecords (bs D, bs P, c, ()) = some (if okLog D P c = true then Sum.inr ((rsOf (D ++ P)).map recOf) else Sum.inl ()) := by
    unfold impl_LogRecords
    simp only [l2, Option.bind_some]
    cases okLog D P c <;> rfl
  unfold spec_ReplayLog impl_ReplayLog spec_NewConsole impl_NewConsole
  dsimp only
  rcases newR_ok n w with ⟨e1, e2⟩ | ⟨l, e1, e2, hg⟩
  · rw [e1, e2]
    simp only [Option.bind_some, Sum.elim_inl]
    rw [l3]
    cases okLog D P c
    · exact ⟨_, rfl, rfl⟩
    · exact ⟨_, rfl, rfl⟩
  · rw [e1, e2]
    simp only [Option.bind_some, Sum.elim_inr]
    rw [l3, l1]
    cases ho : okLog D P c with
    | false => exact ⟨_, rfl, rfl⟩
    | true =>
      have hlen := okLog_len ho
      have l4 : spec_LogRecords (bs D, bs P, c, ()) = some ((rsOf (D ++ P)).map recOf, true) := by
        unfold spec_LogRecords
        dsimp only
        rw [l1, ho, Option.bind_some, Bool.not_true, cond_false, grd_pos (by rw [bs_size, bs_size]; omega), bs_app, open_eq _ (by rw [List.length_append]; omega), Option.bind_some]
      obtain ⟨o, k1, k2⟩ := replay_loop (rsOf (D ++ P)) (par_length 60 0 _) (fun x hx => par_good 60 0 _ x hx) ((0 : Int), l, w, (0 : Int), (0 : Int), ()) [] [] 0 (by rw [hg, okLog_empty]; rfl)
      simp only [Option.bind_some, Bool.not_true, cond_false, if_true, Sum.elim_inr, l4]
      have k1 := k1
      have k2 := k2
      dsimp only at k1 k2
      rw [show ByteArray.mk #[] = bs [] from rfl, k1, k2]
      cases o with
      | none => exact ⟨_, rfl, rfl⟩
      | some i => exact ⟨_, rfl, rfl⟩
theorem law_FnExactReplayLog (n w : Int) (a : Log) (_ : Ty.fit (.int .i64) n) (_ : Ty.fit (.int .i64) w) (ha : Ty.fit ty_Log a) : laws_FnExactReplayLog n w a = some true := by
  obtain ⟨D0, P0, c, ⟨⟩⟩ := a
  obtain ⟨D, rfl⟩ := bs_ex D0
  obtain ⟨P, rfl⟩ := bs_ex P0
  have hD : D.length ≤ 1048576 := by rw [← bs_size]; exact ha.1
  have hP : P.length ≤ 1048576 := by rw [← bs_size]; exact ha.2.1
  obtain ⟨y, hy⟩ := szLog_ex (bs D, bs P, c, ()) 1048576
  obtain ⟨z, e1, e2⟩ := replay_both n w D P c hD hP
  unfold laws_FnExactReplayLog
  simp only [hy, Option.bind_some]
  by_cases h0 : y < 0
  · rw [cond_dt h0]
  · rw [cond_df h0]
    simp only [laws_toLog, Option.bind_some, e1, e2, decide_true, Bool.not_true, cond_false, beq_self_eq_true]
end Go.Proofs.YtaobinhdnklojaaGreatDoor
namespace Go.Proofs.YtaobinhdnklojaaGreatDoor
open Go.RowKit

theorem laidVars_get {P : Program} {w : World} : ∀ {l : List (String × DataW Unit)} {ps : List MemPlace}, DataW.LaidVars P w l ps → ∀ {n : String} {d : DataW Unit}, (n, d) ∈ l →
    ∃ g t cs fuel p, P.globalNamed n = some g ∧ (P.globals[g]?).map (·.type) = some t ∧ w.var? P n = some cs ∧ DataW.trod (fun _ => ()) P w 0 (fun _ => true) false fuel t cs.toList = some (d, p)
  | [], _, _, _, _, hm => by simp at hm
  | (n', d') :: r, ps, h, n, d, hm => by
    obtain ⟨g, t, cs, fuel, p, q, h1, h2, h3, h4, h5, _⟩ := h
    rcases List.mem_cons.1 hm with e | e
    · cases e; exact ⟨g, t, cs, fuel, p, h1, h2, h3, h4⟩
    · exact laidVars_get h5 e
theorem var_heap {P : Program} {w : World} {n : String} {g : Nat} {cs : Array Value} (hg : P.globalNamed n = some g) (h : w.var? P n = some cs) : ∃ t fr, w.heap[g]? = some (.cells cs t fr) := by
  unfold World.var? at h
  rw [hg, Option.bind_some] at h
  split at h
  · rename_i cs' t fr e
    cases h
    exact ⟨t, fr, e⟩
  · cases h
def GBx (b : Nat) : Prop := b = 0 ∨ b = 1 ∨ b = 2
theorem facts {l : List (String × DataW Unit)} {W : World} (hL : laidMet Tryz.prog l W) (hsh : W.ShapedOpen Tryz.prog) {n : String} (hm : (n, Rows.laid_internal_strconv_uint64pow10) ∈ l) {n2 : String} (hm2 : (n2, Rows.laid_strconv_ErrSyntax) ∈ l)
    (hn : Tryz.prog.globalNamed n = some 1 := by kernel_rfl) (hn2 : Tryz.prog.globalNamed n2 = some 2 := by kernel_rfl) : Lw GBx W := by
  obtain ⟨ps, hv, _⟩ := hL
  obtain ⟨g, t, cs, fuel, p, h1, h2, h3, h4⟩ := laidVars_get hv hm
  obtain rfl := Option.some.inj (hn.symm.trans h1)
  have ht : (Tryz.prog.globals[1]?).map (·.type) = some 216 := by kernel_rfl
  obtain rfl := Option.some.inj (ht.symm.trans h2)
  have hc := Lib.cells_of_tab (k := .u64) (zs := Lib.pow10Tab) (n := 20) Tryz.underlying216 Tryz.underlying88 (by kernel_rfl) (by kernel_rfl) h4
  obtain ⟨t, fr, hh⟩ := var_heap hn h3
  obtain ⟨m, hm⟩ := Tryz.laysM145.s1_3 W hsh
  obtain ⟨g2, t2, cs2, fuel2, p2, k1, k2, k3, k4⟩ := laidVars_get hv hm2
  obtain rfl := Option.some.inj (hn2.symm.trans k1)
  have ht2 : (Tryz.prog.globals[2]?).map (·.type) = some 140 := by kernel_rfl
  obtain rfl := Option.some.inj (ht2.symm.trans k2)
  obtain ⟨_, u, v, hcs, _⟩ := iface_of_trod Tryz.underlying140 k4
  obtain ⟨t3, fr3, hh3⟩ := var_heap hn2 k3
  have hcell : W.cell? ⟨2, 0, none⟩ = some (.iface u v) := by
    have e : cs2 = #[.iface u v] := by rw [← Array.toArray_toList (xs := cs2), hcs]
    subst e
    simp [World.cell?, hh3]
  refine ⟨⟨⟨.inl rfl, .inr (.inr rfl), u, v, hcell⟩, m, hm⟩, .inr (.inl rfl), t, fr, ?_⟩
  rw [hh, ← hc]
theorem facts_lt {W : World} (h : Lw GBx W) : ∀ b, GBx b → b < W.heap.size := by
  obtain ⟨⟨⟨_, _, te, pe, h6⟩, m, h1⟩, _, t, fr, h2⟩ := h
  have key : ∀ (b : Nat) (x : Value), W.cell? ⟨b, 0, none⟩ = some x → b < W.heap.size := fun b x h1 => by
    rcases Nat.lt_or_ge b W.heap.size with h | h
    · exact h
    · exfalso
      unfold World.cell? at h1
      rw [Array.getElem?_eq_none h] at h1
      simp at h1
  rintro b (rfl | rfl | rfl)
  · exact key _ _ h1
  · exact (Array.getElem?_eq_some_iff.1 h2).1
  · exact key _ _ h6
end Go.Proofs.YtaobinhdnklojaaGreatDoor
