/-
  Contracts, printed by a program.
-/
import Derived.Test.YtaobinhdnklojaaGreatDoorC8020
namespace Go.Proofs.YtaobinhdnklojaaGreatDoor
open Go.RowKit
attribute [local irreducible] Ob l5 Sub Spec Fin Again CallW CutC KOb iter

attribute [local irreducible] slNf iIVR iIVC sIFi sIFi1 sCFi sCiS icRi ir iAR

noncomputable def iECi (a100 : Int) (a101 : (List Slot)) (a102 : Int) (a103 : Int) (a104 : Int) (a105 : ByteArray) (a106 : ByteArray) (a107 : Int) (a1 : ByteArray) : Option (C1 × ByteArray) :=
 (((icRi a100 a101 a102 a103 a104).bind fun y1 => (some ((Tg.mk : Tg 1), y1.1, y1.2.2.1, y1.2.2.2.1, y1.2.2.2.2.1, y1.2.1))).bind fun z2 => ((iIVC ((a100, a101, a102, a103, a104, ()), (a105, a106, a107, ()), ())).bind fun y3 => (cond (!y3) ((some (((z2.2.1, z2.2.2.2.2.2, z2.2.2.1, z2.2.2.2.1, z2.2.2.2.2.1, ()), (a105, a106, a107, ()), ()), (ByteArray.mk #[110, 111])))) ((iIVR (a1, (ByteArray.mk #[]), ())).bind fun y4 => (cond (!y4) ((some (((z2.2.1, z2.2.2.2.2.2, z2.2.2.1, z2.2.2.2.1, z2.2.2.2.2.1, ()), (a105, a106, a107, ()), ()), (ByteArray.mk #[98, 97, 100])))) (cond (decide (a107 = (60 : Int))) ((some (((z2.2.1, z2.2.2.2.2.2, z2.2.2.1, z2.2.2.2.1, z2.2.2.2.2.1, ()), (a105, a106, a107, ()), ()), (ByteArray.mk #[102, 117, 108, 108])))) (((ir (z2.2.1, z2.2.2.2.2.2, z2.2.2.1, z2.2.2.2.1, z2.2.2.2.2.1, ()) a1).bind (Sum.elim (fun y6 => (some ((Tg.mk : Tg 2), y6.2.1, y6.1.1, y6.1.2.2.1, y6.1.2.2.2.1, y6.1.2.2.2.2.1, y6.2.2))) (fun y7 => (some ((Tg.mk : Tg 2), y7.2.1, y7.1.1, y7.1.2.2.1, y7.1.2.2.2.1, y7.1.2.2.2.2.1, y7.1.2.1))))).bind fun z8 => ((cond (decide ((200 : Int) < (z8.2.1.size : Int))) ((some ((ByteArray.mk #[108, 111, 110, 103]), z8.2.2.1, z8.2.2.2.1, z8.2.2.2.2.1, z8.2.2.2.2.2.1, z8.2.2.2.2.2.2))) ((some (z8.2.1, z8.2.2.1, z8.2.2.2.1, z8.2.2.2.2.1, z8.2.2.2.2.2.1, z8.2.2.2.2.2.2)))).bind fun z9 => ((iAR (a105, a106, a107, ()) (a1, z9.1, ())).bind fun y10 => (some (((z9.2.1, z9.2.2.2.2.2, z9.2.2.1, z9.2.2.2.1, z9.2.2.2.2.1, ()), (y10.1.1, y10.1.2.1, y10.1.2.2.1, ()), ()), z9.1)))))))))))
def iECi.res (_ : Int) (_ : (List Slot)) (_ : Int) (_ : Int) (_ : Int) (_ : ByteArray) (_ : ByteArray) (_ : Int) (_ : ByteArray) (y : C1 × ByteArray) : AV := (.tup [(.agg [(.v (.int .i64 y.1.1.1)), (.own 0), (.v (.int .i64 y.1.1.2.2.1)), (.v (.int .i64 y.1.1.2.2.2.1)), (.v (.int .i64 y.1.1.2.2.2.2.1)), (.v (.string y.1.2.1.1)), (.v (.string y.1.2.1.2.1)), (.v (.int .i64 y.1.2.1.2.2.1))]), (.v (.string y.2))])
def iECi.out (_ : Int) (_ : (List Slot)) (_ : Int) (_ : Int) (_ : Int) (_ : ByteArray) (_ : ByteArray) (_ : Int) (_ : ByteArray) (y : C1 × ByteArray) : List (Option LB) := [some (.arr 96 tS y.1.1.2.1)]
def iECi.S (ar : List AV) (h : List (Option LB)) (r : AV) (h1 : List (Option LB)) : Prop := ∃ a100 a101 a102 a103 a104 a105 a106 a107 a1 y, iECi a100 a101 a102 a103 a104 a105 a106 a107 a1 = some y ∧ leL ar [(.agg [(.v (.int .i64 a100)), (.tree tS a101), (.v (.int .i64 a102)), (.v (.int .i64 a103)), (.v (.int .i64 a104)), (.v (.string a105)), (.v (.string a106)), (.v (.int .i64 a107))]), (.v (.string a1))] ∧ leH h [] ∧ r = iECi.res a100 a101 a102 a103 a104 a105 a106 a107 a1 y ∧ h1 = iECi.out a100 a101 a102 a103 a104 a105 a106 a107 a1 y
theorem iECi.call {ar h a100 a101 a102 a103 a104 a105 a106 a107 a1 y} (H : iECi a100 a101 a102 a103 a104 a105 a106 a107 a1 = some y) (h0 : leLk ar [(.agg [(.v (.int .i64 a100)), (.tree tS a101), (.v (.int .i64 a102)), (.v (.int .i64 a103)), (.v (.int .i64 a104)), (.v (.string a105)), (.v (.string a106)), (.v (.int .i64 a107))]), (.v (.string a1))] (leHk h [])) : iECi.S ar h (iECi.res a100 a101 a102 a103 a104 a105 a106 a107 a1 y) (iECi.out a100 a101 a102 a103 a104 a105 a106 a107 a1 y) := ⟨a100, a101, a102, a103, a104, a105, a106, a107, a1, y, H, (ao h0).1, (ao h0).2, rfl, rfl⟩
set_option maxHeartbeats 100000000 in
set_option maxRecDepth 100000 in
theorem iECi.spec (a100 a101 a102 a103 a104 a105 a106 a107 a1 y) (H : iECi a100 a101 a102 a103 a104 a105 a106 a107 a1 = some y) : Spec Tryz.prog 15 [(.agg [(.v (.int .i64 a100)), (.tree tS a101), (.v (.int .i64 a102)), (.v (.int .i64 a103)), (.v (.int .i64 a104)), (.v (.string a105)), (.v (.string a106)), (.v (.int .i64 a107))]), (.v (.string a1))] [] (iECi.res a100 a101 a102 a103 a104 a105 a106 a107 a1 y) (iECi.out a100 a101 a102 a103 a104 a105 a106 a107 a1 y) := by
 refine si (G117_ok.at tok []) (ct := [(2, none), (10, none), (12, none), (7, some [1, 4, 6, 25])]) Tryz.func15 rfl (by kernel_rfl) (by kernel_rfl) rfl ?_
 repeat' first
  | ((with_reducible refine eqg ?_); exact rfl)
  | ((with_reducible refine KOb.mk ?_); kernel_rfl)
  | ((with_reducible intro h); (repeat first | replace H := grd_k H | replace H := os1 H ‹_›); first | replace H := ct1 h H | replace H := cf1 h H | exact absurd h (by decide) | skip)
  | ((with_reducible refine Ob.mk ?_); first | (with_reducible rfl) | (first | ((repeat (first | (with_reducible exact grd_p H) | replace H := grd_k H | replace H := os1 H ‹_›)); done) | rfl | ((repeat (first | exact grd_p H | (have hp := grd_p H; exact hp) | replace H := grd_k H | replace H := os1 H ‹_› | (replace H := bind_some H; obtain ⟨_, _, H⟩ := H))); done) | (repeat (first | exact grd_p H | replace H := grd_k H | replace H := os1 H ‹_›))))
  | (with_reducible exact True.intro)
  | ((conv => whnf); first
      | (with_reducible refine And.intro ?_ ?_)
      | (with_reducible exact True.intro)
      | (with_reducible refine (?_ : Ob _))
      | ((with_reducible refine CallW.mk ?_); (repeat first | replace H := grd_k H | replace H := os1 H ‹_›); replace H := bind_some H; obtain ⟨y, hy, H⟩ := H; first | ((with_reducible have hz : icRi _ _ _ _ _ = some y := hy); clear hz; refine Exists.intro _ (Exists.intro _ ⟨Or.inl (icRi.call hy ?_), rfl, rfl, ?_⟩)) | ((with_reducible have hz : iIVC _ = some y := hy); clear hz; refine ⟨_, _, iIVC.call hy ?_, rfl, rfl, ?_⟩) | ((with_reducible have hz : iIVR _ = some y := hy); clear hz; refine ⟨_, _, iIVR.call hy ?_, rfl, rfl, ?_⟩) | ((with_reducible have hz : ir _ _ = some y := hy); clear hz; rcases y with y | y <;> refine ⟨_, _, ir.call hy ?_, rfl, rfl, ?_⟩) | ((with_reducible have hz : iAR _ _ = some y := hy); clear hz; refine ⟨_, _, iAR.call hy ?_, rfl, rfl, ?_⟩))
      | ((with_reducible refine cutAt (id := 2) ?_); (repeat first | replace H := grd_k H | replace H := os1 H ‹_›); first | (replace H := bind_some H; obtain ⟨z, hz, H⟩ := H; have hT : Tg 1 × Int × Int × Int × Int × (List Slot) := z; clear hT; refine CutC.mk (id := 2) ⟨sl [(1, (.v (.string a1))), (2, (.loc 0 0 0)), (4, (.loc 1 0 0)), (6, (.loc 2 0 0))], [some (.box 40 [(.v (.int .i64 a100)), (.tree tS a101), (.v (.int .i64 a102)), (.v (.int .i64 a103)), (.v (.int .i64 a104)), (.v (.string a105)), (.v (.string a106)), (.v (.int .i64 a107))]), some (.box 40 [(.v (.int .i64 (0 : Int))), (.v (.slice none 0 0)), (.v (.int .i64 (0 : Int))), (.v (.int .i64 (0 : Int))), (.v (.int .i64 (0 : Int))), (.v (.string (ByteArray.mk #[]))), (.v (.string (ByteArray.mk #[]))), (.v (.int .i64 (0 : Int)))]), some (.box 40 [(.v (.int .i64 z.2.1)), (.own 3), (.v (.int .i64 z.2.2.1)), (.v (.int .i64 z.2.2.2.1)), (.v (.int .i64 z.2.2.2.2.1)), (.v (.string a105)), (.v (.string a106)), (.v (.int .i64 a107))]), some (.arr 96 tS z.2.2.2.2.2)]⟩ ?_ ?_; (replace H := hz)))
      | ((with_reducible refine cutAt (id := 10) ?_); (repeat first | replace H := grd_k H | replace H := os1 H ‹_›); first | (replace H := bind_some H; obtain ⟨z, hz, H⟩ := H; have hT : Tg 2 × ByteArray × Int × Int × Int × Int × (List Slot) := z; clear hT; refine CutC.mk (id := 10) ⟨sl [(1, (.v (.string a1))), (4, (.loc 0 0 0)), (6, (.loc 1 0 0)), (7, (.v (.string z.2.1)))], [some (.box 40 [(.v (.int .i64 (0 : Int))), (.v (.slice none 0 0)), (.v (.int .i64 (0 : Int))), (.v (.int .i64 (0 : Int))), (.v (.int .i64 (0 : Int))), (.v (.string (ByteArray.mk #[]))), (.v (.string (ByteArray.mk #[]))), (.v (.int .i64 (0 : Int)))]), some (.box 40 [(.v (.int .i64 z.2.2.1)), (.own 2), (.v (.int .i64 z.2.2.2.1)), (.v (.int .i64 z.2.2.2.2.1)), (.v (.int .i64 z.2.2.2.2.2.1)), (.v (.string a105)), (.v (.string a106)), (.v (.int .i64 a107))]), some (.arr 96 tS z.2.2.2.2.2.2)]⟩ ?_ ?_; (replace H := hz)))
      | ((with_reducible refine cutAt (id := 12) ?_); (repeat first | replace H := grd_k H | replace H := os1 H ‹_›); first | (replace H := bind_some H; obtain ⟨z, hz, H⟩ := H; refine CutC.mk (id := 12) ⟨sl [(1, (.v (.string a1))), (4, (.loc 0 0 0)), (6, (.loc 1 0 0)), (7, (.v (.string z.1)))], [some (.box 40 [(.v (.int .i64 (0 : Int))), (.v (.slice none 0 0)), (.v (.int .i64 (0 : Int))), (.v (.int .i64 (0 : Int))), (.v (.int .i64 (0 : Int))), (.v (.string (ByteArray.mk #[]))), (.v (.string (ByteArray.mk #[]))), (.v (.int .i64 (0 : Int)))]), some (.box 40 [(.v (.int .i64 z.2.1)), (.own 2), (.v (.int .i64 z.2.2.1)), (.v (.int .i64 z.2.2.2.1)), (.v (.int .i64 z.2.2.2.2.1)), (.v (.string a105)), (.v (.string a106)), (.v (.int .i64 a107))]), some (.arr 96 tS z.2.2.2.2.2)]⟩ ?_ ?_; (replace H := hz)))
      | ((repeat first | replace H := grd_k H | replace H := os1 H ‹_›); have H := Option.some.inj H; subst H; with_reducible refine sa ?_)
      | ((with_reducible refine fm ?_); (repeat first | replace H := grd_k H | replace H := os1 H ‹_›); have H := Option.some.inj H; subst H))
  | constructor
def G124 : Env := G117.addOr 15 [true] iECi.S
theorem G124_ok : EnvOk Tryz.prog G124 := G117_ok.addOr ent_15 fun ar h r h1 ⟨a100, a101, a102, a103, a104, a105, a106, a107, a1, y, hy, e1, e2, e3, e4⟩ => by
 subst e3 e4; exact (iECi.spec a100 a101 a102 a103 a104 a105 a106 a107 a1 y hy).le e1 e2
attribute [local irreducible] iECi

end Go.Proofs.YtaobinhdnklojaaGreatDoor
namespace Go.Proofs.YtaobinhdnklojaaGreatDoor
open Go.RowKit
set_option maxHeartbeats 100000000
set_option maxRecDepth 100000
attribute [local irreducible] Ob l5 Sub Spec Fin Again CallW CutC KOb iter

attribute [local irreducible] slS slNf slG1 sEC iIVC strings_Split sIFi sIFi1 sCFi sCiS icRi iECi

noncomputable def sRSl  (v19 : Int) (v20 : Int) (v21 : (List Slot)) (v22 : Int) (v23 : Int) (v24 : Int) (v25 : ByteArray) (v26 : ByteArray) (v27 : Int) (v28 : (List ByteArray)) (v29 : (List ByteArray)) : Option (Lp (Int × Int × (List Slot) × Int × Int × Int × ByteArray × ByteArray × Int × (List ByteArray) × (List ByteArray)) (((List ByteArray)))) :=
 (cond (decide (v19 < (v29.length : Int))) (grd (0 ≤ v19 ∧ v19 < (v29.length : Int)) ((sEC ((v20, v21, v22, v23, v24, ()), (v25, v26, v27, ()), ()) (v29.getD v19.toNat (ByteArray.mk #[]))).bind fun y30 => (grd (v28.length + [y30.2].length ≤ 140737488355328 / 16 ∧ v28.length + [y30.2].length ≤ 140737488355328) (some (.go ((w64 (v19 + (1 : Int))), y30.1.1.1, y30.1.1.2.1, y30.1.1.2.2.1, y30.1.1.2.2.2.1, y30.1.1.2.2.2.2.1, y30.1.2.1.1, y30.1.2.1.2.1, y30.1.2.1.2.2.1, (v28 ++ [y30.2]), v29)))))) ((some (.out v28))))
noncomputable def sRS (a0 : C1) (a1 : ByteArray) : Option ((List ByteArray) × Bool) :=
 ((slS a1 (10 : Int)).bind fun y1 => ((slG1 ((a0.1.1, a0.1.2.1, a0.1.2.2.1, a0.1.2.2.2.1, a0.1.2.2.2.2.1, ()), (a0.2.1.1, a0.2.1.2.1, a0.2.1.2.2.1, ()), ())).bind fun y2 => (cond (!y2) ((some (([] : List ByteArray), false))) (cond (decide ((4000 : Int) < (a1.size : Int))) ((some (([] : List ByteArray), false))) (cond (decide ((30 : Int) < (y1.length : Int))) ((some (([] : List ByteArray), false))) ((iter (fun s => sRSl s.1 s.2.1 s.2.2.1 s.2.2.2.1 s.2.2.2.2.1 s.2.2.2.2.2.1 s.2.2.2.2.2.2.1 s.2.2.2.2.2.2.2.1 s.2.2.2.2.2.2.2.2.1 s.2.2.2.2.2.2.2.2.2.1 s.2.2.2.2.2.2.2.2.2.2) ((0 : Int), a0.1.1, a0.1.2.1, a0.1.2.2.1, a0.1.2.2.2.1, a0.1.2.2.2.2.1, a0.2.1.1, a0.2.1.2.1, a0.2.1.2.2.1, ([] : List ByteArray), y1)).bind (fun r31 => (some (r31, true)))))))))
def sRS.res (_ : C1) (_ : ByteArray) (y : (List ByteArray) × Bool) : AV := (.tup [(.own 0), (.bl y.2)])
def sRS.out (_ : C1) (_ : ByteArray) (y : (List ByteArray) × Bool) : List (Option LB) := [some (.arr 9 .str y.1)]
def sRS.S (ar : List AV) (h : List (Option LB)) (r : AV) (h1 : List (Option LB)) : Prop := ∃ a0 a1 y, sRS a0 a1 = some y ∧ leL ar [(.agg [(.v (.int .i64 a0.1.1)), (.tree tS a0.1.2.1), (.v (.int .i64 a0.1.2.2.1)), (.v (.int .i64 a0.1.2.2.2.1)), (.v (.int .i64 a0.1.2.2.2.2.1)), (.v (.string a0.2.1.1)), (.v (.string a0.2.1.2.1)), (.v (.int .i64 a0.2.1.2.2.1))]), (.v (.string a1))] ∧ leH h [] ∧ r = sRS.res a0 a1 y ∧ h1 = sRS.out a0 a1 y
theorem sRS.call {ar h a0 a1 y} (H : sRS a0 a1 = some y) (h0 : leLk ar [(.agg [(.v (.int .i64 a0.1.1)), (.tree tS a0.1.2.1), (.v (.int .i64 a0.1.2.2.1)), (.v (.int .i64 a0.1.2.2.2.1)), (.v (.int .i64 a0.1.2.2.2.2.1)), (.v (.string a0.2.1.1)), (.v (.string a0.2.1.2.1)), (.v (.int .i64 a0.2.1.2.2.1))]), (.v (.string a1))] (leHk h [])) : sRS.S ar h (sRS.res a0 a1 y) (sRS.out a0 a1 y) := ⟨a0, a1, y, H, (ao h0).1, (ao h0).2, rfl, rfl⟩
theorem sRS.spec (a0 a1 y) (H : sRS a0 a1 = some y) : Spec Tryz.prog 19 [(.agg [(.v (.int .i64 a0.1.1)), (.tree tS a0.1.2.1), (.v (.int .i64 a0.1.2.2.1)), (.v (.int .i64 a0.1.2.2.2.1)), (.v (.int .i64 a0.1.2.2.2.2.1)), (.v (.string a0.2.1.1)), (.v (.string a0.2.1.2.1)), (.v (.int .i64 a0.2.1.2.2.1))]), (.v (.string a1))] [] (sRS.res a0 a1 y) (sRS.out a0 a1 y) := by
 refine si (G124_ok.at tok []) (ct := [(4, some [2, 6, 7, 25]), (10, some [2, 6, 7, 8, 9])]) Tryz.func19 rfl (by kernel_rfl) (by kernel_rfl) rfl ?_
 repeat' first
  | ((with_reducible refine eqg ?_); exact rfl)
  | ((with_reducible refine KOb.mk ?_); kernel_rfl)
  | ((with_reducible intro h); (repeat first | replace H := grd_k H | replace H := os1 H ‹_›); first | replace H := ct1 h H | replace H := cf1 h H | exact absurd h (by decide) | skip)
  | ((with_reducible refine Ob.mk ?_); first | (with_reducible rfl) | (first | ((repeat (first | (with_reducible exact grd_p H) | replace H := grd_k H | replace H := os1 H ‹_›)); done) | rfl | ((repeat (first | exact grd_p H | (have hp := grd_p H; exact hp) | replace H := grd_k H | replace H := os1 H ‹_› | (replace H := bind_some H; obtain ⟨_, _, H⟩ := H))); done) | (repeat (first | exact grd_p H | replace H := grd_k H | replace H := os1 H ‹_›))))
  | (with_reducible exact True.intro)
  | ((conv => whnf); first
      | (with_reducible refine And.intro ?_ ?_)
      | (with_reducible exact True.intro)
      | (with_reducible refine (?_ : Ob _))
      | ((with_reducible refine CallW.mk ?_); (repeat first | replace H := grd_k H | replace H := os1 H ‹_›); replace H := bind_some H; obtain ⟨y, hy, H⟩ := H; first | ((with_reducible have hz : slS _ _ = some y := hy); clear hz; refine ⟨_, _, slS.call hy ?_, rfl, rfl, ?_⟩) | ((with_reducible have hz : slG1 _ = some y := hy); clear hz; refine ⟨_, _, slG1.call hy ?_, rfl, rfl, ?_⟩) | ((with_reducible have hz : sEC _ _ = some y := hy); clear hz; refine ⟨_, _, sEC.call hy ?_, rfl, rfl, ?_⟩))
      | ((repeat first | replace H := grd_k H | replace H := os1 H ‹_›); refine li1 (G124_ok.at tok []) (ct := [(4, some [2, 6, 7, 25]), (10, some [2, 6, 7, 8, 9])]) (F := (fun s1 : Int × Int × (List Slot) × Int × Int × Int × ByteArray × ByteArray × Int × (List ByteArray) × (List ByteArray) => ⟨sl [(2, (.loc 0 0 0)), (6, (.own 1)), (7, (.own 2)), (9, (.v (.int .i64 s1.1)))], [some (.box 40 [(.v (.int .i64 s1.2.1)), (.tree tS s1.2.2.1), (.v (.int .i64 s1.2.2.2.1)), (.v (.int .i64 s1.2.2.2.2.1)), (.v (.int .i64 s1.2.2.2.2.2.1)), (.v (.string s1.2.2.2.2.2.2.1)), (.v (.string s1.2.2.2.2.2.2.2.1)), (.v (.int .i64 s1.2.2.2.2.2.2.2.2.1))]), some (.arr 9 .str s1.2.2.2.2.2.2.2.2.2.1), some (.arr 9 .str s1.2.2.2.2.2.2.2.2.2.2)]⟩)) (step := (fun s : Int × Int × (List Slot) × Int × Int × Int × ByteArray × ByteArray × Int × (List ByteArray) × (List ByteArray) => sRSl s.1 s.2.1 s.2.2.1 s.2.2.2.1 s.2.2.2.2.1 s.2.2.2.2.2.1 s.2.2.2.2.2.2.1 s.2.2.2.2.2.2.2.1 s.2.2.2.2.2.2.2.2.1 s.2.2.2.2.2.2.2.2.2.1 s.2.2.2.2.2.2.2.2.2.2)) _ H (by kernel_rfl) (sa ?_) ?_; rotate_left; (intro s1 r v hr H); rotate_right)
      | ((repeat first | replace H := grd_k H | replace H := os1 H ‹_›); refine as1 H (by assumption) (sa ?_))
      | ((with_reducible refine fm ?_); (repeat first | replace H := grd_k H | replace H := os1 H ‹_›); have H := Option.some.inj H; subst H))
  | constructor
def G127 : Env := G124.add 19 [] sRS.S
theorem G127_ok : EnvOk Tryz.prog G127 := G124_ok.add ent_19 fun ar h r h1 ⟨a0, a1, y, hy, e1, e2, e3, e4⟩ => by
 subst e3 e4; exact (sRS.spec a0 a1 y hy).le e1 e2
attribute [local irreducible] sRS

noncomputable def iRSl  (v22 : Int) (v23 : Int) (v24 : Int) (v25 : (List Slot)) (v26 : Int) (v27 : Int) (v28 : Int) (v29 : ByteArray) (v30 : ByteArray) (v31 : Int) (v32 : (List ByteArray)) (v33 : (List ByteArray)) : Option (Lp (Int × Int × Int × (List Slot) × Int × Int × Int × ByteArray × ByteArray × Int × (List ByteArray) × (List ByteArray)) (((List ByteArray)))) :=
 (cond (decide (v23 < v22)) (grd (0 ≤ v23 ∧ v23 < (v33.length : Int)) ((iECi v24 v25 v26 v27 v28 v29 v30 v31 (v33.getD v23.toNat (ByteArray.mk #[]))).bind fun y34 => (grd (v32.length + [y34.2].length ≤ 140737488355328 / 16 ∧ v32.length + [y34.2].length ≤ 140737488355328) (some (.go (v22, (w64 (v23 + (1 : Int))), y34.1.1.1, y34.1.1.2.1, y34.1.1.2.2.1, y34.1.1.2.2.2.1, y34.1.1.2.2.2.2.1, y34.1.2.1.1, y34.1.2.1.2.1, y34.1.2.1.2.2.1, (v32 ++ [y34.2]), v33)))))) ((some (.out v32))))
noncomputable def iRS (a0 : C1) (a1 : ByteArray) : Option ((Unit) ⊕ ((List ByteArray))) :=
 ((strings_Split a1 (ByteArray.mk #[10])).bind fun y1 => ((iIVC ((a0.1.1, a0.1.2.1, a0.1.2.2.1, a0.1.2.2.2.1, a0.1.2.2.2.2.1, ()), (a0.2.1.1, a0.2.1.2.1, a0.2.1.2.2.1, ()), ())).bind fun y2 => (cond (!y2) ((some (Sum.inl ()))) (cond (decide ((4000 : Int) < (a1.size : Int))) ((some (Sum.inl ()))) (cond (decide ((30 : Int) < (y1.length : Int))) ((some (Sum.inl ()))) ((iter (fun s => iRSl s.1 s.2.1 s.2.2.1 s.2.2.2.1 s.2.2.2.2.1 s.2.2.2.2.2.1 s.2.2.2.2.2.2.1 s.2.2.2.2.2.2.2.1 s.2.2.2.2.2.2.2.2.1 s.2.2.2.2.2.2.2.2.2.1 s.2.2.2.2.2.2.2.2.2.2.1 s.2.2.2.2.2.2.2.2.2.2.2) ((y1.length : Int), (0 : Int), a0.1.1, a0.1.2.1, a0.1.2.2.1, a0.1.2.2.2.1, a0.1.2.2.2.2.1, a0.2.1.1, a0.2.1.2.1, a0.2.1.2.2.1, ([] : List ByteArray), y1)).bind (fun r35 => (some (Sum.inr r35)))))))))
def iRS.res (_ : C1) (_ : ByteArray) (y : (Unit) ⊕ ((List ByteArray))) : AV := match y with
 | (.inl _) => (.tup [(.v (.slice none 0 0)), (.v (.bool false))])
 | (.inr _) => (.tup [(.own 0), (.v (.bool true))])
def iRS.out (_ : C1) (_ : ByteArray) (y : (Unit) ⊕ ((List ByteArray))) : List (Option LB) := match y with
 | (.inl _) => []
 | (.inr y) => [some (.arr 9 .str y)]
def iRS.S (ar : List AV) (h : List (Option LB)) (r : AV) (h1 : List (Option LB)) : Prop := ∃ a0 a1 y, iRS a0 a1 = some y ∧ leL ar [(.agg [(.v (.int .i64 a0.1.1)), (.tree tS a0.1.2.1), (.v (.int .i64 a0.1.2.2.1)), (.v (.int .i64 a0.1.2.2.2.1)), (.v (.int .i64 a0.1.2.2.2.2.1)), (.v (.string a0.2.1.1)), (.v (.string a0.2.1.2.1)), (.v (.int .i64 a0.2.1.2.2.1))]), (.v (.string a1))] ∧ leH h [] ∧ r = iRS.res a0 a1 y ∧ h1 = iRS.out a0 a1 y
theorem iRS.call {ar h a0 a1 y} (H : iRS a0 a1 = some y) (h0 : leLk ar [(.agg [(.v (.int .i64 a0.1.1)), (.tree tS a0.1.2.1), (.v (.int .i64 a0.1.2.2.1)), (.v (.int .i64 a0.1.2.2.2.1)), (.v (.int .i64 a0.1.2.2.2.2.1)), (.v (.string a0.2.1.1)), (.v (.string a0.2.1.2.1)), (.v (.int .i64 a0.2.1.2.2.1))]), (.v (.string a1))] (leHk h [])) : iRS.S ar h (iRS.res a0 a1 y) (iRS.out a0 a1 y) := ⟨a0, a1, y, H, (ao h0).1, (ao h0).2, rfl, rfl⟩
theorem iRS.spec (a0 a1 y) (H : iRS a0 a1 = some y) : Spec Tryz.prog 20 [(.agg [(.v (.int .i64 a0.1.1)), (.tree tS a0.1.2.1), (.v (.int .i64 a0.1.2.2.1)), (.v (.int .i64 a0.1.2.2.2.1)), (.v (.int .i64 a0.1.2.2.2.2.1)), (.v (.string a0.2.1.1)), (.v (.string a0.2.1.2.1)), (.v (.int .i64 a0.2.1.2.2.1))]), (.v (.string a1))] [] (iRS.res a0 a1 y) (iRS.out a0 a1 y) := by
 have hlen : Nat.ble ([] : List (Option LB)).length (iRS.out a0 a1 y).length = true := by
  rcases y with y | y <;> rfl
 refine si (G127_ok.at tok []) (ct := [(3, some [2, 6, 26]), (11, some [2, 7, 28, 29, 30])]) Tryz.func20 rfl (by kernel_rfl) (by kernel_rfl) hlen ?_
 repeat' first
  | ((with_reducible refine eqg ?_); exact rfl)
  | ((with_reducible refine KOb.mk ?_); kernel_rfl)
  | ((with_reducible intro h); (repeat first | replace H := grd_k H | replace H := os1 H ‹_›); first | replace H := ct1 h H | replace H := cf1 h H | exact absurd h (by decide) | skip)
  | ((with_reducible refine Ob.mk ?_); first | (with_reducible rfl) | (first | ((repeat (first | (with_reducible exact grd_p H) | replace H := grd_k H | replace H := os1 H ‹_›)); done) | rfl | ((repeat (first | exact grd_p H | (have hp := grd_p H; exact hp) | replace H := grd_k H | replace H := os1 H ‹_› | (replace H := bind_some H; obtain ⟨_, _, H⟩ := H))); done) | (repeat (first | exact grd_p H | replace H := grd_k H | replace H := os1 H ‹_›))))
  | (with_reducible exact True.intro)
  | ((conv => whnf); first
      | (with_reducible refine And.intro ?_ ?_)
      | (with_reducible exact True.intro)
      | (with_reducible refine (?_ : Ob _))
      | ((with_reducible refine CallW.mk ?_); (repeat first | replace H := grd_k H | replace H := os1 H ‹_›); replace H := bind_some H; obtain ⟨y, hy, H⟩ := H; first | ((with_reducible have hz : strings_Split _ _ = some y := hy); clear hz; refine ⟨_, _, strings_Split.call hy ?_, rfl, rfl, ?_⟩) | ((with_reducible have hz : iIVC _ = some y := hy); clear hz; refine ⟨_, _, iIVC.call hy ?_, rfl, rfl, ?_⟩) | ((with_reducible have hz : iECi _ _ _ _ _ _ _ _ _ = some y := hy); clear hz; refine Exists.intro _ (Exists.intro _ ⟨Or.inl (iECi.call hy ?_), rfl, rfl, ?_⟩)))
      | ((repeat first | replace H := grd_k H | replace H := os1 H ‹_›); refine li1 (G127_ok.at tok []) (ct := [(3, some [2, 6, 26]), (11, some [2, 7, 28, 29, 30])]) (F := (fun s1 : Int × Int × Int × (List Slot) × Int × Int × Int × ByteArray × ByteArray × Int × (List ByteArray) × (List ByteArray) => ⟨sl [(2, (.loc 0 0 0)), (7, (.own 1)), (28, (.own 2)), (29, (.v (.int .i64 s1.1))), (30, (.v (.int .i64 s1.2.1)))], [some (.box 40 [(.v (.int .i64 s1.2.2.1)), (.tree tS s1.2.2.2.1), (.v (.int .i64 s1.2.2.2.2.1)), (.v (.int .i64 s1.2.2.2.2.2.1)), (.v (.int .i64 s1.2.2.2.2.2.2.1)), (.v (.string s1.2.2.2.2.2.2.2.1)), (.v (.string s1.2.2.2.2.2.2.2.2.1)), (.v (.int .i64 s1.2.2.2.2.2.2.2.2.2.1))]), some (.arr 9 .str s1.2.2.2.2.2.2.2.2.2.2.1), some (.arr 9 .str s1.2.2.2.2.2.2.2.2.2.2.2)]⟩)) (step := (fun s : Int × Int × Int × (List Slot) × Int × Int × Int × ByteArray × ByteArray × Int × (List ByteArray) × (List ByteArray) => iRSl s.1 s.2.1 s.2.2.1 s.2.2.2.1 s.2.2.2.2.1 s.2.2.2.2.2.1 s.2.2.2.2.2.2.1 s.2.2.2.2.2.2.2.1 s.2.2.2.2.2.2.2.2.1 s.2.2.2.2.2.2.2.2.2.1 s.2.2.2.2.2.2.2.2.2.2.1 s.2.2.2.2.2.2.2.2.2.2.2)) _ H (by kernel_rfl) (sa ?_) ?_; rotate_left; (intro s1 r v hr H); rotate_right)
      | ((repeat first | replace H := grd_k H | replace H := os1 H ‹_›); refine as1 H (by assumption) (sa ?_))
      | ((with_reducible refine fm ?_); (repeat first | replace H := grd_k H | replace H := os1 H ‹_›); have H := Option.some.inj H; subst H))
  | constructor
def G128 : Env := G127.add 20 [] iRS.S
theorem G128_ok : EnvOk Tryz.prog G128 := G127_ok.add ent_20 fun ar h r h1 ⟨a0, a1, y, hy, e1, e2, e3, e4⟩ => by
 subst e3 e4; exact (iRS.spec a0 a1 y hy).le e1 e2
attribute [local irreducible] iRS

end Go.Proofs.YtaobinhdnklojaaGreatDoor
namespace Go.Proofs.YtaobinhdnklojaaGreatDoor
open Go.RowKit
set_option maxHeartbeats 100000000
set_option maxRecDepth 100000
attribute [local irreducible] Ob l5 Sub Spec Fin Again CallW CutC KOb iter

attribute [local irreducible] slNf sIFi sIFi1 sCFi sCiS icRi iECi

noncomputable def lmSS1   : Option (Lp (Unit) ((Unit))) :=
 (some (.out ()))
noncomputable def lmSS (a1 : Int) : Option (Int) :=
 ((iter (fun _ => lmSS1) ()).bind (fun _ => (some a1)))
def lmSS.res (_ : Int) (y : Int) : AV := (.v (.int .i64 y))
def lmSS.out (_ : Int) (_ : Int) : List (Option LB) := []
def lmSS.S (ar : List AV) (h : List (Option LB)) (r : AV) (h1 : List (Option LB)) : Prop := ∃ a1 y, lmSS a1 = some y ∧ leL ar [(.v (.slice none 0 0)), (.v (.int .i64 a1))] ∧ leH h [] ∧ r = lmSS.res a1 y ∧ h1 = lmSS.out a1 y
theorem lmSS.spec (a1 y) (H : lmSS a1 = some y) : Spec Tryz.prog 22 [(.v (.slice none 0 0)), (.v (.int .i64 a1))] [] (lmSS.res a1 y) (lmSS.out a1 y) := by
 refine si (G128_ok.at tok []) (ct := []) Tryz.func22 rfl (by kernel_rfl) (by kernel_rfl) rfl ?_
 repeat' first
  | ((with_reducible refine eqg ?_); exact rfl)
  | ((with_reducible refine KOb.mk ?_); kernel_rfl)
  | ((with_reducible intro h); (repeat first | replace H := grd_k H | replace H := os1 H ‹_›); first | replace H := ct1 h H | replace H := cf1 h H | exact absurd h (by decide) | skip)
  | ((with_reducible refine Ob.mk ?_); first | (with_reducible rfl) | (first | ((repeat (first | (with_reducible exact grd_p H) | replace H := grd_k H | replace H := os1 H ‹_›)); done) | rfl | ((repeat (first | exact grd_p H | (have hp := grd_p H; exact hp) | replace H := grd_k H | replace H := os1 H ‹_› | (replace H := bind_some H; obtain ⟨_, _, H⟩ := H))); done) | (repeat (first | exact grd_p H | replace H := grd_k H | replace H := os1 H ‹_›))))
  | (with_reducible exact True.intro)
  | ((conv => whnf); first
      | (with_reducible refine And.intro ?_ ?_)
      | (with_reducible exact True.intro)
      | (with_reducible refine (?_ : Ob _))
      | ((repeat first | replace H := grd_k H | replace H := os1 H ‹_›); refine li1 (G128_ok.at tok []) (ct := []) (F := (fun s1 : Unit => ⟨sl [(0, (.v (.slice none 0 0))), (1, (.v (.int .i64 a1))), (5, (.v (.int .i64 (0 : Int))))], []⟩)) (step := (fun s : Unit => lmSS1)) _ H (by kernel_rfl) (sa ?_) ?_; rotate_left; (intro s1 r v hr H); rotate_right)
      | ((repeat first | replace H := grd_k H | replace H := os1 H ‹_›); refine as1 H (by assumption) (sa ?_))
      | ((with_reducible refine fm ?_); (repeat first | replace H := grd_k H | replace H := os1 H ‹_›); have H := Option.some.inj H; subst H))
  | constructor
def G133 : Env := G128.addOr 22 [true] lmSS.S
theorem G133_ok : EnvOk Tryz.prog G133 := G128_ok.addOr ent_22 fun ar h r h1 ⟨a1, y, hy, e1, e2, e3, e4⟩ => by
 subst e3 e4; exact (lmSS.spec a1 y hy).le e1 e2
attribute [local irreducible] lmSS

noncomputable def lvB (a0 : (List Int)) : Option (Bool) :=
 (some (decide ((65536 : Int) < (a0.length : Int))))
def lvB.res (_ : (List Int)) (y : Bool) : AV := (.bl y)
def lvB.out (_ : (List Int)) (_ : Bool) : List (Option LB) := []
def lvB.S (ar : List AV) (h : List (Option LB)) (r : AV) (h1 : List (Option LB)) : Prop := ∃ a0 y, lvB a0 = some y ∧ leL ar [(.tree (.int .u8) a0)] ∧ leH h [] ∧ r = lvB.res a0 y ∧ h1 = lvB.out a0 y
theorem lvB.call {ar h a0 y} (H : lvB a0 = some y) (h0 : leLk ar [(.tree (.int .u8) a0)] (leHk h [])) : lvB.S ar h (lvB.res a0 y) (lvB.out a0 y) := ⟨a0, y, H, (ao h0).1, (ao h0).2, rfl, rfl⟩
theorem lvB.spec (a0 y) (H : lvB a0 = some y) : Spec Tryz.prog 24 [(.tree (.int .u8) a0)] [] (lvB.res a0 y) (lvB.out a0 y) := by
 refine si (G133_ok.at tok []) (ct := []) Tryz.func24 rfl (by kernel_rfl) (by kernel_rfl) rfl ?_
 repeat' first
  | ((with_reducible refine eqg ?_); exact rfl)
  | ((with_reducible refine KOb.mk ?_); kernel_rfl)
  | ((with_reducible intro h); (repeat first | replace H := grd_k H | replace H := os1 H ‹_›); first | replace H := ct1 h H | replace H := cf1 h H | exact absurd h (by decide) | skip)
  | ((with_reducible refine Ob.mk ?_); first | (with_reducible rfl) | (first | ((repeat (first | (with_reducible exact grd_p H) | replace H := grd_k H | replace H := os1 H ‹_›)); done) | rfl | ((repeat (first | exact grd_p H | (have hp := grd_p H; exact hp) | replace H := grd_k H | replace H := os1 H ‹_› | (replace H := bind_some H; obtain ⟨_, _, H⟩ := H))); done) | (repeat (first | exact grd_p H | replace H := grd_k H | replace H := os1 H ‹_›))))
  | (with_reducible exact True.intro)
  | ((conv => whnf); first
      | (with_reducible refine And.intro ?_ ?_)
      | (with_reducible exact True.intro)
      | (with_reducible refine (?_ : Ob _))
      | ((with_reducible refine fm ?_); (repeat first | replace H := grd_k H | replace H := os1 H ‹_›); have H := Option.some.inj H; subst H))
  | constructor
def G135 : Env := G133.add 24 [] lvB.S
theorem G135_ok : EnvOk Tryz.prog G135 := G133_ok.add ent_24 fun ar h r h1 ⟨a0, y, hy, e1, e2, e3, e4⟩ => by
 subst e3 e4; exact (lvB.spec a0 y hy).le e1 e2
attribute [local irreducible] lvB

noncomputable def slCn (a0 : l1Cur) : Option (Int × l1Cur) :=
 ((cond (decide (a0.2.1 < (a0.1.length : Int))) (grd (0 ≤ a0.2.1 ∧ a0.2.1 < (a0.1.length : Int)) ((some (w64 (a0.1.getD a0.2.1.toNat 0))))) ((some (0 : Int)))).bind fun z1 => (cond (decide ((w64 (a0.2.1 + (1 : Int))) ≤ (a0.1.length : Int))) ((some (z1, (a0.1, (w64 (a0.2.1 + (1 : Int))), (wu64 ((wu64 ((wu64 (a0.2.2.1 * (6364136223846793005 : Int))) + (wu64 z1))) + (935935 : Int))), ())))) (grd (0 ≤ (40 : Int)) ((some ((w64 (wu64 ((BitVec.ofInt (IntKind.u64).bits (Int.fdiv (wu64 ((wu64 ((wu64 (a0.2.2.1 * (6364136223846793005 : Int))) + (wu64 z1))) + (935935 : Int))) (2 ^ min (40 : Int).toNat (IntKind.u64).bits)) &&& BitVec.ofInt (IntKind.u64).bits (255 : Int)).toNat))), (a0.1, (w64 (a0.2.1 + (1 : Int))), (wu64 ((wu64 ((wu64 (a0.2.2.1 * (6364136223846793005 : Int))) + (wu64 z1))) + (935935 : Int))), ())))))))
def slCn.res (_ : l1Cur) (y : Int × l1Cur) : AV := (.v (.int .i64 y.1))
def slCn.out (_ : l1Cur) (y : Int × l1Cur) : List (Option LB) := [some (.box 90 [(.tree (.int .u8) y.2.1), (.v (.int .i64 y.2.2.1)), (.v (.int .u64 y.2.2.2.1))])]
def slCn.S (ar : List AV) (h : List (Option LB)) (r : AV) (h1 : List (Option LB)) : Prop := ∃ a0 y, slCn a0 = some y ∧ leL ar [(.loc 0 0 0)] ∧ leH h [some (.box 90 [(.tree (.int .u8) a0.1), (.v (.int .i64 a0.2.1)), (.v (.int .u64 a0.2.2.1))])] ∧ r = slCn.res a0 y ∧ h1 = slCn.out a0 y
theorem slCn.call {ar h a0 y} (H : slCn a0 = some y) (h0 : leLk ar [(.loc 0 0 0)] (leHk h [some (.box 90 [(.tree (.int .u8) a0.1), (.v (.int .i64 a0.2.1)), (.v (.int .u64 a0.2.2.1))])])) : slCn.S ar h (slCn.res a0 y) (slCn.out a0 y) := ⟨a0, y, H, (ao h0).1, (ao h0).2, rfl, rfl⟩
theorem slCn.spec (a0 y) (H : slCn a0 = some y) : Spec Tryz.prog 103 [(.loc 0 0 0)] [some (.box 90 [(.tree (.int .u8) a0.1), (.v (.int .i64 a0.2.1)), (.v (.int .u64 a0.2.2.1))])] (slCn.res a0 y) (slCn.out a0 y) := by
 refine si (G135_ok.at tok []) (ct := [(4, none), (6, some [0, 3])]) Tryz.func103 rfl (by kernel_rfl) (by kernel_rfl) rfl ?_
 repeat' first
  | ((with_reducible refine eqg ?_); exact rfl)
  | ((with_reducible refine KOb.mk ?_); kernel_rfl)
  | ((with_reducible intro h); (repeat first | replace H := grd_k H | replace H := os1 H ‹_›); first | replace H := ct1 h H | replace H := cf1 h H | exact absurd h (by decide) | skip)
  | ((with_reducible refine Ob.mk ?_); first | (with_reducible rfl) | (first | ((repeat (first | (with_reducible exact grd_p H) | replace H := grd_k H | replace H := os1 H ‹_›)); done) | rfl | ((repeat (first | exact grd_p H | (have hp := grd_p H; exact hp) | replace H := grd_k H | replace H := os1 H ‹_› | (replace H := bind_some H; obtain ⟨_, _, H⟩ := H))); done) | (repeat (first | exact grd_p H | replace H := grd_k H | replace H := os1 H ‹_›))))
  | (with_reducible exact True.intro)
  | ((conv => whnf); first
      | (with_reducible refine And.intro ?_ ?_)
      | (with_reducible exact True.intro)
      | (with_reducible refine (?_ : Ob _))
      | ((with_reducible refine cutAt (id := 4) ?_); (repeat first | replace H := grd_k H | replace H := os1 H ‹_›); first | (replace H := bind_some H; obtain ⟨z, hz, H⟩ := H; refine CutC.mk (id := 4) ⟨sl [(0, (.loc 0 0 0)), (3, (.v (.int .i64 z)))], [some (.box 90 [(.tree (.int .u8) a0.1), (.v (.int .i64 a0.2.1)), (.v (.int .u64 a0.2.2.1))])]⟩ ?_ ?_; (replace H := hz)))
      | ((repeat first | replace H := grd_k H | replace H := os1 H ‹_›); have H := Option.some.inj H; subst H; with_reducible refine sa ?_)
      | ((with_reducible refine fm ?_); (repeat first | replace H := grd_k H | replace H := os1 H ‹_›); have H := Option.some.inj H; subst H))
  | constructor
def G136 : Env := G135.add 103 [true] slCn.S
theorem G136_ok : EnvOk Tryz.prog G136 := G135_ok.add ent_103 fun ar h r h1 ⟨a0, y, hy, e1, e2, e3, e4⟩ => by
 subst e3 e4; exact (slCn.spec a0 y hy).le e1 e2
attribute [local irreducible] slCn

noncomputable def slCp (a0 : l1Cur) (a1 : Int) : Option (Int × l1Cur) :=
 (cond (decide (a1 ≤ (1 : Int))) ((some ((0 : Int), (a0.1, a0.2.1, a0.2.2.1, ())))) ((slCn (a0.1, a0.2.1, a0.2.2.1, ())).bind fun y1 => (cond (decide ((200 : Int) < a1)) ((slCn (y1.2.1, y1.2.2.1, y1.2.2.2.1, ())).bind fun y2 => (grd (a1 ≠ 0) ((some ((Int.tmod (w64 ((w64 (y1.1 * (256 : Int))) + y2.1)) a1), (y2.2.1, y2.2.2.1, y2.2.2.2.1, ())))))) (grd (a1 ≠ 0) ((some ((Int.tmod y1.1 a1), (y1.2.1, y1.2.2.1, y1.2.2.2.1, ()))))))))
def slCp.res (_ : l1Cur) (_ : Int) (y : Int × l1Cur) : AV := (.v (.int .i64 y.1))
def slCp.out (_ : l1Cur) (_ : Int) (y : Int × l1Cur) : List (Option LB) := [some (.box 90 [(.tree (.int .u8) y.2.1), (.v (.int .i64 y.2.2.1)), (.v (.int .u64 y.2.2.2.1))])]
def slCp.S (ar : List AV) (h : List (Option LB)) (r : AV) (h1 : List (Option LB)) : Prop := ∃ a0 a1 y, slCp a0 a1 = some y ∧ leL ar [(.loc 0 0 0), (.v (.int .i64 a1))] ∧ leH h [some (.box 90 [(.tree (.int .u8) a0.1), (.v (.int .i64 a0.2.1)), (.v (.int .u64 a0.2.2.1))])] ∧ r = slCp.res a0 a1 y ∧ h1 = slCp.out a0 a1 y
theorem slCp.call {ar h a0 a1 y} (H : slCp a0 a1 = some y) (h0 : leLk ar [(.loc 0 0 0), (.v (.int .i64 a1))] (leHk h [some (.box 90 [(.tree (.int .u8) a0.1), (.v (.int .i64 a0.2.1)), (.v (.int .u64 a0.2.2.1))])])) : slCp.S ar h (slCp.res a0 a1 y) (slCp.out a0 a1 y) := ⟨a0, a1, y, H, (ao h0).1, (ao h0).2, rfl, rfl⟩
theorem slCp.spec (a0 a1 y) (H : slCp a0 a1 = some y) : Spec Tryz.prog 59 [(.loc 0 0 0), (.v (.int .i64 a1))] [some (.box 90 [(.tree (.int .u8) a0.1), (.v (.int .i64 a0.2.1)), (.v (.int .u64 a0.2.2.1))])] (slCp.res a0 a1 y) (slCp.out a0 a1 y) := by
 refine si (G136_ok.at tok []) (ct := [(6, some [1, 5])]) Tryz.func59 rfl (by kernel_rfl) (by kernel_rfl) rfl ?_
 repeat' first
  | ((with_reducible refine eqg ?_); exact rfl)
  | ((with_reducible refine KOb.mk ?_); kernel_rfl)
  | ((with_reducible intro h); (repeat first | replace H := grd_k H | replace H := os1 H ‹_›); first | replace H := ct1 h H | replace H := cf1 h H | exact absurd h (by decide) | skip)
  | ((with_reducible refine Ob.mk ?_); first | (with_reducible rfl) | (first | ((repeat (first | (with_reducible exact grd_p H) | replace H := grd_k H | replace H := os1 H ‹_›)); done) | rfl | ((repeat (first | exact grd_p H | (have hp := grd_p H; exact hp) | replace H := grd_k H | replace H := os1 H ‹_› | (replace H := bind_some H; obtain ⟨_, _, H⟩ := H))); done) | (repeat (first | exact grd_p H | replace H := grd_k H | replace H := os1 H ‹_›))))
  | (with_reducible exact True.intro)
  | ((conv => whnf); first
      | (with_reducible refine And.intro ?_ ?_)
      | (with_reducible exact True.intro)
      | (with_reducible refine (?_ : Ob _))
      | ((with_reducible refine CallW.mk ?_); (repeat first | replace H := grd_k H | replace H := os1 H ‹_›); replace H := bind_some H; obtain ⟨y, hy, H⟩ := H; first | ((with_reducible have hz : slCn _ = some y := hy); clear hz; refine ⟨_, _, slCn.call hy ?_, rfl, rfl, ?_⟩))
      | ((with_reducible refine fm ?_); (repeat first | replace H := grd_k H | replace H := os1 H ‹_›); have H := Option.some.inj H; subst H))
  | constructor
def G137 : Env := G136.add 59 [true] slCp.S
theorem G137_ok : EnvOk Tryz.prog G137 := G136_ok.add ent_59 fun ar h r h1 ⟨a0, a1, y, hy, e1, e2, e3, e4⟩ => by
 subst e3 e4; exact (slCp.spec a0 a1 y hy).le e1 e2
attribute [local irreducible] slCp

noncomputable def slCa (a0 : l1Cur) (a1 : (List Int)) : Option (Int × l1Cur) :=
 ((slCp (a0.1, a0.2.1, a0.2.2.1, ()) (a1.length : Int)).bind fun y1 => (grd (0 ≤ y1.1 ∧ y1.1 < (a1.length : Int)) ((some ((a1.getD y1.1.toNat 0), (y1.2.1, y1.2.2.1, y1.2.2.2.1, ()))))))
def slCa.res (_ : l1Cur) (_ : (List Int)) (y : Int × l1Cur) : AV := (.v (.int .i64 y.1))
def slCa.out (_ : l1Cur) (_ : (List Int)) (y : Int × l1Cur) : List (Option LB) := [some (.box 90 [(.tree (.int .u8) y.2.1), (.v (.int .i64 y.2.2.1)), (.v (.int .u64 y.2.2.2.1))])]
def slCa.S (ar : List AV) (h : List (Option LB)) (r : AV) (h1 : List (Option LB)) : Prop := ∃ a0 a1 y, slCa a0 a1 = some y ∧ leL ar [(.loc 0 0 0), (.tree (.int .i64) a1)] ∧ leH h [some (.box 90 [(.tree (.int .u8) a0.1), (.v (.int .i64 a0.2.1)), (.v (.int .u64 a0.2.2.1))])] ∧ r = slCa.res a0 a1 y ∧ h1 = slCa.out a0 a1 y
theorem slCa.call {ar h a0 a1 y} (H : slCa a0 a1 = some y) (h0 : leLk ar [(.loc 0 0 0), (.tree (.int .i64) a1)] (leHk h [some (.box 90 [(.tree (.int .u8) a0.1), (.v (.int .i64 a0.2.1)), (.v (.int .u64 a0.2.2.1))])])) : slCa.S ar h (slCa.res a0 a1 y) (slCa.out a0 a1 y) := ⟨a0, a1, y, H, (ao h0).1, (ao h0).2, rfl, rfl⟩
theorem slCa.spec (a0 a1 y) (H : slCa a0 a1 = some y) : Spec Tryz.prog 64 [(.loc 0 0 0), (.tree (.int .i64) a1)] [some (.box 90 [(.tree (.int .u8) a0.1), (.v (.int .i64 a0.2.1)), (.v (.int .u64 a0.2.2.1))])] (slCa.res a0 a1 y) (slCa.out a0 a1 y) := by
 refine si (G137_ok.at tok []) (ct := []) Tryz.func64 rfl (by kernel_rfl) (by kernel_rfl) rfl ?_
 repeat' first
  | ((with_reducible refine eqg ?_); exact rfl)
  | ((with_reducible refine KOb.mk ?_); kernel_rfl)
  | ((with_reducible intro h); (repeat first | replace H := grd_k H | replace H := os1 H ‹_›); first | replace H := ct1 h H | replace H := cf1 h H | exact absurd h (by decide) | skip)
  | ((with_reducible refine Ob.mk ?_); first | (with_reducible rfl) | (first | ((repeat (first | (with_reducible exact grd_p H) | replace H := grd_k H | replace H := os1 H ‹_›)); done) | rfl | ((repeat (first | exact grd_p H | (have hp := grd_p H; exact hp) | replace H := grd_k H | replace H := os1 H ‹_› | (replace H := bind_some H; obtain ⟨_, _, H⟩ := H))); done) | (repeat (first | exact grd_p H | replace H := grd_k H | replace H := os1 H ‹_›))))
  | (with_reducible exact True.intro)
  | ((conv => whnf); first
      | (with_reducible refine And.intro ?_ ?_)
      | (with_reducible exact True.intro)
      | (with_reducible refine (?_ : Ob _))
      | ((with_reducible refine CallW.mk ?_); (repeat first | replace H := grd_k H | replace H := os1 H ‹_›); replace H := bind_some H; obtain ⟨y, hy, H⟩ := H; first | ((with_reducible have hz : slCp _ _ = some y := hy); clear hz; refine ⟨_, _, slCp.call hy ?_, rfl, rfl, ?_⟩))
      | ((with_reducible refine fm ?_); (repeat first | replace H := grd_k H | replace H := os1 H ‹_›); have H := Option.some.inj H; subst H))
  | constructor
def G138 : Env := G137.add 64 [true] slCa.S
theorem G138_ok : EnvOk Tryz.prog G138 := G137_ok.add ent_64 fun ar h r h1 ⟨a0, a1, y, hy, e1, e2, e3, e4⟩ => by
 subst e3 e4; exact (slCa.spec a0 a1 y hy).le e1 e2
attribute [local irreducible] slCa

end Go.Proofs.YtaobinhdnklojaaGreatDoor
namespace Go.Proofs.YtaobinhdnklojaaGreatDoor
open Go.RowKit
attribute [local irreducible] Ob l5 Sub Spec Fin Again CallW CutC KOb iter

attribute [local irreducible] slNf sIFi sIFi1 sCFi sCiS icRi iECi lmSS slCp

noncomputable def slCo (a0 : l1Cur) (a1 : Int) : Option (Bool × l1Cur) :=
 ((slCp (a0.1, a0.2.1, a0.2.2.1, ()) a1).bind fun y1 => (some ((decide (y1.1 = (0 : Int))), (y1.2.1, y1.2.2.1, y1.2.2.2.1, ()))))
def slCo.res (_ : l1Cur) (_ : Int) (y : Bool × l1Cur) : AV := (.bl y.1)
def slCo.out (_ : l1Cur) (_ : Int) (y : Bool × l1Cur) : List (Option LB) := [some (.box 90 [(.tree (.int .u8) y.2.1), (.v (.int .i64 y.2.2.1)), (.v (.int .u64 y.2.2.2.1))])]
def slCo.S (ar : List AV) (h : List (Option LB)) (r : AV) (h1 : List (Option LB)) : Prop := ∃ a0 a1 y, slCo a0 a1 = some y ∧ leL ar [(.loc 0 0 0), (.v (.int .i64 a1))] ∧ leH h [some (.box 90 [(.tree (.int .u8) a0.1), (.v (.int .i64 a0.2.1)), (.v (.int .u64 a0.2.2.1))])] ∧ r = slCo.res a0 a1 y ∧ h1 = slCo.out a0 a1 y
theorem slCo.call {ar h a0 a1 y} (H : slCo a0 a1 = some y) (h0 : leLk ar [(.loc 0 0 0), (.v (.int .i64 a1))] (leHk h [some (.box 90 [(.tree (.int .u8) a0.1), (.v (.int .i64 a0.2.1)), (.v (.int .u64 a0.2.2.1))])])) : slCo.S ar h (slCo.res a0 a1 y) (slCo.out a0 a1 y) := ⟨a0, a1, y, H, (ao h0).1, (ao h0).2, rfl, rfl⟩
set_option maxHeartbeats 100000000 in
set_option maxRecDepth 100000 in
theorem slCo.spec (a0 a1 y) (H : slCo a0 a1 = some y) : Spec Tryz.prog 60 [(.loc 0 0 0), (.v (.int .i64 a1))] [some (.box 90 [(.tree (.int .u8) a0.1), (.v (.int .i64 a0.2.1)), (.v (.int .u64 a0.2.2.1))])] (slCo.res a0 a1 y) (slCo.out a0 a1 y) := by
 refine si (G138_ok.at tok []) (ct := []) Tryz.func60 rfl (by kernel_rfl) (by kernel_rfl) rfl ?_
 repeat' first
  | ((with_reducible refine eqg ?_); exact rfl)
  | ((with_reducible refine KOb.mk ?_); kernel_rfl)
  | ((with_reducible intro h); (repeat first | replace H := grd_k H | replace H := os1 H ‹_›); first | replace H := ct1 h H | replace H := cf1 h H | exact absurd h (by decide) | skip)
  | ((with_reducible refine Ob.mk ?_); first | (with_reducible rfl) | (first | ((repeat (first | (with_reducible exact grd_p H) | replace H := grd_k H | replace H := os1 H ‹_›)); done) | rfl | ((repeat (first | exact grd_p H | (have hp := grd_p H; exact hp) | replace H := grd_k H | replace H := os1 H ‹_› | (replace H := bind_some H; obtain ⟨_, _, H⟩ := H))); done) | (repeat (first | exact grd_p H | replace H := grd_k H | replace H := os1 H ‹_›))))
  | (with_reducible exact True.intro)
  | ((conv => whnf); first
      | (with_reducible refine And.intro ?_ ?_)
      | (with_reducible exact True.intro)
      | (with_reducible refine (?_ : Ob _))
      | ((with_reducible refine CallW.mk ?_); (repeat first | replace H := grd_k H | replace H := os1 H ‹_›); replace H := bind_some H; obtain ⟨y, hy, H⟩ := H; first | ((with_reducible have hz : slCp _ _ = some y := hy); clear hz; refine ⟨_, _, slCp.call hy ?_, rfl, rfl, ?_⟩))
      | ((with_reducible refine fm ?_); (repeat first | replace H := grd_k H | replace H := os1 H ‹_›); have H := Option.some.inj H; subst H))
  | constructor
def G139 : Env := G138.add 60 [true] slCo.S
theorem G139_ok : EnvOk Tryz.prog G139 := G138_ok.add ent_60 fun ar h r h1 ⟨a0, a1, y, hy, e1, e2, e3, e4⟩ => by
 subst e3 e4; exact (slCo.spec a0 a1 y hy).le e1 e2
attribute [local irreducible] slCo

end Go.Proofs.YtaobinhdnklojaaGreatDoor
namespace Go.Proofs.YtaobinhdnklojaaGreatDoor
open Go.RowKit
attribute [local irreducible] Ob l5 Sub Spec Fin Again CallW CutC KOb iter

attribute [local irreducible] slNf slO sIFi sIFi1 sCFi sCiS icRi iECi lmSS slCp slCa slCo

noncomputable def slCr2 (a0 : l1Cur) (a1 : R1) : Option (RS1 × l1Cur × (List Slot)) :=
 ((slCp (a0.1, a0.2.1, a0.2.2.1, ()) (12 : Int)).bind fun y1 => (cond (decide (y1.1 = (0 : Int))) ((slCa (y1.2.1, y1.2.2.1, y1.2.2.2.1, ()) [(0 : Int), (1 : Int), (1 : Int), (2 : Int), (3 : Int)]).bind fun y2 => (some (((1 : Int), y2.1, ()), (y2.2.1, y2.2.2.1, y2.2.2.2.1, ()), a1.2.1))) ((cond (decide (y1.1 = (1 : Int))) ((some (y1.1, true, y1.2.1, y1.2.2.1, y1.2.2.2.1))) (cond (decide (y1.1 = (2 : Int))) ((some (y1.1, true, y1.2.1, y1.2.2.1, y1.2.2.2.1))) ((some (y1.1, (decide (y1.1 = (3 : Int))), y1.2.1, y1.2.2.1, y1.2.2.2.1))))).bind fun z3 => (cond z3.2.1 (cond (decide ((0 : Int) < (a1.2.1.length : Int))) ((slO (a1.1, a1.2.1, a1.2.2.1, a1.2.2.2.1, a1.2.2.2.2.1, ())).bind fun y4 => (cond (decide ((y4.length : Int) = (0 : Int))) (cond (decide (a1.1 = (0 : Int))) ((some (((1 : Int), (1 : Int), ()), (z3.2.2.1, z3.2.2.2.1, z3.2.2.2.2, ()), a1.2.1))) ((some (((2 : Int), (0 : Int), ()), (z3.2.2.1, z3.2.2.2.1, z3.2.2.2.2, ()), a1.2.1)))) ((some (((2 : Int), (0 : Int), ()), (z3.2.2.1, z3.2.2.2.1, z3.2.2.2.2, ()), a1.2.1))))) ((some (((2 : Int), (0 : Int), ()), (z3.2.2.1, z3.2.2.2.1, z3.2.2.2.2, ()), a1.2.1)))) (cond (decide (z3.1 = (4 : Int))) ((slCa (z3.2.2.1, z3.2.2.2.1, z3.2.2.2.2, ()) [(1 : Int), (2 : Int), (3 : Int), (20 : Int), (21 : Int)]).bind fun y5 => (some (((3 : Int), y5.1, ()), (y5.2.1, y5.2.2.1, y5.2.2.2.1, ()), a1.2.1))) (cond (decide (z3.1 = (5 : Int))) ((slCo (z3.2.2.1, z3.2.2.2.1, z3.2.2.2.2, ()) (3 : Int)).bind fun y6 => (cond y6.1 ((some (((4 : Int), (0 : Int), ()), (y6.2.1, y6.2.2.1, y6.2.2.2.1, ()), a1.2.1))) ((slCo (y6.2.1, y6.2.2.1, y6.2.2.2.1, ()) (20 : Int)).bind fun y7 => (cond y7.1 ((slCa (y7.2.1, y7.2.2.1, y7.2.2.2.1, ()) [(0 : Int), (8 : Int), (2 : Int)]).bind fun y8 => ((slCa (y8.2.1, y8.2.2.1, y8.2.2.2.1, ()) [((-1) : Int), (2 : Int), (0 : Int)]).bind fun y9 => (some ((y8.1, y9.1, ()), (y9.2.1, y9.2.2.1, y9.2.2.2.1, ()), a1.2.1)))) ((slCp (y7.2.1, y7.2.2.1, y7.2.2.2.1, ()) (2 : Int)).bind fun y10 => (some (((5 : Int), y10.1, ()), (y10.2.1, y10.2.2.1, y10.2.2.2.1, ()), a1.2.1))))))) (cond (decide (z3.1 = (6 : Int))) ((slCp (z3.2.2.1, z3.2.2.2.1, z3.2.2.2.2, ()) (2 : Int)).bind fun y11 => (some (((6 : Int), y11.1, ()), (y11.2.1, y11.2.2.1, y11.2.2.2.1, ()), a1.2.1))) (cond (decide (z3.1 = (7 : Int))) ((slCp (z3.2.2.1, z3.2.2.2.1, z3.2.2.2.2, ()) (2 : Int)).bind fun y12 => (some (((7 : Int), y12.1, ()), (y12.2.1, y12.2.2.1, y12.2.2.2.1, ()), a1.2.1))) (cond (decide (z3.1 = (8 : Int))) ((slCp (z3.2.2.1, z3.2.2.2.1, z3.2.2.2.2, ()) (2 : Int)).bind fun y13 => (some (((7 : Int), y13.1, ()), (y13.2.1, y13.2.2.1, y13.2.2.2.1, ()), a1.2.1))) ((slCo (z3.2.2.1, z3.2.2.2.1, z3.2.2.2.2, ()) (20 : Int)).bind fun y14 => (cond y14.1 ((slCa (y14.2.1, y14.2.2.1, y14.2.2.2.1, ()) [(0 : Int), (8 : Int), (2 : Int)]).bind fun y15 => ((slCa (y15.2.1, y15.2.2.1, y15.2.2.2.1, ()) [((-1) : Int), (2 : Int), (0 : Int)]).bind fun y16 => (some ((y15.1, y16.1, ()), (y16.2.1, y16.2.2.1, y16.2.2.2.1, ()), a1.2.1)))) ((slCp (y14.2.1, y14.2.2.1, y14.2.2.2.1, ()) (2 : Int)).bind fun y17 => (some (((5 : Int), y17.1, ()), (y17.2.1, y17.2.2.1, y17.2.2.2.1, ()), a1.2.1))))))))))))))
def slCr2.res (_ : l1Cur) (_ : R1) (y : RS1 × l1Cur × (List Slot)) : AV := (.agg [(.v (.int .i64 y.1.1)), (.v (.int .i64 y.1.2.1))])
def slCr2.out (_ : l1Cur) (_ : R1) (y : RS1 × l1Cur × (List Slot)) : List (Option LB) := [some (.box 90 [(.tree (.int .u8) y.2.1.1), (.v (.int .i64 y.2.1.2.1)), (.v (.int .u64 y.2.1.2.2.1))]), some (.arr 96 tS y.2.2)]
def slCr2.S (ar : List AV) (h : List (Option LB)) (r : AV) (h1 : List (Option LB)) : Prop := ∃ a0 a1 y, slCr2 a0 a1 = some y ∧ leL ar [(.loc 0 0 0), (.agg [(.v (.int .i64 a1.1)), (.own 1), (.v (.int .i64 a1.2.2.1)), (.v (.int .i64 a1.2.2.2.1)), (.v (.int .i64 a1.2.2.2.2.1))])] ∧ leH h [some (.box 90 [(.tree (.int .u8) a0.1), (.v (.int .i64 a0.2.1)), (.v (.int .u64 a0.2.2.1))]), some (.arr 96 tS a1.2.1)] ∧ r = slCr2.res a0 a1 y ∧ h1 = slCr2.out a0 a1 y
theorem slCr2.call {ar h a0 a1 y} (H : slCr2 a0 a1 = some y) (h0 : leLk ar [(.loc 0 0 0), (.agg [(.v (.int .i64 a1.1)), (.own 1), (.v (.int .i64 a1.2.2.1)), (.v (.int .i64 a1.2.2.2.1)), (.v (.int .i64 a1.2.2.2.2.1))])] (leHk h [some (.box 90 [(.tree (.int .u8) a0.1), (.v (.int .i64 a0.2.1)), (.v (.int .u64 a0.2.2.1))]), some (.arr 96 tS a1.2.1)])) : slCr2.S ar h (slCr2.res a0 a1 y) (slCr2.out a0 a1 y) := ⟨a0, a1, y, H, (ao h0).1, (ao h0).2, rfl, rfl⟩
set_option maxHeartbeats 100000000 in
set_option maxRecDepth 100000 in
theorem slCr2.spec (a0 a1 y) (H : slCr2 a0 a1 = some y) : Spec Tryz.prog 99 [(.loc 0 0 0), (.agg [(.v (.int .i64 a1.1)), (.own 1), (.v (.int .i64 a1.2.2.1)), (.v (.int .i64 a1.2.2.2.1)), (.v (.int .i64 a1.2.2.2.2.1))])] [some (.box 90 [(.tree (.int .u8) a0.1), (.v (.int .i64 a0.2.1)), (.v (.int .u64 a0.2.2.1))]), some (.arr 96 tS a1.2.1)] (slCr2.res a0 a1 y) (slCr2.out a0 a1 y) := by
 refine si (G139_ok.at tok []) (ct := [(7, none), (8, some [4, 31]), (21, some [0, 4, 57])]) Tryz.func99 rfl (by kernel_rfl) (by kernel_rfl) rfl ?_
 repeat' first
  | ((with_reducible refine eqg ?_); exact rfl)
  | ((with_reducible refine KOb.mk ?_); kernel_rfl)
  | ((with_reducible intro h); (repeat first | replace H := grd_k H | replace H := os1 H ‹_›); first | replace H := ct1 h H | replace H := cf1 h H | exact absurd h (by decide) | skip)
  | ((with_reducible refine Ob.mk ?_); first | (with_reducible rfl) | (first | ((repeat (first | (with_reducible exact grd_p H) | replace H := grd_k H | replace H := os1 H ‹_›)); done) | rfl | ((repeat (first | exact grd_p H | (have hp := grd_p H; exact hp) | replace H := grd_k H | replace H := os1 H ‹_› | (replace H := bind_some H; obtain ⟨_, _, H⟩ := H))); done) | (repeat (first | exact grd_p H | replace H := grd_k H | replace H := os1 H ‹_›))))
  | (with_reducible exact True.intro)
  | ((conv => whnf); first
      | (with_reducible refine And.intro ?_ ?_)
      | (with_reducible exact True.intro)
      | (with_reducible refine (?_ : Ob _))
      | ((with_reducible refine CallW.mk ?_); (repeat first | replace H := grd_k H | replace H := os1 H ‹_›); replace H := bind_some H; obtain ⟨y, hy, H⟩ := H; first | ((with_reducible have hz : slCp _ _ = some y := hy); clear hz; refine ⟨_, _, slCp.call hy ?_, rfl, rfl, ?_⟩) | ((with_reducible have hz : slCa _ _ = some y := hy); clear hz; refine ⟨_, _, slCa.call hy ?_, rfl, rfl, ?_⟩) | ((with_reducible have hz : slO _ = some y := hy); clear hz; refine ⟨_, _, slO.call hy ?_, rfl, rfl, ?_⟩) | ((with_reducible have hz : slCo _ _ = some y := hy); clear hz; refine ⟨_, _, slCo.call hy ?_, rfl, rfl, ?_⟩))
      | ((with_reducible refine cutAt (id := 7) ?_); (repeat first | replace H := grd_k H | replace H := os1 H ‹_›); first | (replace H := bind_some H; obtain ⟨z, hz, H⟩ := H; refine CutC.mk (id := 7) ⟨sl [(0, (.loc 0 0 0)), (3, (.loc 2 0 0)), (4, (.loc 3 0 0)), (6, (.v (.int .i64 z.1))), (13, (.bl z.2.1))], [some (.box 90 [(.tree (.int .u8) z.2.2.1), (.v (.int .i64 z.2.2.2.1)), (.v (.int .u64 z.2.2.2.2))]), some (.arr 96 tS a1.2.1), some (.box 38 [(.v (.int .i64 a1.1)), (.own 1), (.v (.int .i64 a1.2.2.1)), (.v (.int .i64 a1.2.2.2.1)), (.v (.int .i64 a1.2.2.2.2.1))]), some (.box 120 [(.v (.int .i64 (0 : Int))), (.v (.int .i64 (0 : Int)))])]⟩ ?_ ?_; (replace H := hz)))
      | ((repeat first | replace H := grd_k H | replace H := os1 H ‹_›); have H := Option.some.inj H; subst H; with_reducible refine sa ?_)
      | ((with_reducible refine fm ?_); (repeat first | replace H := grd_k H | replace H := os1 H ‹_›); have H := Option.some.inj H; subst H))
  | constructor
def G140 : Env := G139.add 99 [true, true] slCr2.S
theorem G140_ok : EnvOk Tryz.prog G140 := G139_ok.add ent_99 fun ar h r h1 ⟨a0, a1, y, hy, e1, e2, e3, e4⟩ => by
 subst e3 e4; exact (slCr2.spec a0 a1 y hy).le e1 e2
attribute [local irreducible] slCr2

end Go.Proofs.YtaobinhdnklojaaGreatDoor
namespace Go.Proofs.YtaobinhdnklojaaGreatDoor
open Go.RowKit
attribute [local irreducible] Ob l5 Sub Spec Fin Again CallW CutC KOb iter

attribute [local irreducible] slNf slO sIFi sIFi1 sCFi sCiS icRi iECi lmSS slCp slCa slCo

noncomputable def slCr (a0 : l1Cur) (a100 : Int) (a101 : (List Slot)) (a102 : Int) (a103 : Int) (a104 : Int) : Option (RS1 × l1Cur) :=
 ((slCp (a0.1, a0.2.1, a0.2.2.1, ()) (12 : Int)).bind fun y1 => (cond (decide (y1.1 = (0 : Int))) ((slCa (y1.2.1, y1.2.2.1, y1.2.2.2.1, ()) [(0 : Int), (1 : Int), (1 : Int), (2 : Int), (3 : Int)]).bind fun y2 => (some (((1 : Int), y2.1, ()), (y2.2.1, y2.2.2.1, y2.2.2.2.1, ())))) ((cond (decide (y1.1 = (1 : Int))) ((some (y1.1, true, y1.2.1, y1.2.2.1, y1.2.2.2.1))) (cond (decide (y1.1 = (2 : Int))) ((some (y1.1, true, y1.2.1, y1.2.2.1, y1.2.2.2.1))) ((some (y1.1, (decide (y1.1 = (3 : Int))), y1.2.1, y1.2.2.1, y1.2.2.2.1))))).bind fun z3 => (cond z3.2.1 (cond (decide ((0 : Int) < (a101.length : Int))) ((slO (a100, a101, a102, a103, a104, ())).bind fun y4 => (cond (decide ((y4.length : Int) = (0 : Int))) (cond (decide (a100 = (0 : Int))) ((some (((1 : Int), (1 : Int), ()), (z3.2.2.1, z3.2.2.2.1, z3.2.2.2.2, ())))) ((some (((2 : Int), (0 : Int), ()), (z3.2.2.1, z3.2.2.2.1, z3.2.2.2.2, ()))))) ((some (((2 : Int), (0 : Int), ()), (z3.2.2.1, z3.2.2.2.1, z3.2.2.2.2, ())))))) ((some (((2 : Int), (0 : Int), ()), (z3.2.2.1, z3.2.2.2.1, z3.2.2.2.2, ()))))) (cond (decide (z3.1 = (4 : Int))) ((slCa (z3.2.2.1, z3.2.2.2.1, z3.2.2.2.2, ()) [(1 : Int), (2 : Int), (3 : Int), (20 : Int), (21 : Int)]).bind fun y5 => (some (((3 : Int), y5.1, ()), (y5.2.1, y5.2.2.1, y5.2.2.2.1, ())))) (cond (decide (z3.1 = (5 : Int))) ((slCo (z3.2.2.1, z3.2.2.2.1, z3.2.2.2.2, ()) (3 : Int)).bind fun y6 => (cond y6.1 ((some (((4 : Int), (0 : Int), ()), (y6.2.1, y6.2.2.1, y6.2.2.2.1, ())))) ((slCo (y6.2.1, y6.2.2.1, y6.2.2.2.1, ()) (20 : Int)).bind fun y7 => (cond y7.1 ((slCa (y7.2.1, y7.2.2.1, y7.2.2.2.1, ()) [(0 : Int), (8 : Int), (2 : Int)]).bind fun y8 => ((slCa (y8.2.1, y8.2.2.1, y8.2.2.2.1, ()) [((-1) : Int), (2 : Int), (0 : Int)]).bind fun y9 => (some ((y8.1, y9.1, ()), (y9.2.1, y9.2.2.1, y9.2.2.2.1, ()))))) ((slCp (y7.2.1, y7.2.2.1, y7.2.2.2.1, ()) (2 : Int)).bind fun y10 => (some (((5 : Int), y10.1, ()), (y10.2.1, y10.2.2.1, y10.2.2.2.1, ())))))))) (cond (decide (z3.1 = (6 : Int))) ((slCp (z3.2.2.1, z3.2.2.2.1, z3.2.2.2.2, ()) (2 : Int)).bind fun y11 => (some (((6 : Int), y11.1, ()), (y11.2.1, y11.2.2.1, y11.2.2.2.1, ())))) (cond (decide (z3.1 = (7 : Int))) ((slCp (z3.2.2.1, z3.2.2.2.1, z3.2.2.2.2, ()) (2 : Int)).bind fun y12 => (some (((7 : Int), y12.1, ()), (y12.2.1, y12.2.2.1, y12.2.2.2.1, ())))) (cond (decide (z3.1 = (8 : Int))) ((slCp (z3.2.2.1, z3.2.2.2.1, z3.2.2.2.2, ()) (2 : Int)).bind fun y13 => (some (((7 : Int), y13.1, ()), (y13.2.1, y13.2.2.1, y13.2.2.2.1, ())))) ((slCo (z3.2.2.1, z3.2.2.2.1, z3.2.2.2.2, ()) (20 : Int)).bind fun y14 => (cond y14.1 ((slCa (y14.2.1, y14.2.2.1, y14.2.2.2.1, ()) [(0 : Int), (8 : Int), (2 : Int)]).bind fun y15 => ((slCa (y15.2.1, y15.2.2.1, y15.2.2.2.1, ()) [((-1) : Int), (2 : Int), (0 : Int)]).bind fun y16 => (some ((y15.1, y16.1, ()), (y16.2.1, y16.2.2.1, y16.2.2.2.1, ()))))) ((slCp (y14.2.1, y14.2.2.1, y14.2.2.2.1, ()) (2 : Int)).bind fun y17 => (some (((5 : Int), y17.1, ()), (y17.2.1, y17.2.2.1, y17.2.2.2.1, ())))))))))))))))
def slCr.res (_ : l1Cur) (_ : Int) (_ : (List Slot)) (_ : Int) (_ : Int) (_ : Int) (y : RS1 × l1Cur) : AV := (.agg [(.v (.int .i64 y.1.1)), (.v (.int .i64 y.1.2.1))])
def slCr.out (_ : l1Cur) (_ : Int) (_ : (List Slot)) (_ : Int) (_ : Int) (_ : Int) (y : RS1 × l1Cur) : List (Option LB) := [some (.box 90 [(.tree (.int .u8) y.2.1), (.v (.int .i64 y.2.2.1)), (.v (.int .u64 y.2.2.2.1))])]
def slCr.S (ar : List AV) (h : List (Option LB)) (r : AV) (h1 : List (Option LB)) : Prop := ∃ a0 a100 a101 a102 a103 a104 y, slCr a0 a100 a101 a102 a103 a104 = some y ∧ leL ar [(.loc 0 0 0), (.agg [(.v (.int .i64 a100)), (.tree tS a101), (.v (.int .i64 a102)), (.v (.int .i64 a103)), (.v (.int .i64 a104))])] ∧ leH h [some (.box 90 [(.tree (.int .u8) a0.1), (.v (.int .i64 a0.2.1)), (.v (.int .u64 a0.2.2.1))])] ∧ r = slCr.res a0 a100 a101 a102 a103 a104 y ∧ h1 = slCr.out a0 a100 a101 a102 a103 a104 y
theorem slCr.call {ar h a0 a100 a101 a102 a103 a104 y} (H : slCr a0 a100 a101 a102 a103 a104 = some y) (h0 : leLk ar [(.loc 0 0 0), (.agg [(.v (.int .i64 a100)), (.tree tS a101), (.v (.int .i64 a102)), (.v (.int .i64 a103)), (.v (.int .i64 a104))])] (leHk h [some (.box 90 [(.tree (.int .u8) a0.1), (.v (.int .i64 a0.2.1)), (.v (.int .u64 a0.2.2.1))])])) : slCr.S ar h (slCr.res a0 a100 a101 a102 a103 a104 y) (slCr.out a0 a100 a101 a102 a103 a104 y) := ⟨a0, a100, a101, a102, a103, a104, y, H, (ao h0).1, (ao h0).2, rfl, rfl⟩
set_option maxHeartbeats 100000000 in
set_option maxRecDepth 100000 in
theorem slCr.spec (a0 a100 a101 a102 a103 a104 y) (H : slCr a0 a100 a101 a102 a103 a104 = some y) : Spec Tryz.prog 99 [(.loc 0 0 0), (.agg [(.v (.int .i64 a100)), (.tree tS a101), (.v (.int .i64 a102)), (.v (.int .i64 a103)), (.v (.int .i64 a104))])] [some (.box 90 [(.tree (.int .u8) a0.1), (.v (.int .i64 a0.2.1)), (.v (.int .u64 a0.2.2.1))])] (slCr.res a0 a100 a101 a102 a103 a104 y) (slCr.out a0 a100 a101 a102 a103 a104 y) := by
 refine si (G140_ok.at tok []) (ct := [(7, none), (8, some [4, 31]), (21, some [0, 4, 57])]) Tryz.func99 rfl (by kernel_rfl) (by kernel_rfl) rfl ?_
 repeat' first
  | ((with_reducible refine eqg ?_); exact rfl)
  | ((with_reducible refine KOb.mk ?_); kernel_rfl)
  | ((with_reducible intro h); (repeat first | replace H := grd_k H | replace H := os1 H ‹_›); first | replace H := ct1 h H | replace H := cf1 h H | exact absurd h (by decide) | skip)
  | ((with_reducible refine Ob.mk ?_); first | (with_reducible rfl) | (first | ((repeat (first | (with_reducible exact grd_p H) | replace H := grd_k H | replace H := os1 H ‹_›)); done) | rfl | ((repeat (first | exact grd_p H | (have hp := grd_p H; exact hp) | replace H := grd_k H | replace H := os1 H ‹_› | (replace H := bind_some H; obtain ⟨_, _, H⟩ := H))); done) | (repeat (first | exact grd_p H | replace H := grd_k H | replace H := os1 H ‹_›))))
  | (with_reducible exact True.intro)
  | ((conv => whnf); first
      | (with_reducible refine And.intro ?_ ?_)
      | (with_reducible exact True.intro)
      | (with_reducible refine (?_ : Ob _))
      | ((with_reducible refine CallW.mk ?_); (repeat first | replace H := grd_k H | replace H := os1 H ‹_›); replace H := bind_some H; obtain ⟨y, hy, H⟩ := H; first | ((with_reducible have hz : slCp _ _ = some y := hy); clear hz; refine ⟨_, _, slCp.call hy ?_, rfl, rfl, ?_⟩) | ((with_reducible have hz : slCa _ _ = some y := hy); clear hz; refine ⟨_, _, slCa.call hy ?_, rfl, rfl, ?_⟩) | ((with_reducible have hz : slO _ = some y := hy); clear hz; refine ⟨_, _, slO.call hy ?_, rfl, rfl, ?_⟩) | ((with_reducible have hz : slCo _ _ = some y := hy); clear hz; refine ⟨_, _, slCo.call hy ?_, rfl, rfl, ?_⟩))
      | ((with_reducible refine cutAt (id := 7) ?_); (repeat first | replace H := grd_k H | replace H := os1 H ‹_›); first | (replace H := bind_some H; obtain ⟨z, hz, H⟩ := H; refine CutC.mk (id := 7) ⟨sl [(0, (.loc 0 0 0)), (3, (.loc 1 0 0)), (4, (.loc 2 0 0)), (6, (.v (.int .i64 z.1))), (13, (.bl z.2.1))], [some (.box 90 [(.tree (.int .u8) z.2.2.1), (.v (.int .i64 z.2.2.2.1)), (.v (.int .u64 z.2.2.2.2))]), some (.box 38 [(.v (.int .i64 a100)), (.tree tS a101), (.v (.int .i64 a102)), (.v (.int .i64 a103)), (.v (.int .i64 a104))]), some (.box 120 [(.v (.int .i64 (0 : Int))), (.v (.int .i64 (0 : Int)))])]⟩ ?_ ?_; (replace H := hz)))
      | ((repeat first | replace H := grd_k H | replace H := os1 H ‹_›); have H := Option.some.inj H; subst H; with_reducible refine sa ?_)
      | ((with_reducible refine fm ?_); (repeat first | replace H := grd_k H | replace H := os1 H ‹_›); have H := Option.some.inj H; subst H))
  | constructor
def G141 : Env := G140.addOr 99 [true, true] slCr.S
theorem Go1 : EnvOk Tryz.prog G141 := G140_ok.addOr ent_99 fun ar h r h1 ⟨a0, a100, a101, a102, a103, a104, y, hy, e1, e2, e3, e4⟩ => by
 subst e3 e4; exact (slCr.spec a0 a100 a101 a102 a103 a104 y hy).le e1 e2
attribute [local irreducible] slCr

end Go.Proofs.YtaobinhdnklojaaGreatDoor
namespace Go.Proofs.YtaobinhdnklojaaGreatDoor
open Go.RowKit
attribute [local irreducible] Ob l5 Sub Spec Fin Again CallW CutC KOb iter

attribute [local irreducible] slNf sSR sIFi sIFi1 sCFi sCiS icRi sNR iECi lmSS slCp slCa slCo slCr2 slCr

noncomputable def slCr3  (v20 : Int) (v21 : (List Int)) (v22 : Int) (v23 : Int) (v24 : Int) (v25 : Int) (v26 : Int) (v27 : Int) (v28 : (List Slot)) : Option (Lp (Int × (List Int) × Int × Int × Int × Int × Int × Int × (List Slot)) (((List Int) × Int × Int × Int × Int × Int × Int × (List Slot)))) :=
 (cond (decide ((0 : Int) < v20)) ((slCr2 (v21, v22, v23, ()) (v24, v28, v25, v26, v27, ())).bind fun y29 => ((sSR (v24, y29.2.2, v25, v26, v27, ()) (y29.1.1, y29.1.2.1, ())).bind (Sum.elim (fun _ => (some (.go ((w64 (v20 - (1 : Int))), y29.2.1.1, y29.2.1.2.1, y29.2.1.2.2.1, v24, v25, v26, v27, y29.2.2)))) (fun y32 => (some (.go ((w64 (v20 - (1 : Int))), y29.2.1.1, y29.2.1.2.1, y29.2.1.2.2.1, y32.1, y32.2.2.1, y32.2.2.2.1, y32.2.2.2.2.1, y32.2.1))))))) ((some (.out (v21, v22, v23, v24, v25, v26, v27, v28)))))
noncomputable def slCr1 (a0 : l1Cur) : Option ((R1 × l1Cur) ⊕ (R1 × l1Cur)) :=
 ((slCa (a0.1, a0.2.1, a0.2.2.1, ()) [(4 : Int), (4 : Int), (6 : Int), (8 : Int), (10 : Int)]).bind fun y1 => ((slCa (y1.2.1, y1.2.2.1, y1.2.2.2.1, ()) [(0 : Int), (3 : Int), (10 : Int), (500 : Int)]).bind fun y2 => ((sNR y1.1 y2.1).bind (Sum.elim (fun y4 => (some (Sum.inl ((y4.1, [], y4.2.2.1, y4.2.2.2.1, y4.2.2.2.2.1, ()), (y2.2.1, y2.2.2.1, y2.2.2.2.1, ()))))) (fun y5 => (((slCp (y2.2.1, y2.2.2.1, y2.2.2.2.1, ()) (30 : Int)).bind fun y6 => ((iter (fun s => slCr3 s.1 s.2.1 s.2.2.1 s.2.2.2.1 s.2.2.2.2.1 s.2.2.2.2.2.1 s.2.2.2.2.2.2.1 s.2.2.2.2.2.2.2.1 s.2.2.2.2.2.2.2.2) (y6.1, y6.2.1, y6.2.2.1, y6.2.2.2.1, y5.1, y5.2.2.1, y5.2.2.2.1, y5.2.2.2.2.1, y5.2.1)).bind (fun r33 => (some ((Tg.mk : Tg 1), r33.1, r33.2.1, r33.2.2.1, r33.2.2.2.1, r33.2.2.2.2.1, r33.2.2.2.2.2.1, r33.2.2.2.2.2.2.1, r33.2.2.2.2.2.2.2))))).bind fun z34 => ((slCp (z34.2.1, z34.2.2.1, z34.2.2.2.1, ()) (32 : Int)).bind fun y35 => (cond (decide (y35.1 = (0 : Int))) ((slCa (y35.2.1, y35.2.2.1, y35.2.2.2.1, ()) [((-1) : Int), (4 : Int), (2 : Int)]).bind fun y36 => (some (Sum.inr ((y36.1, z34.2.2.2.2.2.2.2.2, z34.2.2.2.2.2.1, z34.2.2.2.2.2.2.1, z34.2.2.2.2.2.2.2.1, ()), (y36.2.1, y36.2.2.1, y36.2.2.2.1, ()))))) (cond (decide (y35.1 = (1 : Int))) ((slCp (y35.2.1, y35.2.2.1, y35.2.2.2.1, ()) (z34.2.2.2.2.2.2.2.2.length : Int)).bind fun y37 => ((slCa (y37.2.1, y37.2.2.1, y37.2.2.2.1, ()) [(0 : Int), (1 : Int), (21 : Int)]).bind fun y38 => ((slCo (y38.2.1, y38.2.2.1, y38.2.2.2.1, ()) (2 : Int)).bind fun y39 => ((slCa (y39.2.1, y39.2.2.1, y39.2.2.2.1, ()) [(0 : Int), (3 : Int), (9 : Int)]).bind fun y40 => (grd (0 ≤ y37.1 ∧ y37.1 < (z34.2.2.2.2.2.2.2.2.length : Int)) ((some (Sum.inr ((z34.2.2.2.2.1, (z34.2.2.2.2.2.2.2.2.set y37.1.toNat (y38.1, y39.1, y40.1, ())), z34.2.2.2.2.2.1, z34.2.2.2.2.2.2.1, z34.2.2.2.2.2.2.2.1, ()), (y40.2.1, y40.2.2.1, y40.2.2.2.1, ())))))))))) (cond (decide (y35.1 = (2 : Int))) ((slCa (y35.2.1, y35.2.2.1, y35.2.2.2.1, ()) [((-1) : Int), (501 : Int), (5 : Int)]).bind fun y41 => (some (Sum.inr ((z34.2.2.2.2.1, z34.2.2.2.2.2.2.2.2, z34.2.2.2.2.2.1, y41.1, z34.2.2.2.2.2.2.2.1, ()), (y41.2.1, y41.2.2.1, y41.2.2.2.1, ()))))) (cond (decide (y35.1 = (3 : Int))) (grd (z34.2.2.2.2.2.2.2.2.length + [((0 : Int), false, (0 : Int), ())].length ≤ 140737488355328 / 24 ∧ z34.2.2.2.2.2.2.2.2.length + [((0 : Int), false, (0 : Int), ())].length ≤ 140737488355328) ((some (Sum.inr ((z34.2.2.2.2.1, (z34.2.2.2.2.2.2.2.2 ++ [((0 : Int), false, (0 : Int), ())]), z34.2.2.2.2.2.1, z34.2.2.2.2.2.2.1, z34.2.2.2.2.2.2.2.1, ()), (y35.2.1, y35.2.2.1, y35.2.2.2.1, ())))))) ((some (Sum.inr ((z34.2.2.2.2.1, z34.2.2.2.2.2.2.2.2, z34.2.2.2.2.2.1, z34.2.2.2.2.2.2.1, z34.2.2.2.2.2.2.2.1, ()), (y35.2.1, y35.2.2.1, y35.2.2.2.1, ()))))))))))))))))
def slCr1.res (_ : l1Cur) (y : (R1 × l1Cur) ⊕ (R1 × l1Cur)) : AV := match y with
 | (.inl y) => (.agg [(.v (.int .i64 y.1.1)), (.v (.slice none 0 0)), (.v (.int .i64 y.1.2.2.1)), (.v (.int .i64 y.1.2.2.2.1)), (.v (.int .i64 y.1.2.2.2.2.1))])
 | (.inr y) => (.agg [(.v (.int .i64 y.1.1)), (.own 1), (.v (.int .i64 y.1.2.2.1)), (.v (.int .i64 y.1.2.2.2.1)), (.v (.int .i64 y.1.2.2.2.2.1))])
def slCr1.out (_ : l1Cur) (y : (R1 × l1Cur) ⊕ (R1 × l1Cur)) : List (Option LB) := match y with
 | (.inl y) => [some (.box 90 [(.tree (.int .u8) y.2.1), (.v (.int .i64 y.2.2.1)), (.v (.int .u64 y.2.2.2.1))])]
 | (.inr y) => [some (.box 90 [(.tree (.int .u8) y.2.1), (.v (.int .i64 y.2.2.1)), (.v (.int .u64 y.2.2.2.1))]), some (.arr 96 tS y.1.2.1)]
def slCr1.S (ar : List AV) (h : List (Option LB)) (r : AV) (h1 : List (Option LB)) : Prop := ∃ a0 y, slCr1 a0 = some y ∧ leL ar [(.loc 0 0 0)] ∧ leH h [some (.box 90 [(.tree (.int .u8) a0.1), (.v (.int .i64 a0.2.1)), (.v (.int .u64 a0.2.2.1))])] ∧ r = slCr1.res a0 y ∧ h1 = slCr1.out a0 y
theorem slCr1.call {ar h a0 y} (H : slCr1 a0 = some y) (h0 : leLk ar [(.loc 0 0 0)] (leHk h [some (.box 90 [(.tree (.int .u8) a0.1), (.v (.int .i64 a0.2.1)), (.v (.int .u64 a0.2.2.1))])])) : slCr1.S ar h (slCr1.res a0 y) (slCr1.out a0 y) := ⟨a0, y, H, (ao h0).1, (ao h0).2, rfl, rfl⟩
set_option maxHeartbeats 100000000 in
set_option maxRecDepth 100000 in
noncomputable def slCr1.cut (a0 : l1Cur) (y : (R1 × l1Cur) ⊕ (R1 × l1Cur)) (H : slCr1 a0 = some y) : PSigma fun T : Prop => (T → Spec Tryz.prog 97 [(.loc 0 0 0)] [some (.box 90 [(.tree (.int .u8) a0.1), (.v (.int .i64 a0.2.1)), (.v (.int .u64 a0.2.2.1))])] (slCr1.res a0 y) (slCr1.out a0 y)) := by
 apply PSigma.mk
 intro hT
 have hlen : Nat.ble ([some (.box 90 [(.tree (.int .u8) a0.1), (.v (.int .i64 a0.2.1)), (.v (.int .u64 a0.2.2.1))])] : List (Option LB)).length (slCr1.out a0 y).length = true := by
  rcases y with y | y <;> rfl
 refine si (Go1.at tok []) (ct := [(10, none), (3, some [0, 2, 3, 19]), (6, some [0, 2, 3, 5]), (19, some [2, 3])]) Tryz.func97 rfl (by kernel_rfl) (by kernel_rfl) hlen ?_
 repeat' first
  | ((with_reducible refine eqg ?_); exact rfl)
  | ((with_reducible refine KOb.mk ?_); kernel_rfl)
  | ((with_reducible intro h); (repeat first | replace H := grd_k H | replace H := os1 H ‹_›); first | replace H := ct1 h H | replace H := cf1 h H | exact absurd h (by decide) | skip)
  | ((with_reducible refine Ob.mk ?_); first | (with_reducible rfl) | (first | ((repeat (first | (with_reducible exact grd_p H) | replace H := grd_k H | replace H := os1 H ‹_›)); done) | rfl | ((repeat (first | exact grd_p H | (have hp := grd_p H; exact hp) | replace H := grd_k H | replace H := os1 H ‹_› | (replace H := bind_some H; obtain ⟨_, _, H⟩ := H))); done) | (repeat (first | exact grd_p H | replace H := grd_k H | replace H := os1 H ‹_›))))
  | (with_reducible exact True.intro)
  | ((conv => whnf); first
      | (with_reducible refine And.intro ?_ ?_)
      | (with_reducible exact True.intro)
      | (with_reducible refine (?_ : Ob _))
      | ((with_reducible refine CallW.mk ?_); (repeat first | replace H := grd_k H | replace H := os1 H ‹_›); replace H := bind_some H; obtain ⟨y, hy, H⟩ := H; first | ((with_reducible have hz : slCa _ _ = some y := hy); clear hz; refine ⟨_, _, slCa.call hy ?_, rfl, rfl, ?_⟩) | ((with_reducible have hz : sNR _ _ = some y := hy); clear hz; rcases y with y | y <;> refine ⟨_, _, sNR.call hy ?_, rfl, rfl, ?_⟩) | ((with_reducible have hz : slCp _ _ = some y := hy); clear hz; refine ⟨_, _, slCp.call hy ?_, rfl, rfl, ?_⟩) | ((with_reducible have hz : slCr2 _ _ = some y := hy); clear hz; refine Exists.intro _ (Exists.intro _ ⟨Or.inr (slCr2.call hy ?_), rfl, rfl, ?_⟩)) | ((with_reducible have hz : sSR _ _ = some y := hy); clear hz; rcases y with y | y <;> refine ⟨_, _, sSR.call hy ?_, rfl, rfl, ?_⟩) | ((with_reducible have hz : slCo _ _ = some y := hy); clear hz; refine ⟨_, _, slCo.call hy ?_, rfl, rfl, ?_⟩))
      | ((repeat first | replace H := grd_k H | replace H := os1 H ‹_›); refine li1 (Go1.at tok []) (ct := [(10, none), (3, some [0, 2, 3, 19]), (6, some [0, 2, 3, 5]), (19, some [2, 3])]) (F := (fun s1 : Int × (List Int) × Int × Int × Int × Int × Int × Int × (List Slot) => ⟨sl [(0, (.loc 0 0 0)), (2, (.loc 1 0 0)), (3, (.loc 2 0 0)), (5, (.v (.int .i64 s1.1)))], [some (.box 90 [(.tree (.int .u8) s1.2.1), (.v (.int .i64 s1.2.2.1)), (.v (.int .u64 s1.2.2.2.1))]), some (.box 38 [(.v (.int .i64 (0 : Int))), (.v (.slice none 0 0)), (.v (.int .i64 (0 : Int))), (.v (.int .i64 (0 : Int))), (.v (.int .i64 (0 : Int)))]), some (.box 38 [(.v (.int .i64 s1.2.2.2.2.1)), (.own 3), (.v (.int .i64 s1.2.2.2.2.2.1)), (.v (.int .i64 s1.2.2.2.2.2.2.1)), (.v (.int .i64 s1.2.2.2.2.2.2.2.1))]), some (.arr 96 tS s1.2.2.2.2.2.2.2.2)]⟩)) (step := (fun s : Int × (List Int) × Int × Int × Int × Int × Int × Int × (List Slot) => slCr3 s.1 s.2.1 s.2.2.1 s.2.2.2.1 s.2.2.2.2.1 s.2.2.2.2.2.1 s.2.2.2.2.2.2.1 s.2.2.2.2.2.2.2.1 s.2.2.2.2.2.2.2.2)) _ H (by kernel_rfl) (sa ?_) ?_; rotate_left; (intro s1 r v hr H); rotate_right)
      | ((with_reducible refine cutAt (id := 10) ?_); (repeat first | replace H := grd_k H | replace H := os1 H ‹_›); first | (replace H := bind_some H; obtain ⟨z, hz, H⟩ := H; have hT : Tg 1 × (List Int) × Int × Int × Int × Int × Int × Int × (List Slot) := z; clear hT; refine CutC.mk (id := 10) ⟨sl [(0, (.loc 0 0 0)), (2, (.loc 1 0 0)), (3, (.loc 2 0 0))], [some (.box 90 [(.tree (.int .u8) z.2.1), (.v (.int .i64 z.2.2.1)), (.v (.int .u64 z.2.2.2.1))]), some (.box 38 [(.v (.int .i64 (0 : Int))), (.v (.slice none 0 0)), (.v (.int .i64 (0 : Int))), (.v (.int .i64 (0 : Int))), (.v (.int .i64 (0 : Int)))]), some (.box 38 [(.v (.int .i64 z.2.2.2.2.1)), (.own 3), (.v (.int .i64 z.2.2.2.2.2.1)), (.v (.int .i64 z.2.2.2.2.2.2.1)), (.v (.int .i64 z.2.2.2.2.2.2.2.1))]), some (.arr 96 tS z.2.2.2.2.2.2.2.2)]⟩ ?_ ?_; rotate_left; (clear hz; revert z H; exact hT); (replace H := hz)))
      | ((repeat first | replace H := grd_k H | replace H := os1 H ‹_›); have H := Option.some.inj H; subst H; with_reducible refine sa ?_)
      | ((repeat first | replace H := grd_k H | replace H := os1 H ‹_›); refine as1 H (by assumption) (sa ?_))
      | ((with_reducible refine fm ?_); (repeat first | replace H := grd_k H | replace H := os1 H ‹_›); have H := Option.some.inj H; subst H))
  | constructor

end Go.Proofs.YtaobinhdnklojaaGreatDoor
namespace Go.Proofs.YtaobinhdnklojaaGreatDoor
open Go.RowKit
attribute [local irreducible] Ob l5 Sub Spec Fin Again CallW CutC KOb iter
attribute [local irreducible] slNf sSR sIFi sIFi1 sCFi sCiS icRi sNR iECi lmSS slCp slCa slCo slCr2 slCr
theorem allR0 {p : Nat × Oper → Prop} {l : List (Nat × Oper)} (h : allR p l) : allR p l := h
theorem allR1 {p : Nat × Oper → Prop} {x : Nat × Oper} {l : List (Nat × Oper)} (h1 : p x) (h2 : allR p l) : allR p (x :: l) := ⟨h1, h2⟩
set_option maxHeartbeats 100000000 in
set_option maxRecDepth 100000 in
theorem slCr1.tail (a0 : l1Cur) (y : (R1 × l1Cur) ⊕ (R1 × l1Cur)) (H0 : slCr1 a0 = some y) : (slCr1.cut a0 y H0).1 := by
 conv => whnf
 intro z H
 repeat' first
  | (((with_reducible refine allR0 ?_); refine allR1 ?_ ?_) <;> (as_aux_lemma =>
      repeat' first
       | (((with_reducible refine allR0 ?_); refine allR1 ?_ ?_) <;> (as_aux_lemma =>
           repeat' first
            | ((with_reducible refine eqg ?_); exact rfl)
            | ((with_reducible refine KOb.mk ?_); kernel_rfl)
            | ((with_reducible intro h); (repeat first | replace H := grd_k H | replace H := os1 H ‹_›); first | replace H := ct1 h H | replace H := cf1 h H | exact absurd h (by decide) | skip)
            | ((with_reducible refine Ob.mk ?_); first | (with_reducible rfl) | (first | ((repeat (first | (with_reducible exact grd_p H) | replace H := grd_k H | replace H := os1 H ‹_›)); done) | rfl | ((repeat (first | exact grd_p H | (have hp := grd_p H; exact hp) | replace H := grd_k H | replace H := os1 H ‹_› | (replace H := bind_some H; obtain ⟨_, _, H⟩ := H))); done) | (repeat (first | exact grd_p H | replace H := grd_k H | replace H := os1 H ‹_›))))
            | (with_reducible exact True.intro)
            | ((conv => whnf); first
                | (with_reducible refine And.intro ?_ ?_)
                | (with_reducible exact True.intro)
                | ((with_reducible refine Ob.mk ?_); first | (with_reducible rfl) | (first | ((repeat (first | (with_reducible exact grd_p H) | replace H := grd_k H | replace H := os1 H ‹_›)); done) | rfl | ((repeat (first | exact grd_p H | (have hp := grd_p H; exact hp) | replace H := grd_k H | replace H := os1 H ‹_› | (replace H := bind_some H; obtain ⟨_, _, H⟩ := H))); done) | (repeat (first | exact grd_p H | replace H := grd_k H | replace H := os1 H ‹_›))))
                | ((with_reducible refine CallW.mk ?_); (repeat first | replace H := grd_k H | replace H := os1 H ‹_›); replace H := bind_some H; obtain ⟨y, hy, H⟩ := H; first | ((with_reducible have hz : slCa _ _ = some y := hy); clear hz; refine ⟨_, _, slCa.call hy ?_, rfl, rfl, ?_⟩) | ((with_reducible have hz : sNR _ _ = some y := hy); clear hz; rcases y with y | y <;> refine ⟨_, _, sNR.call hy ?_, rfl, rfl, ?_⟩) | ((with_reducible have hz : slCp _ _ = some y := hy); clear hz; refine ⟨_, _, slCp.call hy ?_, rfl, rfl, ?_⟩) | ((with_reducible have hz : slCr2 _ _ = some y := hy); clear hz; refine Exists.intro _ (Exists.intro _ ⟨Or.inr (slCr2.call hy ?_), rfl, rfl, ?_⟩)) | ((with_reducible have hz : sSR _ _ = some y := hy); clear hz; rcases y with y | y <;> refine ⟨_, _, sSR.call hy ?_, rfl, rfl, ?_⟩) | ((with_reducible have hz : slCo _ _ = some y := hy); clear hz; refine ⟨_, _, slCo.call hy ?_, rfl, rfl, ?_⟩))
                | ((repeat first | replace H := grd_k H | replace H := os1 H ‹_›); refine li1 (Go1.at tok []) (ct := [(10, none), (3, some [0, 2, 3, 19]), (6, some [0, 2, 3, 5]), (19, some [2, 3])]) (F := (fun s1 : Int × (List Int) × Int × Int × Int × Int × Int × Int × (List Slot) => ⟨sl [(0, (.loc 0 0 0)), (2, (.loc 1 0 0)), (3, (.loc 2 0 0)), (5, (.v (.int .i64 s1.1)))], [some (.box 90 [(.tree (.int .u8) s1.2.1), (.v (.int .i64 s1.2.2.1)), (.v (.int .u64 s1.2.2.2.1))]), some (.box 38 [(.v (.int .i64 (0 : Int))), (.v (.slice none 0 0)), (.v (.int .i64 (0 : Int))), (.v (.int .i64 (0 : Int))), (.v (.int .i64 (0 : Int)))]), some (.box 38 [(.v (.int .i64 s1.2.2.2.2.1)), (.own 3), (.v (.int .i64 s1.2.2.2.2.2.1)), (.v (.int .i64 s1.2.2.2.2.2.2.1)), (.v (.int .i64 s1.2.2.2.2.2.2.2.1))]), some (.arr 96 tS s1.2.2.2.2.2.2.2.2)]⟩)) (step := (fun s : Int × (List Int) × Int × Int × Int × Int × Int × Int × (List Slot) => slCr3 s.1 s.2.1 s.2.2.1 s.2.2.2.1 s.2.2.2.2.1 s.2.2.2.2.2.1 s.2.2.2.2.2.2.1 s.2.2.2.2.2.2.2.1 s.2.2.2.2.2.2.2.2)) _ H (by kernel_rfl) (sa ?_) ?_; rotate_left; (intro s1 r v hr H); rotate_right)
                | ((with_reducible refine cutAt (id := 10) ?_); (repeat first | replace H := grd_k H | replace H := os1 H ‹_›); first | (replace H := bind_some H; obtain ⟨z, hz, H⟩ := H; have hT : Tg 1 × (List Int) × Int × Int × Int × Int × Int × Int × (List Slot) := z; clear hT; refine CutC.mk (id := 10) ⟨sl [(0, (.loc 0 0 0)), (2, (.loc 1 0 0)), (3, (.loc 2 0 0))], [some (.box 90 [(.tree (.int .u8) z.2.1), (.v (.int .i64 z.2.2.1)), (.v (.int .u64 z.2.2.2.1))]), some (.box 38 [(.v (.int .i64 (0 : Int))), (.v (.slice none 0 0)), (.v (.int .i64 (0 : Int))), (.v (.int .i64 (0 : Int))), (.v (.int .i64 (0 : Int)))]), some (.box 38 [(.v (.int .i64 z.2.2.2.2.1)), (.own 3), (.v (.int .i64 z.2.2.2.2.2.1)), (.v (.int .i64 z.2.2.2.2.2.2.1)), (.v (.int .i64 z.2.2.2.2.2.2.2.1))]), some (.arr 96 tS z.2.2.2.2.2.2.2.2)]⟩ ?_ ?_; (replace H := hz)))
                | ((repeat first | replace H := grd_k H | replace H := os1 H ‹_›); have H := Option.some.inj H; subst H; with_reducible refine sa ?_)
                | ((repeat first | replace H := grd_k H | replace H := os1 H ‹_›); refine as1 H (by assumption) (sa ?_))
                | ((with_reducible refine fm ?_); (repeat first | replace H := grd_k H | replace H := os1 H ‹_›); have H := Option.some.inj H; subst H))
            | constructor
        ))
       | ((with_reducible refine eqg ?_); exact rfl)
       | ((with_reducible refine KOb.mk ?_); kernel_rfl)
       | ((with_reducible intro h); (repeat first | replace H := grd_k H | replace H := os1 H ‹_›); first | replace H := ct1 h H | replace H := cf1 h H | exact absurd h (by decide) | skip)
       | ((with_reducible refine Ob.mk ?_); first | (with_reducible rfl) | (first | ((repeat (first | (with_reducible exact grd_p H) | replace H := grd_k H | replace H := os1 H ‹_›)); done) | rfl | ((repeat (first | exact grd_p H | (have hp := grd_p H; exact hp) | replace H := grd_k H | replace H := os1 H ‹_› | (replace H := bind_some H; obtain ⟨_, _, H⟩ := H))); done) | (repeat (first | exact grd_p H | replace H := grd_k H | replace H := os1 H ‹_›))))
       | (with_reducible exact True.intro)
       | ((conv => whnf); first
           | (with_reducible refine And.intro ?_ ?_)
           | (with_reducible exact True.intro)
           | ((with_reducible refine Ob.mk ?_); first | (with_reducible rfl) | (first | ((repeat (first | (with_reducible exact grd_p H) | replace H := grd_k H | replace H := os1 H ‹_›)); done) | rfl | ((repeat (first | exact grd_p H | (have hp := grd_p H; exact hp) | replace H := grd_k H | replace H := os1 H ‹_› | (replace H := bind_some H; obtain ⟨_, _, H⟩ := H))); done) | (repeat (first | exact grd_p H | replace H := grd_k H | replace H := os1 H ‹_›))))
           | ((with_reducible refine CallW.mk ?_); (repeat first | replace H := grd_k H | replace H := os1 H ‹_›); replace H := bind_some H; obtain ⟨y, hy, H⟩ := H; first | ((with_reducible have hz : slCa _ _ = some y := hy); clear hz; refine ⟨_, _, slCa.call hy ?_, rfl, rfl, ?_⟩) | ((with_reducible have hz : sNR _ _ = some y := hy); clear hz; rcases y with y | y <;> refine ⟨_, _, sNR.call hy ?_, rfl, rfl, ?_⟩) | ((with_reducible have hz : slCp _ _ = some y := hy); clear hz; refine ⟨_, _, slCp.call hy ?_, rfl, rfl, ?_⟩) | ((with_reducible have hz : slCr2 _ _ = some y := hy); clear hz; refine Exists.intro _ (Exists.intro _ ⟨Or.inr (slCr2.call hy ?_), rfl, rfl, ?_⟩)) | ((with_reducible have hz : sSR _ _ = some y := hy); clear hz; rcases y with y | y <;> refine ⟨_, _, sSR.call hy ?_, rfl, rfl, ?_⟩) | ((with_reducible have hz : slCo _ _ = some y := hy); clear hz; refine ⟨_, _, slCo.call hy ?_, rfl, rfl, ?_⟩))
           | ((repeat first | replace H := grd_k H | replace H := os1 H ‹_›); refine li1 (Go1.at tok []) (ct := [(10, none), (3, some [0, 2, 3, 19]), (6, some [0, 2, 3, 5]), (19, some [2, 3])]) (F := (fun s1 : Int × (List Int) × Int × Int × Int × Int × Int × Int × (List Slot) => ⟨sl [(0, (.loc 0 0 0)), (2, (.loc 1 0 0)), (3, (.loc 2 0 0)), (5, (.v (.int .i64 s1.1)))], [some (.box 90 [(.tree (.int .u8) s1.2.1), (.v (.int .i64 s1.2.2.1)), (.v (.int .u64 s1.2.2.2.1))]), some (.box 38 [(.v (.int .i64 (0 : Int))), (.v (.slice none 0 0)), (.v (.int .i64 (0 : Int))), (.v (.int .i64 (0 : Int))), (.v (.int .i64 (0 : Int)))]), some (.box 38 [(.v (.int .i64 s1.2.2.2.2.1)), (.own 3), (.v (.int .i64 s1.2.2.2.2.2.1)), (.v (.int .i64 s1.2.2.2.2.2.2.1)), (.v (.int .i64 s1.2.2.2.2.2.2.2.1))]), some (.arr 96 tS s1.2.2.2.2.2.2.2.2)]⟩)) (step := (fun s : Int × (List Int) × Int × Int × Int × Int × Int × Int × (List Slot) => slCr3 s.1 s.2.1 s.2.2.1 s.2.2.2.1 s.2.2.2.2.1 s.2.2.2.2.2.1 s.2.2.2.2.2.2.1 s.2.2.2.2.2.2.2.1 s.2.2.2.2.2.2.2.2)) _ H (by kernel_rfl) (sa ?_) ?_; rotate_left; (intro s1 r v hr H); rotate_right)
           | ((with_reducible refine cutAt (id := 10) ?_); (repeat first | replace H := grd_k H | replace H := os1 H ‹_›); first | (replace H := bind_some H; obtain ⟨z, hz, H⟩ := H; have hT : Tg 1 × (List Int) × Int × Int × Int × Int × Int × Int × (List Slot) := z; clear hT; refine CutC.mk (id := 10) ⟨sl [(0, (.loc 0 0 0)), (2, (.loc 1 0 0)), (3, (.loc 2 0 0))], [some (.box 90 [(.tree (.int .u8) z.2.1), (.v (.int .i64 z.2.2.1)), (.v (.int .u64 z.2.2.2.1))]), some (.box 38 [(.v (.int .i64 (0 : Int))), (.v (.slice none 0 0)), (.v (.int .i64 (0 : Int))), (.v (.int .i64 (0 : Int))), (.v (.int .i64 (0 : Int)))]), some (.box 38 [(.v (.int .i64 z.2.2.2.2.1)), (.own 3), (.v (.int .i64 z.2.2.2.2.2.1)), (.v (.int .i64 z.2.2.2.2.2.2.1)), (.v (.int .i64 z.2.2.2.2.2.2.2.1))]), some (.arr 96 tS z.2.2.2.2.2.2.2.2)]⟩ ?_ ?_; (replace H := hz)))
           | ((repeat first | replace H := grd_k H | replace H := os1 H ‹_›); have H := Option.some.inj H; subst H; with_reducible refine sa ?_)
           | ((repeat first | replace H := grd_k H | replace H := os1 H ‹_›); refine as1 H (by assumption) (sa ?_))
           | ((with_reducible refine fm ?_); (repeat first | replace H := grd_k H | replace H := os1 H ‹_›); have H := Option.some.inj H; subst H))
       | constructor
   ))
  | ((with_reducible refine eqg ?_); exact rfl)
  | ((with_reducible refine KOb.mk ?_); kernel_rfl)
  | ((with_reducible intro h); (repeat first | replace H := grd_k H | replace H := os1 H ‹_›); first | replace H := ct1 h H | replace H := cf1 h H | exact absurd h (by decide) | skip)
  | ((with_reducible refine Ob.mk ?_); first | (with_reducible rfl) | (first | ((repeat (first | (with_reducible exact grd_p H) | replace H := grd_k H | replace H := os1 H ‹_›)); done) | rfl | ((repeat (first | exact grd_p H | (have hp := grd_p H; exact hp) | replace H := grd_k H | replace H := os1 H ‹_› | (replace H := bind_some H; obtain ⟨_, _, H⟩ := H))); done) | (repeat (first | exact grd_p H | replace H := grd_k H | replace H := os1 H ‹_›))))
  | (with_reducible exact True.intro)
  | ((conv => whnf); first
      | (with_reducible refine And.intro ?_ ?_)
      | (with_reducible exact True.intro)
      | (with_reducible refine (?_ : Ob _))
      | ((with_reducible refine CallW.mk ?_); (repeat first | replace H := grd_k H | replace H := os1 H ‹_›); replace H := bind_some H; obtain ⟨y, hy, H⟩ := H; first | ((with_reducible have hz : slCa _ _ = some y := hy); clear hz; refine ⟨_, _, slCa.call hy ?_, rfl, rfl, ?_⟩) | ((with_reducible have hz : sNR _ _ = some y := hy); clear hz; rcases y with y | y <;> refine ⟨_, _, sNR.call hy ?_, rfl, rfl, ?_⟩) | ((with_reducible have hz : slCp _ _ = some y := hy); clear hz; refine ⟨_, _, slCp.call hy ?_, rfl, rfl, ?_⟩) | ((with_reducible have hz : slCr2 _ _ = some y := hy); clear hz; refine Exists.intro _ (Exists.intro _ ⟨Or.inr (slCr2.call hy ?_), rfl, rfl, ?_⟩)) | ((with_reducible have hz : sSR _ _ = some y := hy); clear hz; rcases y with y | y <;> refine ⟨_, _, sSR.call hy ?_, rfl, rfl, ?_⟩) | ((with_reducible have hz : slCo _ _ = some y := hy); clear hz; refine ⟨_, _, slCo.call hy ?_, rfl, rfl, ?_⟩))
      | ((repeat first | replace H := grd_k H | replace H := os1 H ‹_›); refine li1 (Go1.at tok []) (ct := [(10, none), (3, some [0, 2, 3, 19]), (6, some [0, 2, 3, 5]), (19, some [2, 3])]) (F := (fun s1 : Int × (List Int) × Int × Int × Int × Int × Int × Int × (List Slot) => ⟨sl [(0, (.loc 0 0 0)), (2, (.loc 1 0 0)), (3, (.loc 2 0 0)), (5, (.v (.int .i64 s1.1)))], [some (.box 90 [(.tree (.int .u8) s1.2.1), (.v (.int .i64 s1.2.2.1)), (.v (.int .u64 s1.2.2.2.1))]), some (.box 38 [(.v (.int .i64 (0 : Int))), (.v (.slice none 0 0)), (.v (.int .i64 (0 : Int))), (.v (.int .i64 (0 : Int))), (.v (.int .i64 (0 : Int)))]), some (.box 38 [(.v (.int .i64 s1.2.2.2.2.1)), (.own 3), (.v (.int .i64 s1.2.2.2.2.2.1)), (.v (.int .i64 s1.2.2.2.2.2.2.1)), (.v (.int .i64 s1.2.2.2.2.2.2.2.1))]), some (.arr 96 tS s1.2.2.2.2.2.2.2.2)]⟩)) (step := (fun s : Int × (List Int) × Int × Int × Int × Int × Int × Int × (List Slot) => slCr3 s.1 s.2.1 s.2.2.1 s.2.2.2.1 s.2.2.2.2.1 s.2.2.2.2.2.1 s.2.2.2.2.2.2.1 s.2.2.2.2.2.2.2.1 s.2.2.2.2.2.2.2.2)) _ H (by kernel_rfl) (sa ?_) ?_; rotate_left; (intro s1 r v hr H); rotate_right)
      | ((with_reducible refine cutAt (id := 10) ?_); (repeat first | replace H := grd_k H | replace H := os1 H ‹_›); first | (replace H := bind_some H; obtain ⟨z, hz, H⟩ := H; have hT : Tg 1 × (List Int) × Int × Int × Int × Int × Int × Int × (List Slot) := z; clear hT; refine CutC.mk (id := 10) ⟨sl [(0, (.loc 0 0 0)), (2, (.loc 1 0 0)), (3, (.loc 2 0 0))], [some (.box 90 [(.tree (.int .u8) z.2.1), (.v (.int .i64 z.2.2.1)), (.v (.int .u64 z.2.2.2.1))]), some (.box 38 [(.v (.int .i64 (0 : Int))), (.v (.slice none 0 0)), (.v (.int .i64 (0 : Int))), (.v (.int .i64 (0 : Int))), (.v (.int .i64 (0 : Int)))]), some (.box 38 [(.v (.int .i64 z.2.2.2.2.1)), (.own 3), (.v (.int .i64 z.2.2.2.2.2.1)), (.v (.int .i64 z.2.2.2.2.2.2.1)), (.v (.int .i64 z.2.2.2.2.2.2.2.1))]), some (.arr 96 tS z.2.2.2.2.2.2.2.2)]⟩ ?_ ?_; (replace H := hz)))
      | ((repeat first | replace H := grd_k H | replace H := os1 H ‹_›); have H := Option.some.inj H; subst H; with_reducible refine sa ?_)
      | ((repeat first | replace H := grd_k H | replace H := os1 H ‹_›); refine as1 H (by assumption) (sa ?_))
      | ((with_reducible refine fm ?_); (repeat first | replace H := grd_k H | replace H := os1 H ‹_›); have H := Option.some.inj H; subst H))
  | constructor
theorem slCr1.spec (a0 y) (H : slCr1 a0 = some y) : Spec Tryz.prog 97 [(.loc 0 0 0)] [some (.box 90 [(.tree (.int .u8) a0.1), (.v (.int .i64 a0.2.1)), (.v (.int .u64 a0.2.2.1))])] (slCr1.res a0 y) (slCr1.out a0 y) := (slCr1.cut a0 y H).2 (slCr1.tail a0 y H)
def G142 : Env := G141.add 97 [true] slCr1.S
theorem G142_ok : EnvOk Tryz.prog G142 := Go1.add ent_97 fun ar h r h1 ⟨a0, y, hy, e1, e2, e3, e4⟩ => by
 subst e3 e4; exact (slCr1.spec a0 y hy).le e1 e2
attribute [local irreducible] slCr1

end Go.Proofs.YtaobinhdnklojaaGreatDoor
namespace Go.Proofs.YtaobinhdnklojaaGreatDoor
open Go.RowKit
attribute [local irreducible] Ob l5 Sub Spec Fin Again CallW CutC KOb iter

attribute [local irreducible] slNf sIFi sIFi1 sCFi sCiS icRi iECi lmSS slCr

noncomputable def slM2 (a0 : Int) (a1 : Int) : Option (Int) :=
 (cond (decide (a1 < a0)) ((some a0)) ((some a1)))
def slM2.res (_ : Int) (_ : Int) (y : Int) : AV := (.v (.int .i64 y))
def slM2.out (_ : Int) (_ : Int) (_ : Int) : List (Option LB) := []
def slM2.S (ar : List AV) (h : List (Option LB)) (r : AV) (h1 : List (Option LB)) : Prop := ∃ a0 a1 y, slM2 a0 a1 = some y ∧ leL ar [(.v (.int .i64 a0)), (.v (.int .i64 a1))] ∧ leH h [] ∧ r = slM2.res a0 a1 y ∧ h1 = slM2.out a0 a1 y
theorem slM2.call {ar h a0 a1 y} (H : slM2 a0 a1 = some y) (h0 : leLk ar [(.v (.int .i64 a0)), (.v (.int .i64 a1))] (leHk h [])) : slM2.S ar h (slM2.res a0 a1 y) (slM2.out a0 a1 y) := ⟨a0, a1, y, H, (ao h0).1, (ao h0).2, rfl, rfl⟩
set_option maxHeartbeats 100000000 in
set_option maxRecDepth 100000 in
theorem slM2.spec (a0 a1 y) (H : slM2 a0 a1 = some y) : Spec Tryz.prog 100 [(.v (.int .i64 a0)), (.v (.int .i64 a1))] [] (slM2.res a0 a1 y) (slM2.out a0 a1 y) := by
 refine si (G142_ok.at tok []) (ct := []) Tryz.func100 rfl (by kernel_rfl) (by kernel_rfl) rfl ?_
 repeat' first
  | ((with_reducible refine eqg ?_); exact rfl)
  | ((with_reducible refine KOb.mk ?_); kernel_rfl)
  | ((with_reducible intro h); (repeat first | replace H := grd_k H | replace H := os1 H ‹_›); first | replace H := ct1 h H | replace H := cf1 h H | exact absurd h (by decide) | skip)
  | ((with_reducible refine Ob.mk ?_); first | (with_reducible rfl) | (first | ((repeat (first | (with_reducible exact grd_p H) | replace H := grd_k H | replace H := os1 H ‹_›)); done) | rfl | ((repeat (first | exact grd_p H | (have hp := grd_p H; exact hp) | replace H := grd_k H | replace H := os1 H ‹_› | (replace H := bind_some H; obtain ⟨_, _, H⟩ := H))); done) | (repeat (first | exact grd_p H | replace H := grd_k H | replace H := os1 H ‹_›))))
  | (with_reducible exact True.intro)
  | ((conv => whnf); first
      | (with_reducible refine And.intro ?_ ?_)
      | (with_reducible exact True.intro)
      | (with_reducible refine (?_ : Ob _))
      | ((with_reducible refine fm ?_); (repeat first | replace H := grd_k H | replace H := os1 H ‹_›); have H := Option.some.inj H; subst H))
  | constructor
def G143 : Env := G142.add 100 [] slM2.S
theorem G143_ok : EnvOk Tryz.prog G143 := G142_ok.add ent_100 fun ar h r h1 ⟨a0, a1, y, hy, e1, e2, e3, e4⟩ => by
 subst e3 e4; exact (slM2.spec a0 a1 y hy).le e1 e2
attribute [local irreducible] slM2

end Go.Proofs.YtaobinhdnklojaaGreatDoor
namespace Go.Proofs.YtaobinhdnklojaaGreatDoor
open Go.RowKit
attribute [local irreducible] Ob l5 Sub Spec Fin Again CallW CutC KOb iter

attribute [local irreducible] slNf sIFi sIFi1 sCFi sCiS icRi iECi lmSS slCr

noncomputable def slL3 (a0 : Int) (a1 : Int) : Option (Int) :=
 (cond (decide (a0 < a1)) ((some a0)) ((some a1)))
def slL3.res (_ : Int) (_ : Int) (y : Int) : AV := (.v (.int .i64 y))
def slL3.out (_ : Int) (_ : Int) (_ : Int) : List (Option LB) := []
def slL3.S (ar : List AV) (h : List (Option LB)) (r : AV) (h1 : List (Option LB)) : Prop := ∃ a0 a1 y, slL3 a0 a1 = some y ∧ leL ar [(.v (.int .i64 a0)), (.v (.int .i64 a1))] ∧ leH h [] ∧ r = slL3.res a0 a1 y ∧ h1 = slL3.out a0 a1 y
theorem slL3.call {ar h a0 a1 y} (H : slL3 a0 a1 = some y) (h0 : leLk ar [(.v (.int .i64 a0)), (.v (.int .i64 a1))] (leHk h [])) : slL3.S ar h (slL3.res a0 a1 y) (slL3.out a0 a1 y) := ⟨a0, a1, y, H, (ao h0).1, (ao h0).2, rfl, rfl⟩
set_option maxHeartbeats 100000000 in
set_option maxRecDepth 100000 in
theorem slL3.spec (a0 a1 y) (H : slL3 a0 a1 = some y) : Spec Tryz.prog 101 [(.v (.int .i64 a0)), (.v (.int .i64 a1))] [] (slL3.res a0 a1 y) (slL3.out a0 a1 y) := by
 refine si (G143_ok.at tok []) (ct := []) Tryz.func101 rfl (by kernel_rfl) (by kernel_rfl) rfl ?_
 repeat' first
  | ((with_reducible refine eqg ?_); exact rfl)
  | ((with_reducible refine KOb.mk ?_); kernel_rfl)
  | ((with_reducible intro h); (repeat first | replace H := grd_k H | replace H := os1 H ‹_›); first | replace H := ct1 h H | replace H := cf1 h H | exact absurd h (by decide) | skip)
  | ((with_reducible refine Ob.mk ?_); first | (with_reducible rfl) | (first | ((repeat (first | (with_reducible exact grd_p H) | replace H := grd_k H | replace H := os1 H ‹_›)); done) | rfl | ((repeat (first | exact grd_p H | (have hp := grd_p H; exact hp) | replace H := grd_k H | replace H := os1 H ‹_› | (replace H := bind_some H; obtain ⟨_, _, H⟩ := H))); done) | (repeat (first | exact grd_p H | replace H := grd_k H | replace H := os1 H ‹_›))))
  | (with_reducible exact True.intro)
  | ((conv => whnf); first
      | (with_reducible refine And.intro ?_ ?_)
      | (with_reducible exact True.intro)
      | (with_reducible refine (?_ : Ob _))
      | ((with_reducible refine fm ?_); (repeat first | replace H := grd_k H | replace H := os1 H ‹_›); have H := Option.some.inj H; subst H))
  | constructor
def G144 : Env := G143.add 101 [] slL3.S
theorem G144_ok : EnvOk Tryz.prog G144 := G143_ok.add ent_101 fun ar h r h1 ⟨a0, a1, y, hy, e1, e2, e3, e4⟩ => by
 subst e3 e4; exact (slL3.spec a0 a1 y hy).le e1 e2
attribute [local irreducible] slL3

end Go.Proofs.YtaobinhdnklojaaGreatDoor
