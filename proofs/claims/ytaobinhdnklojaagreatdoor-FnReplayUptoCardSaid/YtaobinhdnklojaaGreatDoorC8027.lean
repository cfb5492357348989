/-
  Contracts, printed by a program.
-/
import Derived.Test.YtaobinhdnklojaaGreatDoorE844a
namespace Go.Proofs.YtaobinhdnklojaaGreatDoor
open Go.RowKit
attribute [local irreducible] Ob l5 Sub Spec Fin Again CallW CutC KOb iter
attribute [local irreducible] slNf sSR sIFi sIFi1 sCFi sCiS icRi sNR iECi lmSS slCp slCa slCo slCr2 slCr
theorem allR0 {p : Nat × Oper → Prop} {l : List (Nat × Oper)} (h : allR p l) : allR p l := h
theorem allR1 {p : Nat × Oper → Prop} {x : Nat × Oper} {l : List (Nat × Oper)} (h1 : p x) (h2 : allR p l) : allR p (x :: l) := ⟨h1, h2⟩
set_option maxHeartbeats 100000000 in
set_option maxRecDepth 100000 in
theorem slCr1.tail (a0 : l1Cur) (y : (R1 × l1Cur) ⊕ (R1 × l1Cur)) (H0 : slCr1 a0 = some y) : (slCr1.cut a0 y H0).1 := by
 conv => whnf
 intro z H
 repeat' first
  | (((with_reducible refine allR0 ?_); refine allR1 ?_ ?_) <;> (as_aux_lemma =>
      repeat' first
       | (((with_reducible refine allR0 ?_); refine allR1 ?_ ?_) <;> (as_aux_lemma =>
           repeat' first
            | ((with_reducible refine eqg ?_); exact rfl)
            | ((with_reducible refine KOb.mk ?_); kernel_rfl)
            | ((with_reducible intro h); (repeat first | replace H := grd_k H | replace H := os1 H ‹_›); first | replace H := ct1 h H | replace H := cf1 h H | exact absurd h (by decide) | skip)
            | ((with_reducible refine Ob.mk ?_); first | (with_reducible rfl) | (first | ((repeat (first | (with_reducible exact grd_p H) | replace H := grd_k H | replace H := os1 H ‹_›)); done) | rfl | ((repeat (first | exact grd_p H | (have hp := grd_p H; exact hp) | replace H := grd_k H | replace H := os1 H ‹_› | (replace H := bind_some H; obtain ⟨_, _, H⟩ := H))); done) | (repeat (first | exact grd_p H | replace H := grd_k H | replace H := os1 H ‹_›))))
            | (with_reducible exact True.intro)
            | ((conv => whnf); first
                | (with_reducible refine And.intro ?_ ?_)
                | (with_reducible exact True.intro)
                | ((with_reducible refine Ob.mk ?_); first | (with_reducible rfl) | (first | ((repeat (first | (with_reducible exact grd_p H) | replace H := grd_k H | replace H := os1 H ‹_›)); done) | rfl | ((repeat (first | exact grd_p H | (have hp := grd_p H; exact hp) | replace H := grd_k H | replace H := os1 H ‹_› | (replace H := bind_some H; obtain ⟨_, _, H⟩ := H))); done) | (repeat (first | exact grd_p H | replace H := grd_k H | replace H := os1 H ‹_›))))
                | ((with_reducible refine CallW.mk ?_); (repeat first | replace H := grd_k H | replace H := os1 H ‹_›); replace H := bind_some H; obtain ⟨y, hy, H⟩ := H; first | ((with_reducible have hz : slCa _ _ = some y := hy); clear hz; refine ⟨_, _, slCa.call hy ?_, rfl, rfl, ?_⟩) | ((with_reducible have hz : sNR _ _ = some y := hy); clear hz; rcases y with y | y <;> refine ⟨_, _, sNR.call hy ?_, rfl, rfl, ?_⟩) | ((with_reducible have hz : slCp _ _ = some y := hy); clear hz; refine ⟨_, _, slCp.call hy ?_, rfl, rfl, ?_⟩) | ((with_reducible have hz : slCr2 _ _ = some y := hy); clear hz; refine Exists.intro _ (Exists.intro _ ⟨Or.inr (slCr2.call hy ?_), rfl, rfl, ?_⟩)) | ((with_reducible have hz : sSR _ _ = some y := hy); clear hz; rcases y with y | y <;> refine ⟨_, _, sSR.call hy ?_, rfl, rfl, ?_⟩) | ((with_reducible have hz : slCo _ _ = some y := hy); clear hz; refine ⟨_, _, slCo.call hy ?_, rfl, rfl, ?_⟩))
                | ((repeat first | replace H := grd_k H | replace H := os1 H ‹_›); refine li1 (Go1.at tok []) (ct := [(10, none), (3, some [0, 2, 3, 19]), (6, some [0, 2, 3, 5]), (19, some [2, 3])]) (F := (fun s1 : Int × (List Int) × Int × Int × Int × Int × Int × Int × (List Slot) => ⟨sl [(0, (.loc 0 0 0)), (2, (.loc 1 0 0)), (3, (.loc 2 0 0)), (5, (.v (.int .i64 s1.1)))], [some (.box 90 [(.tree (.int .u8) s1.2.1), (.v (.int .i64 s1.2.2.1)), (.v (.int .u64 s1.2.2.2.1))]), some (.box 38 [(.v (.int .i64 (0 : Int))), (.v (.slice none 0 0)), (.v (.int .i64 (0 : Int))), (.v (.int .i64 (0 : Int))), (.v (.int .i64 (0 : Int)))]), some (.box 38 [(.v (.int .i64 s1.2.2.2.2.1)), (.own 3), (.v (.int .i64 s1.2.2.2.2.2.1)), (.v (.int .i64 s1.2.2.2.2.2.2.1)), (.v (.int .i64 s1.2.2.2.2.2.2.2.1))]), some (.arr 96 tS s1.2.2.2.2.2.2.2.2)]⟩)) (step := (fun s : Int × (List Int) × Int × Int × Int × Int × Int × Int × (List Slot) => slCr3 s.1 s.2.1 s.2.2.1 s.2.2.2.1 s.2.2.2.2.1 s.2.2.2.2.2.1 s.2.2.2.2.2.2.1 s.2.2.2.2.2.2.2.1 s.2.2.2.2.2.2.2.2)) _ H (by kernel_rfl) (sa ?_) ?_; rotate_left; (intro s1 r v hr H); rotate_right)
                | ((with_reducible refine cutAt (id := 10) ?_); (repeat first | replace H := grd_k H | replace H := os1 H ‹_›); first | (replace H := bind_some H; obtain ⟨z, hz, H⟩ := H; have hT : Tg 1 × (List Int) × Int × Int × Int × Int × Int × Int × (List Slot) := z; clear hT; refine CutC.mk (id := 10) ⟨sl [(0, (.loc 0 0 0)), (2, (.loc 1 0 0)), (3, (.loc 2 0 0))], [some (.box 90 [(.tree (.int .u8) z.2.1), (.v (.int .i64 z.2.2.1)), (.v (.int .u64 z.2.2.2.1))]), some (.box 38 [(.v (.int .i64 (0 : Int))), (.v (.slice none 0 0)), (.v (.int .i64 (0 : Int))), (.v (.int .i64 (0 : Int))), (.v (.int .i64 (0 : Int)))]), some (.box 38 [(.v (.int .i64 z.2.2.2.2.1)), (.own 3), (.v (.int .i64 z.2.2.2.2.2.1)), (.v (.int .i64 z.2.2.2.2.2.2.1)), (.v (.int .i64 z.2.2.2.2.2.2.2.1))]), some (.arr 96 tS z.2.2.2.2.2.2.2.2)]⟩ ?_ ?_; (replace H := hz)))
                | ((repeat first | replace H := grd_k H | replace H := os1 H ‹_›); have H := Option.some.inj H; subst H; with_reducible refine sa ?_)
                | ((repeat first | replace H := grd_k H | replace H := os1 H ‹_›); refine as1 H (by assumption) (sa ?_))
                | ((with_reducible refine fm ?_); (repeat first | replace H := grd_k H | replace H := os1 H ‹_›); have H := Option.some.inj H; subst H))
            | constructor
        ))
       | ((with_reducible refine eqg ?_); exact rfl)
       | ((with_reducible refine KOb.mk ?_); kernel_rfl)
       | ((with_reducible intro h); (repeat first | replace H := grd_k H | replace H := os1 H ‹_›); first | replace H := ct1 h H | replace H := cf1 h H | exact absurd h (by decide) | skip)
       | ((with_reducible refine Ob.mk ?_); first | (with_reducible rfl) | (first | ((repeat (first | (with_reducible exact grd_p H) | replace H := grd_k H | replace H := os1 H ‹_›)); done) | rfl | ((repeat (first | exact grd_p H | (have hp := grd_p H; exact hp) | replace H := grd_k H | replace H := os1 H ‹_› | (replace H := bind_some H; obtain ⟨_, _, H⟩ := H))); done) | (repeat (first | exact grd_p H | replace H := grd_k H | replace H := os1 H ‹_›))))
       | (with_reducible exact True.intro)
       | ((conv => whnf); first
           | (with_reducible refine And.intro ?_ ?_)
           | (with_reducible exact True.intro)
           | ((with_reducible refine Ob.mk ?_); first | (with_reducible rfl) | (first | ((repeat (first | (with_reducible exact grd_p H) | replace H := grd_k H | replace H := os1 H ‹_›)); done) | rfl | ((repeat (first | exact grd_p H | (have hp := grd_p H; exact hp) | replace H := grd_k H | replace H := os1 H ‹_› | (replace H := bind_some H; obtain ⟨_, _, H⟩ := H))); done) | (repeat (first | exact grd_p H | replace H := grd_k H | replace H := os1 H ‹_›))))
           | ((with_reducible refine CallW.mk ?_); (repeat first | replace H := grd_k H | replace H := os1 H ‹_›); replace H := bind_some H; obtain ⟨y, hy, H⟩ := H; first | ((with_reducible have hz : slCa _ _ = some y := hy); clear hz; refine ⟨_, _, slCa.call hy ?_, rfl, rfl, ?_⟩) | ((with_reducible have hz : sNR _ _ = some y := hy); clear hz; rcases y with y | y <;> refine ⟨_, _, sNR.call hy ?_, rfl, rfl, ?_⟩) | ((with_reducible have hz : slCp _ _ = some y := hy); clear hz; refine ⟨_, _, slCp.call hy ?_, rfl, rfl, ?_⟩) | ((with_reducible have hz : slCr2 _ _ = some y := hy); clear hz; refine Exists.intro _ (Exists.intro _ ⟨Or.inr (slCr2.call hy ?_), rfl, rfl, ?_⟩)) | ((with_reducible have hz : sSR _ _ = some y := hy); clear hz; rcases y with y | y <;> refine ⟨_, _, sSR.call hy ?_, rfl, rfl, ?_⟩) | ((with_reducible have hz : slCo _ _ = some y := hy); clear hz; refine ⟨_, _, slCo.call hy ?_, rfl, rfl, ?_⟩))
           | ((repeat first | replace H := grd_k H | replace H := os1 H ‹_›); refine li1 (Go1.at tok []) (ct := [(10, none), (3, some [0, 2, 3, 19]), (6, some [0, 2, 3, 5]), (19, some [2, 3])]) (F := (fun s1 : Int × (List Int) × Int × Int × Int × Int × Int × Int × (List Slot) => ⟨sl [(0, (.loc 0 0 0)), (2, (.loc 1 0 0)), (3, (.loc 2 0 0)), (5, (.v (.int .i64 s1.1)))], [some (.box 90 [(.tree (.int .u8) s1.2.1), (.v (.int .i64 s1.2.2.1)), (.v (.int .u64 s1.2.2.2.1))]), some (.box 38 [(.v (.int .i64 (0 : Int))), (.v (.slice none 0 0)), (.v (.int .i64 (0 : Int))), (.v (.int .i64 (0 : Int))), (.v (.int .i64 (0 : Int)))]), some (.box 38 [(.v (.int .i64 s1.2.2.2.2.1)), (.own 3), (.v (.int .i64 s1.2.2.2.2.2.1)), (.v (.int .i64 s1.2.2.2.2.2.2.1)), (.v (.int .i64 s1.2.2.2.2.2.2.2.1))]), some (.arr 96 tS s1.2.2.2.2.2.2.2.2)]⟩)) (step := (fun s : Int × (List Int) × Int × Int × Int × Int × Int × Int × (List Slot) => slCr3 s.1 s.2.1 s.2.2.1 s.2.2.2.1 s.2.2.2.2.1 s.2.2.2.2.2.1 s.2.2.2.2.2.2.1 s.2.2.2.2.2.2.2.1 s.2.2.2.2.2.2.2.2)) _ H (by kernel_rfl) (sa ?_) ?_; rotate_left; (intro s1 r v hr H); rotate_right)
           | ((with_reducible refine cutAt (id := 10) ?_); (repeat first | replace H := grd_k H | replace H := os1 H ‹_›); first | (replace H := bind_some H; obtain ⟨z, hz, H⟩ := H; have hT : Tg 1 × (List Int) × Int × Int × Int × Int × Int × Int × (List Slot) := z; clear hT; refine CutC.mk (id := 10) ⟨sl [(0, (.loc 0 0 0)), (2, (.loc 1 0 0)), (3, (.loc 2 0 0))], [some (.box 90 [(.tree (.int .u8) z.2.1), (.v (.int .i64 z.2.2.1)), (.v (.int .u64 z.2.2.2.1))]), some (.box 38 [(.v (.int .i64 (0 : Int))), (.v (.slice none 0 0)), (.v (.int .i64 (0 : Int))), (.v (.int .i64 (0 : Int))), (.v (.int .i64 (0 : Int)))]), some (.box 38 [(.v (.int .i64 z.2.2.2.2.1)), (.own 3), (.v (.int .i64 z.2.2.2.2.2.1)), (.v (.int .i64 z.2.2.2.2.2.2.1)), (.v (.int .i64 z.2.2.2.2.2.2.2.1))]), some (.arr 96 tS z.2.2.2.2.2.2.2.2)]⟩ ?_ ?_; (replace H := hz)))
           | ((repeat first | replace H := grd_k H | replace H := os1 H ‹_›); have H := Option.some.inj H; subst H; with_reducible refine sa ?_)
           | ((repeat first | replace H := grd_k H | replace H := os1 H ‹_›); refine as1 H (by assumption) (sa ?_))
           | ((with_reducible refine fm ?_); (repeat first | replace H := grd_k H | replace H := os1 H ‹_›); have H := Option.some.inj H; subst H))
       | constructor
   ))
  | ((with_reducible refine eqg ?_); exact rfl)
  | ((with_reducible refine KOb.mk ?_); kernel_rfl)
  | ((with_reducible intro h); (repeat first | replace H := grd_k H | replace H := os1 H ‹_›); first | replace H := ct1 h H | replace H := cf1 h H | exact absurd h (by decide) | skip)
  | ((with_reducible refine Ob.mk ?_); first | (with_reducible rfl) | (first | ((repeat (first | (with_reducible exact grd_p H) | replace H := grd_k H | replace H := os1 H ‹_›)); done) | rfl | ((repeat (first | exact grd_p H | (have hp := grd_p H; exact hp) | replace H := grd_k H | replace H := os1 H ‹_› | (replace H := bind_some H; obtain ⟨_, _, H⟩ := H))); done) | (repeat (first | exact grd_p H | replace H := grd_k H | replace H := os1 H ‹_›))))
  | (with_reducible exact True.intro)
  | ((conv => whnf); first
      | (with_reducible refine And.intro ?_ ?_)
      | (with_reducible exact True.intro)
      | (with_reducible refine (?_ : Ob _))
      | ((with_reducible refine CallW.mk ?_); (repeat first | replace H := grd_k H | replace H := os1 H ‹_›); replace H := bind_some H; obtain ⟨y, hy, H⟩ := H; first | ((with_reducible have hz : slCa _ _ = some y := hy); clear hz; refine ⟨_, _, slCa.call hy ?_, rfl, rfl, ?_⟩) | ((with_reducible have hz : sNR _ _ = some y := hy); clear hz; rcases y with y | y <;> refine ⟨_, _, sNR.call hy ?_, rfl, rfl, ?_⟩) | ((with_reducible have hz : slCp _ _ = some y := hy); clear hz; refine ⟨_, _, slCp.call hy ?_, rfl, rfl, ?_⟩) | ((with_reducible have hz : slCr2 _ _ = some y := hy); clear hz; refine Exists.intro _ (Exists.intro _ ⟨Or.inr (slCr2.call hy ?_), rfl, rfl, ?_⟩)) | ((with_reducible have hz : sSR _ _ = some y := hy); clear hz; rcases y with y | y <;> refine ⟨_, _, sSR.call hy ?_, rfl, rfl, ?_⟩) | ((with_reducible have hz : slCo _ _ = some y := hy); clear hz; refine ⟨_, _, slCo.call hy ?_, rfl, rfl, ?_⟩))
      | ((repeat first | replace H := grd_k H | replace H := os1 H ‹_›); refine li1 (Go1.at tok []) (ct := [(10, none), (3, some [0, 2, 3, 19]), (6, some [0, 2, 3, 5]), (19, some [2, 3])]) (F := (fun s1 : Int × (List Int) × Int × Int × Int × Int × Int × Int × (List Slot) => ⟨sl [(0, (.loc 0 0 0)), (2, (.loc 1 0 0)), (3, (.loc 2 0 0)), (5, (.v (.int .i64 s1.1)))], [some (.box 90 [(.tree (.int .u8) s1.2.1), (.v (.int .i64 s1.2.2.1)), (.v (.int .u64 s1.2.2.2.1))]), some (.box 38 [(.v (.int .i64 (0 : Int))), (.v (.slice none 0 0)), (.v (.int .i64 (0 : Int))), (.v (.int .i64 (0 : Int))), (.v (.int .i64 (0 : Int)))]), some (.box 38 [(.v (.int .i64 s1.2.2.2.2.1)), (.own 3), (.v (.int .i64 s1.2.2.2.2.2.1)), (.v (.int .i64 s1.2.2.2.2.2.2.1)), (.v (.int .i64 s1.2.2.2.2.2.2.2.1))]), some (.arr 96 tS s1.2.2.2.2.2.2.2.2)]⟩)) (step := (fun s : Int × (List Int) × Int × Int × Int × Int × Int × Int × (List Slot) => slCr3 s.1 s.2.1 s.2.2.1 s.2.2.2.1 s.2.2.2.2.1 s.2.2.2.2.2.1 s.2.2.2.2.2.2.1 s.2.2.2.2.2.2.2.1 s.2.2.2.2.2.2.2.2)) _ H (by kernel_rfl) (sa ?_) ?_; rotate_left; (intro s1 r v hr H); rotate_right)
      | ((with_reducible refine cutAt (id := 10) ?_); (repeat first | replace H := grd_k H | replace H := os1 H ‹_›); first | (replace H := bind_some H; obtain ⟨z, hz, H⟩ := H; have hT : Tg 1 × (List Int) × Int × Int × Int × Int × Int × Int × (List Slot) := z; clear hT; refine CutC.mk (id := 10) ⟨sl [(0, (.loc 0 0 0)), (2, (.loc 1 0 0)), (3, (.loc 2 0 0))], [some (.box 90 [(.tree (.int .u8) z.2.1), (.v (.int .i64 z.2.2.1)), (.v (.int .u64 z.2.2.2.1))]), some (.box 38 [(.v (.int .i64 (0 : Int))), (.v (.slice none 0 0)), (.v (.int .i64 (0 : Int))), (.v (.int .i64 (0 : Int))), (.v (.int .i64 (0 : Int)))]), some (.box 38 [(.v (.int .i64 z.2.2.2.2.1)), (.own 3), (.v (.int .i64 z.2.2.2.2.2.1)), (.v (.int .i64 z.2.2.2.2.2.2.1)), (.v (.int .i64 z.2.2.2.2.2.2.2.1))]), some (.arr 96 tS z.2.2.2.2.2.2.2.2)]⟩ ?_ ?_; (replace H := hz)))
      | ((repeat first | replace H := grd_k H | replace H := os1 H ‹_›); have H := Option.some.inj H; subst H; with_reducible refine sa ?_)
      | ((repeat first | replace H := grd_k H | replace H := os1 H ‹_›); refine as1 H (by assumption) (sa ?_))
      | ((with_reducible refine fm ?_); (repeat first | replace H := grd_k H | replace H := os1 H ‹_›); have H := Option.some.inj H; subst H))
  | constructor
theorem slCr1.spec (a0 y) (H : slCr1 a0 = some y) : Spec Tryz.prog 97 [(.loc 0 0 0)] [some (.box 90 [(.tree (.int .u8) a0.1), (.v (.int .i64 a0.2.1)), (.v (.int .u64 a0.2.2.1))])] (slCr1.res a0 y) (slCr1.out a0 y) := (slCr1.cut a0 y H).2 (slCr1.tail a0 y H)
def G142 : Env := G141.add 97 [true] slCr1.S
theorem G142_ok : EnvOk Tryz.prog G142 := Go1.add ent_97 fun ar h r h1 ⟨a0, y, hy, e1, e2, e3, e4⟩ => by
 subst e3 e4; exact (slCr1.spec a0 y hy).le e1 e2
attribute [local irreducible] slCr1

end Go.Proofs.YtaobinhdnklojaaGreatDoor
namespace Go.Proofs.YtaobinhdnklojaaGreatDoor
open Go.RowKit
attribute [local irreducible] Ob l5 Sub Spec Fin Again CallW CutC KOb iter

attribute [local irreducible] slNf sIFi sIFi1 sCFi sCiS icRi iECi lmSS slCr

noncomputable def slM2 (a0 : Int) (a1 : Int) : Option (Int) :=
 (cond (decide (a1 < a0)) ((some a0)) ((some a1)))
def slM2.res (_ : Int) (_ : Int) (y : Int) : AV := (.v (.int .i64 y))
def slM2.out (_ : Int) (_ : Int) (_ : Int) : List (Option LB) := []
def slM2.S (ar : List AV) (h : List (Option LB)) (r : AV) (h1 : List (Option LB)) : Prop := ∃ a0 a1 y, slM2 a0 a1 = some y ∧ leL ar [(.v (.int .i64 a0)), (.v (.int .i64 a1))] ∧ leH h [] ∧ r = slM2.res a0 a1 y ∧ h1 = slM2.out a0 a1 y
theorem slM2.call {ar h a0 a1 y} (H : slM2 a0 a1 = some y) (h0 : leLk ar [(.v (.int .i64 a0)), (.v (.int .i64 a1))] (leHk h [])) : slM2.S ar h (slM2.res a0 a1 y) (slM2.out a0 a1 y) := ⟨a0, a1, y, H, (ao h0).1, (ao h0).2, rfl, rfl⟩
set_option maxHeartbeats 100000000 in
set_option maxRecDepth 100000 in
theorem slM2.spec (a0 a1 y) (H : slM2 a0 a1 = some y) : Spec Tryz.prog 100 [(.v (.int .i64 a0)), (.v (.int .i64 a1))] [] (slM2.res a0 a1 y) (slM2.out a0 a1 y) := by
 refine si (G142_ok.at tok []) (ct := []) Tryz.func100 rfl (by kernel_rfl) (by kernel_rfl) rfl ?_
 repeat' first
  | ((with_reducible refine eqg ?_); exact rfl)
  | ((with_reducible refine KOb.mk ?_); kernel_rfl)
  | ((with_reducible intro h); (repeat first | replace H := grd_k H | replace H := os1 H ‹_›); first | replace H := ct1 h H | replace H := cf1 h H | exact absurd h (by decide) | skip)
  | ((with_reducible refine Ob.mk ?_); first | (with_reducible rfl) | (first | ((repeat (first | (with_reducible exact grd_p H) | replace H := grd_k H | replace H := os1 H ‹_›)); done) | rfl | ((repeat (first | exact grd_p H | (have hp := grd_p H; exact hp) | replace H := grd_k H | replace H := os1 H ‹_› | (replace H := bind_some H; obtain ⟨_, _, H⟩ := H))); done) | (repeat (first | exact grd_p H | replace H := grd_k H | replace H := os1 H ‹_›))))
  | (with_reducible exact True.intro)
  | ((conv => whnf); first
      | (with_reducible refine And.intro ?_ ?_)
      | (with_reducible exact True.intro)
      | (with_reducible refine (?_ : Ob _))
      | ((with_reducible refine fm ?_); (repeat first | replace H := grd_k H | replace H := os1 H ‹_›); have H := Option.some.inj H; subst H))
  | constructor
def G143 : Env := G142.add 100 [] slM2.S
theorem G143_ok : EnvOk Tryz.prog G143 := G142_ok.add ent_100 fun ar h r h1 ⟨a0, a1, y, hy, e1, e2, e3, e4⟩ => by
 subst e3 e4; exact (slM2.spec a0 a1 y hy).le e1 e2
attribute [local irreducible] slM2

end Go.Proofs.YtaobinhdnklojaaGreatDoor
namespace Go.Proofs.YtaobinhdnklojaaGreatDoor
open Go.RowKit
attribute [local irreducible] Ob l5 Sub Spec Fin Again CallW CutC KOb iter

attribute [local irreducible] slNf sIFi sIFi1 sCFi sCiS icRi iECi lmSS slCr

noncomputable def slL3 (a0 : Int) (a1 : Int) : Option (Int) :=
 (cond (decide (a0 < a1)) ((some a0)) ((some a1)))
def slL3.res (_ : Int) (_ : Int) (y : Int) : AV := (.v (.int .i64 y))
def slL3.out (_ : Int) (_ : Int) (_ : Int) : List (Option LB) := []
def slL3.S (ar : List AV) (h : List (Option LB)) (r : AV) (h1 : List (Option LB)) : Prop := ∃ a0 a1 y, slL3 a0 a1 = some y ∧ leL ar [(.v (.int .i64 a0)), (.v (.int .i64 a1))] ∧ leH h [] ∧ r = slL3.res a0 a1 y ∧ h1 = slL3.out a0 a1 y
theorem slL3.call {ar h a0 a1 y} (H : slL3 a0 a1 = some y) (h0 : leLk ar [(.v (.int .i64 a0)), (.v (.int .i64 a1))] (leHk h [])) : slL3.S ar h (slL3.res a0 a1 y) (slL3.out a0 a1 y) := ⟨a0, a1, y, H, (ao h0).1, (ao h0).2, rfl, rfl⟩
set_option maxHeartbeats 100000000 in
set_option maxRecDepth 100000 in
theorem slL3.spec (a0 a1 y) (H : slL3 a0 a1 = some y) : Spec Tryz.prog 101 [(.v (.int .i64 a0)), (.v (.int .i64 a1))] [] (slL3.res a0 a1 y) (slL3.out a0 a1 y) := by
 refine si (G143_ok.at tok []) (ct := []) Tryz.func101 rfl (by kernel_rfl) (by kernel_rfl) rfl ?_
 repeat' first
  | ((with_reducible refine eqg ?_); exact rfl)
  | ((with_reducible refine KOb.mk ?_); kernel_rfl)
  | ((with_reducible intro h); (repeat first | replace H := grd_k H | replace H := os1 H ‹_›); first | replace H := ct1 h H | replace H := cf1 h H | exact absurd h (by decide) | skip)
  | ((with_reducible refine Ob.mk ?_); first | (with_reducible rfl) | (first | ((repeat (first | (with_reducible exact grd_p H) | replace H := grd_k H | replace H := os1 H ‹_›)); done) | rfl | ((repeat (first | exact grd_p H | (have hp := grd_p H; exact hp) | replace H := grd_k H | replace H := os1 H ‹_› | (replace H := bind_some H; obtain ⟨_, _, H⟩ := H))); done) | (repeat (first | exact grd_p H | replace H := grd_k H | replace H := os1 H ‹_›))))
  | (with_reducible exact True.intro)
  | ((conv => whnf); first
      | (with_reducible refine And.intro ?_ ?_)
      | (with_reducible exact True.intro)
      | (with_reducible refine (?_ : Ob _))
      | ((with_reducible refine fm ?_); (repeat first | replace H := grd_k H | replace H := os1 H ‹_›); have H := Option.some.inj H; subst H))
  | constructor
def G144 : Env := G143.add 101 [] slL3.S
theorem G144_ok : EnvOk Tryz.prog G144 := G143_ok.add ent_101 fun ar h r h1 ⟨a0, a1, y, hy, e1, e2, e3, e4⟩ => by
 subst e3 e4; exact (slL3.spec a0 a1 y hy).le e1 e2
attribute [local irreducible] slL3

end Go.Proofs.YtaobinhdnklojaaGreatDoor
namespace Go.Proofs.YtaobinhdnklojaaGreatDoor
open Go.RowKit
set_option maxHeartbeats 100000000
set_option maxRecDepth 100000
attribute [local irreducible] Ob l5 Sub Spec Fin Again CallW CutC KOb iter

attribute [local irreducible] slNf slL sAR sIFi sIFi1 sCFi sCiS icRi iECi lmSS slCp slCo slCr

noncomputable def slCo1 (a0 : l1Cur) (a1 : (List ByteArray)) : Option (ByteArray × l1Cur) :=
 ((slCp (a0.1, a0.2.1, a0.2.2.1, ()) (a1.length : Int)).bind fun y1 => (grd (0 ≤ y1.1 ∧ y1.1 < (a1.length : Int)) ((some ((a1.getD y1.1.toNat (ByteArray.mk #[])), (y1.2.1, y1.2.2.1, y1.2.2.2.1, ()))))))
def slCo1.res (_ : l1Cur) (_ : (List ByteArray)) (y : ByteArray × l1Cur) : AV := (.v (.string y.1))
def slCo1.out (_ : l1Cur) (_ : (List ByteArray)) (y : ByteArray × l1Cur) : List (Option LB) := [some (.box 90 [(.tree (.int .u8) y.2.1), (.v (.int .i64 y.2.2.1)), (.v (.int .u64 y.2.2.2.1))])]
def slCo1.S (ar : List AV) (h : List (Option LB)) (r : AV) (h1 : List (Option LB)) : Prop := ∃ a0 a1 y, slCo1 a0 a1 = some y ∧ leL ar [(.loc 0 0 0), (.tree .str a1)] ∧ leH h [some (.box 90 [(.tree (.int .u8) a0.1), (.v (.int .i64 a0.2.1)), (.v (.int .u64 a0.2.2.1))])] ∧ r = slCo1.res a0 a1 y ∧ h1 = slCo1.out a0 a1 y
theorem slCo1.call {ar h a0 a1 y} (H : slCo1 a0 a1 = some y) (h0 : leLk ar [(.loc 0 0 0), (.tree .str a1)] (leHk h [some (.box 90 [(.tree (.int .u8) a0.1), (.v (.int .i64 a0.2.1)), (.v (.int .u64 a0.2.2.1))])])) : slCo1.S ar h (slCo1.res a0 a1 y) (slCo1.out a0 a1 y) := ⟨a0, a1, y, H, (ao h0).1, (ao h0).2, rfl, rfl⟩
theorem slCo1.spec (a0 a1 y) (H : slCo1 a0 a1 = some y) : Spec Tryz.prog 102 [(.loc 0 0 0), (.tree .str a1)] [some (.box 90 [(.tree (.int .u8) a0.1), (.v (.int .i64 a0.2.1)), (.v (.int .u64 a0.2.2.1))])] (slCo1.res a0 a1 y) (slCo1.out a0 a1 y) := by
 refine si (G144_ok.at tok []) (ct := []) Tryz.func102 rfl (by kernel_rfl) (by kernel_rfl) rfl ?_
 repeat' first
  | ((with_reducible refine eqg ?_); exact rfl)
  | ((with_reducible refine KOb.mk ?_); kernel_rfl)
  | ((with_reducible intro h); (repeat first | replace H := grd_k H | replace H := os1 H ‹_›); first | replace H := ct1 h H | replace H := cf1 h H | exact absurd h (by decide) | skip)
  | ((with_reducible refine Ob.mk ?_); first | (with_reducible rfl) | (first | ((repeat (first | (with_reducible exact grd_p H) | replace H := grd_k H | replace H := os1 H ‹_›)); done) | rfl | ((repeat (first | exact grd_p H | (have hp := grd_p H; exact hp) | replace H := grd_k H | replace H := os1 H ‹_› | (replace H := bind_some H; obtain ⟨_, _, H⟩ := H))); done) | (repeat (first | exact grd_p H | replace H := grd_k H | replace H := os1 H ‹_›))))
  | (with_reducible exact True.intro)
  | ((conv => whnf); first
      | (with_reducible refine And.intro ?_ ?_)
      | (with_reducible exact True.intro)
      | (with_reducible refine (?_ : Ob _))
      | ((with_reducible refine CallW.mk ?_); (repeat first | replace H := grd_k H | replace H := os1 H ‹_›); replace H := bind_some H; obtain ⟨y, hy, H⟩ := H; first | ((with_reducible have hz : slCp _ _ = some y := hy); clear hz; refine ⟨_, _, slCp.call hy ?_, rfl, rfl, ?_⟩))
      | ((with_reducible refine fm ?_); (repeat first | replace H := grd_k H | replace H := os1 H ‹_›); have H := Option.some.inj H; subst H))
  | constructor
def G145 : Env := G144.add 102 [true] slCo1.S
theorem G145_ok : EnvOk Tryz.prog G145 := G144_ok.add ent_102 fun ar h r h1 ⟨a0, a1, y, hy, e1, e2, e3, e4⟩ => by
 subst e3 e4; exact (slCo1.spec a0 a1 y hy).le e1 e2
attribute [local irreducible] slCo1

noncomputable def slCl (a0 : l1Cur) : Option (LR × l1Cur) :=
 ((slCo1 (a0.1, a0.2.1, a0.2.2.1, ()) [(ByteArray.mk #[99, 111, 117, 110, 116]), (ByteArray.mk #[115, 111, 114, 116, 32, 109, 101, 114, 103, 101]), (ByteArray.mk #[120]), (ByteArray.mk #[115, 101, 108, 101, 99, 116, 32, 50]), (ByteArray.mk #[48, 32, 49])]).bind fun y1 => ((slCo1 (y1.2.1, y1.2.2.1, y1.2.2.2.1, ()) [(ByteArray.mk #[]), (ByteArray.mk #[51]), (ByteArray.mk #[63]), (ByteArray.mk #[97, 64, 98]), (ByteArray.mk #[51, 32, 49, 32, 50])]).bind fun y2 => ((slCp (y2.2.1, y2.2.2.1, y2.2.2.2.1, ()) (24 : Int)).bind fun y3 => (cond (decide (y3.1 = (0 : Int))) (grd (0 ≤ (3 : Int) ∧ (3 : Int) ≤ (3 : Int) ∧ (1 : Int) * (3 : Int) ≤ 140737488355328 ∧ (3 : Int) ≤ 140737488355328) ((slCo1 (y3.2.1, y3.2.2.1, y3.2.2.2.1, ()) [(ByteArray.mk #[]), (ByteArray.mk #[97, 64, 98]), (ByteArray.mk #[97, 35]), (ByteArray.mk #[10]), (sON (List.replicate (3 : Int).toNat (0 : Int)))]).bind fun y4 => (some ((y4.1, y2.1, ()), (y4.2.1, y4.2.2.1, y4.2.2.2.1, ()))))) (cond (decide (y3.1 = (1 : Int))) ((slCo1 (y3.2.1, y3.2.2.1, y3.2.2.2.1, ()) [(ByteArray.mk #[35]), (ByteArray.mk #[10]), (ByteArray.mk #[127])]).bind fun y5 => (some ((y1.1, y5.1, ()), (y5.2.1, y5.2.2.1, y5.2.2.2.1, ())))) ((some ((y1.1, y2.1, ()), (y3.2.1, y3.2.2.1, y3.2.2.2.1, ())))))))))
def slCl.res (_ : l1Cur) (y : LR × l1Cur) : AV := (.agg [(.v (.string y.1.1)), (.v (.string y.1.2.1))])
def slCl.out (_ : l1Cur) (y : LR × l1Cur) : List (Option LB) := [some (.box 90 [(.tree (.int .u8) y.2.1), (.v (.int .i64 y.2.2.1)), (.v (.int .u64 y.2.2.2.1))])]
def slCl.S (ar : List AV) (h : List (Option LB)) (r : AV) (h1 : List (Option LB)) : Prop := ∃ a0 y, slCl a0 = some y ∧ leL ar [(.loc 0 0 0)] ∧ leH h [some (.box 90 [(.tree (.int .u8) a0.1), (.v (.int .i64 a0.2.1)), (.v (.int .u64 a0.2.2.1))])] ∧ r = slCl.res a0 y ∧ h1 = slCl.out a0 y
theorem slCl.call {ar h a0 y} (H : slCl a0 = some y) (h0 : leLk ar [(.loc 0 0 0)] (leHk h [some (.box 90 [(.tree (.int .u8) a0.1), (.v (.int .i64 a0.2.1)), (.v (.int .u64 a0.2.2.1))])])) : slCl.S ar h (slCl.res a0 y) (slCl.out a0 y) := ⟨a0, y, H, (ao h0).1, (ao h0).2, rfl, rfl⟩
theorem slCl.spec (a0 y) (H : slCl a0 = some y) : Spec Tryz.prog 65 [(.loc 0 0 0)] [some (.box 90 [(.tree (.int .u8) a0.1), (.v (.int .i64 a0.2.1)), (.v (.int .u64 a0.2.2.1))])] (slCl.res a0 y) (slCl.out a0 y) := by
 refine si (G145_ok.at tok []) (ct := [(6, some [0, 2, 3, 21]), (7, some [2, 3])]) Tryz.func65 rfl (by kernel_rfl) (by kernel_rfl) rfl ?_
 repeat' first
  | ((with_reducible refine eqg ?_); exact rfl)
  | ((with_reducible refine KOb.mk ?_); kernel_rfl)
  | ((with_reducible intro h); (repeat first | replace H := grd_k H | replace H := os1 H ‹_›); first | replace H := ct1 h H | replace H := cf1 h H | exact absurd h (by decide) | skip)
  | ((with_reducible refine Ob.mk ?_); first | (with_reducible rfl) | (first | ((repeat (first | (with_reducible exact grd_p H) | replace H := grd_k H | replace H := os1 H ‹_›)); done) | rfl | ((repeat (first | exact grd_p H | (have hp := grd_p H; exact hp) | replace H := grd_k H | replace H := os1 H ‹_› | (replace H := bind_some H; obtain ⟨_, _, H⟩ := H))); done) | (repeat (first | exact grd_p H | replace H := grd_k H | replace H := os1 H ‹_›))))
  | (with_reducible exact True.intro)
  | ((conv => whnf); first
      | (with_reducible refine And.intro ?_ ?_)
      | (with_reducible exact True.intro)
      | (with_reducible refine (?_ : Ob _))
      | ((with_reducible refine CallW.mk ?_); (repeat first | replace H := grd_k H | replace H := os1 H ‹_›); replace H := bind_some H; obtain ⟨y, hy, H⟩ := H; first | ((with_reducible have hz : slCo1 _ _ = some y := hy); clear hz; refine ⟨_, _, slCo1.call hy ?_, rfl, rfl, ?_⟩) | ((with_reducible have hz : slCp _ _ = some y := hy); clear hz; refine ⟨_, _, slCp.call hy ?_, rfl, rfl, ?_⟩))
      | ((with_reducible refine fm ?_); (repeat first | replace H := grd_k H | replace H := os1 H ‹_›); have H := Option.some.inj H; subst H))
  | constructor
def G147 : Env := G145.add 65 [true] slCl.S
theorem G147_ok : EnvOk Tryz.prog G147 := G145_ok.add ent_65 fun ar h r h1 ⟨a0, y, hy, e1, e2, e3, e4⟩ => by
 subst e3 e4; exact (slCl.spec a0 y hy).le e1 e2
attribute [local irreducible] slCl

noncomputable def sSL (a0 : Log) : Option (Log × Bool) :=
 ((slL (a0.1, a0.2.1, a0.2.2.1, ())).bind fun y1 => (cond (!y1) ((some (((ByteArray.mk #[]), (ByteArray.mk #[]), (0 : Int), ()), false))) (grd (a0.1.size + a0.2.1.size ≤ 9223372036854775807) ((some (((a0.1 ++ a0.2.1), (ByteArray.mk #[]), a0.2.2.1, ()), true))))))
def sSL.res (_ : Log) (y : Log × Bool) : AV := (.tup [(.agg [(.v (.string y.1.1)), (.v (.string y.1.2.1)), (.v (.int .i64 y.1.2.2.1))]), (.bl y.2)])
def sSL.out (_ : Log) (_ : Log × Bool) : List (Option LB) := []
def sSL.S (ar : List AV) (h : List (Option LB)) (r : AV) (h1 : List (Option LB)) : Prop := ∃ a0 y, sSL a0 = some y ∧ leL ar [(.agg [(.v (.string a0.1)), (.v (.string a0.2.1)), (.v (.int .i64 a0.2.2.1))])] ∧ leH h [] ∧ r = sSL.res a0 y ∧ h1 = sSL.out a0 y
theorem sSL.call {ar h a0 y} (H : sSL a0 = some y) (h0 : leLk ar [(.agg [(.v (.string a0.1)), (.v (.string a0.2.1)), (.v (.int .i64 a0.2.2.1))])] (leHk h [])) : sSL.S ar h (sSL.res a0 y) (sSL.out a0 y) := ⟨a0, y, H, (ao h0).1, (ao h0).2, rfl, rfl⟩
theorem sSL.spec (a0 y) (H : sSL a0 = some y) : Spec Tryz.prog 172 [(.agg [(.v (.string a0.1)), (.v (.string a0.2.1)), (.v (.int .i64 a0.2.2.1))])] [] (sSL.res a0 y) (sSL.out a0 y) := by
 refine si (G147_ok.at tok []) (ct := []) Tryz.func172 rfl (by kernel_rfl) (by kernel_rfl) rfl ?_
 repeat' first
  | ((with_reducible refine eqg ?_); exact rfl)
  | ((with_reducible refine KOb.mk ?_); kernel_rfl)
  | ((with_reducible intro h); (repeat first | replace H := grd_k H | replace H := os1 H ‹_›); first | replace H := ct1 h H | replace H := cf1 h H | exact absurd h (by decide) | skip)
  | ((with_reducible refine Ob.mk ?_); first | (with_reducible rfl) | (first | ((repeat (first | (with_reducible exact grd_p H) | replace H := grd_k H | replace H := os1 H ‹_›)); done) | rfl | ((repeat (first | exact grd_p H | (have hp := grd_p H; exact hp) | replace H := grd_k H | replace H := os1 H ‹_› | (replace H := bind_some H; obtain ⟨_, _, H⟩ := H))); done) | (repeat (first | exact grd_p H | replace H := grd_k H | replace H := os1 H ‹_›))))
  | (with_reducible exact True.intro)
  | ((conv => whnf); first
      | (with_reducible refine And.intro ?_ ?_)
      | (with_reducible exact True.intro)
      | (with_reducible refine (?_ : Ob _))
      | ((with_reducible refine CallW.mk ?_); (repeat first | replace H := grd_k H | replace H := os1 H ‹_›); replace H := bind_some H; obtain ⟨y, hy, H⟩ := H; first | ((with_reducible have hz : slL _ = some y := hy); clear hz; refine ⟨_, _, slL.call hy ?_, rfl, rfl, ?_⟩))
      | ((with_reducible refine fm ?_); (repeat first | replace H := grd_k H | replace H := os1 H ‹_›); have H := Option.some.inj H; subst H))
  | constructor
def G148 : Env := G147.add 172 [] sSL.S
theorem G148_ok : EnvOk Tryz.prog G148 := G147_ok.add ent_172 fun ar h r h1 ⟨a0, y, hy, e1, e2, e3, e4⟩ => by
 subst e3 e4; exact (sSL.spec a0 y hy).le e1 e2
attribute [local irreducible] sSL

noncomputable def slCl3  (v23 : Int) (v24 : (List Int)) (v25 : Int) (v26 : Int) (v27 : ByteArray) (v28 : ByteArray) (v29 : Int) : Option (Lp (Int × (List Int) × Int × Int × ByteArray × ByteArray × Int) (((List Int) × Int × Int × ByteArray × ByteArray × Int))) :=
 (cond (decide ((0 : Int) < v23)) (((slCl (v24, v25, v26, ())).bind fun y30 => ((sAR (v27, v28, v29, ()) (y30.1.1, y30.1.2.1, ())).bind fun y31 => (some ((Tg.mk : Tg 3), y30.2.1, y30.2.2.1, y30.2.2.2.1, y31.1.1, y31.1.2.1, y31.1.2.2.1)))).bind fun z32 => ((slCo (z32.2.1, z32.2.2.1, z32.2.2.2.1, ()) (4 : Int)).bind fun y33 => (cond y33.1 ((sSL (z32.2.2.2.2.1, z32.2.2.2.2.2.1, z32.2.2.2.2.2.2, ())).bind fun y34 => (some (.go ((w64 (v23 - (1 : Int))), y33.2.1, y33.2.2.1, y33.2.2.2.1, y34.1.1, y34.1.2.1, y34.1.2.2.1)))) (some (.go ((w64 (v23 - (1 : Int))), y33.2.1, y33.2.2.1, y33.2.2.2.1, z32.2.2.2.2.1, z32.2.2.2.2.2.1, z32.2.2.2.2.2.2)))))) ((some (.out (v24, v25, v26, v27, v28, v29)))))
noncomputable def slCl1 (a0 : l1Cur) : Option (Log × l1Cur) :=
 ((slCp (a0.1, a0.2.1, a0.2.2.1, ()) (7 : Int)).bind fun y1 => ((iter (fun s => slCl3 s.1 s.2.1 s.2.2.1 s.2.2.2.1 s.2.2.2.2.1 s.2.2.2.2.2.1 s.2.2.2.2.2.2) (y1.1, y1.2.1, y1.2.2.1, y1.2.2.2.1, (ByteArray.mk #[]), (ByteArray.mk #[]), (0 : Int))).bind (fun r35 => (some ((r35.2.2.2.1, r35.2.2.2.2.1, r35.2.2.2.2.2, ()), (r35.1, r35.2.1, r35.2.2.1, ()))))))
def slCl1.res (_ : l1Cur) (y : Log × l1Cur) : AV := (.agg [(.v (.string y.1.1)), (.v (.string y.1.2.1)), (.v (.int .i64 y.1.2.2.1))])
def slCl1.out (_ : l1Cur) (y : Log × l1Cur) : List (Option LB) := [some (.box 90 [(.tree (.int .u8) y.2.1), (.v (.int .i64 y.2.2.1)), (.v (.int .u64 y.2.2.2.1))])]
def slCl1.S (ar : List AV) (h : List (Option LB)) (r : AV) (h1 : List (Option LB)) : Prop := ∃ a0 y, slCl1 a0 = some y ∧ leL ar [(.loc 0 0 0)] ∧ leH h [some (.box 90 [(.tree (.int .u8) a0.1), (.v (.int .i64 a0.2.1)), (.v (.int .u64 a0.2.2.1))])] ∧ r = slCl1.res a0 y ∧ h1 = slCl1.out a0 y
theorem slCl1.call {ar h a0 y} (H : slCl1 a0 = some y) (h0 : leLk ar [(.loc 0 0 0)] (leHk h [some (.box 90 [(.tree (.int .u8) a0.1), (.v (.int .i64 a0.2.1)), (.v (.int .u64 a0.2.2.1))])])) : slCl1.S ar h (slCl1.res a0 y) (slCl1.out a0 y) := ⟨a0, y, H, (ao h0).1, (ao h0).2, rfl, rfl⟩
theorem slCl1.spec (a0 y) (H : slCl1 a0 = some y) : Spec Tryz.prog 144 [(.loc 0 0 0)] [some (.box 90 [(.tree (.int .u8) a0.1), (.v (.int .i64 a0.2.1)), (.v (.int .u64 a0.2.2.1))])] (slCl1.res a0 y) (slCl1.out a0 y) := by
 refine si (G148_ok.at tok []) (ct := [(6, none)]) Tryz.func144 rfl (by kernel_rfl) (by kernel_rfl) rfl ?_
 repeat' first
  | ((with_reducible refine eqg ?_); exact rfl)
  | ((with_reducible refine KOb.mk ?_); kernel_rfl)
  | ((with_reducible intro h); (repeat first | replace H := grd_k H | replace H := os1 H ‹_›); first | replace H := ct1 h H | replace H := cf1 h H | exact absurd h (by decide) | skip)
  | ((with_reducible refine Ob.mk ?_); first | (with_reducible rfl) | (first | ((repeat (first | (with_reducible exact grd_p H) | replace H := grd_k H | replace H := os1 H ‹_›)); done) | rfl | ((repeat (first | exact grd_p H | (have hp := grd_p H; exact hp) | replace H := grd_k H | replace H := os1 H ‹_› | (replace H := bind_some H; obtain ⟨_, _, H⟩ := H))); done) | (repeat (first | exact grd_p H | replace H := grd_k H | replace H := os1 H ‹_›))))
  | (with_reducible exact True.intro)
  | ((conv => whnf); first
      | (with_reducible refine And.intro ?_ ?_)
      | (with_reducible exact True.intro)
      | (with_reducible refine (?_ : Ob _))
      | ((with_reducible refine CallW.mk ?_); (repeat first | replace H := grd_k H | replace H := os1 H ‹_›); replace H := bind_some H; obtain ⟨y, hy, H⟩ := H; first | ((with_reducible have hz : slCp _ _ = some y := hy); clear hz; refine ⟨_, _, slCp.call hy ?_, rfl, rfl, ?_⟩) | ((with_reducible have hz : slCl _ = some y := hy); clear hz; refine ⟨_, _, slCl.call hy ?_, rfl, rfl, ?_⟩) | ((with_reducible have hz : sAR _ _ = some y := hy); clear hz; refine ⟨_, _, sAR.call hy ?_, rfl, rfl, ?_⟩) | ((with_reducible have hz : slCo _ _ = some y := hy); clear hz; refine ⟨_, _, slCo.call hy ?_, rfl, rfl, ?_⟩) | ((with_reducible have hz : sSL _ = some y := hy); clear hz; refine ⟨_, _, sSL.call hy ?_, rfl, rfl, ?_⟩))
      | ((repeat first | replace H := grd_k H | replace H := os1 H ‹_›); refine li1 (G148_ok.at tok []) (ct := [(6, none)]) (F := (fun s1 : Int × (List Int) × Int × Int × ByteArray × ByteArray × Int => ⟨sl [(0, (.loc 0 0 0)), (2, (.loc 1 0 0)), (3, (.loc 2 0 0)), (4, (.v (.int .i64 s1.1)))], [some (.box 90 [(.tree (.int .u8) s1.2.1), (.v (.int .i64 s1.2.2.1)), (.v (.int .u64 s1.2.2.2.1))]), some (.box 27 [(.v (.string (ByteArray.mk #[]))), (.v (.string (ByteArray.mk #[]))), (.v (.int .i64 (0 : Int)))]), some (.box 27 [(.v (.string s1.2.2.2.2.1)), (.v (.string s1.2.2.2.2.2.1)), (.v (.int .i64 s1.2.2.2.2.2.2))])]⟩)) (step := (fun s : Int × (List Int) × Int × Int × ByteArray × ByteArray × Int => slCl3 s.1 s.2.1 s.2.2.1 s.2.2.2.1 s.2.2.2.2.1 s.2.2.2.2.2.1 s.2.2.2.2.2.2)) _ H (by kernel_rfl) (sa ?_) ?_; rotate_left; (intro s1 r v hr H); rotate_right)
      | ((with_reducible refine cutAt (id := 6) ?_); (repeat first | replace H := grd_k H | replace H := os1 H ‹_›); first | (replace H := bind_some H; obtain ⟨z, hz, H⟩ := H; have hT : Tg 3 × (List Int) × Int × Int × ByteArray × ByteArray × Int := z; clear hT; refine CutC.mk (id := 6) ⟨sl [(0, (.loc 0 0 0)), (2, (.loc 1 0 0)), (3, (.loc 2 0 0)), (4, (.v (.int .i64 s1.1)))], [some (.box 90 [(.tree (.int .u8) z.2.1), (.v (.int .i64 z.2.2.1)), (.v (.int .u64 z.2.2.2.1))]), some (.box 27 [(.v (.string (ByteArray.mk #[]))), (.v (.string (ByteArray.mk #[]))), (.v (.int .i64 (0 : Int)))]), some (.box 27 [(.v (.string z.2.2.2.2.1)), (.v (.string z.2.2.2.2.2.1)), (.v (.int .i64 z.2.2.2.2.2.2))])]⟩ ?_ ?_; (replace H := hz)))
      | ((repeat first | replace H := grd_k H | replace H := os1 H ‹_›); have H := Option.some.inj H; subst H; with_reducible refine sa ?_)
      | ((repeat first | replace H := grd_k H | replace H := os1 H ‹_›); refine as1 H (by assumption) (sa ?_))
      | ((with_reducible refine fm ?_); (repeat first | replace H := grd_k H | replace H := os1 H ‹_›); have H := Option.some.inj H; subst H))
  | constructor
def G149 : Env := G148.add 144 [true] slCl1.S
theorem G149_ok : EnvOk Tryz.prog G149 := G148_ok.add ent_144 fun ar h r h1 ⟨a0, y, hy, e1, e2, e3, e4⟩ => by
 subst e3 e4; exact (slCl1.spec a0 y hy).le e1 e2
attribute [local irreducible] slCl1

noncomputable def slCs (a0 : l1Cur) (a1 : ByteArray) (a2 : ByteArray) : Option (ByteArray × l1Cur) :=
 (cond (decide (a1 = (ByteArray.mk #[]))) (grd (0 ≤ (0 : Int) ∧ (0 : Int) ≤ (1 : Int) ∧ (1 : Int) ≤ (a2.size : Int)) ((some ((bsub a2 (0 : Int) (1 : Int)), (a0.1, a0.2.1, a0.2.2.1, ()))))) ((slCp (a0.1, a0.2.1, a0.2.2.1, ()) (a1.size : Int)).bind fun y1 => ((slCp (y1.2.1, y1.2.2.1, y1.2.2.2.1, ()) (a2.size : Int)).bind fun y2 => (grd (0 ≤ y2.1 ∧ y2.1 ≤ (a2.size : Int) ∧ (a2.size : Int) ≤ (a2.size : Int)) (grd (0 ≤ (0 : Int) ∧ (0 : Int) ≤ (1 : Int) ∧ (1 : Int) ≤ ((bsub a2 y2.1 (a2.size : Int)).size : Int)) ((slCp (y2.2.1, y2.2.2.1, y2.2.2.2.1, ()) (3 : Int)).bind fun y3 => (cond (decide (y3.1 = (0 : Int))) (grd (0 ≤ (0 : Int) ∧ (0 : Int) ≤ y1.1 ∧ y1.1 ≤ (a1.size : Int)) (grd ((bsub a1 (0 : Int) y1.1).size + (bsub (bsub a2 y2.1 (a2.size : Int)) (0 : Int) (1 : Int)).size ≤ 9223372036854775807) (grd (0 ≤ y1.1 ∧ y1.1 ≤ (a1.size : Int) ∧ (a1.size : Int) ≤ (a1.size : Int)) (grd (((bsub a1 (0 : Int) y1.1) ++ (bsub (bsub a2 y2.1 (a2.size : Int)) (0 : Int) (1 : Int))).size + (bsub a1 y1.1 (a1.size : Int)).size ≤ 9223372036854775807) ((some ((((bsub a1 (0 : Int) y1.1) ++ (bsub (bsub a2 y2.1 (a2.size : Int)) (0 : Int) (1 : Int))) ++ (bsub a1 y1.1 (a1.size : Int))), (y3.2.1, y3.2.2.1, y3.2.2.2.1, ())))))))) (cond (decide (y3.1 = (1 : Int))) (grd (0 ≤ (0 : Int) ∧ (0 : Int) ≤ y1.1 ∧ y1.1 ≤ (a1.size : Int)) (grd ((bsub a1 (0 : Int) y1.1).size + (bsub (bsub a2 y2.1 (a2.size : Int)) (0 : Int) (1 : Int)).size ≤ 9223372036854775807) (grd (0 ≤ (w64 (y1.1 + (1 : Int))) ∧ (w64 (y1.1 + (1 : Int))) ≤ (a1.size : Int) ∧ (a1.size : Int) ≤ (a1.size : Int)) (grd (((bsub a1 (0 : Int) y1.1) ++ (bsub (bsub a2 y2.1 (a2.size : Int)) (0 : Int) (1 : Int))).size + (bsub a1 (w64 (y1.1 + (1 : Int))) (a1.size : Int)).size ≤ 9223372036854775807) ((some ((((bsub a1 (0 : Int) y1.1) ++ (bsub (bsub a2 y2.1 (a2.size : Int)) (0 : Int) (1 : Int))) ++ (bsub a1 (w64 (y1.1 + (1 : Int))) (a1.size : Int))), (y3.2.1, y3.2.2.1, y3.2.2.2.1, ())))))))) (grd (0 ≤ (0 : Int) ∧ (0 : Int) ≤ y1.1 ∧ y1.1 ≤ (a1.size : Int)) (grd (0 ≤ (w64 (y1.1 + (1 : Int))) ∧ (w64 (y1.1 + (1 : Int))) ≤ (a1.size : Int) ∧ (a1.size : Int) ≤ (a1.size : Int)) (grd ((bsub a1 (0 : Int) y1.1).size + (bsub a1 (w64 (y1.1 + (1 : Int))) (a1.size : Int)).size ≤ 9223372036854775807) ((some (((bsub a1 (0 : Int) y1.1) ++ (bsub a1 (w64 (y1.1 + (1 : Int))) (a1.size : Int))), (y3.2.1, y3.2.2.1, y3.2.2.2.1, ())))))))))))))))
def slCs.res (_ : l1Cur) (_ : ByteArray) (_ : ByteArray) (y : ByteArray × l1Cur) : AV := (.v (.string y.1))
def slCs.out (_ : l1Cur) (_ : ByteArray) (_ : ByteArray) (y : ByteArray × l1Cur) : List (Option LB) := [some (.box 90 [(.tree (.int .u8) y.2.1), (.v (.int .i64 y.2.2.1)), (.v (.int .u64 y.2.2.2.1))])]
def slCs.S (ar : List AV) (h : List (Option LB)) (r : AV) (h1 : List (Option LB)) : Prop := ∃ a0 a1 a2 y, slCs a0 a1 a2 = some y ∧ leL ar [(.loc 0 0 0), (.v (.string a1)), (.v (.string a2))] ∧ leH h [some (.box 90 [(.tree (.int .u8) a0.1), (.v (.int .i64 a0.2.1)), (.v (.int .u64 a0.2.2.1))])] ∧ r = slCs.res a0 a1 a2 y ∧ h1 = slCs.out a0 a1 a2 y
theorem slCs.call {ar h a0 a1 a2 y} (H : slCs a0 a1 a2 = some y) (h0 : leLk ar [(.loc 0 0 0), (.v (.string a1)), (.v (.string a2))] (leHk h [some (.box 90 [(.tree (.int .u8) a0.1), (.v (.int .i64 a0.2.1)), (.v (.int .u64 a0.2.2.1))])])) : slCs.S ar h (slCs.res a0 a1 a2 y) (slCs.out a0 a1 a2 y) := ⟨a0, a1, a2, y, H, (ao h0).1, (ao h0).2, rfl, rfl⟩
theorem slCs.spec (a0 a1 a2 y) (H : slCs a0 a1 a2 = some y) : Spec Tryz.prog 145 [(.loc 0 0 0), (.v (.string a1)), (.v (.string a2))] [some (.box 90 [(.tree (.int .u8) a0.1), (.v (.int .i64 a0.2.1)), (.v (.int .u64 a0.2.2.1))])] (slCs.res a0 a1 a2 y) (slCs.out a0 a1 a2 y) := by
 refine si (G149_ok.at tok []) (ct := [(5, some [0, 1, 7, 8]), (10, some [1, 7])]) Tryz.func145 rfl (by kernel_rfl) (by kernel_rfl) rfl ?_
 repeat' first
  | ((with_reducible refine eqg ?_); exact rfl)
  | ((with_reducible refine KOb.mk ?_); kernel_rfl)
  | ((with_reducible intro h); (repeat first | replace H := grd_k H | replace H := os1 H ‹_›); first | replace H := ct1 h H | replace H := cf1 h H | exact absurd h (by decide) | skip)
  | ((with_reducible refine Ob.mk ?_); first | (with_reducible rfl) | (first | ((repeat (first | (with_reducible exact grd_p H) | replace H := grd_k H | replace H := os1 H ‹_›)); done) | rfl | ((repeat (first | exact grd_p H | (have hp := grd_p H; exact hp) | replace H := grd_k H | replace H := os1 H ‹_› | (replace H := bind_some H; obtain ⟨_, _, H⟩ := H))); done) | (repeat (first | exact grd_p H | replace H := grd_k H | replace H := os1 H ‹_›))))
  | (with_reducible exact True.intro)
  | ((conv => whnf); first
      | (with_reducible refine And.intro ?_ ?_)
      | (with_reducible exact True.intro)
      | (with_reducible refine (?_ : Ob _))
      | ((with_reducible refine CallW.mk ?_); (repeat first | replace H := grd_k H | replace H := os1 H ‹_›); replace H := bind_some H; obtain ⟨y, hy, H⟩ := H; first | ((with_reducible have hz : slCp _ _ = some y := hy); clear hz; refine ⟨_, _, slCp.call hy ?_, rfl, rfl, ?_⟩))
      | ((with_reducible refine fm ?_); (repeat first | replace H := grd_k H | replace H := os1 H ‹_›); have H := Option.some.inj H; subst H))
  | constructor
def G150 : Env := G149.add 145 [true] slCs.S
theorem G150_ok : EnvOk Tryz.prog G150 := G149_ok.add ent_145 fun ar h r h1 ⟨a0, a1, a2, y, hy, e1, e2, e3, e4⟩ => by
 subst e3 e4; exact (slCs.spec a0 a1 a2 y hy).le e1 e2
attribute [local irreducible] slCs

end Go.Proofs.YtaobinhdnklojaaGreatDoor
namespace Go.Proofs.YtaobinhdnklojaaGreatDoor
open Go.RowKit
set_option maxHeartbeats 100000000
set_option maxRecDepth 100000
attribute [local irreducible] Ob l5 Sub Spec Fin Again CallW CutC KOb iter

attribute [local irreducible] slS slN slNf slG1 sEC sIFi sIFi1 sCFi sCiS icRi iECi lmSS slCp slCo slCr slCr1 slM2 slL3 slCo1 slCl1 slCs

noncomputable def slCa1 (a0 : l1Cur) : Option (Log × l1Cur) :=
 ((slCl1 (a0.1, a0.2.1, a0.2.2.1, ())).bind fun y1 => ((slCp (y1.2.1, y1.2.2.1, y1.2.2.2.1, ()) (24 : Int)).bind fun y2 => (cond (decide (y2.1 = (0 : Int))) ((some ((y1.1.1, y1.1.2.1, (w64 (y1.1.2.2.1 + (1 : Int))), ()), (y2.2.1, y2.2.2.1, y2.2.2.2.1, ())))) (cond (decide (y2.1 = (1 : Int))) ((slCs (y2.2.1, y2.2.2.1, y2.2.2.2.1, ()) y1.1.2.1 (ByteArray.mk #[35, 64, 10, 48, 49])).bind fun y3 => (some ((y1.1.1, y3.1, y1.1.2.2.1, ()), (y3.2.1, y3.2.2.1, y3.2.2.2.1, ())))) (cond (decide (y2.1 = (2 : Int))) (grd (y1.1.1.size + y1.1.2.1.size ≤ 9223372036854775807) ((some (((y1.1.1 ++ y1.1.2.1), y1.1.2.1, y1.1.2.2.1, ()), (y2.2.1, y2.2.2.1, y2.2.2.2.1, ()))))) ((some ((y1.1.1, y1.1.2.1, y1.1.2.2.1, ()), (y2.2.1, y2.2.2.1, y2.2.2.2.1, ())))))))))
def slCa1.res (_ : l1Cur) (y : Log × l1Cur) : AV := (.agg [(.v (.string y.1.1)), (.v (.string y.1.2.1)), (.v (.int .i64 y.1.2.2.1))])
def slCa1.out (_ : l1Cur) (y : Log × l1Cur) : List (Option LB) := [some (.box 90 [(.tree (.int .u8) y.2.1), (.v (.int .i64 y.2.2.1)), (.v (.int .u64 y.2.2.2.1))])]
def slCa1.S (ar : List AV) (h : List (Option LB)) (r : AV) (h1 : List (Option LB)) : Prop := ∃ a0 y, slCa1 a0 = some y ∧ leL ar [(.loc 0 0 0)] ∧ leH h [some (.box 90 [(.tree (.int .u8) a0.1), (.v (.int .i64 a0.2.1)), (.v (.int .u64 a0.2.2.1))])] ∧ r = slCa1.res a0 y ∧ h1 = slCa1.out a0 y
theorem slCa1.call {ar h a0 y} (H : slCa1 a0 = some y) (h0 : leLk ar [(.loc 0 0 0)] (leHk h [some (.box 90 [(.tree (.int .u8) a0.1), (.v (.int .i64 a0.2.1)), (.v (.int .u64 a0.2.2.1))])])) : slCa1.S ar h (slCa1.res a0 y) (slCa1.out a0 y) := ⟨a0, y, H, (ao h0).1, (ao h0).2, rfl, rfl⟩
theorem slCa1.spec (a0 y) (H : slCa1 a0 = some y) : Spec Tryz.prog 98 [(.loc 0 0 0)] [some (.box 90 [(.tree (.int .u8) a0.1), (.v (.int .i64 a0.2.1)), (.v (.int .u64 a0.2.2.1))])] (slCa1.res a0 y) (slCa1.out a0 y) := by
 refine si (G150_ok.at tok []) (ct := [(9, some [2, 3])]) Tryz.func98 rfl (by kernel_rfl) (by kernel_rfl) rfl ?_
 repeat' first
  | ((with_reducible refine eqg ?_); exact rfl)
  | ((with_reducible refine KOb.mk ?_); kernel_rfl)
  | ((with_reducible intro h); (repeat first | replace H := grd_k H | replace H := os1 H ‹_›); first | replace H := ct1 h H | replace H := cf1 h H | exact absurd h (by decide) | skip)
  | ((with_reducible refine Ob.mk ?_); first | (with_reducible rfl) | (first | ((repeat (first | (with_reducible exact grd_p H) | replace H := grd_k H | replace H := os1 H ‹_›)); done) | rfl | ((repeat (first | exact grd_p H | (have hp := grd_p H; exact hp) | replace H := grd_k H | replace H := os1 H ‹_› | (replace H := bind_some H; obtain ⟨_, _, H⟩ := H))); done) | (repeat (first | exact grd_p H | replace H := grd_k H | replace H := os1 H ‹_›))))
  | (with_reducible exact True.intro)
  | ((conv => whnf); first
      | (with_reducible refine And.intro ?_ ?_)
      | (with_reducible exact True.intro)
      | (with_reducible refine (?_ : Ob _))
      | ((with_reducible refine CallW.mk ?_); (repeat first | replace H := grd_k H | replace H := os1 H ‹_›); replace H := bind_some H; obtain ⟨y, hy, H⟩ := H; first | ((with_reducible have hz : slCl1 _ = some y := hy); clear hz; refine ⟨_, _, slCl1.call hy ?_, rfl, rfl, ?_⟩) | ((with_reducible have hz : slCp _ _ = some y := hy); clear hz; refine ⟨_, _, slCp.call hy ?_, rfl, rfl, ?_⟩) | ((with_reducible have hz : slCs _ _ _ = some y := hy); clear hz; refine ⟨_, _, slCs.call hy ?_, rfl, rfl, ?_⟩))
      | ((with_reducible refine fm ?_); (repeat first | replace H := grd_k H | replace H := os1 H ‹_›); have H := Option.some.inj H; subst H))
  | constructor
def G151 : Env := G150.add 98 [true] slCa1.S
theorem G151_ok : EnvOk Tryz.prog G151 := G150_ok.add ent_98 fun ar h r h1 ⟨a0, y, hy, e1, e2, e3, e4⟩ => by
 subst e3 e4; exact (slCa1.spec a0 y hy).le e1 e2
attribute [local irreducible] slCa1

noncomputable def slCc (a0 : l1Cur) (a100 : Int) (a101 : (List Slot)) (a102 : Int) (a103 : Int) (a104 : Int) (_ : ByteArray) (_ : ByteArray) (_ : Int) : Option (ByteArray × l1Cur) :=
 ((slCr (a0.1, a0.2.1, a0.2.2.1, ()) a100 a101 a102 a103 a104).bind fun y1 => ((slCp (y1.2.1, y1.2.2.1, y1.2.2.2.1, ()) (6 : Int)).bind fun y2 => ((cond (decide (y2.1 = (0 : Int))) ((some (y2.1, true, y2.2.1, y2.2.2.1, y2.2.2.2.1, y1.1.1, y1.1.2.1))) (cond (decide (y2.1 = (1 : Int))) ((some (y2.1, true, y2.2.1, y2.2.2.1, y2.2.2.2.1, y1.1.1, y1.1.2.1))) (cond (decide (y2.1 = (2 : Int))) ((some (y2.1, true, y2.2.1, y2.2.2.1, y2.2.2.2.1, y1.1.1, y1.1.2.1))) ((some (y2.1, (decide (y2.1 = (3 : Int))), y2.2.1, y2.2.2.1, y2.2.2.2.1, y1.1.1, y1.1.2.1)))))).bind fun z3 => (cond z3.2.1 ((slM2 (0 : Int) z3.2.2.2.2.2.2).bind fun y4 => ((slN y4).bind fun y5 => (cond (decide (z3.2.2.2.2.2.1 = (1 : Int))) ((slM2 (0 : Int) z3.2.2.2.2.2.2).bind fun y6 => ((slL3 (3 : Int) y6).bind fun y7 => (grd (0 ≤ y7 ∧ y7 < ([(ByteArray.mk #[115, 116, 111, 112]), (ByteArray.mk #[115, 108, 111, 119]), (ByteArray.mk #[102, 97, 115, 116]), (ByteArray.mk #[108, 111, 99, 107])].length : Int)) ((some (([(ByteArray.mk #[115, 116, 111, 112]), (ByteArray.mk #[115, 108, 111, 119]), (ByteArray.mk #[102, 97, 115, 116]), (ByteArray.mk #[108, 111, 99, 107])].getD y7.toNat (ByteArray.mk #[])), (z3.2.2.1, z3.2.2.2.1, z3.2.2.2.2.1, ()))))))) (cond (decide (z3.2.2.2.2.2.1 = (2 : Int))) ((some ((ByteArray.mk #[116, 117, 114, 110]), (z3.2.2.1, z3.2.2.2.1, z3.2.2.2.2.1, ())))) (cond (decide (z3.2.2.2.2.2.1 = (3 : Int))) (grd ((ByteArray.mk #[104, 97, 110, 103, 32]).size + y5.size ≤ 9223372036854775807) ((some (((ByteArray.mk #[104, 97, 110, 103, 32]) ++ y5), (z3.2.2.1, z3.2.2.2.1, z3.2.2.2.2.1, ()))))) (cond (decide (z3.2.2.2.2.2.1 = (4 : Int))) ((some ((ByteArray.mk #[116, 97, 107, 101]), (z3.2.2.1, z3.2.2.2.1, z3.2.2.2.2.1, ())))) (cond (decide (z3.2.2.2.2.2.1 = (5 : Int))) (grd ((ByteArray.mk #[98, 111, 97, 114, 100, 32]).size + y5.size ≤ 9223372036854775807) ((some (((ByteArray.mk #[98, 111, 97, 114, 100, 32]) ++ y5), (z3.2.2.1, z3.2.2.2.1, z3.2.2.2.2.1, ()))))) (cond (decide (z3.2.2.2.2.2.1 = (6 : Int))) (grd ((ByteArray.mk #[108, 101, 97, 118, 101, 32]).size + y5.size ≤ 9223372036854775807) ((some (((ByteArray.mk #[108, 101, 97, 118, 101, 32]) ++ y5), (z3.2.2.1, z3.2.2.2.1, z3.2.2.2.2.1, ()))))) (grd ((ByteArray.mk #[100, 111, 111, 114, 32]).size + y5.size ≤ 9223372036854775807) ((some (((ByteArray.mk #[100, 111, 111, 114, 32]) ++ y5), (z3.2.2.1, z3.2.2.2.1, z3.2.2.2.2.1, ()))))))))))))) (cond (decide (z3.1 = (4 : Int))) ((slCo1 (z3.2.2.1, z3.2.2.2.1, z3.2.2.2.2.1, ()) [(ByteArray.mk #[112, 101, 111, 112, 108, 101]), (ByteArray.mk #[99, 97, 98, 105, 110, 32, 49]), (ByteArray.mk #[99, 97, 98, 105, 110, 32, 50]), (ByteArray.mk #[117, 112, 32, 49]), (ByteArray.mk #[100, 111, 119, 110, 32, 50]), (ByteArray.mk #[100, 111, 111, 114, 115]), (ByteArray.mk #[99, 108, 101, 97, 114])]).bind fun y8 => (some (y8.1, (y8.2.1, y8.2.2.1, y8.2.2.2.1, ())))) ((slCo1 (z3.2.2.1, z3.2.2.2.1, z3.2.2.2.2.1, ()) [(ByteArray.mk #[]), (ByteArray.mk #[119, 104, 97, 116]), (ByteArray.mk #[116, 117, 114, 110, 32, 49]), (ByteArray.mk #[104, 97, 110, 103]), (ByteArray.mk #[104, 97, 110, 103, 32, 120]), (ByteArray.mk #[100, 111, 111, 114, 32, 50]), (ByteArray.mk #[98, 111, 97, 114, 100, 32, 45, 49]), (ByteArray.mk #[99, 97, 98, 105, 110, 32, 48]), (ByteArray.mk #[97, 64, 98]), (ByteArray.mk #[117, 112]), (ByteArray.mk #[112, 101, 111, 112, 108, 101, 32, 48])]).bind fun y9 => (some (y9.1, (y9.2.1, y9.2.2.1, y9.2.2.2.1, ())))))))))
def slCc.res (_ : l1Cur) (_ : Int) (_ : (List Slot)) (_ : Int) (_ : Int) (_ : Int) (_ : ByteArray) (_ : ByteArray) (_ : Int) (y : ByteArray × l1Cur) : AV := (.v (.string y.1))
def slCc.out (_ : l1Cur) (_ : Int) (_ : (List Slot)) (_ : Int) (_ : Int) (_ : Int) (_ : ByteArray) (_ : ByteArray) (_ : Int) (y : ByteArray × l1Cur) : List (Option LB) := [some (.box 90 [(.tree (.int .u8) y.2.1), (.v (.int .i64 y.2.2.1)), (.v (.int .u64 y.2.2.2.1))])]
def slCc.S (ar : List AV) (h : List (Option LB)) (r : AV) (h1 : List (Option LB)) : Prop := ∃ a0 a100 a101 a102 a103 a104 a105 a106 a107 y, slCc a0 a100 a101 a102 a103 a104 a105 a106 a107 = some y ∧ leL ar [(.loc 0 0 0), (.agg [(.v (.int .i64 a100)), (.tree tS a101), (.v (.int .i64 a102)), (.v (.int .i64 a103)), (.v (.int .i64 a104)), (.v (.string a105)), (.v (.string a106)), (.v (.int .i64 a107))])] ∧ leH h [some (.box 90 [(.tree (.int .u8) a0.1), (.v (.int .i64 a0.2.1)), (.v (.int .u64 a0.2.2.1))])] ∧ r = slCc.res a0 a100 a101 a102 a103 a104 a105 a106 a107 y ∧ h1 = slCc.out a0 a100 a101 a102 a103 a104 a105 a106 a107 y
theorem slCc.call {ar h a0 a100 a101 a102 a103 a104 a105 a106 a107 y} (H : slCc a0 a100 a101 a102 a103 a104 a105 a106 a107 = some y) (h0 : leLk ar [(.loc 0 0 0), (.agg [(.v (.int .i64 a100)), (.tree tS a101), (.v (.int .i64 a102)), (.v (.int .i64 a103)), (.v (.int .i64 a104)), (.v (.string a105)), (.v (.string a106)), (.v (.int .i64 a107))])] (leHk h [some (.box 90 [(.tree (.int .u8) a0.1), (.v (.int .i64 a0.2.1)), (.v (.int .u64 a0.2.2.1))])])) : slCc.S ar h (slCc.res a0 a100 a101 a102 a103 a104 a105 a106 a107 y) (slCc.out a0 a100 a101 a102 a103 a104 a105 a106 a107 y) := ⟨a0, a100, a101, a102, a103, a104, a105, a106, a107, y, H, (ao h0).1, (ao h0).2, rfl, rfl⟩
theorem slCc.spec (a0 a100 a101 a102 a103 a104 a105 a106 a107 y) (H : slCc a0 a100 a101 a102 a103 a104 a105 a106 a107 = some y) : Spec Tryz.prog 58 [(.loc 0 0 0), (.agg [(.v (.int .i64 a100)), (.tree tS a101), (.v (.int .i64 a102)), (.v (.int .i64 a103)), (.v (.int .i64 a104)), (.v (.string a105)), (.v (.string a106)), (.v (.int .i64 a107))])] [some (.box 90 [(.tree (.int .u8) a0.1), (.v (.int .i64 a0.2.1)), (.v (.int .u64 a0.2.2.1))])] (slCc.res a0 a100 a101 a102 a103 a104 a105 a106 a107 y) (slCc.out a0 a100 a101 a102 a103 a104 a105 a106 a107 y) := by
 refine si (G151_ok.at tok []) (ct := [(7, none), (6, some [0, 5, 12, 13]), (16, some [6, 23, 39]), (21, some [6])]) Tryz.func58 rfl (by kernel_rfl) (by kernel_rfl) rfl ?_
 repeat' first
  | ((with_reducible refine eqg ?_); exact rfl)
  | ((with_reducible refine KOb.mk ?_); kernel_rfl)
  | ((with_reducible intro h); (repeat first | replace H := grd_k H | replace H := os1 H ‹_›); first | replace H := ct1 h H | replace H := cf1 h H | exact absurd h (by decide) | skip)
  | ((with_reducible refine Ob.mk ?_); first | (with_reducible rfl) | (first | ((repeat (first | (with_reducible exact grd_p H) | replace H := grd_k H | replace H := os1 H ‹_›)); done) | rfl | ((repeat (first | exact grd_p H | (have hp := grd_p H; exact hp) | replace H := grd_k H | replace H := os1 H ‹_› | (replace H := bind_some H; obtain ⟨_, _, H⟩ := H))); done) | (repeat (first | exact grd_p H | replace H := grd_k H | replace H := os1 H ‹_›))))
  | (with_reducible exact True.intro)
  | ((conv => whnf); first
      | (with_reducible refine And.intro ?_ ?_)
      | (with_reducible exact True.intro)
      | (with_reducible refine (?_ : Ob _))
      | ((with_reducible refine CallW.mk ?_); (repeat first | replace H := grd_k H | replace H := os1 H ‹_›); replace H := bind_some H; obtain ⟨y, hy, H⟩ := H; first | ((with_reducible have hz : slCr _ _ _ _ _ _ = some y := hy); clear hz; refine Exists.intro _ (Exists.intro _ ⟨Or.inl (slCr.call hy ?_), rfl, rfl, ?_⟩)) | ((with_reducible have hz : slCp _ _ = some y := hy); clear hz; refine ⟨_, _, slCp.call hy ?_, rfl, rfl, ?_⟩) | ((with_reducible have hz : slM2 _ _ = some y := hy); clear hz; refine ⟨_, _, slM2.call hy ?_, rfl, rfl, ?_⟩) | ((with_reducible have hz : slN _ = some y := hy); clear hz; refine ⟨_, _, slN.call hy ?_, rfl, rfl, ?_⟩) | ((with_reducible have hz : slL3 _ _ = some y := hy); clear hz; refine ⟨_, _, slL3.call hy ?_, rfl, rfl, ?_⟩) | ((with_reducible have hz : slCo1 _ _ = some y := hy); clear hz; refine ⟨_, _, slCo1.call hy ?_, rfl, rfl, ?_⟩))
      | ((with_reducible refine cutAt (id := 7) ?_); (repeat first | replace H := grd_k H | replace H := os1 H ‹_›); first | (replace H := bind_some H; obtain ⟨z, hz, H⟩ := H; refine CutC.mk (id := 7) ⟨sl [(0, (.loc 0 0 0)), (5, (.loc 1 0 0)), (12, (.v (.int .i64 z.1))), (13, (.bl z.2.1))], [some (.box 90 [(.tree (.int .u8) z.2.2.1), (.v (.int .i64 z.2.2.2.1)), (.v (.int .u64 z.2.2.2.2.1))]), some (.box 120 [(.v (.int .i64 z.2.2.2.2.2.1)), (.v (.int .i64 z.2.2.2.2.2.2))])]⟩ ?_ ?_; (replace H := hz)))
      | ((repeat first | replace H := grd_k H | replace H := os1 H ‹_›); have H := Option.some.inj H; subst H; with_reducible refine sa ?_)
      | ((with_reducible refine fm ?_); (repeat first | replace H := grd_k H | replace H := os1 H ‹_›); have H := Option.some.inj H; subst H))
  | constructor
def G152 : Env := G151.addOr 58 [true, true] slCc.S
theorem G152_ok : EnvOk Tryz.prog G152 := G151_ok.addOr ent_58 fun ar h r h1 ⟨a0, a100, a101, a102, a103, a104, a105, a106, a107, y, hy, e1, e2, e3, e4⟩ => by
 subst e3 e4; exact (slCc.spec a0 a100 a101 a102 a103 a104 a105 a106 a107 y hy).le e1 e2
attribute [local irreducible] slCc

noncomputable def slCc2  (v57 : Int) (v58 : (List Int)) (v59 : Int) (v60 : Int) (v61 : Int) (v62 : (List Slot)) (v63 : Int) (v64 : Int) (v65 : Int) (v66 : ByteArray) (v67 : ByteArray) (v68 : Int) : Option (Lp (Int × (List Int) × Int × Int × Int × (List Slot) × Int × Int × Int × ByteArray × ByteArray × Int) (((List Int) × Int × Int × Int × (List Slot) × Int × Int × Int × ByteArray × ByteArray × Int))) :=
 (cond (decide ((0 : Int) < v57)) ((slG1 ((v61, v62, v63, v64, v65, ()), (v66, v67, v68, ()), ())).bind fun y69 => (cond y69 ((slCc (v58, v59, v60, ()) v61 v62 v63 v64 v65 v66 v67 v68).bind fun y70 => ((sEC ((v61, v62, v63, v64, v65, ()), (v66, v67, v68, ()), ()) y70.1).bind fun y71 => (some (.go ((w64 (v57 - (1 : Int))), y70.2.1, y70.2.2.1, y70.2.2.2.1, y71.1.1.1, y71.1.1.2.1, y71.1.1.2.2.1, y71.1.1.2.2.2.1, y71.1.1.2.2.2.2.1, y71.1.2.1.1, y71.1.2.1.2.1, y71.1.2.1.2.2.1))))) ((some (.out (v58, v59, v60, v61, v62, v63, v64, v65, v66, v67, v68)))))) ((some (.out (v58, v59, v60, v61, v62, v63, v64, v65, v66, v67, v68)))))
noncomputable def slCc1 (a0 : l1Cur) : Option (C1 × l1Cur) :=
 (((slCr1 (a0.1, a0.2.1, a0.2.2.1, ())).bind (Sum.elim (fun y2 => (some ((Tg.mk : Tg 1), y2.2.1, y2.2.2.1, y2.2.2.2.1, y2.1.1, [], y2.1.2.2.1, y2.1.2.2.2.1, y2.1.2.2.2.2.1))) (fun y3 => (some ((Tg.mk : Tg 1), y3.2.1, y3.2.2.1, y3.2.2.2.1, y3.1.1, y3.1.2.1, y3.1.2.2.1, y3.1.2.2.2.1, y3.1.2.2.2.2.1))))).bind fun z4 => ((slCp (z4.2.1, z4.2.2.1, z4.2.2.2.1, ()) (7 : Int)).bind fun y5 => ((iter (fun s => slCc2 s.1 s.2.1 s.2.2.1 s.2.2.2.1 s.2.2.2.2.1 s.2.2.2.2.2.1 s.2.2.2.2.2.2.1 s.2.2.2.2.2.2.2.1 s.2.2.2.2.2.2.2.2.1 s.2.2.2.2.2.2.2.2.2.1 s.2.2.2.2.2.2.2.2.2.2.1 s.2.2.2.2.2.2.2.2.2.2.2) (y5.1, y5.2.1, y5.2.2.1, y5.2.2.2.1, z4.2.2.2.2.1, z4.2.2.2.2.2.1, z4.2.2.2.2.2.2.1, z4.2.2.2.2.2.2.2.1, z4.2.2.2.2.2.2.2.2, (ByteArray.mk #[]), (ByteArray.mk #[]), (0 : Int))).bind (fun r72 => ((slCo (r72.1, r72.2.1, r72.2.2.1, ()) (24 : Int)).bind fun y73 => (cond y73.1 ((slCa1 (y73.2.1, y73.2.2.1, y73.2.2.2.1, ())).bind fun y74 => (some (((r72.2.2.2.1, r72.2.2.2.2.1, r72.2.2.2.2.2.1, r72.2.2.2.2.2.2.1, r72.2.2.2.2.2.2.2.1, ()), (y74.1.1, y74.1.2.1, y74.1.2.2.1, ()), ()), (y74.2.1, y74.2.2.1, y74.2.2.2.1, ())))) ((some (((r72.2.2.2.1, r72.2.2.2.2.1, r72.2.2.2.2.2.1, r72.2.2.2.2.2.2.1, r72.2.2.2.2.2.2.2.1, ()), (r72.2.2.2.2.2.2.2.2.1, r72.2.2.2.2.2.2.2.2.2.1, r72.2.2.2.2.2.2.2.2.2.2, ()), ()), (y73.2.1, y73.2.2.1, y73.2.2.2.1, ()))))))))))
def slCc1.res (_ : l1Cur) (y : C1 × l1Cur) : AV := (.agg [(.v (.int .i64 y.1.1.1)), (.tree tS y.1.1.2.1), (.v (.int .i64 y.1.1.2.2.1)), (.v (.int .i64 y.1.1.2.2.2.1)), (.v (.int .i64 y.1.1.2.2.2.2.1)), (.v (.string y.1.2.1.1)), (.v (.string y.1.2.1.2.1)), (.v (.int .i64 y.1.2.1.2.2.1))])
def slCc1.out (_ : l1Cur) (y : C1 × l1Cur) : List (Option LB) := [some (.box 90 [(.tree (.int .u8) y.2.1), (.v (.int .i64 y.2.2.1)), (.v (.int .u64 y.2.2.2.1))])]
def slCc1.S (ar : List AV) (h : List (Option LB)) (r : AV) (h1 : List (Option LB)) : Prop := ∃ a0 y, slCc1 a0 = some y ∧ leL ar [(.loc 0 0 0)] ∧ leH h [some (.box 90 [(.tree (.int .u8) a0.1), (.v (.int .i64 a0.2.1)), (.v (.int .u64 a0.2.2.1))])] ∧ r = slCc1.res a0 y ∧ h1 = slCc1.out a0 y
theorem slCc1.call {ar h a0 y} (H : slCc1 a0 = some y) (h0 : leLk ar [(.loc 0 0 0)] (leHk h [some (.box 90 [(.tree (.int .u8) a0.1), (.v (.int .i64 a0.2.1)), (.v (.int .u64 a0.2.2.1))])])) : slCc1.S ar h (slCc1.res a0 y) (slCc1.out a0 y) := ⟨a0, y, H, (ao h0).1, (ao h0).2, rfl, rfl⟩
theorem slCc1.spec (a0 y) (H : slCc1 a0 = some y) : Spec Tryz.prog 57 [(.loc 0 0 0)] [some (.box 90 [(.tree (.int .u8) a0.1), (.v (.int .i64 a0.2.1)), (.v (.int .u64 a0.2.2.1))])] (slCc1.res a0 y) (slCc1.out a0 y) := by
 refine si (G152_ok.at tok []) (ct := [(2, none), (4, some [0, 2, 3, 4, 13, 14])]) Tryz.func57 rfl (by kernel_rfl) (by kernel_rfl) rfl ?_
 repeat' first
  | ((with_reducible refine eqg ?_); exact rfl)
  | ((with_reducible refine KOb.mk ?_); kernel_rfl)
  | ((with_reducible intro h); (repeat first | replace H := grd_k H | replace H := os1 H ‹_›); first | replace H := ct1 h H | replace H := cf1 h H | exact absurd h (by decide) | skip)
  | ((with_reducible refine Ob.mk ?_); first | (with_reducible rfl) | (first | ((repeat (first | (with_reducible exact grd_p H) | replace H := grd_k H | replace H := os1 H ‹_›)); done) | rfl | ((repeat (first | exact grd_p H | (have hp := grd_p H; exact hp) | replace H := grd_k H | replace H := os1 H ‹_› | (replace H := bind_some H; obtain ⟨_, _, H⟩ := H))); done) | (repeat (first | exact grd_p H | replace H := grd_k H | replace H := os1 H ‹_›))))
  | (with_reducible exact True.intro)
  | ((conv => whnf); first
      | (with_reducible refine And.intro ?_ ?_)
      | (with_reducible exact True.intro)
      | (with_reducible refine (?_ : Ob _))
      | ((with_reducible refine CallW.mk ?_); (repeat first | replace H := grd_k H | replace H := os1 H ‹_›); replace H := bind_some H; obtain ⟨y, hy, H⟩ := H; first | ((with_reducible have hz : slCr1 _ = some y := hy); clear hz; rcases y with y | y <;> refine ⟨_, _, slCr1.call hy ?_, rfl, rfl, ?_⟩) | ((with_reducible have hz : slCp _ _ = some y := hy); clear hz; refine ⟨_, _, slCp.call hy ?_, rfl, rfl, ?_⟩) | ((with_reducible have hz : slG1 _ = some y := hy); clear hz; refine ⟨_, _, slG1.call hy ?_, rfl, rfl, ?_⟩) | ((with_reducible have hz : slCc _ _ _ _ _ _ _ _ _ = some y := hy); clear hz; refine Exists.intro _ (Exists.intro _ ⟨Or.inl (slCc.call hy ?_), rfl, rfl, ?_⟩)) | ((with_reducible have hz : sEC _ _ = some y := hy); clear hz; refine ⟨_, _, sEC.call hy ?_, rfl, rfl, ?_⟩) | ((with_reducible have hz : slCo _ _ = some y := hy); clear hz; refine ⟨_, _, slCo.call hy ?_, rfl, rfl, ?_⟩) | ((with_reducible have hz : slCa1 _ = some y := hy); clear hz; refine ⟨_, _, slCa1.call hy ?_, rfl, rfl, ?_⟩))
      | ((repeat first | replace H := grd_k H | replace H := os1 H ‹_›); refine li1 (G152_ok.at tok []) (ct := [(2, none), (4, some [0, 2, 3, 4, 13, 14])]) (F := (fun s1 : Int × (List Int) × Int × Int × Int × (List Slot) × Int × Int × Int × ByteArray × ByteArray × Int => ⟨sl [(0, (.loc 0 0 0)), (2, (.loc 1 0 0)), (3, (.loc 2 0 0)), (4, (.v (.int .i64 s1.1)))], [some (.box 90 [(.tree (.int .u8) s1.2.1), (.v (.int .i64 s1.2.2.1)), (.v (.int .u64 s1.2.2.2.1))]), some (.box 40 [(.v (.int .i64 (0 : Int))), (.v (.slice none 0 0)), (.v (.int .i64 (0 : Int))), (.v (.int .i64 (0 : Int))), (.v (.int .i64 (0 : Int))), (.v (.string (ByteArray.mk #[]))), (.v (.string (ByteArray.mk #[]))), (.v (.int .i64 (0 : Int)))]), some (.box 40 [(.v (.int .i64 s1.2.2.2.2.1)), (.tree tS s1.2.2.2.2.2.1), (.v (.int .i64 s1.2.2.2.2.2.2.1)), (.v (.int .i64 s1.2.2.2.2.2.2.2.1)), (.v (.int .i64 s1.2.2.2.2.2.2.2.2.1)), (.v (.string s1.2.2.2.2.2.2.2.2.2.1)), (.v (.string s1.2.2.2.2.2.2.2.2.2.2.1)), (.v (.int .i64 s1.2.2.2.2.2.2.2.2.2.2.2))])]⟩)) (step := (fun s : Int × (List Int) × Int × Int × Int × (List Slot) × Int × Int × Int × ByteArray × ByteArray × Int => slCc2 s.1 s.2.1 s.2.2.1 s.2.2.2.1 s.2.2.2.2.1 s.2.2.2.2.2.1 s.2.2.2.2.2.2.1 s.2.2.2.2.2.2.2.1 s.2.2.2.2.2.2.2.2.1 s.2.2.2.2.2.2.2.2.2.1 s.2.2.2.2.2.2.2.2.2.2.1 s.2.2.2.2.2.2.2.2.2.2.2)) _ H (by kernel_rfl) (sa ?_) ?_; rotate_left; (intro s1 r v hr H); rotate_right)
      | ((with_reducible refine cutAt (id := 2) ?_); (repeat first | replace H := grd_k H | replace H := os1 H ‹_›); first | (replace H := bind_some H; obtain ⟨z, hz, H⟩ := H; have hT : Tg 1 × (List Int) × Int × Int × Int × (List Slot) × Int × Int × Int := z; clear hT; refine CutC.mk (id := 2) ⟨sl [(0, (.loc 0 0 0)), (2, (.loc 1 0 0)), (3, (.loc 2 0 0))], [some (.box 90 [(.tree (.int .u8) z.2.1), (.v (.int .i64 z.2.2.1)), (.v (.int .u64 z.2.2.2.1))]), some (.box 40 [(.v (.int .i64 (0 : Int))), (.v (.slice none 0 0)), (.v (.int .i64 (0 : Int))), (.v (.int .i64 (0 : Int))), (.v (.int .i64 (0 : Int))), (.v (.string (ByteArray.mk #[]))), (.v (.string (ByteArray.mk #[]))), (.v (.int .i64 (0 : Int)))]), some (.box 40 [(.v (.int .i64 z.2.2.2.2.1)), (.tree tS z.2.2.2.2.2.1), (.v (.int .i64 z.2.2.2.2.2.2.1)), (.v (.int .i64 z.2.2.2.2.2.2.2.1)), (.v (.int .i64 z.2.2.2.2.2.2.2.2)), (.v (.string (ByteArray.mk #[]))), (.v (.string (ByteArray.mk #[]))), (.v (.int .i64 (0 : Int)))])]⟩ ?_ ?_; (replace H := hz)))
      | ((repeat first | replace H := grd_k H | replace H := os1 H ‹_›); have H := Option.some.inj H; subst H; with_reducible refine sa ?_)
      | ((repeat first | replace H := grd_k H | replace H := os1 H ‹_›); refine as1 H (by assumption) (sa ?_))
      | ((with_reducible refine fm ?_); (repeat first | replace H := grd_k H | replace H := os1 H ‹_›); have H := Option.some.inj H; subst H))
  | constructor
def G153 : Env := G152.add 57 [true] slCc1.S
theorem G153_ok : EnvOk Tryz.prog G153 := G152_ok.add ent_57 fun ar h r h1 ⟨a0, y, hy, e1, e2, e3, e4⟩ => by
 subst e3 e4; exact (slCc1.spec a0 y hy).le e1 e2
attribute [local irreducible] slCc1

noncomputable def sDRS2  (v18 : ByteArray) (v19 : Int) (v20 : (List Int)) (v21 : Int) (v22 : Int) (v23 : Int) (v24 : (List Slot)) (v25 : Int) (v26 : Int) (v27 : Int) (v28 : ByteArray) (v29 : ByteArray) (v30 : Int) : Option (Lp (ByteArray × Int × (List Int) × Int × Int × Int × (List Slot) × Int × Int × Int × ByteArray × ByteArray × Int) ((ByteArray × (List Int) × Int × Int × Int × (List Slot) × Int × Int × Int × ByteArray × ByteArray × Int))) :=
 (cond (decide ((0 : Int) < v19)) (grd (v18.size + (ByteArray.mk #[10]).size ≤ 9223372036854775807) ((slCc (v20, v21, v22, ()) v23 v24 v25 v26 v27 v28 v29 v30).bind fun y31 => (grd ((v18 ++ (ByteArray.mk #[10])).size + y31.1.size ≤ 9223372036854775807) (some (.go (((v18 ++ (ByteArray.mk #[10])) ++ y31.1), (w64 (v19 - (1 : Int))), y31.2.1, y31.2.2.1, y31.2.2.2.1, v23, v24, v25, v26, v27, v28, v29, v30)))))) ((some (.out (v18, v20, v21, v22, v23, v24, v25, v26, v27, v28, v29, v30)))))
noncomputable def sDRS1  (v54 : ByteArray) (v55 : Int) (v56 : Int) (v57 : (List Slot)) (v58 : Int) (v59 : Int) (v60 : Int) (v61 : ByteArray) (v62 : ByteArray) (v63 : Int) : Option (Lp (ByteArray × Int × Int × (List Slot) × Int × Int × Int × ByteArray × ByteArray × Int) ((ByteArray × Int × (List Slot) × Int × Int × Int × ByteArray × ByteArray × Int))) :=
 (cond (decide ((0 : Int) < v55)) (grd (v54.size + (ByteArray.mk #[10]).size ≤ 9223372036854775807) (some (.go ((v54 ++ (ByteArray.mk #[10])), (w64 (v55 - (1 : Int))), v56, v57, v58, v59, v60, v61, v62, v63)))) ((some (.out (v54, v56, v57, v58, v59, v60, v61, v62, v63)))))
noncomputable def sDRS (a0 : (List Int)) : Option (C1 × ByteArray) :=
 ((slCc1 (a0, (0 : Int), (0 : Int), ())).bind fun y1 => ((slCc (y1.2.1, y1.2.2.1, y1.2.2.2.1, ()) y1.1.1.1 y1.1.1.2.1 y1.1.1.2.2.1 y1.1.1.2.2.2.1 y1.1.1.2.2.2.2.1 y1.1.2.1.1 y1.1.2.1.2.1 y1.1.2.1.2.2.1).bind fun y2 => ((slCp (y2.2.1, y2.2.2.1, y2.2.2.2.1, ()) (5 : Int)).bind fun y3 => ((iter (fun s => sDRS2 s.1 s.2.1 s.2.2.1 s.2.2.2.1 s.2.2.2.2.1 s.2.2.2.2.2.1 s.2.2.2.2.2.2.1 s.2.2.2.2.2.2.2.1 s.2.2.2.2.2.2.2.2.1 s.2.2.2.2.2.2.2.2.2.1 s.2.2.2.2.2.2.2.2.2.2.1 s.2.2.2.2.2.2.2.2.2.2.2.1 s.2.2.2.2.2.2.2.2.2.2.2.2) (y2.1, y3.1, y3.2.1, y3.2.2.1, y3.2.2.2.1, y1.1.1.1, y1.1.1.2.1, y1.1.1.2.2.1, y1.1.1.2.2.2.1, y1.1.1.2.2.2.2.1, y1.1.2.1.1, y1.1.2.1.2.1, y1.1.2.1.2.2.1)).bind (fun r32 => ((slCo (r32.2.1, r32.2.2.1, r32.2.2.2.1, ()) (20 : Int)).bind fun y33 => (cond y33.1 ((slCp (y33.2.1, y33.2.2.1, y33.2.2.2.1, ()) (2 : Int)).bind fun y34 => ((iter (fun s => sDRS1 s.1 s.2.1 s.2.2.1 s.2.2.2.1 s.2.2.2.2.1 s.2.2.2.2.2.1 s.2.2.2.2.2.2.1 s.2.2.2.2.2.2.2.1 s.2.2.2.2.2.2.2.2.1 s.2.2.2.2.2.2.2.2.2) ((ByteArray.mk #[]), (w64 ((29 : Int) + y34.1)), r32.2.2.2.2.1, r32.2.2.2.2.2.1, r32.2.2.2.2.2.2.1, r32.2.2.2.2.2.2.2.1, r32.2.2.2.2.2.2.2.2.1, r32.2.2.2.2.2.2.2.2.2.1, r32.2.2.2.2.2.2.2.2.2.2.1, r32.2.2.2.2.2.2.2.2.2.2.2)).bind (fun r64 => (some (((r64.2.1, r64.2.2.1, r64.2.2.2.1, r64.2.2.2.2.1, r64.2.2.2.2.2.1, ()), (r64.2.2.2.2.2.2.1, r64.2.2.2.2.2.2.2.1, r64.2.2.2.2.2.2.2.2, ()), ()), r64.1))))) ((some (((r32.2.2.2.2.1, r32.2.2.2.2.2.1, r32.2.2.2.2.2.2.1, r32.2.2.2.2.2.2.2.1, r32.2.2.2.2.2.2.2.2.1, ()), (r32.2.2.2.2.2.2.2.2.2.1, r32.2.2.2.2.2.2.2.2.2.2.1, r32.2.2.2.2.2.2.2.2.2.2.2, ()), ()), r32.1))))))))))
def sDRS.res (_ : (List Int)) (y : C1 × ByteArray) : AV := (.tup [(.agg [(.v (.int .i64 y.1.1.1)), (.tree tS y.1.1.2.1), (.v (.int .i64 y.1.1.2.2.1)), (.v (.int .i64 y.1.1.2.2.2.1)), (.v (.int .i64 y.1.1.2.2.2.2.1)), (.v (.string y.1.2.1.1)), (.v (.string y.1.2.1.2.1)), (.v (.int .i64 y.1.2.1.2.2.1))]), (.v (.string y.2))])
def sDRS.out (_ : (List Int)) (_ : C1 × ByteArray) : List (Option LB) := []
def sDRS.S (ar : List AV) (h : List (Option LB)) (r : AV) (h1 : List (Option LB)) : Prop := ∃ a0 y, sDRS a0 = some y ∧ leL ar [(.tree (.int .u8) a0)] ∧ leH h [] ∧ r = sDRS.res a0 y ∧ h1 = sDRS.out a0 y
theorem sDRS.call {ar h a0 y} (H : sDRS a0 = some y) (h0 : leLk ar [(.tree (.int .u8) a0)] (leHk h [])) : sDRS.S ar h (sDRS.res a0 y) (sDRS.out a0 y) := ⟨a0, y, H, (ao h0).1, (ao h0).2, rfl, rfl⟩
theorem sDRS.spec (a0 y) (H : sDRS a0 = some y) : Spec Tryz.prog 25 [(.tree (.int .u8) a0)] [] (sDRS.res a0 y) (sDRS.out a0 y) := by
 refine si (G153_ok.at tok []) (ct := [(5, some [2, 4, 5, 6, 7])]) Tryz.func25 rfl (by kernel_rfl) (by kernel_rfl) rfl ?_
 repeat' first
  | ((with_reducible refine eqg ?_); exact rfl)
  | ((with_reducible refine KOb.mk ?_); kernel_rfl)
  | ((with_reducible intro h); (repeat first | replace H := grd_k H | replace H := os1 H ‹_›); first | replace H := ct1 h H | replace H := cf1 h H | exact absurd h (by decide) | skip)
  | ((with_reducible refine Ob.mk ?_); first | (with_reducible rfl) | (first | ((repeat (first | (with_reducible exact grd_p H) | replace H := grd_k H | replace H := os1 H ‹_›)); done) | rfl | ((repeat (first | exact grd_p H | (have hp := grd_p H; exact hp) | replace H := grd_k H | replace H := os1 H ‹_› | (replace H := bind_some H; obtain ⟨_, _, H⟩ := H))); done) | (repeat (first | exact grd_p H | replace H := grd_k H | replace H := os1 H ‹_›))))
  | (with_reducible exact True.intro)
  | ((conv => whnf); first
      | (with_reducible refine And.intro ?_ ?_)
      | (with_reducible exact True.intro)
      | (with_reducible refine (?_ : Ob _))
      | ((with_reducible refine CallW.mk ?_); (repeat first | replace H := grd_k H | replace H := os1 H ‹_›); replace H := bind_some H; obtain ⟨y, hy, H⟩ := H; first | ((with_reducible have hz : slCc1 _ = some y := hy); clear hz; refine ⟨_, _, slCc1.call hy ?_, rfl, rfl, ?_⟩) | ((with_reducible have hz : slCc _ _ _ _ _ _ _ _ _ = some y := hy); clear hz; refine Exists.intro _ (Exists.intro _ ⟨Or.inl (slCc.call hy ?_), rfl, rfl, ?_⟩)) | ((with_reducible have hz : slCp _ _ = some y := hy); clear hz; refine ⟨_, _, slCp.call hy ?_, rfl, rfl, ?_⟩) | ((with_reducible have hz : slCo _ _ = some y := hy); clear hz; refine ⟨_, _, slCo.call hy ?_, rfl, rfl, ?_⟩))
      | ((repeat first | replace H := grd_k H | replace H := os1 H ‹_›); refine li1 (G153_ok.at tok []) (ct := [(5, some [2, 4, 5, 6, 7])]) (F := (fun s1 : ByteArray × Int × (List Int) × Int × Int × Int × (List Slot) × Int × Int × Int × ByteArray × ByteArray × Int => ⟨sl [(2, (.loc 0 0 0)), (4, (.loc 1 0 0)), (5, (.loc 2 0 0)), (6, (.v (.string s1.1))), (7, (.v (.int .i64 s1.2.1)))], [some (.box 40 [(.v (.int .i64 (0 : Int))), (.v (.slice none 0 0)), (.v (.int .i64 (0 : Int))), (.v (.int .i64 (0 : Int))), (.v (.int .i64 (0 : Int))), (.v (.string (ByteArray.mk #[]))), (.v (.string (ByteArray.mk #[]))), (.v (.int .i64 (0 : Int)))]), some (.box 90 [(.tree (.int .u8) s1.2.2.1), (.v (.int .i64 s1.2.2.2.1)), (.v (.int .u64 s1.2.2.2.2.1))]), some (.box 40 [(.v (.int .i64 s1.2.2.2.2.2.1)), (.tree tS s1.2.2.2.2.2.2.1), (.v (.int .i64 s1.2.2.2.2.2.2.2.1)), (.v (.int .i64 s1.2.2.2.2.2.2.2.2.1)), (.v (.int .i64 s1.2.2.2.2.2.2.2.2.2.1)), (.v (.string s1.2.2.2.2.2.2.2.2.2.2.1)), (.v (.string s1.2.2.2.2.2.2.2.2.2.2.2.1)), (.v (.int .i64 s1.2.2.2.2.2.2.2.2.2.2.2.2))])]⟩)) (step := (fun s : ByteArray × Int × (List Int) × Int × Int × Int × (List Slot) × Int × Int × Int × ByteArray × ByteArray × Int => sDRS2 s.1 s.2.1 s.2.2.1 s.2.2.2.1 s.2.2.2.2.1 s.2.2.2.2.2.1 s.2.2.2.2.2.2.1 s.2.2.2.2.2.2.2.1 s.2.2.2.2.2.2.2.2.1 s.2.2.2.2.2.2.2.2.2.1 s.2.2.2.2.2.2.2.2.2.2.1 s.2.2.2.2.2.2.2.2.2.2.2.1 s.2.2.2.2.2.2.2.2.2.2.2.2)) _ H (by kernel_rfl) (sa ?_) ?_; rotate_left; (intro s1 r v hr H); rotate_right)
      | ((repeat first | replace H := grd_k H | replace H := os1 H ‹_›); refine li1 (G153_ok.at tok []) (ct := [(5, some [2, 4, 5, 6, 7])]) (F := (fun s2 : ByteArray × Int × Int × (List Slot) × Int × Int × Int × ByteArray × ByteArray × Int => ⟨sl [(2, (.loc 0 0 0)), (5, (.loc 1 0 0)), (6, (.v (.string s2.1))), (8, (.v (.int .i64 s2.2.1)))], [some (.box 40 [(.v (.int .i64 (0 : Int))), (.v (.slice none 0 0)), (.v (.int .i64 (0 : Int))), (.v (.int .i64 (0 : Int))), (.v (.int .i64 (0 : Int))), (.v (.string (ByteArray.mk #[]))), (.v (.string (ByteArray.mk #[]))), (.v (.int .i64 (0 : Int)))]), some (.box 40 [(.v (.int .i64 s2.2.2.1)), (.tree tS s2.2.2.2.1), (.v (.int .i64 s2.2.2.2.2.1)), (.v (.int .i64 s2.2.2.2.2.2.1)), (.v (.int .i64 s2.2.2.2.2.2.2.1)), (.v (.string s2.2.2.2.2.2.2.2.1)), (.v (.string s2.2.2.2.2.2.2.2.2.1)), (.v (.int .i64 s2.2.2.2.2.2.2.2.2.2))])]⟩)) (step := (fun s : ByteArray × Int × Int × (List Slot) × Int × Int × Int × ByteArray × ByteArray × Int => sDRS1 s.1 s.2.1 s.2.2.1 s.2.2.2.1 s.2.2.2.2.1 s.2.2.2.2.2.1 s.2.2.2.2.2.2.1 s.2.2.2.2.2.2.2.1 s.2.2.2.2.2.2.2.2.1 s.2.2.2.2.2.2.2.2.2)) _ H (by kernel_rfl) (sa ?_) ?_; rotate_left; (intro s2 r v hr H); rotate_right)
      | ((repeat first | replace H := grd_k H | replace H := os1 H ‹_›); refine as1 H (by assumption) (sa ?_))
      | ((with_reducible refine fm ?_); (repeat first | replace H := grd_k H | replace H := os1 H ‹_›); have H := Option.some.inj H; subst H))
  | constructor
def G154 : Env := G153.add 25 [] sDRS.S
theorem G154_ok : EnvOk Tryz.prog G154 := G153_ok.add ent_25 fun ar h r h1 ⟨a0, y, hy, e1, e2, e3, e4⟩ => by
 subst e3 e4; exact (sDRS.spec a0 y hy).le e1 e2
attribute [local irreducible] sDRS

noncomputable def sSS (a0 : ByteArray) (a1 : ByteArray) : Option ((List ByteArray) × Bool) :=
 (cond (!decide ((a1.size : Int) = (1 : Int))) ((some (([] : List ByteArray), false))) (cond (decide ((4000 : Int) < (a0.size : Int))) ((some (([] : List ByteArray), false))) (grd (0 ≤ (0 : Int) ∧ (0 : Int) < (a1.size : Int)) ((slS a0 (bAt a1 (0 : Int))).bind fun y1 => (some (y1, true))))))
def sSS.res (_ : ByteArray) (_ : ByteArray) (y : (List ByteArray) × Bool) : AV := (.tup [(.own 0), (.bl y.2)])
def sSS.out (_ : ByteArray) (_ : ByteArray) (y : (List ByteArray) × Bool) : List (Option LB) := [some (.arr 9 .str y.1)]
def sSS.S (ar : List AV) (h : List (Option LB)) (r : AV) (h1 : List (Option LB)) : Prop := ∃ a0 a1 y, sSS a0 a1 = some y ∧ leL ar [(.v (.string a0)), (.v (.string a1))] ∧ leH h [] ∧ r = sSS.res a0 a1 y ∧ h1 = sSS.out a0 a1 y
theorem sSS.call {ar h a0 a1 y} (H : sSS a0 a1 = some y) (h0 : leLk ar [(.v (.string a0)), (.v (.string a1))] (leHk h [])) : sSS.S ar h (sSS.res a0 a1 y) (sSS.out a0 a1 y) := ⟨a0, a1, y, H, (ao h0).1, (ao h0).2, rfl, rfl⟩
theorem sSS.spec (a0 a1 y) (H : sSS a0 a1 = some y) : Spec Tryz.prog 26 [(.v (.string a0)), (.v (.string a1))] [] (sSS.res a0 a1 y) (sSS.out a0 a1 y) := by
 refine si (G154_ok.at tok []) (ct := []) Tryz.func26 rfl (by kernel_rfl) (by kernel_rfl) rfl ?_
 repeat' first
  | ((with_reducible refine eqg ?_); exact rfl)
  | ((with_reducible refine KOb.mk ?_); kernel_rfl)
  | ((with_reducible intro h); (repeat first | replace H := grd_k H | replace H := os1 H ‹_›); first | replace H := ct1 h H | replace H := cf1 h H | exact absurd h (by decide) | skip)
  | ((with_reducible refine Ob.mk ?_); first | (with_reducible rfl) | (first | ((repeat (first | (with_reducible exact grd_p H) | replace H := grd_k H | replace H := os1 H ‹_›)); done) | rfl | ((repeat (first | exact grd_p H | (have hp := grd_p H; exact hp) | replace H := grd_k H | replace H := os1 H ‹_› | (replace H := bind_some H; obtain ⟨_, _, H⟩ := H))); done) | (repeat (first | exact grd_p H | replace H := grd_k H | replace H := os1 H ‹_›))))
  | (with_reducible exact True.intro)
  | ((conv => whnf); first
      | (with_reducible refine And.intro ?_ ?_)
      | (with_reducible exact True.intro)
      | (with_reducible refine (?_ : Ob _))
      | ((with_reducible refine CallW.mk ?_); (repeat first | replace H := grd_k H | replace H := os1 H ‹_›); replace H := bind_some H; obtain ⟨y, hy, H⟩ := H; first | ((with_reducible have hz : slS _ _ = some y := hy); clear hz; refine ⟨_, _, slS.call hy ?_, rfl, rfl, ?_⟩))
      | ((with_reducible refine fm ?_); (repeat first | replace H := grd_k H | replace H := os1 H ‹_›); have H := Option.some.inj H; subst H))
  | constructor
def G155 : Env := G154.add 26 [] sSS.S
theorem G155_ok : EnvOk Tryz.prog G155 := G154_ok.add ent_26 fun ar h r h1 ⟨a0, a1, y, hy, e1, e2, e3, e4⟩ => by
 subst e3 e4; exact (sSS.spec a0 a1 y hy).le e1 e2
attribute [local irreducible] sSS

end Go.Proofs.YtaobinhdnklojaaGreatDoor
namespace Go.Proofs.YtaobinhdnklojaaGreatDoor
open Go.RowKit
set_option maxHeartbeats 100000000
set_option maxRecDepth 100000
attribute [local irreducible] Ob l5 Sub Spec Fin Again CallW CutC KOb iter

attribute [local irreducible] slNf sAR sEC sIFi sIFi1 sCFi sCiS icRi sNC iECi lmSS slCp slCa slCo slCr slCl slCc

def G158 : Env := G155
theorem G158_ok : EnvOk Tryz.prog G158 := G155_ok

noncomputable def sDRL1  (v40 : Int) (v41 : Int) (v42 : Int) (v43 : (List Int)) (v44 : Int) (v45 : Int) (v46 : Int) (v47 : (List Slot)) (v48 : Int) (v49 : Int) (v50 : Int) (v51 : ByteArray) (v52 : ByteArray) (v53 : Int) : Option (Lp (Int × Int × Int × (List Int) × Int × Int × Int × (List Slot) × Int × Int × Int × ByteArray × ByteArray × Int) ((Int × Int × (List Int) × Int × Int × Int × (List Slot) × Int × Int × Int × ByteArray × ByteArray × Int))) :=
 (cond (decide ((0 : Int) < v42)) ((slCc (v43, v44, v45, ()) v46 v47 v48 v49 v50 v51 v52 v53).bind fun y54 => ((sEC ((v46, v47, v48, v49, v50, ()), (v51, v52, v53, ()), ()) y54.1).bind fun y55 => (some (.go (v40, v41, (w64 (v42 - (1 : Int))), y54.2.1, y54.2.2.1, y54.2.2.2.1, y55.1.1.1, y55.1.1.2.1, y55.1.1.2.2.1, y55.1.1.2.2.2.1, y55.1.1.2.2.2.2.1, y55.1.2.1.1, y55.1.2.1.2.1, y55.1.2.1.2.2.1))))) ((some (.out (v40, v41, v43, v44, v45, v46, v47, v48, v49, v50, v51, v52, v53)))))
noncomputable def sDRL (a0 : (List Int)) : Option (Int × Int × Log) :=
 ((slCa (a0, (0 : Int), (0 : Int), ()) [(4 : Int), (6 : Int), (10 : Int), (5 : Int)]).bind fun y1 => ((slCa (y1.2.1, y1.2.2.1, y1.2.2.2.1, ()) [(0 : Int), (5 : Int), (500 : Int)]).bind fun y2 => (((sNC y1.1 y2.1).bind (Sum.elim (fun y4 => (some ((Tg.mk : Tg 1), y1.1, y2.1, false, y2.2.1, y2.2.2.1, y2.2.2.2.1, y4.1.1, [], y4.1.2.2.1, y4.1.2.2.2.1, y4.1.2.2.2.2.1, y4.2.1.1, y4.2.1.2.1, y4.2.1.2.2.1))) (fun y5 => (some ((Tg.mk : Tg 1), y1.1, y2.1, true, y2.2.1, y2.2.2.1, y2.2.2.2.1, y5.1.1, y5.1.2.1, y5.1.2.2.1, y5.1.2.2.2.1, y5.1.2.2.2.2.1, y5.2.1.1, y5.2.1.2.1, y5.2.1.2.2.1))))).bind fun z6 => (cond (!z6.2.2.2.1) ((some (z6.2.1, z6.2.2.1, ((ByteArray.mk #[]), (ByteArray.mk #[]), (0 : Int), ())))) ((slCp (z6.2.2.2.2.1, z6.2.2.2.2.2.1, z6.2.2.2.2.2.2.1, ()) (12 : Int)).bind fun y7 => ((iter (fun s => sDRL1 s.1 s.2.1 s.2.2.1 s.2.2.2.1 s.2.2.2.2.1 s.2.2.2.2.2.1 s.2.2.2.2.2.2.1 s.2.2.2.2.2.2.2.1 s.2.2.2.2.2.2.2.2.1 s.2.2.2.2.2.2.2.2.2.1 s.2.2.2.2.2.2.2.2.2.2.1 s.2.2.2.2.2.2.2.2.2.2.2.1 s.2.2.2.2.2.2.2.2.2.2.2.2.1 s.2.2.2.2.2.2.2.2.2.2.2.2.2) (z6.2.1, z6.2.2.1, y7.1, y7.2.1, y7.2.2.1, y7.2.2.2.1, z6.2.2.2.2.2.2.2.1, z6.2.2.2.2.2.2.2.2.1, z6.2.2.2.2.2.2.2.2.2.1, z6.2.2.2.2.2.2.2.2.2.2.1, z6.2.2.2.2.2.2.2.2.2.2.2.1, z6.2.2.2.2.2.2.2.2.2.2.2.2.1, z6.2.2.2.2.2.2.2.2.2.2.2.2.2.1, z6.2.2.2.2.2.2.2.2.2.2.2.2.2.2)).bind (fun r56 => ((slCo (r56.2.2.1, r56.2.2.2.1, r56.2.2.2.2.1, ()) (3 : Int)).bind fun y57 => (cond y57.1 ((slCl (y57.2.1, y57.2.2.1, y57.2.2.2.1, ())).bind fun y58 => ((sAR (r56.2.2.2.2.2.2.2.2.2.2.1, r56.2.2.2.2.2.2.2.2.2.2.2.1, r56.2.2.2.2.2.2.2.2.2.2.2.2, ()) (y58.1.1, y58.1.2.1, ())).bind fun y59 => (some (r56.1, r56.2.1, (y59.1.1, y59.1.2.1, y59.1.2.2.1, ()))))) ((some (r56.1, r56.2.1, (r56.2.2.2.2.2.2.2.2.2.2.1, r56.2.2.2.2.2.2.2.2.2.2.2.1, r56.2.2.2.2.2.2.2.2.2.2.2.2, ())))))))))))))
def sDRL.res (_ : (List Int)) (y : Int × Int × Log) : AV := (.tup [(.v (.int .i64 y.1)), (.v (.int .i64 y.2.1)), (.agg [(.v (.string y.2.2.1)), (.v (.string y.2.2.2.1)), (.v (.int .i64 y.2.2.2.2.1))])])
def sDRL.out (_ : (List Int)) (_ : Int × Int × Log) : List (Option LB) := []
def sDRL.S (ar : List AV) (h : List (Option LB)) (r : AV) (h1 : List (Option LB)) : Prop := ∃ a0 y, sDRL a0 = some y ∧ leL ar [(.tree (.int .u8) a0)] ∧ leH h [] ∧ r = sDRL.res a0 y ∧ h1 = sDRL.out a0 y
theorem sDRL.call {ar h a0 y} (H : sDRL a0 = some y) (h0 : leLk ar [(.tree (.int .u8) a0)] (leHk h [])) : sDRL.S ar h (sDRL.res a0 y) (sDRL.out a0 y) := ⟨a0, y, H, (ao h0).1, (ao h0).2, rfl, rfl⟩
theorem sDRL.spec (a0 y) (H : sDRL a0 = some y) : Spec Tryz.prog 29 [(.tree (.int .u8) a0)] [] (sDRL.res a0 y) (sDRL.out a0 y) := by
 refine si (G158_ok.at tok []) (ct := [(4, none), (3, some [4, 5, 6, 7]), (11, some [4, 5, 6, 7, 11])]) Tryz.func29 rfl (by kernel_rfl) (by kernel_rfl) rfl ?_
 repeat' first
  | ((with_reducible refine eqg ?_); exact rfl)
  | ((with_reducible refine KOb.mk ?_); kernel_rfl)
  | ((with_reducible intro h); (repeat first | replace H := grd_k H | replace H := os1 H ‹_›); first | replace H := ct1 h H | replace H := cf1 h H | exact absurd h (by decide) | skip)
  | ((with_reducible refine Ob.mk ?_); first | (with_reducible rfl) | (first | ((repeat (first | (with_reducible exact grd_p H) | replace H := grd_k H | replace H := os1 H ‹_›)); done) | rfl | ((repeat (first | exact grd_p H | (have hp := grd_p H; exact hp) | replace H := grd_k H | replace H := os1 H ‹_› | (replace H := bind_some H; obtain ⟨_, _, H⟩ := H))); done) | (repeat (first | exact grd_p H | replace H := grd_k H | replace H := os1 H ‹_›))))
  | (with_reducible exact True.intro)
  | ((conv => whnf); first
      | (with_reducible refine And.intro ?_ ?_)
      | (with_reducible exact True.intro)
      | (with_reducible refine (?_ : Ob _))
      | ((with_reducible refine CallW.mk ?_); (repeat first | replace H := grd_k H | replace H := os1 H ‹_›); replace H := bind_some H; obtain ⟨y, hy, H⟩ := H; first | ((with_reducible have hz : slCa _ _ = some y := hy); clear hz; refine ⟨_, _, slCa.call hy ?_, rfl, rfl, ?_⟩) | ((with_reducible have hz : sNC _ _ = some y := hy); clear hz; rcases y with y | y <;> refine ⟨_, _, sNC.call hy ?_, rfl, rfl, ?_⟩) | ((with_reducible have hz : slCp _ _ = some y := hy); clear hz; refine ⟨_, _, slCp.call hy ?_, rfl, rfl, ?_⟩) | ((with_reducible have hz : slCc _ _ _ _ _ _ _ _ _ = some y := hy); clear hz; refine Exists.intro _ (Exists.intro _ ⟨Or.inl (slCc.call hy ?_), rfl, rfl, ?_⟩)) | ((with_reducible have hz : sEC _ _ = some y := hy); clear hz; refine ⟨_, _, sEC.call hy ?_, rfl, rfl, ?_⟩) | ((with_reducible have hz : slCo _ _ = some y := hy); clear hz; refine ⟨_, _, slCo.call hy ?_, rfl, rfl, ?_⟩) | ((with_reducible have hz : slCl _ = some y := hy); clear hz; refine ⟨_, _, slCl.call hy ?_, rfl, rfl, ?_⟩) | ((with_reducible have hz : sAR _ _ = some y := hy); clear hz; refine ⟨_, _, sAR.call hy ?_, rfl, rfl, ?_⟩))
      | ((repeat first | replace H := grd_k H | replace H := os1 H ‹_›); refine li1 (G158_ok.at tok []) (ct := [(4, none), (3, some [4, 5, 6, 7]), (11, some [4, 5, 6, 7, 11])]) (F := (fun s1 : Int × Int × Int × (List Int) × Int × Int × Int × (List Slot) × Int × Int × Int × ByteArray × ByteArray × Int => ⟨sl [(4, (.loc 0 0 0)), (5, (.loc 1 0 0)), (6, (.v (.int .i64 s1.1))), (7, (.v (.int .i64 s1.2.1))), (8, (.loc 2 0 0)), (10, (.v (.int .i64 s1.2.2.1)))], [some (.box 27 [(.v (.string (ByteArray.mk #[]))), (.v (.string (ByteArray.mk #[]))), (.v (.int .i64 (0 : Int)))]), some (.box 90 [(.tree (.int .u8) s1.2.2.2.1), (.v (.int .i64 s1.2.2.2.2.1)), (.v (.int .u64 s1.2.2.2.2.2.1))]), some (.box 40 [(.v (.int .i64 s1.2.2.2.2.2.2.1)), (.tree tS s1.2.2.2.2.2.2.2.1), (.v (.int .i64 s1.2.2.2.2.2.2.2.2.1)), (.v (.int .i64 s1.2.2.2.2.2.2.2.2.2.1)), (.v (.int .i64 s1.2.2.2.2.2.2.2.2.2.2.1)), (.v (.string s1.2.2.2.2.2.2.2.2.2.2.2.1)), (.v (.string s1.2.2.2.2.2.2.2.2.2.2.2.2.1)), (.v (.int .i64 s1.2.2.2.2.2.2.2.2.2.2.2.2.2))])]⟩)) (step := (fun s : Int × Int × Int × (List Int) × Int × Int × Int × (List Slot) × Int × Int × Int × ByteArray × ByteArray × Int => sDRL1 s.1 s.2.1 s.2.2.1 s.2.2.2.1 s.2.2.2.2.1 s.2.2.2.2.2.1 s.2.2.2.2.2.2.1 s.2.2.2.2.2.2.2.1 s.2.2.2.2.2.2.2.2.1 s.2.2.2.2.2.2.2.2.2.1 s.2.2.2.2.2.2.2.2.2.2.1 s.2.2.2.2.2.2.2.2.2.2.2.1 s.2.2.2.2.2.2.2.2.2.2.2.2.1 s.2.2.2.2.2.2.2.2.2.2.2.2.2)) _ H (by kernel_rfl) (sa ?_) ?_; rotate_left; (intro s1 r v hr H); rotate_right)
      | ((with_reducible refine cutAt (id := 4) ?_); (repeat first | replace H := grd_k H | replace H := os1 H ‹_›); first | (replace H := bind_some H; obtain ⟨z, hz, H⟩ := H; have hT : Tg 1 × Int × Int × Bool × (List Int) × Int × Int × Int × (List Slot) × Int × Int × Int × ByteArray × ByteArray × Int := z; clear hT; refine CutC.mk (id := 4) ⟨sl [(4, (.loc 0 0 0)), (5, (.loc 1 0 0)), (6, (.v (.int .i64 z.2.1))), (7, (.v (.int .i64 z.2.2.1))), (8, (.loc 2 0 0)), (9, (.bl z.2.2.2.1))], [some (.box 27 [(.v (.string (ByteArray.mk #[]))), (.v (.string (ByteArray.mk #[]))), (.v (.int .i64 (0 : Int)))]), some (.box 90 [(.tree (.int .u8) z.2.2.2.2.1), (.v (.int .i64 z.2.2.2.2.2.1)), (.v (.int .u64 z.2.2.2.2.2.2.1))]), some (.box 40 [(.v (.int .i64 z.2.2.2.2.2.2.2.1)), (.tree tS z.2.2.2.2.2.2.2.2.1), (.v (.int .i64 z.2.2.2.2.2.2.2.2.2.1)), (.v (.int .i64 z.2.2.2.2.2.2.2.2.2.2.1)), (.v (.int .i64 z.2.2.2.2.2.2.2.2.2.2.2.1)), (.v (.string z.2.2.2.2.2.2.2.2.2.2.2.2.1)), (.v (.string z.2.2.2.2.2.2.2.2.2.2.2.2.2.1)), (.v (.int .i64 z.2.2.2.2.2.2.2.2.2.2.2.2.2.2))])]⟩ ?_ ?_; (replace H := hz)))
      | ((repeat first | replace H := grd_k H | replace H := os1 H ‹_›); have H := Option.some.inj H; subst H; with_reducible refine sa ?_)
      | ((repeat first | replace H := grd_k H | replace H := os1 H ‹_›); refine as1 H (by assumption) (sa ?_))
      | ((with_reducible refine fm ?_); (repeat first | replace H := grd_k H | replace H := os1 H ‹_›); have H := Option.some.inj H; subst H))
  | constructor
def G159 : Env := G158.add 29 [] sDRL.S
theorem G159_ok : EnvOk Tryz.prog G159 := G158_ok.add ent_29 fun ar h r h1 ⟨a0, y, hy, e1, e2, e3, e4⟩ => by
 subst e3 e4; exact (sDRL.spec a0 y hy).le e1 e2
attribute [local irreducible] sDRL

noncomputable def lvSl (a0 : (List Slot)) (a1 : (List Slot)) (v2 : Int) : Option (Lp (Int) ((Unit) ⊕ (Unit))) :=
 (cond (decide (v2 < (a0.length : Int))) (grd (0 ≤ v2 ∧ v2 < (a0.length : Int)) (grd (0 ≤ v2 ∧ v2 < (a1.length : Int)) (cond (!(decide (((a0.getD v2.toNat dS).1) = ((a1.getD v2.toNat dS).1)) && ((((a0.getD v2.toNat dS).2.1) == ((a1.getD v2.toNat dS).2.1)) && (decide (((a0.getD v2.toNat dS).2.2.1) = ((a1.getD v2.toNat dS).2.2.1)) && true)))) ((some (.out (Sum.inl ())))) (some (.go (w64 (v2 + (1 : Int)))))))) ((some (.out (Sum.inr ())))))
noncomputable def lvS (a0 : (List Slot)) (a1 : (List Slot)) : Option (Bool) :=
 (cond (!decide ((a0.length : Int) = (a1.length : Int))) ((some false)) ((iter (fun s => lvSl a0 a1 s) (0 : Int)).bind (Sum.elim (fun _ => (some false)) (fun _ => (some true)))))
def lvS.res (_ : (List Slot)) (_ : (List Slot)) (y : Bool) : AV := (.bl y)
def lvS.out (_ : (List Slot)) (_ : (List Slot)) (_ : Bool) : List (Option LB) := []
def lvS.S (ar : List AV) (h : List (Option LB)) (r : AV) (h1 : List (Option LB)) : Prop := ∃ a0 a1 y, lvS a0 a1 = some y ∧ leL ar [(.tree tS a0), (.tree tS a1)] ∧ leH h [] ∧ r = lvS.res a0 a1 y ∧ h1 = lvS.out a0 a1 y
theorem lvS.call {ar h a0 a1 y} (H : lvS a0 a1 = some y) (h0 : leLk ar [(.tree tS a0), (.tree tS a1)] (leHk h [])) : lvS.S ar h (lvS.res a0 a1 y) (lvS.out a0 a1 y) := ⟨a0, a1, y, H, (ao h0).1, (ao h0).2, rfl, rfl⟩
theorem lvS.spec (a0 a1 y) (H : lvS a0 a1 = some y) : Spec Tryz.prog 109 [(.tree tS a0), (.tree tS a1)] [] (lvS.res a0 a1 y) (lvS.out a0 a1 y) := by
 refine si (G159_ok.at tok []) (ct := [(5, some [0, 1, 5])]) Tryz.func109 rfl (by kernel_rfl) (by kernel_rfl) rfl ?_
 repeat' first
  | ((with_reducible refine eqg ?_); exact rfl)
  | ((with_reducible refine KOb.mk ?_); kernel_rfl)
  | ((with_reducible intro h); (repeat first | replace H := grd_k H | replace H := os1 H ‹_›); first | replace H := ct1 h H | replace H := cf1 h H | exact absurd h (by decide) | skip)
  | ((with_reducible refine Ob.mk ?_); first | (with_reducible rfl) | (first | ((repeat (first | (with_reducible exact grd_p H) | replace H := grd_k H | replace H := os1 H ‹_›)); done) | rfl | ((repeat (first | exact grd_p H | (have hp := grd_p H; exact hp) | replace H := grd_k H | replace H := os1 H ‹_› | (replace H := bind_some H; obtain ⟨_, _, H⟩ := H))); done) | (repeat (first | exact grd_p H | replace H := grd_k H | replace H := os1 H ‹_›))))
  | (with_reducible exact True.intro)
  | ((conv => whnf); first
      | (with_reducible refine And.intro ?_ ?_)
      | (with_reducible exact True.intro)
      | (with_reducible refine (?_ : Ob _))
      | ((repeat first | replace H := grd_k H | replace H := os1 H ‹_›); refine li1 (G159_ok.at tok []) (ct := [(5, some [0, 1, 5])]) (F := (fun s1 : Int => ⟨sl [(0, (.tree tS a0)), (1, (.tree tS a1)), (5, (.v (.int .i64 s1)))], []⟩)) (step := (fun s : Int => lvSl _ _ s)) _ H (by kernel_rfl) (sa ?_) ?_; rotate_left; (intro s1 r v hr H); rotate_right)
      | ((repeat first | replace H := grd_k H | replace H := os1 H ‹_›); refine as1 H (by assumption) (sa ?_))
      | ((with_reducible refine fm ?_); (repeat first | replace H := grd_k H | replace H := os1 H ‹_›); have H := Option.some.inj H; subst H))
  | constructor
def G160 : Env := G159.add 109 [] lvS.S
theorem G160_ok : EnvOk Tryz.prog G160 := G159_ok.add ent_109 fun ar h r h1 ⟨a0, a1, y, hy, e1, e2, e3, e4⟩ => by
 subst e3 e4; exact (lvS.spec a0 a1 y hy).le e1 e2
attribute [local irreducible] lvS

noncomputable def lvR (a0 : R1) (a1 : R1) : Option (Bool) :=
 (cond (decide (a0.1 = a1.1)) (cond (decide (a0.2.2.1 = a1.2.2.1)) (cond (decide (a0.2.2.2.1 = a1.2.2.2.1)) (cond (decide (a0.2.2.2.2.1 = a1.2.2.2.2.1)) ((lvS a0.2.1 a1.2.1).bind fun y1 => (some y1)) ((some false))) ((some false))) ((some false))) ((some false)))
def lvR.res (_ : R1) (_ : R1) (y : Bool) : AV := (.bl y)
def lvR.out (_ : R1) (_ : R1) (_ : Bool) : List (Option LB) := []
def lvR.S (ar : List AV) (h : List (Option LB)) (r : AV) (h1 : List (Option LB)) : Prop := ∃ a0 a1 y, lvR a0 a1 = some y ∧ leL ar [(.agg [(.v (.int .i64 a0.1)), (.tree tS a0.2.1), (.v (.int .i64 a0.2.2.1)), (.v (.int .i64 a0.2.2.2.1)), (.v (.int .i64 a0.2.2.2.2.1))]), (.agg [(.v (.int .i64 a1.1)), (.tree tS a1.2.1), (.v (.int .i64 a1.2.2.1)), (.v (.int .i64 a1.2.2.2.1)), (.v (.int .i64 a1.2.2.2.2.1))])] ∧ leH h [] ∧ r = lvR.res a0 a1 y ∧ h1 = lvR.out a0 a1 y
theorem lvR.call {ar h a0 a1 y} (H : lvR a0 a1 = some y) (h0 : leLk ar [(.agg [(.v (.int .i64 a0.1)), (.tree tS a0.2.1), (.v (.int .i64 a0.2.2.1)), (.v (.int .i64 a0.2.2.2.1)), (.v (.int .i64 a0.2.2.2.2.1))]), (.agg [(.v (.int .i64 a1.1)), (.tree tS a1.2.1), (.v (.int .i64 a1.2.2.1)), (.v (.int .i64 a1.2.2.2.1)), (.v (.int .i64 a1.2.2.2.2.1))])] (leHk h [])) : lvR.S ar h (lvR.res a0 a1 y) (lvR.out a0 a1 y) := ⟨a0, a1, y, H, (ao h0).1, (ao h0).2, rfl, rfl⟩
theorem lvR.spec (a0 a1 y) (H : lvR a0 a1 = some y) : Spec Tryz.prog 68 [(.agg [(.v (.int .i64 a0.1)), (.tree tS a0.2.1), (.v (.int .i64 a0.2.2.1)), (.v (.int .i64 a0.2.2.2.1)), (.v (.int .i64 a0.2.2.2.2.1))]), (.agg [(.v (.int .i64 a1.1)), (.tree tS a1.2.1), (.v (.int .i64 a1.2.2.1)), (.v (.int .i64 a1.2.2.2.1)), (.v (.int .i64 a1.2.2.2.2.1))])] [] (lvR.res a0 a1 y) (lvR.out a0 a1 y) := by
 refine si (G160_ok.at tok []) (ct := []) Tryz.func68 rfl (by kernel_rfl) (by kernel_rfl) rfl ?_
 repeat' first
  | ((with_reducible refine eqg ?_); exact rfl)
  | ((with_reducible refine KOb.mk ?_); kernel_rfl)
  | ((with_reducible intro h); (repeat first | replace H := grd_k H | replace H := os1 H ‹_›); first | replace H := ct1 h H | replace H := cf1 h H | exact absurd h (by decide) | skip)
  | ((with_reducible refine Ob.mk ?_); first | (with_reducible rfl) | (first | ((repeat (first | (with_reducible exact grd_p H) | replace H := grd_k H | replace H := os1 H ‹_›)); done) | rfl | ((repeat (first | exact grd_p H | (have hp := grd_p H; exact hp) | replace H := grd_k H | replace H := os1 H ‹_› | (replace H := bind_some H; obtain ⟨_, _, H⟩ := H))); done) | (repeat (first | exact grd_p H | replace H := grd_k H | replace H := os1 H ‹_›))))
  | (with_reducible exact True.intro)
  | ((conv => whnf); first
      | (with_reducible refine And.intro ?_ ?_)
      | (with_reducible exact True.intro)
      | (with_reducible refine (?_ : Ob _))
      | ((with_reducible refine CallW.mk ?_); (repeat first | replace H := grd_k H | replace H := os1 H ‹_›); replace H := bind_some H; obtain ⟨y, hy, H⟩ := H; first | ((with_reducible have hz : lvS _ _ = some y := hy); clear hz; refine ⟨_, _, lvS.call hy ?_, rfl, rfl, ?_⟩))
      | ((with_reducible refine fm ?_); (repeat first | replace H := grd_k H | replace H := os1 H ‹_›); have H := Option.some.inj H; subst H))
  | constructor
def G161 : Env := G160.add 68 [] lvR.S
theorem G161_ok : EnvOk Tryz.prog G161 := G160_ok.add ent_68 fun ar h r h1 ⟨a0, a1, y, hy, e1, e2, e3, e4⟩ => by
 subst e3 e4; exact (lvR.spec a0 a1 y hy).le e1 e2
attribute [local irreducible] lvR

noncomputable def lvC (a0 : C1) (a1 : C1) : Option (Bool) :=
 ((lvR (a0.1.1, a0.1.2.1, a0.1.2.2.1, a0.1.2.2.2.1, a0.1.2.2.2.2.1, ()) (a1.1.1, a1.1.2.1, a1.1.2.2.1, a1.1.2.2.2.1, a1.1.2.2.2.2.1, ())).bind fun y1 => (cond y1 ((some (decide (a0.2.1.1 = a1.2.1.1) && (decide (a0.2.1.2.1 = a1.2.1.2.1) && (decide (a0.2.1.2.2.1 = a1.2.1.2.2.1) && true))))) ((some false))))
def lvC.res (_ : C1) (_ : C1) (y : Bool) : AV := (.bl y)
def lvC.out (_ : C1) (_ : C1) (_ : Bool) : List (Option LB) := []
def lvC.S (ar : List AV) (h : List (Option LB)) (r : AV) (h1 : List (Option LB)) : Prop := ∃ a0 a1 y, lvC a0 a1 = some y ∧ leL ar [(.agg [(.v (.int .i64 a0.1.1)), (.tree tS a0.1.2.1), (.v (.int .i64 a0.1.2.2.1)), (.v (.int .i64 a0.1.2.2.2.1)), (.v (.int .i64 a0.1.2.2.2.2.1)), (.v (.string a0.2.1.1)), (.v (.string a0.2.1.2.1)), (.v (.int .i64 a0.2.1.2.2.1))]), (.agg [(.v (.int .i64 a1.1.1)), (.tree tS a1.1.2.1), (.v (.int .i64 a1.1.2.2.1)), (.v (.int .i64 a1.1.2.2.2.1)), (.v (.int .i64 a1.1.2.2.2.2.1)), (.v (.string a1.2.1.1)), (.v (.string a1.2.1.2.1)), (.v (.int .i64 a1.2.1.2.2.1))])] ∧ leH h [] ∧ r = lvC.res a0 a1 y ∧ h1 = lvC.out a0 a1 y
theorem lvC.call {ar h a0 a1 y} (H : lvC a0 a1 = some y) (h0 : leLk ar [(.agg [(.v (.int .i64 a0.1.1)), (.tree tS a0.1.2.1), (.v (.int .i64 a0.1.2.2.1)), (.v (.int .i64 a0.1.2.2.2.1)), (.v (.int .i64 a0.1.2.2.2.2.1)), (.v (.string a0.2.1.1)), (.v (.string a0.2.1.2.1)), (.v (.int .i64 a0.2.1.2.2.1))]), (.agg [(.v (.int .i64 a1.1.1)), (.tree tS a1.1.2.1), (.v (.int .i64 a1.1.2.2.1)), (.v (.int .i64 a1.1.2.2.2.1)), (.v (.int .i64 a1.1.2.2.2.2.1)), (.v (.string a1.2.1.1)), (.v (.string a1.2.1.2.1)), (.v (.int .i64 a1.2.1.2.2.1))])] (leHk h [])) : lvC.S ar h (lvC.res a0 a1 y) (lvC.out a0 a1 y) := ⟨a0, a1, y, H, (ao h0).1, (ao h0).2, rfl, rfl⟩
theorem lvC.spec (a0 a1 y) (H : lvC a0 a1 = some y) : Spec Tryz.prog 32 [(.agg [(.v (.int .i64 a0.1.1)), (.tree tS a0.1.2.1), (.v (.int .i64 a0.1.2.2.1)), (.v (.int .i64 a0.1.2.2.2.1)), (.v (.int .i64 a0.1.2.2.2.2.1)), (.v (.string a0.2.1.1)), (.v (.string a0.2.1.2.1)), (.v (.int .i64 a0.2.1.2.2.1))]), (.agg [(.v (.int .i64 a1.1.1)), (.tree tS a1.1.2.1), (.v (.int .i64 a1.1.2.2.1)), (.v (.int .i64 a1.1.2.2.2.1)), (.v (.int .i64 a1.1.2.2.2.2.1)), (.v (.string a1.2.1.1)), (.v (.string a1.2.1.2.1)), (.v (.int .i64 a1.2.1.2.2.1))])] [] (lvC.res a0 a1 y) (lvC.out a0 a1 y) := by
 refine si (G161_ok.at tok []) (ct := []) Tryz.func32 rfl (by kernel_rfl) (by kernel_rfl) rfl ?_
 repeat' first
  | ((with_reducible refine eqg ?_); exact rfl)
  | ((with_reducible refine KOb.mk ?_); kernel_rfl)
  | ((with_reducible intro h); (repeat first | replace H := grd_k H | replace H := os1 H ‹_›); first | replace H := ct1 h H | replace H := cf1 h H | exact absurd h (by decide) | skip)
  | ((with_reducible refine Ob.mk ?_); first | (with_reducible rfl) | (first | ((repeat (first | (with_reducible exact grd_p H) | replace H := grd_k H | replace H := os1 H ‹_›)); done) | rfl | ((repeat (first | exact grd_p H | (have hp := grd_p H; exact hp) | replace H := grd_k H | replace H := os1 H ‹_› | (replace H := bind_some H; obtain ⟨_, _, H⟩ := H))); done) | (repeat (first | exact grd_p H | replace H := grd_k H | replace H := os1 H ‹_›))))
  | (with_reducible exact True.intro)
  | ((conv => whnf); first
      | (with_reducible refine And.intro ?_ ?_)
      | (with_reducible exact True.intro)
      | (with_reducible refine (?_ : Ob _))
      | ((with_reducible refine CallW.mk ?_); (repeat first | replace H := grd_k H | replace H := os1 H ‹_›); replace H := bind_some H; obtain ⟨y, hy, H⟩ := H; first | ((with_reducible have hz : lvR _ _ = some y := hy); clear hz; refine ⟨_, _, lvR.call hy ?_, rfl, rfl, ?_⟩))
      | ((with_reducible refine fm ?_); (repeat first | replace H := grd_k H | replace H := os1 H ‹_›); have H := Option.some.inj H; subst H))
  | constructor
def G162 : Env := G161.add 32 [] lvC.S
theorem G162_ok : EnvOk Tryz.prog G162 := G161_ok.add ent_32 fun ar h r h1 ⟨a0, a1, y, hy, e1, e2, e3, e4⟩ => by
 subst e3 e4; exact (lvC.spec a0 a1 y hy).le e1 e2
attribute [local irreducible] lvC

end Go.Proofs.YtaobinhdnklojaaGreatDoor
