/-
  Contracts, printed by a program.
-/
import Derived.Test.YteckiilljhdkpaaDoorC322
namespace Go.Proofs.YteckiilljhdkpaaDoor
open Go.RowKit
attribute [local irreducible] Ob loopwp Sub Spec Fin Again CallW CutC KOb iter joinx outm

attribute [local irreducible] laws_toPlatform spec_l1In spec_l14Good spec_l14Most spec_l1Least spec_l14Entering spec_l14Can spec_PossibleKinds impl_within impl_IsPlatform impl_boardCounts slices_Index___string_string_ slices_Contains___string_string_ impl_IsBoardEvent impl_Platform_step impl_PossibleKinds

noncomputable def laws_eqStringS_loop1 (a0 : (List ByteArray)) (a1 : (List ByteArray)) (v2 : Int) : Option (Lp (Int) ((Unit) ⊕ (Unit))) :=
  (cond (decide (v2 < (a0.length : Int))) (grd (0 ≤ v2 ∧ v2 < (a0.length : Int)) (grd (0 ≤ v2 ∧ v2 < (a1.length : Int)) (cond (!decide ((a0.getD v2.toNat (ByteArray.mk #[])) = (a1.getD v2.toNat (ByteArray.mk #[])))) ((some (.out (Sum.inl ())))) (some (.go (w64 (v2 + (1 : Int)))))))) ((some (.out (Sum.inr ())))))
noncomputable def laws_eqStringS (a0 : (List ByteArray)) (a1 : (List ByteArray)) : Option (Bool) :=
  (cond (!decide ((a0.length : Int) = (a1.length : Int))) ((some false)) ((iter (fun s => laws_eqStringS_loop1 a0 a1 s) (0 : Int)).bind (Sum.elim (fun _ => (some false)) (fun _ => (some true)))))
def laws_eqStringS.res (_ : (List ByteArray)) (_ : (List ByteArray)) (y : Bool) : AV := (.bl y)
def laws_eqStringS.out (_ : (List ByteArray)) (_ : (List ByteArray)) (_ : Bool) : List (Option LB) := []
def laws_eqStringS.S (ar : List AV) (h : List (Option LB)) (r : AV) (h1 : List (Option LB)) : Prop := ∃ a0 a1 y, laws_eqStringS a0 a1 = some y ∧ leL ar [(.tree .str a0), (.tree .str a1)] ∧ leH h [] ∧ r = laws_eqStringS.res a0 a1 y ∧ h1 = laws_eqStringS.out a0 a1 y
theorem laws_eqStringS.call {ar : List AV} {h : List (Option LB)} {a0 : (List ByteArray)} {a1 : (List ByteArray)} {y : Bool} (H : laws_eqStringS a0 a1 = some y) (h0 : leLk ar [(.tree .str a0), (.tree .str a1)] (leHk h [])) : laws_eqStringS.S ar h (laws_eqStringS.res a0 a1 y) (laws_eqStringS.out a0 a1 y) := ⟨a0, a1, y, H, (args_ok h0).1, (args_ok h0).2, rfl, rfl⟩
set_option maxHeartbeats 100000000 in
set_option maxRecDepth 100000 in
theorem laws_eqStringS.spec (a0 : (List ByteArray)) (a1 : (List ByteArray)) (y : Bool) (H : laws_eqStringS a0 a1 = some y) : Spec Tryd.prog 23 [(.tree .str a0), (.tree .str a1)] [] (laws_eqStringS.res a0 a1 y) (laws_eqStringS.out a0 a1 y) := by
  refine spec_intro (G16_ok.at tok []) (ct := [(5, some [0, 1, 5])]) Tryd.func23 rfl (by kernel_rfl) (by kernel_rfl) rfl ?_
  repeat' first
    | ((with_reducible refine eqg ?_); exact rfl)
    | ((with_reducible refine KOb.mk ?_); kernel_rfl)
    | ((with_reducible intro h); (repeat (first | replace H := grd_k H | replace H := out_step H (by assumption))); first | replace H := cond_t h H | replace H := cond_f h H | exact absurd h (by decide) | skip)
    | ((with_reducible refine Ob.mk ?_); first | (with_reducible rfl) | (first | ((repeat (first | (with_reducible exact grd_p H) | (replace H := grd_k H) | (replace H := out_step H (by assumption)))); done) | rfl | ((repeat (first | exact grd_p H | replace H := grd_k H | replace H := out_step H (by assumption))); done) | ((repeat (first | exact grd_p H | (have hp := grd_p H; exact hp) | replace H := grd_k H | replace H := out_step H (by assumption) | (replace H := bind_some H; obtain ⟨_, _, H⟩ := H))); done) | (repeat (first | exact grd_p H | replace H := grd_k H | replace H := out_step H (by assumption)))))
    | (with_reducible exact True.intro)
    | constructor
    | ((conv => whnf); first
        | ((with_reducible refine Ob.mk ?_); first | (with_reducible rfl) | (first | ((repeat (first | (with_reducible exact grd_p H) | (replace H := grd_k H) | (replace H := out_step H (by assumption)))); done) | rfl | ((repeat (first | exact grd_p H | replace H := grd_k H | replace H := out_step H (by assumption))); done) | ((repeat (first | exact grd_p H | (have hp := grd_p H; exact hp) | replace H := grd_k H | replace H := out_step H (by assumption) | (replace H := bind_some H; obtain ⟨_, _, H⟩ := H))); done) | (repeat (first | exact grd_p H | replace H := grd_k H | replace H := out_step H (by assumption)))))
        | ((repeat (first | replace H := grd_k H | replace H := out_step H (by assumption))); refine loop_iter (G16_ok.at tok []) (ct := [(5, some [0, 1, 5])]) (F := (fun s1 : Int => ⟨sl [(0, (.tree .str a0)), (1, (.tree .str a1)), (5, (.v (.int .i64 s1)))], []⟩)) (step := (fun s : Int => laws_eqStringS_loop1 _ _ s)) _ H (by kernel_rfl) (sub_auto ?_) ?_; rotate_left; (intro s1 r v hr H); rotate_right)
        | ((repeat (first | replace H := grd_k H | replace H := out_step H (by assumption))); refine again_step H (by assumption) (sub_auto ?_))
        | ((with_reducible refine fin_mk ?_); (repeat (first | replace H := grd_k H | replace H := out_step H (by assumption))); have H := Option.some.inj H; subst H))
def G17 : Env := G16.add 23 [] laws_eqStringS.S
theorem G17_ok : EnvOk Tryd.prog G17 := G16_ok.add ent_23 fun ar h r h1 ⟨a0, a1, y, hy, e1, e2, e3, e4⟩ => by
  subst e3 e4; exact (laws_eqStringS.spec a0 a1 y hy).le e1 e2
attribute [local irreducible] laws_eqStringS

noncomputable def laws_markText_loop1  (v3 : Int) (v4 : ByteArray) : Option (Lp (Int × ByteArray) ((ByteArray))) :=
  (cond (decide ((0 : Int) < v3)) (grd ((10 : Int) ≠ 0) (grd ((strOfN [(wu8 (w64 ((48 : Int) + (Int.tmod v3 (10 : Int)))))]).size + v4.size ≤ 9223372036854775807) (grd ((10 : Int) ≠ 0) (some (.go ((w64 (Int.tdiv v3 (10 : Int))), ((strOfN [(wu8 (w64 ((48 : Int) + (Int.tmod v3 (10 : Int)))))]) ++ v4))))))) ((some (.out v4))))
noncomputable def laws_markText (a0 : Int) : Option (ByteArray) :=
  (cond (decide (a0 ≤ (0 : Int))) ((some (ByteArray.mk #[109, 48]))) ((iter (fun s => laws_markText_loop1 s.1 s.2) (a0, (ByteArray.mk #[]))).bind (fun r5 => (grd ((ByteArray.mk #[109]).size + r5.size ≤ 9223372036854775807) ((some ((ByteArray.mk #[109]) ++ r5)))))))
def laws_markText.res (_ : Int) (y : ByteArray) : AV := (.v (.string y))
def laws_markText.out (_ : Int) (_ : ByteArray) : List (Option LB) := []
def laws_markText.S (ar : List AV) (h : List (Option LB)) (r : AV) (h1 : List (Option LB)) : Prop := ∃ a0 y, laws_markText a0 = some y ∧ leL ar [(.v (.int .i64 a0))] ∧ leH h [] ∧ r = laws_markText.res a0 y ∧ h1 = laws_markText.out a0 y
theorem laws_markText.call {ar : List AV} {h : List (Option LB)} {a0 : Int} {y : ByteArray} (H : laws_markText a0 = some y) (h0 : leLk ar [(.v (.int .i64 a0))] (leHk h [])) : laws_markText.S ar h (laws_markText.res a0 y) (laws_markText.out a0 y) := ⟨a0, y, H, (args_ok h0).1, (args_ok h0).2, rfl, rfl⟩
set_option maxHeartbeats 100000000 in
set_option maxRecDepth 100000 in
theorem laws_markText.spec (a0 : Int) (y : ByteArray) (H : laws_markText a0 = some y) : Spec Tryd.prog 75 [(.v (.int .i64 a0))] [] (laws_markText.res a0 y) (laws_markText.out a0 y) := by
  refine spec_intro (G17_ok.at tok []) (ct := []) Tryd.func75 rfl (by kernel_rfl) (by kernel_rfl) rfl ?_
  repeat' first
    | ((with_reducible refine eqg ?_); exact rfl)
    | ((with_reducible refine KOb.mk ?_); kernel_rfl)
    | ((with_reducible intro h); (repeat (first | replace H := grd_k H | replace H := out_step H (by assumption))); first | replace H := cond_t h H | replace H := cond_f h H | exact absurd h (by decide) | skip)
    | ((with_reducible refine Ob.mk ?_); first | (with_reducible rfl) | (first | ((repeat (first | (with_reducible exact grd_p H) | (replace H := grd_k H) | (replace H := out_step H (by assumption)))); done) | rfl | ((repeat (first | exact grd_p H | replace H := grd_k H | replace H := out_step H (by assumption))); done) | ((repeat (first | exact grd_p H | (have hp := grd_p H; exact hp) | replace H := grd_k H | replace H := out_step H (by assumption) | (replace H := bind_some H; obtain ⟨_, _, H⟩ := H))); done) | (repeat (first | exact grd_p H | replace H := grd_k H | replace H := out_step H (by assumption)))))
    | (with_reducible exact True.intro)
    | constructor
    | ((conv => whnf); first
        | ((with_reducible refine Ob.mk ?_); first | (with_reducible rfl) | (first | ((repeat (first | (with_reducible exact grd_p H) | (replace H := grd_k H) | (replace H := out_step H (by assumption)))); done) | rfl | ((repeat (first | exact grd_p H | replace H := grd_k H | replace H := out_step H (by assumption))); done) | ((repeat (first | exact grd_p H | (have hp := grd_p H; exact hp) | replace H := grd_k H | replace H := out_step H (by assumption) | (replace H := bind_some H; obtain ⟨_, _, H⟩ := H))); done) | (repeat (first | exact grd_p H | replace H := grd_k H | replace H := out_step H (by assumption)))))
        | ((repeat (first | replace H := grd_k H | replace H := out_step H (by assumption))); refine loop_iter (G17_ok.at tok []) (ct := []) (F := (fun s1 : Int × ByteArray => ⟨sl [(0, (.v (.int .i64 s1.1))), (3, (.v (.string s1.2)))], []⟩)) (step := (fun s : Int × ByteArray => laws_markText_loop1 s.1 s.2)) _ H (by kernel_rfl) (sub_auto ?_) ?_; rotate_left; (intro s1 r v hr H); rotate_right)
        | ((repeat (first | replace H := grd_k H | replace H := out_step H (by assumption))); refine again_step H (by assumption) (sub_auto ?_))
        | ((with_reducible refine fin_mk ?_); (repeat (first | replace H := grd_k H | replace H := out_step H (by assumption))); have H := Option.some.inj H; subst H))
def G18 : Env := G17.add 75 [] laws_markText.S
theorem G18_ok : EnvOk Tryd.prog G18 := G17_ok.add ent_75 fun ar h r h1 ⟨a0, y, hy, e1, e2, e3, e4⟩ => by
  subst e3 e4; exact (laws_markText.spec a0 y hy).le e1 e2
attribute [local irreducible] laws_markText

noncomputable def laws_markStringS_loop1  (v6 : Int) (v7 : Int) (v8 : (List ByteArray)) : Option (Lp (Int × Int × (List ByteArray)) ((Int × (List ByteArray)))) :=
  (cond (decide (v7 < (v8.length : Int))) ((laws_markText v6).bind fun y9 => (grd (0 ≤ v7 ∧ v7 < (v8.length : Int)) (some (.go ((w64 (v6 + (1 : Int))), (w64 (v7 + (1 : Int))), (v8.set v7.toNat y9)))))) ((some (.out (v6, v8)))))
noncomputable def laws_markStringS (a0 : (List ByteArray)) (a1 : Int) : Option (Int × (List ByteArray)) :=
  ((iter (fun s => laws_markStringS_loop1 s.1 s.2.1 s.2.2) (a1, (0 : Int), a0)).bind (fun r10 => (some (r10.1, r10.2))))
def laws_markStringS.res (_ : (List ByteArray)) (_ : Int) (y : Int × (List ByteArray)) : AV := (.v (.int .i64 y.1))
def laws_markStringS.out (_ : (List ByteArray)) (_ : Int) (y : Int × (List ByteArray)) : List (Option LB) := [some (.arr 9 .str y.2)]
def laws_markStringS.S (ar : List AV) (h : List (Option LB)) (r : AV) (h1 : List (Option LB)) : Prop := ∃ a0 a1 y, laws_markStringS a0 a1 = some y ∧ leL ar [(.own 0), (.v (.int .i64 a1))] ∧ leH h [some (.arr 9 .str a0)] ∧ r = laws_markStringS.res a0 a1 y ∧ h1 = laws_markStringS.out a0 a1 y
theorem laws_markStringS.call {ar : List AV} {h : List (Option LB)} {a0 : (List ByteArray)} {a1 : Int} {y : Int × (List ByteArray)} (H : laws_markStringS a0 a1 = some y) (h0 : leLk ar [(.own 0), (.v (.int .i64 a1))] (leHk h [some (.arr 9 .str a0)])) : laws_markStringS.S ar h (laws_markStringS.res a0 a1 y) (laws_markStringS.out a0 a1 y) := ⟨a0, a1, y, H, (args_ok h0).1, (args_ok h0).2, rfl, rfl⟩
set_option maxHeartbeats 100000000 in
set_option maxRecDepth 100000 in
theorem laws_markStringS.spec (a0 : (List ByteArray)) (a1 : Int) (y : Int × (List ByteArray)) (H : laws_markStringS a0 a1 = some y) : Spec Tryd.prog 24 [(.own 0), (.v (.int .i64 a1))] [some (.arr 9 .str a0)] (laws_markStringS.res a0 a1 y) (laws_markStringS.out a0 a1 y) := by
  refine spec_intro (G18_ok.at tok []) (ct := []) Tryd.func24 rfl (by kernel_rfl) (by kernel_rfl) rfl ?_
  repeat' first
    | ((with_reducible refine eqg ?_); exact rfl)
    | ((with_reducible refine KOb.mk ?_); kernel_rfl)
    | ((with_reducible intro h); (repeat (first | replace H := grd_k H | replace H := out_step H (by assumption))); first | replace H := cond_t h H | replace H := cond_f h H | exact absurd h (by decide) | skip)
    | ((with_reducible refine Ob.mk ?_); first | (with_reducible rfl) | (first | ((repeat (first | (with_reducible exact grd_p H) | (replace H := grd_k H) | (replace H := out_step H (by assumption)))); done) | rfl | ((repeat (first | exact grd_p H | replace H := grd_k H | replace H := out_step H (by assumption))); done) | ((repeat (first | exact grd_p H | (have hp := grd_p H; exact hp) | replace H := grd_k H | replace H := out_step H (by assumption) | (replace H := bind_some H; obtain ⟨_, _, H⟩ := H))); done) | (repeat (first | exact grd_p H | replace H := grd_k H | replace H := out_step H (by assumption)))))
    | (with_reducible exact True.intro)
    | constructor
    | ((conv => whnf); first
        | ((with_reducible refine Ob.mk ?_); first | (with_reducible rfl) | (first | ((repeat (first | (with_reducible exact grd_p H) | (replace H := grd_k H) | (replace H := out_step H (by assumption)))); done) | rfl | ((repeat (first | exact grd_p H | replace H := grd_k H | replace H := out_step H (by assumption))); done) | ((repeat (first | exact grd_p H | (have hp := grd_p H; exact hp) | replace H := grd_k H | replace H := out_step H (by assumption) | (replace H := bind_some H; obtain ⟨_, _, H⟩ := H))); done) | (repeat (first | exact grd_p H | replace H := grd_k H | replace H := out_step H (by assumption)))))
        | ((with_reducible refine CallW.mk ?_); (repeat (first | replace H := grd_k H | replace H := out_step H (by assumption))); replace H := bind_some H; obtain ⟨y, hy, H⟩ := H; first | ((with_reducible have hz : laws_markText _ = some y := hy); clear hz; refine Exists.intro _ (Exists.intro _ ⟨laws_markText.call hy ?_, rfl, rfl, ?_⟩)))
        | ((repeat (first | replace H := grd_k H | replace H := out_step H (by assumption))); refine loop_iter (G18_ok.at tok []) (ct := []) (F := (fun s1 : Int × Int × (List ByteArray) => ⟨sl [(0, (.own 0)), (1, (.v (.int .i64 s1.1))), (5, (.v (.int .i64 s1.2.1)))], [some (.arr 9 .str s1.2.2)]⟩)) (step := (fun s : Int × Int × (List ByteArray) => laws_markStringS_loop1 s.1 s.2.1 s.2.2)) _ H (by kernel_rfl) (sub_auto ?_) ?_; rotate_left; (intro s1 r v hr H); rotate_right)
        | ((repeat (first | replace H := grd_k H | replace H := out_step H (by assumption))); refine again_step H (by assumption) (sub_auto ?_))
        | ((with_reducible refine fin_mk ?_); (repeat (first | replace H := grd_k H | replace H := out_step H (by assumption))); have H := Option.some.inj H; subst H))
def G19 : Env := G18.add 24 [true] laws_markStringS.S
theorem G19_ok : EnvOk Tryd.prog G19 := G18_ok.add ent_24 fun ar h r h1 ⟨a0, a1, y, hy, e1, e2, e3, e4⟩ => by
  subst e3 e4; exact (laws_markStringS.spec a0 a1 y hy).le e1 e2
attribute [local irreducible] laws_markStringS

noncomputable def laws_heldStringS_loop1 (a0 : (List ByteArray)) (v5 : Int) (v6 : Int) : Option (Lp (Int × Int) ((Unit) ⊕ (Int))) :=
  (cond (decide (v6 < (a0.length : Int))) (grd (0 ≤ v6 ∧ v6 < (a0.length : Int)) ((laws_markText v5).bind fun y7 => (cond (!decide ((a0.getD v6.toNat (ByteArray.mk #[])) = y7)) ((some (.out (Sum.inl ())))) (some (.go ((w64 (v5 + (1 : Int))), (w64 (v6 + (1 : Int))))))))) ((some (.out (Sum.inr v5)))))
noncomputable def laws_heldStringS (a0 : (List ByteArray)) (a1 : Int) : Option (Int) :=
  ((iter (fun s => laws_heldStringS_loop1 a0 s.1 s.2) (a1, (0 : Int))).bind (Sum.elim (fun _ => (some ((-1) : Int))) (fun r10 => (some r10))))
def laws_heldStringS.res (_ : (List ByteArray)) (_ : Int) (y : Int) : AV := (.v (.int .i64 y))
def laws_heldStringS.out (_ : (List ByteArray)) (_ : Int) (_ : Int) : List (Option LB) := []
def laws_heldStringS.S (ar : List AV) (h : List (Option LB)) (r : AV) (h1 : List (Option LB)) : Prop := ∃ a0 a1 y, laws_heldStringS a0 a1 = some y ∧ leL ar [(.tree .str a0), (.v (.int .i64 a1))] ∧ leH h [] ∧ r = laws_heldStringS.res a0 a1 y ∧ h1 = laws_heldStringS.out a0 a1 y
theorem laws_heldStringS.call {ar : List AV} {h : List (Option LB)} {a0 : (List ByteArray)} {a1 : Int} {y : Int} (H : laws_heldStringS a0 a1 = some y) (h0 : leLk ar [(.tree .str a0), (.v (.int .i64 a1))] (leHk h [])) : laws_heldStringS.S ar h (laws_heldStringS.res a0 a1 y) (laws_heldStringS.out a0 a1 y) := ⟨a0, a1, y, H, (args_ok h0).1, (args_ok h0).2, rfl, rfl⟩
set_option maxHeartbeats 100000000 in
set_option maxRecDepth 100000 in
theorem laws_heldStringS.spec (a0 : (List ByteArray)) (a1 : Int) (y : Int) (H : laws_heldStringS a0 a1 = some y) : Spec Tryd.prog 25 [(.tree .str a0), (.v (.int .i64 a1))] [] (laws_heldStringS.res a0 a1 y) (laws_heldStringS.out a0 a1 y) := by
  refine spec_intro (G19_ok.at tok []) (ct := [(3, some [0, 1, 5])]) Tryd.func25 rfl (by kernel_rfl) (by kernel_rfl) rfl ?_
  repeat' first
    | ((with_reducible refine eqg ?_); exact rfl)
    | ((with_reducible refine KOb.mk ?_); kernel_rfl)
    | ((with_reducible intro h); (repeat (first | replace H := grd_k H | replace H := out_step H (by assumption))); first | replace H := cond_t h H | replace H := cond_f h H | exact absurd h (by decide) | skip)
    | ((with_reducible refine Ob.mk ?_); first | (with_reducible rfl) | (first | ((repeat (first | (with_reducible exact grd_p H) | (replace H := grd_k H) | (replace H := out_step H (by assumption)))); done) | rfl | ((repeat (first | exact grd_p H | replace H := grd_k H | replace H := out_step H (by assumption))); done) | ((repeat (first | exact grd_p H | (have hp := grd_p H; exact hp) | replace H := grd_k H | replace H := out_step H (by assumption) | (replace H := bind_some H; obtain ⟨_, _, H⟩ := H))); done) | (repeat (first | exact grd_p H | replace H := grd_k H | replace H := out_step H (by assumption)))))
    | (with_reducible exact True.intro)
    | constructor
    | ((conv => whnf); first
        | ((with_reducible refine Ob.mk ?_); first | (with_reducible rfl) | (first | ((repeat (first | (with_reducible exact grd_p H) | (replace H := grd_k H) | (replace H := out_step H (by assumption)))); done) | rfl | ((repeat (first | exact grd_p H | replace H := grd_k H | replace H := out_step H (by assumption))); done) | ((repeat (first | exact grd_p H | (have hp := grd_p H; exact hp) | replace H := grd_k H | replace H := out_step H (by assumption) | (replace H := bind_some H; obtain ⟨_, _, H⟩ := H))); done) | (repeat (first | exact grd_p H | replace H := grd_k H | replace H := out_step H (by assumption)))))
        | ((with_reducible refine CallW.mk ?_); (repeat (first | replace H := grd_k H | replace H := out_step H (by assumption))); replace H := bind_some H; obtain ⟨y, hy, H⟩ := H; first | ((with_reducible have hz : laws_markText _ = some y := hy); clear hz; refine Exists.intro _ (Exists.intro _ ⟨laws_markText.call hy ?_, rfl, rfl, ?_⟩)))
        | ((repeat (first | replace H := grd_k H | replace H := out_step H (by assumption))); refine loop_iter (G19_ok.at tok []) (ct := [(3, some [0, 1, 5])]) (F := (fun s1 : Int × Int => ⟨sl [(0, (.tree .str a0)), (1, (.v (.int .i64 s1.1))), (5, (.v (.int .i64 s1.2)))], []⟩)) (step := (fun s : Int × Int => laws_heldStringS_loop1 _ s.1 s.2)) _ H (by kernel_rfl) (sub_auto ?_) ?_; rotate_left; (intro s1 r v hr H); rotate_right)
        | ((repeat (first | replace H := grd_k H | replace H := out_step H (by assumption))); refine again_step H (by assumption) (sub_auto ?_))
        | ((with_reducible refine fin_mk ?_); (repeat (first | replace H := grd_k H | replace H := out_step H (by assumption))); have H := Option.some.inj H; subst H))
def G20 : Env := G19.add 25 [] laws_heldStringS.S
theorem G20_ok : EnvOk Tryd.prog G20 := G19_ok.add ent_25 fun ar h r h1 ⟨a0, a1, y, hy, e1, e2, e3, e4⟩ => by
  subst e3 e4; exact (laws_heldStringS.spec a0 a1 y hy).le e1 e2
attribute [local irreducible] laws_heldStringS

noncomputable def laws_markStringS_i1_loop1   : Option (Lp (Unit) ((Unit))) :=
  (some (.out ()))
noncomputable def laws_markStringS_i1 (a1 : Int) : Option (Int) :=
  ((iter (fun _ => laws_markStringS_i1_loop1) ()).bind (fun _ => (some a1)))
def laws_markStringS_i1.res (_ : Int) (y : Int) : AV := (.v (.int .i64 y))
def laws_markStringS_i1.out (_ : Int) (_ : Int) : List (Option LB) := []
def laws_markStringS_i1.S (ar : List AV) (h : List (Option LB)) (r : AV) (h1 : List (Option LB)) : Prop := ∃ a1 y, laws_markStringS_i1 a1 = some y ∧ leL ar [(.v (.slice none 0 0)), (.v (.int .i64 a1))] ∧ leH h [] ∧ r = laws_markStringS_i1.res a1 y ∧ h1 = laws_markStringS_i1.out a1 y
theorem laws_markStringS_i1.call {ar : List AV} {h : List (Option LB)} {a1 : Int} {y : Int} (H : laws_markStringS_i1 a1 = some y) (h0 : leLk ar [(.v (.slice none 0 0)), (.v (.int .i64 a1))] (leHk h [])) : laws_markStringS_i1.S ar h (laws_markStringS_i1.res a1 y) (laws_markStringS_i1.out a1 y) := ⟨a1, y, H, (args_ok h0).1, (args_ok h0).2, rfl, rfl⟩
set_option maxHeartbeats 100000000 in
set_option maxRecDepth 100000 in
theorem laws_markStringS_i1.spec (a1 : Int) (y : Int) (H : laws_markStringS_i1 a1 = some y) : Spec Tryd.prog 24 [(.v (.slice none 0 0)), (.v (.int .i64 a1))] [] (laws_markStringS_i1.res a1 y) (laws_markStringS_i1.out a1 y) := by
  refine spec_intro (G20_ok.at tok []) (ct := []) Tryd.func24 rfl (by kernel_rfl) (by kernel_rfl) rfl ?_
  repeat' first
    | ((with_reducible refine eqg ?_); exact rfl)
    | ((with_reducible refine KOb.mk ?_); kernel_rfl)
    | ((with_reducible intro h); (repeat (first | replace H := grd_k H | replace H := out_step H (by assumption))); first | replace H := cond_t h H | replace H := cond_f h H | exact absurd h (by decide) | skip)
    | ((with_reducible refine Ob.mk ?_); first | (with_reducible rfl) | (first | ((repeat (first | (with_reducible exact grd_p H) | (replace H := grd_k H) | (replace H := out_step H (by assumption)))); done) | rfl | ((repeat (first | exact grd_p H | replace H := grd_k H | replace H := out_step H (by assumption))); done) | ((repeat (first | exact grd_p H | (have hp := grd_p H; exact hp) | replace H := grd_k H | replace H := out_step H (by assumption) | (replace H := bind_some H; obtain ⟨_, _, H⟩ := H))); done) | (repeat (first | exact grd_p H | replace H := grd_k H | replace H := out_step H (by assumption)))))
    | (with_reducible exact True.intro)
    | constructor
    | ((conv => whnf); first
        | ((with_reducible refine Ob.mk ?_); first | (with_reducible rfl) | (first | ((repeat (first | (with_reducible exact grd_p H) | (replace H := grd_k H) | (replace H := out_step H (by assumption)))); done) | rfl | ((repeat (first | exact grd_p H | replace H := grd_k H | replace H := out_step H (by assumption))); done) | ((repeat (first | exact grd_p H | (have hp := grd_p H; exact hp) | replace H := grd_k H | replace H := out_step H (by assumption) | (replace H := bind_some H; obtain ⟨_, _, H⟩ := H))); done) | (repeat (first | exact grd_p H | replace H := grd_k H | replace H := out_step H (by assumption)))))
        | ((repeat (first | replace H := grd_k H | replace H := out_step H (by assumption))); refine loop_iter (G20_ok.at tok []) (ct := []) (F := (fun s1 : Unit => ⟨sl [(0, (.v (.slice none 0 0))), (1, (.v (.int .i64 a1))), (5, (.v (.int .i64 (0 : Int))))], []⟩)) (step := (fun s : Unit => laws_markStringS_i1_loop1)) _ H (by kernel_rfl) (sub_auto ?_) ?_; rotate_left; (intro s1 r v hr H); rotate_right)
        | ((repeat (first | replace H := grd_k H | replace H := out_step H (by assumption))); refine again_step H (by assumption) (sub_auto ?_))
        | ((with_reducible refine fin_mk ?_); (repeat (first | replace H := grd_k H | replace H := out_step H (by assumption))); have H := Option.some.inj H; subst H))
def G21 : Env := G20.addOr 24 [true] laws_markStringS_i1.S
theorem G21_ok : EnvOk Tryd.prog G21 := G20_ok.addOr ent_24 fun ar h r h1 ⟨a1, y, hy, e1, e2, e3, e4⟩ => by
  subst e3 e4; exact (laws_markStringS_i1.spec a1 y hy).le e1 e2
attribute [local irreducible] laws_markStringS_i1

noncomputable def laws_FnExactPossibleKinds (a0 : Platform) : Option (Bool) :=
  ((laws_toPlatform (a0.1, a0.2.1, a0.2.2.1, a0.2.2.2.1, a0.2.2.2.2.1, a0.2.2.2.2.2.1, ())).bind fun y1 => ((spec_PossibleKinds (y1.1, y1.2.1, y1.2.2.1, y1.2.2.2.1, y1.2.2.2.2.1, y1.2.2.2.2.2.1, ())).bind fun y2 => ((laws_toPlatform (a0.1, a0.2.1, a0.2.2.1, a0.2.2.2.1, a0.2.2.2.2.1, a0.2.2.2.2.2.1, ())).bind fun y3 => ((impl_PossibleKinds (y3.1, y3.2.1, y3.2.2.1, y3.2.2.2.1, y3.2.2.2.2.1, y3.2.2.2.2.2.1, ())).bind (Sum.elim (fun _ => ((laws_eqStringS [] y2.1).bind fun y6 => (cond (!y6) ((some false)) (cond (!(false == y2.2)) ((some false)) ((laws_markStringS_i1 (1 : Int)).bind fun y7 => ((laws_heldStringS [] (1 : Int)).bind fun y8 => (cond (decide (y8 < (0 : Int))) ((some false)) (cond (!decide (y8 = y7)) ((some false)) (((laws_toPlatform (a0.1, a0.2.1, a0.2.2.1, a0.2.2.2.1, a0.2.2.2.2.1, a0.2.2.2.2.2.1, ())).bind fun y9 => ((impl_PossibleKinds (y9.1, y9.2.1, y9.2.2.1, y9.2.2.2.1, y9.2.2.2.2.1, y9.2.2.2.2.2.1, ())).bind (Sum.elim (fun _ => (some ((Tg.mk : Tg 1), y2.2, y7, [], false, y2.1))) (fun y12 => (some ((Tg.mk : Tg 1), y2.2, y7, y12, true, y2.1)))))).bind fun z13 => ((laws_eqStringS z13.2.2.2.1 z13.2.2.2.2.2).bind fun y14 => (cond (!y14) ((some false)) (cond (!(z13.2.2.2.2.1 == z13.2.1)) ((some false)) ((laws_heldStringS [] (1 : Int)).bind fun y15 => (cond (decide (y15 < (0 : Int))) ((some false)) (cond (!decide (y15 = z13.2.2.1)) ((some false)) ((some true))))))))))))))))) (fun y16 => ((laws_eqStringS y16 y2.1).bind fun y17 => (cond (!y17) ((some false)) (cond (!(true == y2.2)) ((some false)) ((laws_markStringS y16 (1 : Int)).bind fun y18 => ((laws_heldStringS y18.2 (1 : Int)).bind fun y19 => (cond (decide (y19 < (0 : Int))) ((some false)) (cond (!decide (y19 = y18.1)) ((some false)) (((laws_toPlatform (a0.1, a0.2.1, a0.2.2.1, a0.2.2.2.1, a0.2.2.2.2.1, a0.2.2.2.2.2.1, ())).bind fun y20 => ((impl_PossibleKinds (y20.1, y20.2.1, y20.2.2.1, y20.2.2.2.1, y20.2.2.2.2.1, y20.2.2.2.2.2.1, ())).bind (Sum.elim (fun _ => (some ((Tg.mk : Tg 2), y2.2, y18.1, [], false, y2.1, y18.2))) (fun y23 => (some ((Tg.mk : Tg 2), y2.2, y18.1, y23, true, y2.1, y18.2)))))).bind fun z24 => ((laws_eqStringS z24.2.2.2.1 z24.2.2.2.2.2.1).bind fun y25 => (cond (!y25) ((some false)) (cond (!(z24.2.2.2.2.1 == z24.2.1)) ((some false)) ((laws_heldStringS z24.2.2.2.2.2.2 (1 : Int)).bind fun y26 => (cond (decide (y26 < (0 : Int))) ((some false)) (cond (!decide (y26 = z24.2.2.1)) ((some false)) ((some true))))))))))))))))))))))
def laws_FnExactPossibleKinds.res (_ : Platform) (y : Bool) : AV := (.bl y)
def laws_FnExactPossibleKinds.out (_ : Platform) (_ : Bool) : List (Option LB) := []
def laws_FnExactPossibleKinds.S (ar : List AV) (h : List (Option LB)) (r : AV) (h1 : List (Option LB)) : Prop := ∃ a0 y, laws_FnExactPossibleKinds a0 = some y ∧ leL ar [(.agg [(.v (.int .i64 a0.1)), (.v (.int .i64 a0.2.1)), (.v (.int .i64 a0.2.2.1)), (.v (.int .i64 a0.2.2.2.1)), (.bl a0.2.2.2.2.1), (.v (.int .i64 a0.2.2.2.2.2.1))])] ∧ leH h [] ∧ r = laws_FnExactPossibleKinds.res a0 y ∧ h1 = laws_FnExactPossibleKinds.out a0 y
theorem laws_FnExactPossibleKinds.call {ar : List AV} {h : List (Option LB)} {a0 : Platform} {y : Bool} (H : laws_FnExactPossibleKinds a0 = some y) (h0 : leLk ar [(.agg [(.v (.int .i64 a0.1)), (.v (.int .i64 a0.2.1)), (.v (.int .i64 a0.2.2.1)), (.v (.int .i64 a0.2.2.2.1)), (.bl a0.2.2.2.2.1), (.v (.int .i64 a0.2.2.2.2.2.1))])] (leHk h [])) : laws_FnExactPossibleKinds.S ar h (laws_FnExactPossibleKinds.res a0 y) (laws_FnExactPossibleKinds.out a0 y) := ⟨a0, y, H, (args_ok h0).1, (args_ok h0).2, rfl, rfl⟩
set_option maxHeartbeats 100000000 in
set_option maxRecDepth 100000 in
theorem laws_FnExactPossibleKinds.spec (a0 : Platform) (y : Bool) (H : laws_FnExactPossibleKinds a0 = some y) : Spec Tryd.prog 5 [(.agg [(.v (.int .i64 a0.1)), (.v (.int .i64 a0.2.1)), (.v (.int .i64 a0.2.2.1)), (.v (.int .i64 a0.2.2.2.1)), (.bl a0.2.2.2.2.1), (.v (.int .i64 a0.2.2.2.2.2.1))])] [] (laws_FnExactPossibleKinds.res a0 y) (laws_FnExactPossibleKinds.out a0 y) := by
  refine spec_intro (G21_ok.at tok []) (ct := [(14, none), (3, some [1, 3, 4, 5, 6, 28, 29, 30, 54, 55, 56]), (7, some [1, 3, 4, 5, 7, 54, 55, 56]), (18, some [7, 8])]) Tryd.func5 rfl (by kernel_rfl) (by kernel_rfl) rfl ?_
  repeat' first
    | ((with_reducible refine eqg ?_); exact rfl)
    | ((with_reducible refine KOb.mk ?_); kernel_rfl)
    | ((with_reducible intro h); (repeat (first | replace H := grd_k H | replace H := out_step H (by assumption))); first | replace H := cond_t h H | replace H := cond_f h H | exact absurd h (by decide) | skip)
    | ((with_reducible refine Ob.mk ?_); first | (with_reducible rfl) | (first | ((repeat (first | (with_reducible exact grd_p H) | (replace H := grd_k H) | (replace H := out_step H (by assumption)))); done) | rfl | ((repeat (first | exact grd_p H | replace H := grd_k H | replace H := out_step H (by assumption))); done) | ((repeat (first | exact grd_p H | (have hp := grd_p H; exact hp) | replace H := grd_k H | replace H := out_step H (by assumption) | (replace H := bind_some H; obtain ⟨_, _, H⟩ := H))); done) | (repeat (first | exact grd_p H | replace H := grd_k H | replace H := out_step H (by assumption)))))
    | (with_reducible exact True.intro)
    | constructor
    | ((conv => whnf); first
        | ((with_reducible refine Ob.mk ?_); first | (with_reducible rfl) | (first | ((repeat (first | (with_reducible exact grd_p H) | (replace H := grd_k H) | (replace H := out_step H (by assumption)))); done) | rfl | ((repeat (first | exact grd_p H | replace H := grd_k H | replace H := out_step H (by assumption))); done) | ((repeat (first | exact grd_p H | (have hp := grd_p H; exact hp) | replace H := grd_k H | replace H := out_step H (by assumption) | (replace H := bind_some H; obtain ⟨_, _, H⟩ := H))); done) | (repeat (first | exact grd_p H | replace H := grd_k H | replace H := out_step H (by assumption)))))
        | ((with_reducible refine CallW.mk ?_); (repeat (first | replace H := grd_k H | replace H := out_step H (by assumption))); replace H := bind_some H; obtain ⟨y, hy, H⟩ := H; first | ((with_reducible have hz : laws_toPlatform _ = some y := hy); clear hz; refine Exists.intro _ (Exists.intro _ ⟨laws_toPlatform.call hy ?_, rfl, rfl, ?_⟩)) | ((with_reducible have hz : spec_PossibleKinds _ = some y := hy); clear hz; refine Exists.intro _ (Exists.intro _ ⟨spec_PossibleKinds.call hy ?_, rfl, rfl, ?_⟩)) | ((with_reducible have hz : impl_PossibleKinds _ = some y := hy); clear hz; rcases y with y | y <;> refine Exists.intro _ (Exists.intro _ ⟨impl_PossibleKinds.call hy ?_, rfl, rfl, ?_⟩)) | ((with_reducible have hz : laws_eqStringS _ _ = some y := hy); clear hz; refine Exists.intro _ (Exists.intro _ ⟨laws_eqStringS.call hy ?_, rfl, rfl, ?_⟩)) | ((with_reducible have hz : laws_markStringS_i1 _ = some y := hy); clear hz; refine Exists.intro _ (Exists.intro _ ⟨Or.inl (laws_markStringS_i1.call hy ?_), rfl, rfl, ?_⟩)) | ((with_reducible have hz : laws_heldStringS _ _ = some y := hy); clear hz; refine Exists.intro _ (Exists.intro _ ⟨laws_heldStringS.call hy ?_, rfl, rfl, ?_⟩)) | ((with_reducible have hz : laws_markStringS _ _ = some y := hy); clear hz; refine Exists.intro _ (Exists.intro _ ⟨Or.inr (laws_markStringS.call hy ?_), rfl, rfl, ?_⟩)))
        | ((with_reducible refine cutAt (id := 14) ?_); (repeat (first | replace H := grd_k H | replace H := out_step H (by assumption))); first | (replace H := bind_some H; obtain ⟨z, hz, H⟩ := H; have hT : Tg 1 × Bool × Int × (List ByteArray) × Bool × (List ByteArray) := z; clear hT; refine CutC.mk (id := 14) ⟨sl [(3, (.own 0)), (4, (.bl z.2.1)), (5, (.v (.slice none 0 0))), (7, (.v (.int .i64 z.2.2.1))), (9, (.tree .str z.2.2.2.1)), (10, (.bl z.2.2.2.2.1))], [some (.arr 9 .str z.2.2.2.2.2)]⟩ ?_ ?_; (replace H := hz)) | (replace H := bind_some H; obtain ⟨z, hz, H⟩ := H; have hT : Tg 2 × Bool × Int × (List ByteArray) × Bool × (List ByteArray) × (List ByteArray) := z; clear hT; refine CutC.mk (id := 14) ⟨sl [(3, (.own 0)), (4, (.bl z.2.1)), (5, (.own 1)), (7, (.v (.int .i64 z.2.2.1))), (9, (.tree .str z.2.2.2.1)), (10, (.bl z.2.2.2.2.1))], [some (.arr 9 .str z.2.2.2.2.2.1), some (.arr 9 .str z.2.2.2.2.2.2)]⟩ ?_ ?_; (replace H := hz)))
        | ((repeat (first | replace H := grd_k H | replace H := out_step H (by assumption))); have H := Option.some.inj H; subst H; with_reducible refine sub_auto ?_)
        | ((with_reducible refine fin_mk ?_); (repeat (first | replace H := grd_k H | replace H := out_step H (by assumption))); have H := Option.some.inj H; subst H))
def G22 : Env := G21.add 5 [] laws_FnExactPossibleKinds.S
theorem G22_ok : EnvOk Tryd.prog G22 := G21_ok.add ent_5 fun ar h r h1 ⟨a0, y, hy, e1, e2, e3, e4⟩ => by
  subst e3 e4; exact (laws_FnExactPossibleKinds.spec a0 y hy).le e1 e2
attribute [local irreducible] laws_FnExactPossibleKinds

noncomputable def laws_szBoardEvent (a0 : BoardEvent) (a1 : Int) : Option (Int) :=
  (cond (decide ((w64 (a1 - (a0.1.size : Int))) < (0 : Int))) ((some ((-1) : Int))) ((some (w64 (a1 - (a0.1.size : Int))))))
def laws_szBoardEvent.res (_ : BoardEvent) (_ : Int) (y : Int) : AV := (.v (.int .i64 y))
def laws_szBoardEvent.out (_ : BoardEvent) (_ : Int) (_ : Int) : List (Option LB) := []
def laws_szBoardEvent.S (ar : List AV) (h : List (Option LB)) (r : AV) (h1 : List (Option LB)) : Prop := ∃ a0 a1 y, laws_szBoardEvent a0 a1 = some y ∧ leL ar [(.agg [(.v (.string a0.1)), (.v (.int .i64 a0.2.1))]), (.v (.int .i64 a1))] ∧ leH h [] ∧ r = laws_szBoardEvent.res a0 a1 y ∧ h1 = laws_szBoardEvent.out a0 a1 y
theorem laws_szBoardEvent.call {ar : List AV} {h : List (Option LB)} {a0 : BoardEvent} {a1 : Int} {y : Int} (H : laws_szBoardEvent a0 a1 = some y) (h0 : leLk ar [(.agg [(.v (.string a0.1)), (.v (.int .i64 a0.2.1))]), (.v (.int .i64 a1))] (leHk h [])) : laws_szBoardEvent.S ar h (laws_szBoardEvent.res a0 a1 y) (laws_szBoardEvent.out a0 a1 y) := ⟨a0, a1, y, H, (args_ok h0).1, (args_ok h0).2, rfl, rfl⟩
set_option maxHeartbeats 100000000 in
set_option maxRecDepth 100000 in
theorem laws_szBoardEvent.spec (a0 : BoardEvent) (a1 : Int) (y : Int) (H : laws_szBoardEvent a0 a1 = some y) : Spec Tryd.prog 26 [(.agg [(.v (.string a0.1)), (.v (.int .i64 a0.2.1))]), (.v (.int .i64 a1))] [] (laws_szBoardEvent.res a0 a1 y) (laws_szBoardEvent.out a0 a1 y) := by
  refine spec_intro (G22_ok.at tok []) (ct := []) Tryd.func26 rfl (by kernel_rfl) (by kernel_rfl) rfl ?_
  repeat' first
    | ((with_reducible refine eqg ?_); exact rfl)
    | ((with_reducible refine KOb.mk ?_); kernel_rfl)
    | ((with_reducible intro h); (repeat (first | replace H := grd_k H | replace H := out_step H (by assumption))); first | replace H := cond_t h H | replace H := cond_f h H | exact absurd h (by decide) | skip)
    | ((with_reducible refine Ob.mk ?_); first | (with_reducible rfl) | (first | ((repeat (first | (with_reducible exact grd_p H) | (replace H := grd_k H) | (replace H := out_step H (by assumption)))); done) | rfl | ((repeat (first | exact grd_p H | replace H := grd_k H | replace H := out_step H (by assumption))); done) | ((repeat (first | exact grd_p H | (have hp := grd_p H; exact hp) | replace H := grd_k H | replace H := out_step H (by assumption) | (replace H := bind_some H; obtain ⟨_, _, H⟩ := H))); done) | (repeat (first | exact grd_p H | replace H := grd_k H | replace H := out_step H (by assumption)))))
    | (with_reducible exact True.intro)
    | constructor
    | ((conv => whnf); first
        | ((with_reducible refine Ob.mk ?_); first | (with_reducible rfl) | (first | ((repeat (first | (with_reducible exact grd_p H) | (replace H := grd_k H) | (replace H := out_step H (by assumption)))); done) | rfl | ((repeat (first | exact grd_p H | replace H := grd_k H | replace H := out_step H (by assumption))); done) | ((repeat (first | exact grd_p H | (have hp := grd_p H; exact hp) | replace H := grd_k H | replace H := out_step H (by assumption) | (replace H := bind_some H; obtain ⟨_, _, H⟩ := H))); done) | (repeat (first | exact grd_p H | replace H := grd_k H | replace H := out_step H (by assumption)))))
        | ((with_reducible refine fin_mk ?_); (repeat (first | replace H := grd_k H | replace H := out_step H (by assumption))); have H := Option.some.inj H; subst H))
def G23 : Env := G22.add 26 [] laws_szBoardEvent.S
theorem G23_ok : EnvOk Tryd.prog G23 := G22_ok.add ent_26 fun ar h r h1 ⟨a0, a1, y, hy, e1, e2, e3, e4⟩ => by
  subst e3 e4; exact (laws_szBoardEvent.spec a0 a1 y hy).le e1 e2
attribute [local irreducible] laws_szBoardEvent

noncomputable def laws_toBoardEvent (a0 : BoardEvent) : Option (BoardEvent) :=
  (some (a0.1, a0.2.1, ()))
def laws_toBoardEvent.res (_ : BoardEvent) (y : BoardEvent) : AV := (.agg [(.v (.string y.1)), (.v (.int .i64 y.2.1))])
def laws_toBoardEvent.out (_ : BoardEvent) (_ : BoardEvent) : List (Option LB) := []
def laws_toBoardEvent.S (ar : List AV) (h : List (Option LB)) (r : AV) (h1 : List (Option LB)) : Prop := ∃ a0 y, laws_toBoardEvent a0 = some y ∧ leL ar [(.agg [(.v (.string a0.1)), (.v (.int .i64 a0.2.1))])] ∧ leH h [] ∧ r = laws_toBoardEvent.res a0 y ∧ h1 = laws_toBoardEvent.out a0 y
theorem laws_toBoardEvent.call {ar : List AV} {h : List (Option LB)} {a0 : BoardEvent} {y : BoardEvent} (H : laws_toBoardEvent a0 = some y) (h0 : leLk ar [(.agg [(.v (.string a0.1)), (.v (.int .i64 a0.2.1))])] (leHk h [])) : laws_toBoardEvent.S ar h (laws_toBoardEvent.res a0 y) (laws_toBoardEvent.out a0 y) := ⟨a0, y, H, (args_ok h0).1, (args_ok h0).2, rfl, rfl⟩
set_option maxHeartbeats 100000000 in
set_option maxRecDepth 100000 in
theorem laws_toBoardEvent.spec (a0 : BoardEvent) (y : BoardEvent) (H : laws_toBoardEvent a0 = some y) : Spec Tryd.prog 28 [(.agg [(.v (.string a0.1)), (.v (.int .i64 a0.2.1))])] [] (laws_toBoardEvent.res a0 y) (laws_toBoardEvent.out a0 y) := by
  refine spec_intro (G23_ok.at tok []) (ct := []) Tryd.func28 rfl (by kernel_rfl) (by kernel_rfl) rfl ?_
  repeat' first
    | ((with_reducible refine eqg ?_); exact rfl)
    | ((with_reducible refine KOb.mk ?_); kernel_rfl)
    | ((with_reducible intro h); (repeat (first | replace H := grd_k H | replace H := out_step H (by assumption))); first | replace H := cond_t h H | replace H := cond_f h H | exact absurd h (by decide) | skip)
    | ((with_reducible refine Ob.mk ?_); first | (with_reducible rfl) | (first | ((repeat (first | (with_reducible exact grd_p H) | (replace H := grd_k H) | (replace H := out_step H (by assumption)))); done) | rfl | ((repeat (first | exact grd_p H | replace H := grd_k H | replace H := out_step H (by assumption))); done) | ((repeat (first | exact grd_p H | (have hp := grd_p H; exact hp) | replace H := grd_k H | replace H := out_step H (by assumption) | (replace H := bind_some H; obtain ⟨_, _, H⟩ := H))); done) | (repeat (first | exact grd_p H | replace H := grd_k H | replace H := out_step H (by assumption)))))
    | (with_reducible exact True.intro)
    | constructor
    | ((conv => whnf); first
        | ((with_reducible refine Ob.mk ?_); first | (with_reducible rfl) | (first | ((repeat (first | (with_reducible exact grd_p H) | (replace H := grd_k H) | (replace H := out_step H (by assumption)))); done) | rfl | ((repeat (first | exact grd_p H | replace H := grd_k H | replace H := out_step H (by assumption))); done) | ((repeat (first | exact grd_p H | (have hp := grd_p H; exact hp) | replace H := grd_k H | replace H := out_step H (by assumption) | (replace H := bind_some H; obtain ⟨_, _, H⟩ := H))); done) | (repeat (first | exact grd_p H | replace H := grd_k H | replace H := out_step H (by assumption)))))
        | ((with_reducible refine fin_mk ?_); (repeat (first | replace H := grd_k H | replace H := out_step H (by assumption))); have H := Option.some.inj H; subst H))
def G24 : Env := G23.add 28 [] laws_toBoardEvent.S
theorem G24_ok : EnvOk Tryd.prog G24 := G23_ok.add ent_28 fun ar h r h1 ⟨a0, y, hy, e1, e2, e3, e4⟩ => by
  subst e3 e4; exact (laws_toBoardEvent.spec a0 y hy).le e1 e2
attribute [local irreducible] laws_toBoardEvent

end Go.Proofs.YteckiilljhdkpaaDoor
