/-
  Contracts, printed by a program.
-/
import Derived.Test.YteckiilljhdkpaaDoorC312
namespace Go.Proofs.YteckiilljhdkpaaDoor
open Go.RowKit
attribute [local irreducible] Ob loopwp Sub Spec Fin Again CallW CutC KOb iter joinx outm

attribute [local irreducible] laws_szDayRow laws_toDayRow spec_l1In spec_l2Word spec_l26One spec_l1Num spec_l1Num_f spec_l26Line spec_DayLine impl_within impl_isDay impl_isWord impl_IsDayRow strconv_Itoa impl_dayLine impl_DayLine laws_FnExactDayLine

noncomputable def laws_szDayRowS_loop1 (a0 : (List DayRow)) (v5 : Int) (v6 : Int) : Option (Lp (Int × Int) ((Unit) ⊕ (Int))) :=
  (cond (decide (v6 < (a0.length : Int))) (grd (0 ≤ v6 ∧ v6 < (a0.length : Int)) ((laws_szDayRow ((a0.getD v6.toNat d_DayRow).1, (a0.getD v6.toNat d_DayRow).2.1, (a0.getD v6.toNat d_DayRow).2.2.1, (a0.getD v6.toNat d_DayRow).2.2.2.1, (a0.getD v6.toNat d_DayRow).2.2.2.2.1, (a0.getD v6.toNat d_DayRow).2.2.2.2.2.1, ()) v5).bind fun y7 => (cond (decide (y7 < (0 : Int))) ((some (.out (Sum.inl ())))) (some (.go (y7, (w64 (v6 + (1 : Int))))))))) ((some (.out (Sum.inr v5)))))
noncomputable def laws_szDayRowS (a0 : (List DayRow)) (a1 : Int) : Option (Int) :=
  (cond (decide ((w64 (a1 - (a0.length : Int))) < (0 : Int))) ((some ((-1) : Int))) ((iter (fun s => laws_szDayRowS_loop1 a0 s.1 s.2) ((w64 (a1 - (a0.length : Int))), (0 : Int))).bind (Sum.elim (fun _ => (some ((-1) : Int))) (fun r10 => (some r10)))))
def laws_szDayRowS.res (_ : (List DayRow)) (_ : Int) (y : Int) : AV := (.v (.int .i64 y))
def laws_szDayRowS.out (_ : (List DayRow)) (_ : Int) (_ : Int) : List (Option LB) := []
def laws_szDayRowS.S (ar : List AV) (h : List (Option LB)) (r : AV) (h1 : List (Option LB)) : Prop := ∃ a0 a1 y, laws_szDayRowS a0 a1 = some y ∧ leL ar [(.tree ty_DayRow a0), (.v (.int .i64 a1))] ∧ leH h [] ∧ r = laws_szDayRowS.res a0 a1 y ∧ h1 = laws_szDayRowS.out a0 a1 y
theorem laws_szDayRowS.call {ar : List AV} {h : List (Option LB)} {a0 : (List DayRow)} {a1 : Int} {y : Int} (H : laws_szDayRowS a0 a1 = some y) (h0 : leLk ar [(.tree ty_DayRow a0), (.v (.int .i64 a1))] (leHk h [])) : laws_szDayRowS.S ar h (laws_szDayRowS.res a0 a1 y) (laws_szDayRowS.out a0 a1 y) := ⟨a0, a1, y, H, (args_ok h0).1, (args_ok h0).2, rfl, rfl⟩
set_option maxHeartbeats 100000000 in
set_option maxRecDepth 100000 in
theorem laws_szDayRowS.spec (a0 : (List DayRow)) (a1 : Int) (y : Int) (H : laws_szDayRowS a0 a1 = some y) : Spec Tryd.prog 15 [(.tree ty_DayRow a0), (.v (.int .i64 a1))] [] (laws_szDayRowS.res a0 a1 y) (laws_szDayRowS.out a0 a1 y) := by
  refine spec_intro (G16_ok.at tok []) (ct := [(6, some [0, 1, 5])]) Tryd.func15 rfl (by kernel_rfl) (by kernel_rfl) rfl ?_
  repeat' first
    | ((with_reducible refine eqg ?_); exact rfl)
    | ((with_reducible refine KOb.mk ?_); kernel_rfl)
    | ((with_reducible intro h); (repeat (first | replace H := grd_k H | replace H := out_step H (by assumption))); first | replace H := cond_t h H | replace H := cond_f h H | exact absurd h (by decide) | skip)
    | ((with_reducible refine Ob.mk ?_); first | (with_reducible rfl) | (first | ((repeat (first | (with_reducible exact grd_p H) | (replace H := grd_k H) | (replace H := out_step H (by assumption)))); done) | rfl | ((repeat (first | exact grd_p H | replace H := grd_k H | replace H := out_step H (by assumption))); done) | ((repeat (first | exact grd_p H | (have hp := grd_p H; exact hp) | replace H := grd_k H | replace H := out_step H (by assumption) | (replace H := bind_some H; obtain ⟨_, _, H⟩ := H))); done) | (repeat (first | exact grd_p H | replace H := grd_k H | replace H := out_step H (by assumption)))))
    | (with_reducible exact True.intro)
    | constructor
    | ((conv => whnf); first
        | ((with_reducible refine Ob.mk ?_); first | (with_reducible rfl) | (first | ((repeat (first | (with_reducible exact grd_p H) | (replace H := grd_k H) | (replace H := out_step H (by assumption)))); done) | rfl | ((repeat (first | exact grd_p H | replace H := grd_k H | replace H := out_step H (by assumption))); done) | ((repeat (first | exact grd_p H | (have hp := grd_p H; exact hp) | replace H := grd_k H | replace H := out_step H (by assumption) | (replace H := bind_some H; obtain ⟨_, _, H⟩ := H))); done) | (repeat (first | exact grd_p H | replace H := grd_k H | replace H := out_step H (by assumption)))))
        | ((with_reducible refine CallW.mk ?_); (repeat (first | replace H := grd_k H | replace H := out_step H (by assumption))); replace H := bind_some H; obtain ⟨y, hy, H⟩ := H; first | ((with_reducible have hz : laws_szDayRow _ _ = some y := hy); clear hz; refine Exists.intro _ (Exists.intro _ ⟨laws_szDayRow.call hy ?_, rfl, rfl, ?_⟩)))
        | ((repeat (first | replace H := grd_k H | replace H := out_step H (by assumption))); refine loop_iter (G16_ok.at tok []) (ct := [(6, some [0, 1, 5])]) (F := (fun s1 : Int × Int => ⟨sl [(0, (.tree ty_DayRow a0)), (1, (.v (.int .i64 s1.1))), (5, (.v (.int .i64 s1.2)))], []⟩)) (step := (fun s : Int × Int => laws_szDayRowS_loop1 _ s.1 s.2)) _ H (by kernel_rfl) (sub_auto ?_) ?_; rotate_left; (intro s1 r v hr H); rotate_right)
        | ((repeat (first | replace H := grd_k H | replace H := out_step H (by assumption))); refine again_step H (by assumption) (sub_auto ?_))
        | ((with_reducible refine fin_mk ?_); (repeat (first | replace H := grd_k H | replace H := out_step H (by assumption))); have H := Option.some.inj H; subst H))
def G17 : Env := G16.add 15 [] laws_szDayRowS.S
theorem G17_ok : EnvOk Tryd.prog G17 := G16_ok.add ent_15 fun ar h r h1 ⟨a0, a1, y, hy, e1, e2, e3, e4⟩ => by
  subst e3 e4; exact (laws_szDayRowS.spec a0 a1 y hy).le e1 e2
attribute [local irreducible] laws_szDayRowS

noncomputable def laws_toDayRowS_loop1 (a0 : (List DayRow)) (v5 : Int) (v6 : (List DayRow)) : Option (Lp (Int × (List DayRow)) (((List DayRow)))) :=
  (cond (decide (v5 < (a0.length : Int))) (grd (0 ≤ v5 ∧ v5 < (a0.length : Int)) ((laws_toDayRow ((a0.getD v5.toNat d_DayRow).1, (a0.getD v5.toNat d_DayRow).2.1, (a0.getD v5.toNat d_DayRow).2.2.1, (a0.getD v5.toNat d_DayRow).2.2.2.1, (a0.getD v5.toNat d_DayRow).2.2.2.2.1, (a0.getD v5.toNat d_DayRow).2.2.2.2.2.1, ())).bind fun y7 => (grd (0 ≤ v5 ∧ v5 < (v6.length : Int)) (some (.go ((w64 (v5 + (1 : Int))), (v6.set v5.toNat (y7.1, y7.2.1, y7.2.2.1, y7.2.2.2.1, y7.2.2.2.2.1, y7.2.2.2.2.2.1, ())))))))) ((some (.out v6))))
noncomputable def laws_toDayRowS (a0 : (List DayRow)) : Option ((List DayRow)) :=
  (grd (0 ≤ (a0.length : Int) ∧ (a0.length : Int) ≤ (a0.length : Int) ∧ (56 : Int) * (a0.length : Int) ≤ 140737488355328 ∧ (a0.length : Int) ≤ 140737488355328) ((iter (fun s => laws_toDayRowS_loop1 a0 s.1 s.2) ((0 : Int), (List.replicate (a0.length : Int).toNat ((0 : Int), (0 : Int), (0 : Int), (0 : Int), (0 : Int), (ByteArray.mk #[]), ())))).bind (fun r8 => (some r8))))
def laws_toDayRowS.res (_ : (List DayRow)) (_ : (List DayRow)) : AV := (.own 0)
def laws_toDayRowS.out (_ : (List DayRow)) (y : (List DayRow)) : List (Option LB) := [some (.arr 27 ty_DayRow y)]
def laws_toDayRowS.S (ar : List AV) (h : List (Option LB)) (r : AV) (h1 : List (Option LB)) : Prop := ∃ a0 y, laws_toDayRowS a0 = some y ∧ leL ar [(.tree ty_DayRow a0)] ∧ leH h [] ∧ r = laws_toDayRowS.res a0 y ∧ h1 = laws_toDayRowS.out a0 y
theorem laws_toDayRowS.call {ar : List AV} {h : List (Option LB)} {a0 : (List DayRow)} {y : (List DayRow)} (H : laws_toDayRowS a0 = some y) (h0 : leLk ar [(.tree ty_DayRow a0)] (leHk h [])) : laws_toDayRowS.S ar h (laws_toDayRowS.res a0 y) (laws_toDayRowS.out a0 y) := ⟨a0, y, H, (args_ok h0).1, (args_ok h0).2, rfl, rfl⟩
set_option maxHeartbeats 100000000 in
set_option maxRecDepth 100000 in
theorem laws_toDayRowS.spec (a0 : (List DayRow)) (y : (List DayRow)) (H : laws_toDayRowS a0 = some y) : Spec Tryd.prog 17 [(.tree ty_DayRow a0)] [] (laws_toDayRowS.res a0 y) (laws_toDayRowS.out a0 y) := by
  refine spec_intro (G17_ok.at tok []) (ct := []) Tryd.func17 rfl (by kernel_rfl) (by kernel_rfl) rfl ?_
  repeat' first
    | ((with_reducible refine eqg ?_); exact rfl)
    | ((with_reducible refine KOb.mk ?_); kernel_rfl)
    | ((with_reducible intro h); (repeat (first | replace H := grd_k H | replace H := out_step H (by assumption))); first | replace H := cond_t h H | replace H := cond_f h H | exact absurd h (by decide) | skip)
    | ((with_reducible refine Ob.mk ?_); first | (with_reducible rfl) | (first | ((repeat (first | (with_reducible exact grd_p H) | (replace H := grd_k H) | (replace H := out_step H (by assumption)))); done) | rfl | ((repeat (first | exact grd_p H | replace H := grd_k H | replace H := out_step H (by assumption))); done) | ((repeat (first | exact grd_p H | (have hp := grd_p H; exact hp) | replace H := grd_k H | replace H := out_step H (by assumption) | (replace H := bind_some H; obtain ⟨_, _, H⟩ := H))); done) | (repeat (first | exact grd_p H | replace H := grd_k H | replace H := out_step H (by assumption)))))
    | (with_reducible exact True.intro)
    | constructor
    | ((conv => whnf); first
        | ((with_reducible refine Ob.mk ?_); first | (with_reducible rfl) | (first | ((repeat (first | (with_reducible exact grd_p H) | (replace H := grd_k H) | (replace H := out_step H (by assumption)))); done) | rfl | ((repeat (first | exact grd_p H | replace H := grd_k H | replace H := out_step H (by assumption))); done) | ((repeat (first | exact grd_p H | (have hp := grd_p H; exact hp) | replace H := grd_k H | replace H := out_step H (by assumption) | (replace H := bind_some H; obtain ⟨_, _, H⟩ := H))); done) | (repeat (first | exact grd_p H | replace H := grd_k H | replace H := out_step H (by assumption)))))
        | ((with_reducible refine CallW.mk ?_); (repeat (first | replace H := grd_k H | replace H := out_step H (by assumption))); replace H := bind_some H; obtain ⟨y, hy, H⟩ := H; first | ((with_reducible have hz : laws_toDayRow _ = some y := hy); clear hz; refine Exists.intro _ (Exists.intro _ ⟨laws_toDayRow.call hy ?_, rfl, rfl, ?_⟩)))
        | ((repeat (first | replace H := grd_k H | replace H := out_step H (by assumption))); refine loop_iter (G17_ok.at tok []) (ct := []) (F := (fun s1 : Int × (List DayRow) => ⟨sl [(0, (.tree ty_DayRow a0)), (3, (.own 0)), (4, (.v (.int .i64 s1.1)))], [some (.arr 27 ty_DayRow s1.2)]⟩)) (step := (fun s : Int × (List DayRow) => laws_toDayRowS_loop1 _ s.1 s.2)) _ H (by kernel_rfl) (sub_auto ?_) ?_; rotate_left; (intro s1 r v hr H); rotate_right)
        | ((repeat (first | replace H := grd_k H | replace H := out_step H (by assumption))); refine again_step H (by assumption) (sub_auto ?_))
        | ((with_reducible refine fin_mk ?_); (repeat (first | replace H := grd_k H | replace H := out_step H (by assumption))); have H := Option.some.inj H; subst H))
def G18 : Env := G17.add 17 [] laws_toDayRowS.S
theorem G18_ok : EnvOk Tryd.prog G18 := G17_ok.add ent_17 fun ar h r h1 ⟨a0, y, hy, e1, e2, e3, e4⟩ => by
  subst e3 e4; exact (laws_toDayRowS.spec a0 y hy).le e1 e2
attribute [local irreducible] laws_toDayRowS

noncomputable def spec_l26Good_loop1 (a0 : (List DayRow)) (v5 : Int) : Option (Lp (Int) ((Unit) ⊕ (Unit))) :=
  (cond (decide (v5 < (a0.length : Int))) (grd (0 ≤ v5 ∧ v5 < (a0.length : Int)) ((spec_l26One ((a0.getD v5.toNat d_DayRow).1, (a0.getD v5.toNat d_DayRow).2.1, (a0.getD v5.toNat d_DayRow).2.2.1, (a0.getD v5.toNat d_DayRow).2.2.2.1, (a0.getD v5.toNat d_DayRow).2.2.2.2.1, (a0.getD v5.toNat d_DayRow).2.2.2.2.2.1, ())).bind fun y6 => (cond (!y6) ((some (.out (Sum.inl ())))) (cond (decide ((0 : Int) < v5)) (grd (0 ≤ (w64 (v5 - (1 : Int))) ∧ (w64 (v5 - (1 : Int))) < (a0.length : Int)) (grd (0 ≤ v5 ∧ v5 < (a0.length : Int)) (cond (decide (((a0.getD v5.toNat d_DayRow).1) ≤ ((a0.getD ((w64 (v5 - (1 : Int))).toNat) d_DayRow).1))) ((some (.out (Sum.inl ())))) (some (.go (w64 (v5 + (1 : Int)))))))) (some (.go (w64 (v5 + (1 : Int))))))))) ((some (.out (Sum.inr ())))))
noncomputable def spec_l26Good (a0 : (List DayRow)) : Option (Bool) :=
  ((iter (fun s => spec_l26Good_loop1 a0 s) (0 : Int)).bind (Sum.elim (fun _ => (some false)) (fun _ => (some (decide ((a0.length : Int) ≤ (14 : Int)))))))
def spec_l26Good.res (_ : (List DayRow)) (y : Bool) : AV := (.bl y)
def spec_l26Good.out (_ : (List DayRow)) (_ : Bool) : List (Option LB) := []
def spec_l26Good.S (ar : List AV) (h : List (Option LB)) (r : AV) (h1 : List (Option LB)) : Prop := ∃ a0 y, spec_l26Good a0 = some y ∧ leL ar [(.tree ty_DayRow a0)] ∧ leH h [] ∧ r = spec_l26Good.res a0 y ∧ h1 = spec_l26Good.out a0 y
theorem spec_l26Good.call {ar : List AV} {h : List (Option LB)} {a0 : (List DayRow)} {y : Bool} (H : spec_l26Good a0 = some y) (h0 : leLk ar [(.tree ty_DayRow a0)] (leHk h [])) : spec_l26Good.S ar h (spec_l26Good.res a0 y) (spec_l26Good.out a0 y) := ⟨a0, y, H, (args_ok h0).1, (args_ok h0).2, rfl, rfl⟩
set_option maxHeartbeats 100000000 in
set_option maxRecDepth 100000 in
theorem spec_l26Good.spec (a0 : (List DayRow)) (y : Bool) (H : spec_l26Good a0 = some y) : Spec Tryd.prog 63 [(.tree ty_DayRow a0)] [] (spec_l26Good.res a0 y) (spec_l26Good.out a0 y) := by
  refine spec_intro (G18_ok.at tok []) (ct := [(5, some [0, 3, 17, 18, 19, 20, 21, 22, 23, 24, 25, 26, 27, 28, 29, 30, 31, 32, 33])]) Tryd.func63 rfl (by kernel_rfl) (by kernel_rfl) rfl ?_
  repeat' first
    | ((with_reducible refine eqg ?_); exact rfl)
    | ((with_reducible refine KOb.mk ?_); kernel_rfl)
    | ((with_reducible intro h); (repeat (first | replace H := grd_k H | replace H := out_step H (by assumption))); first | replace H := cond_t h H | replace H := cond_f h H | exact absurd h (by decide) | skip)
    | ((with_reducible refine Ob.mk ?_); first | (with_reducible rfl) | (first | ((repeat (first | (with_reducible exact grd_p H) | (replace H := grd_k H) | (replace H := out_step H (by assumption)))); done) | rfl | ((repeat (first | exact grd_p H | replace H := grd_k H | replace H := out_step H (by assumption))); done) | ((repeat (first | exact grd_p H | (have hp := grd_p H; exact hp) | replace H := grd_k H | replace H := out_step H (by assumption) | (replace H := bind_some H; obtain ⟨_, _, H⟩ := H))); done) | (repeat (first | exact grd_p H | replace H := grd_k H | replace H := out_step H (by assumption)))))
    | (with_reducible exact True.intro)
    | constructor
    | ((conv => whnf); first
        | ((with_reducible refine Ob.mk ?_); first | (with_reducible rfl) | (first | ((repeat (first | (with_reducible exact grd_p H) | (replace H := grd_k H) | (replace H := out_step H (by assumption)))); done) | rfl | ((repeat (first | exact grd_p H | replace H := grd_k H | replace H := out_step H (by assumption))); done) | ((repeat (first | exact grd_p H | (have hp := grd_p H; exact hp) | replace H := grd_k H | replace H := out_step H (by assumption) | (replace H := bind_some H; obtain ⟨_, _, H⟩ := H))); done) | (repeat (first | exact grd_p H | replace H := grd_k H | replace H := out_step H (by assumption)))))
        | ((with_reducible refine CallW.mk ?_); (repeat (first | replace H := grd_k H | replace H := out_step H (by assumption))); replace H := bind_some H; obtain ⟨y, hy, H⟩ := H; first | ((with_reducible have hz : spec_l26One _ = some y := hy); clear hz; refine Exists.intro _ (Exists.intro _ ⟨spec_l26One.call hy ?_, rfl, rfl, ?_⟩)))
        | ((repeat (first | replace H := grd_k H | replace H := out_step H (by assumption))); refine loop_iter (G18_ok.at tok []) (ct := [(5, some [0, 3, 17, 18, 19, 20, 21, 22, 23, 24, 25, 26, 27, 28, 29, 30, 31, 32, 33])]) (F := (fun s1 : Int => ⟨sl [(0, (.tree ty_DayRow a0)), (3, (.v (.int .i64 s1)))], []⟩)) (step := (fun s : Int => spec_l26Good_loop1 _ s)) _ H (by kernel_rfl) (sub_auto ?_) ?_; rotate_left; (intro s1 r v hr H); rotate_right)
        | ((repeat (first | replace H := grd_k H | replace H := out_step H (by assumption))); refine again_step H (by assumption) (sub_auto ?_))
        | ((with_reducible refine fin_mk ?_); (repeat (first | replace H := grd_k H | replace H := out_step H (by assumption))); have H := Option.some.inj H; subst H))
def G19 : Env := G18.add 63 [] spec_l26Good.S
theorem G19_ok : EnvOk Tryd.prog G19 := G18_ok.add ent_63 fun ar h r h1 ⟨a0, y, hy, e1, e2, e3, e4⟩ => by
  subst e3 e4; exact (spec_l26Good.spec a0 y hy).le e1 e2
attribute [local irreducible] spec_l26Good

noncomputable def spec_WeekText_loop1 (a0 : (List DayRow)) (v8 : ByteArray) (v9 : Int) (v10 : Int) (v11 : Int) : Option (Lp (ByteArray × Int × Int × Int) ((ByteArray × Int × Int))) :=
  (cond (decide (v11 < (a0.length : Int))) (grd (0 ≤ v11 ∧ v11 < (a0.length : Int)) ((spec_l26Line ((a0.getD v11.toNat d_DayRow).1, (a0.getD v11.toNat d_DayRow).2.1, (a0.getD v11.toNat d_DayRow).2.2.1, (a0.getD v11.toNat d_DayRow).2.2.2.1, (a0.getD v11.toNat d_DayRow).2.2.2.2.1, (a0.getD v11.toNat d_DayRow).2.2.2.2.2.1, ())).bind fun y12 => (grd (v8.size + y12.size ≤ 9223372036854775807) (grd ((v8 ++ y12).size + (ByteArray.mk #[10]).size ≤ 9223372036854775807) (grd (0 ≤ v11 ∧ v11 < (a0.length : Int)) (grd (0 ≤ v11 ∧ v11 < (a0.length : Int)) (some (.go (((v8 ++ y12) ++ (ByteArray.mk #[10])), (w64 (v9 + ((a0.getD v11.toNat d_DayRow).2.1))), (w64 (v10 + ((a0.getD v11.toNat d_DayRow).2.2.1))), (w64 (v11 + (1 : Int)))))))))))) ((some (.out (v8, v9, v10)))))
noncomputable def spec_WeekText (a0 : (List DayRow)) : Option (ByteArray × Bool) :=
  ((spec_l26Good a0).bind fun y1 => (cond (!y1) ((some ((ByteArray.mk #[]), false))) ((iter (fun s => spec_WeekText_loop1 a0 s.1 s.2.1 s.2.2.1 s.2.2.2) ((ByteArray.mk #[]), (0 : Int), (0 : Int), (0 : Int))).bind (fun r13 => (grd (r13.1.size + (ByteArray.mk #[97, 108, 108, 58, 32]).size ≤ 9223372036854775807) ((spec_l1Num r13.2.1).bind fun y14 => (grd ((r13.1 ++ (ByteArray.mk #[97, 108, 108, 58, 32])).size + y14.size ≤ 9223372036854775807) (grd (((r13.1 ++ (ByteArray.mk #[97, 108, 108, 58, 32])) ++ y14).size + (ByteArray.mk #[32, 117, 112, 44, 32]).size ≤ 9223372036854775807) ((spec_l1Num r13.2.2).bind fun y15 => (grd ((((r13.1 ++ (ByteArray.mk #[97, 108, 108, 58, 32])) ++ y14) ++ (ByteArray.mk #[32, 117, 112, 44, 32])).size + y15.size ≤ 9223372036854775807) (grd (((((r13.1 ++ (ByteArray.mk #[97, 108, 108, 58, 32])) ++ y14) ++ (ByteArray.mk #[32, 117, 112, 44, 32])) ++ y15).size + (ByteArray.mk #[32, 100, 111, 119, 110]).size ≤ 9223372036854775807) ((some ((((((r13.1 ++ (ByteArray.mk #[97, 108, 108, 58, 32])) ++ y14) ++ (ByteArray.mk #[32, 117, 112, 44, 32])) ++ y15) ++ (ByteArray.mk #[32, 100, 111, 119, 110])), true))))))))))))))
def spec_WeekText.res (_ : (List DayRow)) (y : ByteArray × Bool) : AV := (.tup [(.v (.string y.1)), (.bl y.2)])
def spec_WeekText.out (_ : (List DayRow)) (_ : ByteArray × Bool) : List (Option LB) := []
def spec_WeekText.S (ar : List AV) (h : List (Option LB)) (r : AV) (h1 : List (Option LB)) : Prop := ∃ a0 y, spec_WeekText a0 = some y ∧ leL ar [(.tree ty_DayRow a0)] ∧ leH h [] ∧ r = spec_WeekText.res a0 y ∧ h1 = spec_WeekText.out a0 y
theorem spec_WeekText.call {ar : List AV} {h : List (Option LB)} {a0 : (List DayRow)} {y : ByteArray × Bool} (H : spec_WeekText a0 = some y) (h0 : leLk ar [(.tree ty_DayRow a0)] (leHk h [])) : spec_WeekText.S ar h (spec_WeekText.res a0 y) (spec_WeekText.out a0 y) := ⟨a0, y, H, (args_ok h0).1, (args_ok h0).2, rfl, rfl⟩
set_option maxHeartbeats 100000000 in
set_option maxRecDepth 100000 in
theorem spec_WeekText.spec (a0 : (List DayRow)) (y : ByteArray × Bool) (H : spec_WeekText a0 = some y) : Spec Tryd.prog 16 [(.tree ty_DayRow a0)] [] (spec_WeekText.res a0 y) (spec_WeekText.out a0 y) := by
  refine spec_intro (G19_ok.at tok []) (ct := [(9, some [0, 4, 5, 6, 7])]) Tryd.func16 rfl (by kernel_rfl) (by kernel_rfl) rfl ?_
  repeat' first
    | ((with_reducible refine eqg ?_); exact rfl)
    | ((with_reducible refine KOb.mk ?_); kernel_rfl)
    | ((with_reducible intro h); (repeat (first | replace H := grd_k H | replace H := out_step H (by assumption))); first | replace H := cond_t h H | replace H := cond_f h H | exact absurd h (by decide) | skip)
    | ((with_reducible refine Ob.mk ?_); first | (with_reducible rfl) | (first | ((repeat (first | (with_reducible exact grd_p H) | (replace H := grd_k H) | (replace H := out_step H (by assumption)))); done) | rfl | ((repeat (first | exact grd_p H | replace H := grd_k H | replace H := out_step H (by assumption))); done) | ((repeat (first | exact grd_p H | (have hp := grd_p H; exact hp) | replace H := grd_k H | replace H := out_step H (by assumption) | (replace H := bind_some H; obtain ⟨_, _, H⟩ := H))); done) | (repeat (first | exact grd_p H | replace H := grd_k H | replace H := out_step H (by assumption)))))
    | (with_reducible exact True.intro)
    | constructor
    | ((conv => whnf); first
        | ((with_reducible refine Ob.mk ?_); first | (with_reducible rfl) | (first | ((repeat (first | (with_reducible exact grd_p H) | (replace H := grd_k H) | (replace H := out_step H (by assumption)))); done) | rfl | ((repeat (first | exact grd_p H | replace H := grd_k H | replace H := out_step H (by assumption))); done) | ((repeat (first | exact grd_p H | (have hp := grd_p H; exact hp) | replace H := grd_k H | replace H := out_step H (by assumption) | (replace H := bind_some H; obtain ⟨_, _, H⟩ := H))); done) | (repeat (first | exact grd_p H | replace H := grd_k H | replace H := out_step H (by assumption)))))
        | ((with_reducible refine CallW.mk ?_); (repeat (first | replace H := grd_k H | replace H := out_step H (by assumption))); replace H := bind_some H; obtain ⟨y, hy, H⟩ := H; first | ((with_reducible have hz : spec_l26Good _ = some y := hy); clear hz; refine Exists.intro _ (Exists.intro _ ⟨spec_l26Good.call hy ?_, rfl, rfl, ?_⟩)) | ((with_reducible have hz : spec_l26Line _ = some y := hy); clear hz; refine Exists.intro _ (Exists.intro _ ⟨spec_l26Line.call hy ?_, rfl, rfl, ?_⟩)) | ((with_reducible have hz : spec_l1Num _ = some y := hy); clear hz; refine Exists.intro _ (Exists.intro _ ⟨spec_l1Num.call hy ?_, rfl, rfl, ?_⟩)))
        | ((repeat (first | replace H := grd_k H | replace H := out_step H (by assumption))); refine loop_iter (G19_ok.at tok []) (ct := [(9, some [0, 4, 5, 6, 7])]) (F := (fun s1 : ByteArray × Int × Int × Int => ⟨sl [(0, (.tree ty_DayRow a0)), (4, (.v (.string s1.1))), (5, (.v (.int .i64 s1.2.1))), (6, (.v (.int .i64 s1.2.2.1))), (7, (.v (.int .i64 s1.2.2.2)))], []⟩)) (step := (fun s : ByteArray × Int × Int × Int => spec_WeekText_loop1 _ s.1 s.2.1 s.2.2.1 s.2.2.2)) _ H (by kernel_rfl) (sub_auto ?_) ?_; rotate_left; (intro s1 r v hr H); rotate_right)
        | ((repeat (first | replace H := grd_k H | replace H := out_step H (by assumption))); refine again_step H (by assumption) (sub_auto ?_))
        | ((with_reducible refine fin_mk ?_); (repeat (first | replace H := grd_k H | replace H := out_step H (by assumption))); have H := Option.some.inj H; subst H))
def G20 : Env := G19.add 16 [] spec_WeekText.S
theorem G20_ok : EnvOk Tryd.prog G20 := G19_ok.add ent_16 fun ar h r h1 ⟨a0, y, hy, e1, e2, e3, e4⟩ => by
  subst e3 e4; exact (spec_WeekText.spec a0 y hy).le e1 e2
attribute [local irreducible] spec_WeekText

noncomputable def impl_AreDayRows_loop1 (a0 : (List DayRow)) (v5 : Int) : Option (Lp (Int) ((Unit) ⊕ (Unit))) :=
  (cond (decide (v5 < (a0.length : Int))) (grd (0 ≤ v5 ∧ v5 < (a0.length : Int)) ((impl_IsDayRow ((a0.getD v5.toNat d_DayRow).1, (a0.getD v5.toNat d_DayRow).2.1, (a0.getD v5.toNat d_DayRow).2.2.1, (a0.getD v5.toNat d_DayRow).2.2.2.1, (a0.getD v5.toNat d_DayRow).2.2.2.2.1, (a0.getD v5.toNat d_DayRow).2.2.2.2.2.1, ())).bind fun y6 => (cond (!y6) ((some (.out (Sum.inl ())))) (cond (decide ((0 : Int) < v5)) (grd (0 ≤ (w64 (v5 - (1 : Int))) ∧ (w64 (v5 - (1 : Int))) < (a0.length : Int)) (cond (decide (((a0.getD v5.toNat d_DayRow).1) ≤ ((a0.getD ((w64 (v5 - (1 : Int))).toNat) d_DayRow).1))) ((some (.out (Sum.inl ())))) (some (.go (w64 (v5 + (1 : Int))))))) (some (.go (w64 (v5 + (1 : Int))))))))) ((some (.out (Sum.inr ())))))
noncomputable def impl_AreDayRows (a0 : (List DayRow)) : Option (Bool) :=
  ((iter (fun s => impl_AreDayRows_loop1 a0 s) (0 : Int)).bind (Sum.elim (fun _ => (some false)) (fun _ => (some (decide ((a0.length : Int) ≤ (14 : Int)))))))
def impl_AreDayRows.res (_ : (List DayRow)) (y : Bool) : AV := (.bl y)
def impl_AreDayRows.out (_ : (List DayRow)) (_ : Bool) : List (Option LB) := []
def impl_AreDayRows.S (ar : List AV) (h : List (Option LB)) (r : AV) (h1 : List (Option LB)) : Prop := ∃ a0 y, impl_AreDayRows a0 = some y ∧ leL ar [(.tree ty_DayRow a0)] ∧ leH h [] ∧ r = impl_AreDayRows.res a0 y ∧ h1 = impl_AreDayRows.out a0 y
theorem impl_AreDayRows.call {ar : List AV} {h : List (Option LB)} {a0 : (List DayRow)} {y : Bool} (H : impl_AreDayRows a0 = some y) (h0 : leLk ar [(.tree ty_DayRow a0)] (leHk h [])) : impl_AreDayRows.S ar h (impl_AreDayRows.res a0 y) (impl_AreDayRows.out a0 y) := ⟨a0, y, H, (args_ok h0).1, (args_ok h0).2, rfl, rfl⟩
set_option maxHeartbeats 100000000 in
set_option maxRecDepth 100000 in
theorem impl_AreDayRows.spec (a0 : (List DayRow)) (y : Bool) (H : impl_AreDayRows a0 = some y) : Spec Tryd.prog 65 [(.tree ty_DayRow a0)] [] (impl_AreDayRows.res a0 y) (impl_AreDayRows.out a0 y) := by
  refine spec_intro (G20_ok.at tok []) (ct := [(5, some [0, 5, 6, 7, 16, 17, 18, 19, 20, 21, 22, 23, 24, 25, 26, 27, 28, 29])]) Tryd.func65 rfl (by kernel_rfl) (by kernel_rfl) rfl ?_
  repeat' first
    | ((with_reducible refine eqg ?_); exact rfl)
    | ((with_reducible refine KOb.mk ?_); kernel_rfl)
    | ((with_reducible intro h); (repeat (first | replace H := grd_k H | replace H := out_step H (by assumption))); first | replace H := cond_t h H | replace H := cond_f h H | exact absurd h (by decide) | skip)
    | ((with_reducible refine Ob.mk ?_); first | (with_reducible rfl) | (first | ((repeat (first | (with_reducible exact grd_p H) | (replace H := grd_k H) | (replace H := out_step H (by assumption)))); done) | rfl | ((repeat (first | exact grd_p H | replace H := grd_k H | replace H := out_step H (by assumption))); done) | ((repeat (first | exact grd_p H | (have hp := grd_p H; exact hp) | replace H := grd_k H | replace H := out_step H (by assumption) | (replace H := bind_some H; obtain ⟨_, _, H⟩ := H))); done) | (repeat (first | exact grd_p H | replace H := grd_k H | replace H := out_step H (by assumption)))))
    | (with_reducible exact True.intro)
    | constructor
    | ((conv => whnf); first
        | ((with_reducible refine Ob.mk ?_); first | (with_reducible rfl) | (first | ((repeat (first | (with_reducible exact grd_p H) | (replace H := grd_k H) | (replace H := out_step H (by assumption)))); done) | rfl | ((repeat (first | exact grd_p H | replace H := grd_k H | replace H := out_step H (by assumption))); done) | ((repeat (first | exact grd_p H | (have hp := grd_p H; exact hp) | replace H := grd_k H | replace H := out_step H (by assumption) | (replace H := bind_some H; obtain ⟨_, _, H⟩ := H))); done) | (repeat (first | exact grd_p H | replace H := grd_k H | replace H := out_step H (by assumption)))))
        | ((with_reducible refine CallW.mk ?_); (repeat (first | replace H := grd_k H | replace H := out_step H (by assumption))); replace H := bind_some H; obtain ⟨y, hy, H⟩ := H; first | ((with_reducible have hz : impl_IsDayRow _ = some y := hy); clear hz; refine Exists.intro _ (Exists.intro _ ⟨impl_IsDayRow.call hy ?_, rfl, rfl, ?_⟩)))
        | ((repeat (first | replace H := grd_k H | replace H := out_step H (by assumption))); refine loop_iter (G20_ok.at tok []) (ct := [(5, some [0, 5, 6, 7, 16, 17, 18, 19, 20, 21, 22, 23, 24, 25, 26, 27, 28, 29])]) (F := (fun s1 : Int => ⟨sl [(0, (.tree ty_DayRow a0)), (5, (.tree ty_DayRow a0)), (6, (.v (.int .i64 (a0.length : Int)))), (7, (.v (.int .i64 s1)))], []⟩)) (step := (fun s : Int => impl_AreDayRows_loop1 _ s)) _ H (by kernel_rfl) (sub_auto ?_) ?_; rotate_left; (intro s1 r v hr H); rotate_right)
        | ((repeat (first | replace H := grd_k H | replace H := out_step H (by assumption))); refine again_step H (by assumption) (sub_auto ?_))
        | ((with_reducible refine fin_mk ?_); (repeat (first | replace H := grd_k H | replace H := out_step H (by assumption))); have H := Option.some.inj H; subst H))
def G21 : Env := G20.add 65 [] impl_AreDayRows.S
theorem G21_ok : EnvOk Tryd.prog G21 := G20_ok.add ent_65 fun ar h r h1 ⟨a0, y, hy, e1, e2, e3, e4⟩ => by
  subst e3 e4; exact (impl_AreDayRows.spec a0 y hy).le e1 e2
attribute [local irreducible] impl_AreDayRows

noncomputable def impl_sums_loop1 (a0 : (List DayRow)) (v5 : Int) (v6 : Int) (v7 : Int) (v8 : Int) : Option (Lp (Int × Int × Int × Int) ((Int × Int × Int))) :=
  (cond (decide (v8 < (a0.length : Int))) (grd (0 ≤ v8 ∧ v8 < (a0.length : Int)) (some (.go ((w64 (v5 + ((a0.getD v8.toNat d_DayRow).2.1))), (w64 (v6 + ((a0.getD v8.toNat d_DayRow).2.2.1))), (w64 (v7 + ((a0.getD v8.toNat d_DayRow).2.2.2.1))), (w64 (v8 + (1 : Int))))))) ((some (.out (v5, v6, v7)))))
noncomputable def impl_sums (a0 : (List DayRow)) : Option (Int × Int × Int) :=
  ((iter (fun s => impl_sums_loop1 a0 s.1 s.2.1 s.2.2.1 s.2.2.2) ((0 : Int), (0 : Int), (0 : Int), (0 : Int))).bind (fun r9 => (some (r9.1, r9.2.1, r9.2.2))))
def impl_sums.res (_ : (List DayRow)) (y : Int × Int × Int) : AV := (.tup [(.v (.int .i64 y.1)), (.v (.int .i64 y.2.1)), (.v (.int .i64 y.2.2))])
def impl_sums.out (_ : (List DayRow)) (_ : Int × Int × Int) : List (Option LB) := []
def impl_sums.S (ar : List AV) (h : List (Option LB)) (r : AV) (h1 : List (Option LB)) : Prop := ∃ a0 y, impl_sums a0 = some y ∧ leL ar [(.tree ty_DayRow a0)] ∧ leH h [] ∧ r = impl_sums.res a0 y ∧ h1 = impl_sums.out a0 y
theorem impl_sums.call {ar : List AV} {h : List (Option LB)} {a0 : (List DayRow)} {y : Int × Int × Int} (H : impl_sums a0 = some y) (h0 : leLk ar [(.tree ty_DayRow a0)] (leHk h [])) : impl_sums.S ar h (impl_sums.res a0 y) (impl_sums.out a0 y) := ⟨a0, y, H, (args_ok h0).1, (args_ok h0).2, rfl, rfl⟩
set_option maxHeartbeats 100000000 in
set_option maxRecDepth 100000 in
theorem impl_sums.spec (a0 : (List DayRow)) (y : Int × Int × Int) (H : impl_sums a0 = some y) : Spec Tryd.prog 66 [(.tree ty_DayRow a0)] [] (impl_sums.res a0 y) (impl_sums.out a0 y) := by
  refine spec_intro (G21_ok.at tok []) (ct := [(6, some [5, 6, 7, 10, 11, 12])]) Tryd.func66 rfl (by kernel_rfl) (by kernel_rfl) rfl ?_
  repeat' first
    | ((with_reducible refine eqg ?_); exact rfl)
    | ((with_reducible refine KOb.mk ?_); kernel_rfl)
    | ((with_reducible intro h); (repeat (first | replace H := grd_k H | replace H := out_step H (by assumption))); first | replace H := cond_t h H | replace H := cond_f h H | exact absurd h (by decide) | skip)
    | ((with_reducible refine Ob.mk ?_); first | (with_reducible rfl) | (first | ((repeat (first | (with_reducible exact grd_p H) | (replace H := grd_k H) | (replace H := out_step H (by assumption)))); done) | rfl | ((repeat (first | exact grd_p H | replace H := grd_k H | replace H := out_step H (by assumption))); done) | ((repeat (first | exact grd_p H | (have hp := grd_p H; exact hp) | replace H := grd_k H | replace H := out_step H (by assumption) | (replace H := bind_some H; obtain ⟨_, _, H⟩ := H))); done) | (repeat (first | exact grd_p H | replace H := grd_k H | replace H := out_step H (by assumption)))))
    | (with_reducible exact True.intro)
    | constructor
    | ((conv => whnf); first
        | ((with_reducible refine Ob.mk ?_); first | (with_reducible rfl) | (first | ((repeat (first | (with_reducible exact grd_p H) | (replace H := grd_k H) | (replace H := out_step H (by assumption)))); done) | rfl | ((repeat (first | exact grd_p H | replace H := grd_k H | replace H := out_step H (by assumption))); done) | ((repeat (first | exact grd_p H | (have hp := grd_p H; exact hp) | replace H := grd_k H | replace H := out_step H (by assumption) | (replace H := bind_some H; obtain ⟨_, _, H⟩ := H))); done) | (repeat (first | exact grd_p H | replace H := grd_k H | replace H := out_step H (by assumption)))))
        | ((repeat (first | replace H := grd_k H | replace H := out_step H (by assumption))); refine loop_iter (G21_ok.at tok []) (ct := [(6, some [5, 6, 7, 10, 11, 12])]) (F := (fun s1 : Int × Int × Int × Int => ⟨sl [(5, (.v (.int .i64 s1.1))), (6, (.v (.int .i64 s1.2.1))), (7, (.v (.int .i64 s1.2.2.1))), (10, (.tree ty_DayRow a0)), (11, (.v (.int .i64 (a0.length : Int)))), (12, (.v (.int .i64 s1.2.2.2)))], []⟩)) (step := (fun s : Int × Int × Int × Int => impl_sums_loop1 _ s.1 s.2.1 s.2.2.1 s.2.2.2)) _ H (by kernel_rfl) (sub_auto ?_) ?_; rotate_left; (intro s1 r v hr H); rotate_right)
        | ((repeat (first | replace H := grd_k H | replace H := out_step H (by assumption))); refine again_step H (by assumption) (sub_auto ?_))
        | ((with_reducible refine fin_mk ?_); (repeat (first | replace H := grd_k H | replace H := out_step H (by assumption))); have H := Option.some.inj H; subst H))
def G22 : Env := G21.add 66 [] impl_sums.S
theorem G22_ok : EnvOk Tryd.prog G22 := G21_ok.add ent_66 fun ar h r h1 ⟨a0, y, hy, e1, e2, e3, e4⟩ => by
  subst e3 e4; exact (impl_sums.spec a0 y hy).le e1 e2
attribute [local irreducible] impl_sums

noncomputable def impl_WeekText_loop1 (a0 : (List DayRow)) (v6 : ByteArray) (v7 : Int) : Option (Lp (ByteArray × Int) ((ByteArray))) :=
  (cond (decide (v7 < (a0.length : Int))) (grd (0 ≤ v7 ∧ v7 < (a0.length : Int)) ((impl_dayLine ((a0.getD v7.toNat d_DayRow).1, (a0.getD v7.toNat d_DayRow).2.1, (a0.getD v7.toNat d_DayRow).2.2.1, (a0.getD v7.toNat d_DayRow).2.2.2.1, (a0.getD v7.toNat d_DayRow).2.2.2.2.1, (a0.getD v7.toNat d_DayRow).2.2.2.2.2.1, ())).bind fun y8 => (grd (y8.size + (ByteArray.mk #[10]).size ≤ 9223372036854775807) (grd (v6.size + (y8 ++ (ByteArray.mk #[10])).size ≤ 9223372036854775807) (some (.go ((v6 ++ (y8 ++ (ByteArray.mk #[10]))), (w64 (v7 + (1 : Int)))))))))) ((some (.out v6))))
noncomputable def impl_WeekText (a0 : (List DayRow)) : Option (ByteArray × Bool) :=
  ((impl_AreDayRows a0).bind fun y1 => (cond (!y1) ((some ((ByteArray.mk #[]), false))) ((iter (fun s => impl_WeekText_loop1 a0 s.1 s.2) ((ByteArray.mk #[]), (0 : Int))).bind (fun r9 => ((impl_sums a0).bind fun y10 => (grd (r9.size + (ByteArray.mk #[97, 108, 108, 58, 32]).size ≤ 9223372036854775807) ((strconv_Itoa y10.1).bind fun y11 => (grd ((r9 ++ (ByteArray.mk #[97, 108, 108, 58, 32])).size + y11.size ≤ 9223372036854775807) (grd (((r9 ++ (ByteArray.mk #[97, 108, 108, 58, 32])) ++ y11).size + (ByteArray.mk #[32, 117, 112, 44, 32]).size ≤ 9223372036854775807) ((strconv_Itoa y10.2.1).bind fun y12 => (grd ((((r9 ++ (ByteArray.mk #[97, 108, 108, 58, 32])) ++ y11) ++ (ByteArray.mk #[32, 117, 112, 44, 32])).size + y12.size ≤ 9223372036854775807) (grd (((((r9 ++ (ByteArray.mk #[97, 108, 108, 58, 32])) ++ y11) ++ (ByteArray.mk #[32, 117, 112, 44, 32])) ++ y12).size + (ByteArray.mk #[32, 100, 111, 119, 110]).size ≤ 9223372036854775807) ((some ((((((r9 ++ (ByteArray.mk #[97, 108, 108, 58, 32])) ++ y11) ++ (ByteArray.mk #[32, 117, 112, 44, 32])) ++ y12) ++ (ByteArray.mk #[32, 100, 111, 119, 110])), true)))))))))))))))
def impl_WeekText.res (_ : (List DayRow)) (y : ByteArray × Bool) : AV := (.tup [(.v (.string y.1)), (.bl y.2)])
def impl_WeekText.out (_ : (List DayRow)) (_ : ByteArray × Bool) : List (Option LB) := []
def impl_WeekText.S (ar : List AV) (h : List (Option LB)) (r : AV) (h1 : List (Option LB)) : Prop := ∃ a0 y, impl_WeekText a0 = some y ∧ leL ar [(.tree ty_DayRow a0)] ∧ leH h [] ∧ r = impl_WeekText.res a0 y ∧ h1 = impl_WeekText.out a0 y
theorem impl_WeekText.call {ar : List AV} {h : List (Option LB)} {a0 : (List DayRow)} {y : ByteArray × Bool} (H : impl_WeekText a0 = some y) (h0 : leLk ar [(.tree ty_DayRow a0)] (leHk h [])) : impl_WeekText.S ar h (impl_WeekText.res a0 y) (impl_WeekText.out a0 y) := ⟨a0, y, H, (args_ok h0).1, (args_ok h0).2, rfl, rfl⟩
set_option maxHeartbeats 100000000 in
set_option maxRecDepth 100000 in
theorem impl_WeekText.spec (a0 : (List DayRow)) (y : ByteArray × Bool) (H : impl_WeekText a0 = some y) : Spec Tryd.prog 18 [(.tree ty_DayRow a0)] [] (impl_WeekText.res a0 y) (impl_WeekText.out a0 y) := by
  refine spec_intro (G22_ok.at tok []) (ct := [(10, some [4, 7, 8])]) Tryd.func18 rfl (by kernel_rfl) (by kernel_rfl) rfl ?_
  repeat' first
    | ((with_reducible refine eqg ?_); exact rfl)
    | ((with_reducible refine KOb.mk ?_); kernel_rfl)
    | ((with_reducible intro h); (repeat (first | replace H := grd_k H | replace H := out_step H (by assumption))); first | replace H := cond_t h H | replace H := cond_f h H | exact absurd h (by decide) | skip)
    | ((with_reducible refine Ob.mk ?_); first | (with_reducible rfl) | (first | ((repeat (first | (with_reducible exact grd_p H) | (replace H := grd_k H) | (replace H := out_step H (by assumption)))); done) | rfl | ((repeat (first | exact grd_p H | replace H := grd_k H | replace H := out_step H (by assumption))); done) | ((repeat (first | exact grd_p H | (have hp := grd_p H; exact hp) | replace H := grd_k H | replace H := out_step H (by assumption) | (replace H := bind_some H; obtain ⟨_, _, H⟩ := H))); done) | (repeat (first | exact grd_p H | replace H := grd_k H | replace H := out_step H (by assumption)))))
    | (with_reducible exact True.intro)
    | constructor
    | ((conv => whnf); first
        | ((with_reducible refine Ob.mk ?_); first | (with_reducible rfl) | (first | ((repeat (first | (with_reducible exact grd_p H) | (replace H := grd_k H) | (replace H := out_step H (by assumption)))); done) | rfl | ((repeat (first | exact grd_p H | replace H := grd_k H | replace H := out_step H (by assumption))); done) | ((repeat (first | exact grd_p H | (have hp := grd_p H; exact hp) | replace H := grd_k H | replace H := out_step H (by assumption) | (replace H := bind_some H; obtain ⟨_, _, H⟩ := H))); done) | (repeat (first | exact grd_p H | replace H := grd_k H | replace H := out_step H (by assumption)))))
        | ((with_reducible refine CallW.mk ?_); (repeat (first | replace H := grd_k H | replace H := out_step H (by assumption))); replace H := bind_some H; obtain ⟨y, hy, H⟩ := H; first | ((with_reducible have hz : impl_AreDayRows _ = some y := hy); clear hz; refine Exists.intro _ (Exists.intro _ ⟨impl_AreDayRows.call hy ?_, rfl, rfl, ?_⟩)) | ((with_reducible have hz : impl_dayLine _ = some y := hy); clear hz; refine Exists.intro _ (Exists.intro _ ⟨impl_dayLine.call hy ?_, rfl, rfl, ?_⟩)) | ((with_reducible have hz : impl_sums _ = some y := hy); clear hz; refine Exists.intro _ (Exists.intro _ ⟨impl_sums.call hy ?_, rfl, rfl, ?_⟩)) | ((with_reducible have hz : strconv_Itoa _ = some y := hy); clear hz; refine Exists.intro _ (Exists.intro _ ⟨strconv_Itoa.call hy ?_, rfl, rfl, ?_⟩)))
        | ((repeat (first | replace H := grd_k H | replace H := out_step H (by assumption))); refine loop_iter (G22_ok.at tok []) (ct := [(10, some [4, 7, 8])]) (F := (fun s1 : ByteArray × Int => ⟨sl [(0, (.tree ty_DayRow a0)), (4, (.v (.string s1.1))), (13, (.tree ty_DayRow a0)), (14, (.v (.int .i64 (a0.length : Int)))), (15, (.v (.int .i64 s1.2)))], []⟩)) (step := (fun s : ByteArray × Int => impl_WeekText_loop1 _ s.1 s.2)) _ H (by kernel_rfl) (sub_auto ?_) ?_; rotate_left; (intro s1 r v hr H); rotate_right)
        | ((repeat (first | replace H := grd_k H | replace H := out_step H (by assumption))); refine again_step H (by assumption) (sub_auto ?_))
        | ((with_reducible refine fin_mk ?_); (repeat (first | replace H := grd_k H | replace H := out_step H (by assumption))); have H := Option.some.inj H; subst H))
def G23 : Env := G22.add 18 [] impl_WeekText.S
theorem G23_ok : EnvOk Tryd.prog G23 := G22_ok.add ent_18 fun ar h r h1 ⟨a0, y, hy, e1, e2, e3, e4⟩ => by
  subst e3 e4; exact (impl_WeekText.spec a0 y hy).le e1 e2
attribute [local irreducible] impl_WeekText

noncomputable def laws_eqDayRow (a0 : DayRow) (a1 : DayRow) : Option (Bool) :=
  (cond (!decide (a0.1 = a1.1)) ((some false)) (cond (!decide (a0.2.1 = a1.2.1)) ((some false)) (cond (!decide (a0.2.2.1 = a1.2.2.1)) ((some false)) (cond (!decide (a0.2.2.2.1 = a1.2.2.2.1)) ((some false)) (cond (!decide (a0.2.2.2.2.1 = a1.2.2.2.2.1)) ((some false)) (cond (!decide (a0.2.2.2.2.2.1 = a1.2.2.2.2.2.1)) ((some false)) ((some true))))))))
def laws_eqDayRow.res (_ : DayRow) (_ : DayRow) (y : Bool) : AV := (.bl y)
def laws_eqDayRow.out (_ : DayRow) (_ : DayRow) (_ : Bool) : List (Option LB) := []
def laws_eqDayRow.S (ar : List AV) (h : List (Option LB)) (r : AV) (h1 : List (Option LB)) : Prop := ∃ a0 a1 y, laws_eqDayRow a0 a1 = some y ∧ leL ar [(.agg [(.v (.int .i64 a0.1)), (.v (.int .i64 a0.2.1)), (.v (.int .i64 a0.2.2.1)), (.v (.int .i64 a0.2.2.2.1)), (.v (.int .i64 a0.2.2.2.2.1)), (.v (.string a0.2.2.2.2.2.1))]), (.agg [(.v (.int .i64 a1.1)), (.v (.int .i64 a1.2.1)), (.v (.int .i64 a1.2.2.1)), (.v (.int .i64 a1.2.2.2.1)), (.v (.int .i64 a1.2.2.2.2.1)), (.v (.string a1.2.2.2.2.2.1))])] ∧ leH h [] ∧ r = laws_eqDayRow.res a0 a1 y ∧ h1 = laws_eqDayRow.out a0 a1 y
theorem laws_eqDayRow.call {ar : List AV} {h : List (Option LB)} {a0 : DayRow} {a1 : DayRow} {y : Bool} (H : laws_eqDayRow a0 a1 = some y) (h0 : leLk ar [(.agg [(.v (.int .i64 a0.1)), (.v (.int .i64 a0.2.1)), (.v (.int .i64 a0.2.2.1)), (.v (.int .i64 a0.2.2.2.1)), (.v (.int .i64 a0.2.2.2.2.1)), (.v (.string a0.2.2.2.2.2.1))]), (.agg [(.v (.int .i64 a1.1)), (.v (.int .i64 a1.2.1)), (.v (.int .i64 a1.2.2.1)), (.v (.int .i64 a1.2.2.2.1)), (.v (.int .i64 a1.2.2.2.2.1)), (.v (.string a1.2.2.2.2.2.1))])] (leHk h [])) : laws_eqDayRow.S ar h (laws_eqDayRow.res a0 a1 y) (laws_eqDayRow.out a0 a1 y) := ⟨a0, a1, y, H, (args_ok h0).1, (args_ok h0).2, rfl, rfl⟩
set_option maxHeartbeats 100000000 in
set_option maxRecDepth 100000 in
theorem laws_eqDayRow.spec (a0 : DayRow) (a1 : DayRow) (y : Bool) (H : laws_eqDayRow a0 a1 = some y) : Spec Tryd.prog 68 [(.agg [(.v (.int .i64 a0.1)), (.v (.int .i64 a0.2.1)), (.v (.int .i64 a0.2.2.1)), (.v (.int .i64 a0.2.2.2.1)), (.v (.int .i64 a0.2.2.2.2.1)), (.v (.string a0.2.2.2.2.2.1))]), (.agg [(.v (.int .i64 a1.1)), (.v (.int .i64 a1.2.1)), (.v (.int .i64 a1.2.2.1)), (.v (.int .i64 a1.2.2.2.1)), (.v (.int .i64 a1.2.2.2.2.1)), (.v (.string a1.2.2.2.2.2.1))])] [] (laws_eqDayRow.res a0 a1 y) (laws_eqDayRow.out a0 a1 y) := by
  refine spec_intro (G23_ok.at tok []) (ct := [(4, some [2, 3, 14]), (10, some [2, 3, 29])]) Tryd.func68 rfl (by kernel_rfl) (by kernel_rfl) rfl ?_
  repeat' first
    | ((with_reducible refine eqg ?_); exact rfl)
    | ((with_reducible refine KOb.mk ?_); kernel_rfl)
    | ((with_reducible intro h); (repeat (first | replace H := grd_k H | replace H := out_step H (by assumption))); first | replace H := cond_t h H | replace H := cond_f h H | exact absurd h (by decide) | skip)
    | ((with_reducible refine Ob.mk ?_); first | (with_reducible rfl) | (first | ((repeat (first | (with_reducible exact grd_p H) | (replace H := grd_k H) | (replace H := out_step H (by assumption)))); done) | rfl | ((repeat (first | exact grd_p H | replace H := grd_k H | replace H := out_step H (by assumption))); done) | ((repeat (first | exact grd_p H | (have hp := grd_p H; exact hp) | replace H := grd_k H | replace H := out_step H (by assumption) | (replace H := bind_some H; obtain ⟨_, _, H⟩ := H))); done) | (repeat (first | exact grd_p H | replace H := grd_k H | replace H := out_step H (by assumption)))))
    | (with_reducible exact True.intro)
    | constructor
    | ((conv => whnf); first
        | ((with_reducible refine Ob.mk ?_); first | (with_reducible rfl) | (first | ((repeat (first | (with_reducible exact grd_p H) | (replace H := grd_k H) | (replace H := out_step H (by assumption)))); done) | rfl | ((repeat (first | exact grd_p H | replace H := grd_k H | replace H := out_step H (by assumption))); done) | ((repeat (first | exact grd_p H | (have hp := grd_p H; exact hp) | replace H := grd_k H | replace H := out_step H (by assumption) | (replace H := bind_some H; obtain ⟨_, _, H⟩ := H))); done) | (repeat (first | exact grd_p H | replace H := grd_k H | replace H := out_step H (by assumption)))))
        | ((with_reducible refine fin_mk ?_); (repeat (first | replace H := grd_k H | replace H := out_step H (by assumption))); have H := Option.some.inj H; subst H))
def G24 : Env := G23.add 68 [] laws_eqDayRow.S
theorem G24_ok : EnvOk Tryd.prog G24 := G23_ok.add ent_68 fun ar h r h1 ⟨a0, a1, y, hy, e1, e2, e3, e4⟩ => by
  subst e3 e4; exact (laws_eqDayRow.spec a0 a1 y hy).le e1 e2
attribute [local irreducible] laws_eqDayRow

end Go.Proofs.YteckiilljhdkpaaDoor
