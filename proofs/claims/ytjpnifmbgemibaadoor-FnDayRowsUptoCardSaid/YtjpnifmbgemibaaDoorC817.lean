/-
  Contracts, printed by a program.
-/
import Derived.Test.YtjpnifmbgemibaaDoorC816
namespace Go.Proofs.YtjpnifmbgemibaaDoor
open Go.RowKit
attribute [local irreducible] Ob loopwp Sub Spec Fin Again CallW CutC KOb iter joinx outm

attribute [local irreducible] laws_rBig spec_l1Cur_next spec_l1Cur_pick spec_l1Cur_among spec_l1Cur_one spec_l1Cur_of spec_l1Cur_dayRow spec_DrawIsDayRow spec_DrawDayLine impl_within impl_isDay impl_isWord impl_IsDayRow strconv_Itoa impl_dayLine impl_DayLine spec_l1In spec_l2Word spec_l26One spec_l1Num spec_l1Num_f spec_l26Line spec_DayLine strings_Cut internal_stringslite_HasPrefix internal_stringslite_TrimPrefix strings_TrimPrefix impl_ParseInt strings_Split internal_stringslite_HasSuffix internal_stringslite_TrimSuffix strings_TrimSuffix impl_ParseDayLine spec_l1Cur_spoilt spec_DrawParseDayLine spec_l1Split spec_l1Read spec_ParseDayLine spec_l1Cur_dayRows spec_DrawAreDayRows spec_DrawWeekText impl_AreDayRows impl_sums

noncomputable def impl_WeekText_loop1 (a0 : (List DayRow)) (v6 : ByteArray) (v7 : Int) : Option (Lp (ByteArray × Int) ((ByteArray))) :=
  (cond (decide (v7 < (a0.length : Int))) (grd (0 ≤ v7 ∧ v7 < (a0.length : Int)) ((impl_dayLine ((a0.getD v7.toNat d_DayRow).1, (a0.getD v7.toNat d_DayRow).2.1, (a0.getD v7.toNat d_DayRow).2.2.1, (a0.getD v7.toNat d_DayRow).2.2.2.1, (a0.getD v7.toNat d_DayRow).2.2.2.2.1, (a0.getD v7.toNat d_DayRow).2.2.2.2.2.1, ())).bind fun y8 => (grd (y8.size + (ByteArray.mk #[10]).size ≤ 9223372036854775807) (grd (v6.size + (y8 ++ (ByteArray.mk #[10])).size ≤ 9223372036854775807) (some (.go ((v6 ++ (y8 ++ (ByteArray.mk #[10]))), (w64 (v7 + (1 : Int)))))))))) ((some (.out v6))))
noncomputable def impl_WeekText (a0 : (List DayRow)) : Option (ByteArray × Bool) :=
  ((impl_AreDayRows a0).bind fun y1 => (cond (!y1) ((some ((ByteArray.mk #[]), false))) ((iter (fun s => impl_WeekText_loop1 a0 s.1 s.2) ((ByteArray.mk #[]), (0 : Int))).bind (fun r9 => ((impl_sums a0).bind fun y10 => (grd (r9.size + (ByteArray.mk #[97, 108, 108, 58, 32]).size ≤ 9223372036854775807) ((strconv_Itoa y10.1).bind fun y11 => (grd ((r9 ++ (ByteArray.mk #[97, 108, 108, 58, 32])).size + y11.size ≤ 9223372036854775807) (grd (((r9 ++ (ByteArray.mk #[97, 108, 108, 58, 32])) ++ y11).size + (ByteArray.mk #[32, 117, 112, 44, 32]).size ≤ 9223372036854775807) ((strconv_Itoa y10.2.1).bind fun y12 => (grd ((((r9 ++ (ByteArray.mk #[97, 108, 108, 58, 32])) ++ y11) ++ (ByteArray.mk #[32, 117, 112, 44, 32])).size + y12.size ≤ 9223372036854775807) (grd (((((r9 ++ (ByteArray.mk #[97, 108, 108, 58, 32])) ++ y11) ++ (ByteArray.mk #[32, 117, 112, 44, 32])) ++ y12).size + (ByteArray.mk #[32, 100, 111, 119, 110]).size ≤ 9223372036854775807) ((some ((((((r9 ++ (ByteArray.mk #[97, 108, 108, 58, 32])) ++ y11) ++ (ByteArray.mk #[32, 117, 112, 44, 32])) ++ y12) ++ (ByteArray.mk #[32, 100, 111, 119, 110])), true)))))))))))))))
def impl_WeekText.res (_ : (List DayRow)) (y : ByteArray × Bool) : AV := (.tup [(.v (.string y.1)), (.bl y.2)])
def impl_WeekText.out (_ : (List DayRow)) (_ : ByteArray × Bool) : List (Option LB) := []
def impl_WeekText.S (ar : List AV) (h : List (Option LB)) (r : AV) (h1 : List (Option LB)) : Prop := ∃ a0 y, impl_WeekText a0 = some y ∧ leL ar [(.tree ty_DayRow a0)] ∧ leH h [] ∧ r = impl_WeekText.res a0 y ∧ h1 = impl_WeekText.out a0 y
theorem impl_WeekText.call {ar : List AV} {h : List (Option LB)} {a0 : (List DayRow)} {y : ByteArray × Bool} (H : impl_WeekText a0 = some y) (h0 : leLk ar [(.tree ty_DayRow a0)] (leHk h [])) : impl_WeekText.S ar h (impl_WeekText.res a0 y) (impl_WeekText.out a0 y) := ⟨a0, y, H, (args_ok h0).1, (args_ok h0).2, rfl, rfl⟩
set_option maxHeartbeats 100000000 in
set_option maxRecDepth 100000 in
theorem impl_WeekText.spec (a0 : (List DayRow)) (y : ByteArray × Bool) (H : impl_WeekText a0 = some y) : Spec Tryd.prog 13 [(.tree ty_DayRow a0)] [] (impl_WeekText.res a0 y) (impl_WeekText.out a0 y) := by
  refine spec_intro (G42_ok.at tok []) (ct := [(10, some [4, 7, 8])]) Tryd.func13 rfl (by kernel_rfl) (by kernel_rfl) rfl ?_
  repeat' first
    | ((with_reducible refine eqg ?_); exact rfl)
    | ((with_reducible refine KOb.mk ?_); kernel_rfl)
    | ((with_reducible intro h); (repeat (first | replace H := grd_k H | replace H := out_step H (by assumption))); first | replace H := cond_t h H | replace H := cond_f h H | exact absurd h (by decide) | skip)
    | ((with_reducible refine Ob.mk ?_); first | (with_reducible rfl) | (first | ((repeat (first | (with_reducible exact grd_p H) | (replace H := grd_k H) | (replace H := out_step H (by assumption)))); done) | rfl | ((repeat (first | exact grd_p H | replace H := grd_k H | replace H := out_step H (by assumption))); done) | ((repeat (first | exact grd_p H | (have hp := grd_p H; exact hp) | replace H := grd_k H | replace H := out_step H (by assumption) | (replace H := bind_some H; obtain ⟨_, _, H⟩ := H))); done) | (repeat (first | exact grd_p H | replace H := grd_k H | replace H := out_step H (by assumption)))))
    | (with_reducible exact True.intro)
    | ((conv => whnf); first
        | (with_reducible refine And.intro ?_ ?_)
        | (with_reducible exact True.intro)
        | ((with_reducible refine Ob.mk ?_); first | (with_reducible rfl) | (first | ((repeat (first | (with_reducible exact grd_p H) | (replace H := grd_k H) | (replace H := out_step H (by assumption)))); done) | rfl | ((repeat (first | exact grd_p H | replace H := grd_k H | replace H := out_step H (by assumption))); done) | ((repeat (first | exact grd_p H | (have hp := grd_p H; exact hp) | replace H := grd_k H | replace H := out_step H (by assumption) | (replace H := bind_some H; obtain ⟨_, _, H⟩ := H))); done) | (repeat (first | exact grd_p H | replace H := grd_k H | replace H := out_step H (by assumption)))))
        | ((with_reducible refine CallW.mk ?_); (repeat (first | replace H := grd_k H | replace H := out_step H (by assumption))); replace H := bind_some H; obtain ⟨y, hy, H⟩ := H; first | ((with_reducible have hz : impl_AreDayRows _ = some y := hy); clear hz; refine Exists.intro _ (Exists.intro _ ⟨impl_AreDayRows.call hy ?_, rfl, rfl, ?_⟩)) | ((with_reducible have hz : impl_dayLine _ = some y := hy); clear hz; refine Exists.intro _ (Exists.intro _ ⟨impl_dayLine.call hy ?_, rfl, rfl, ?_⟩)) | ((with_reducible have hz : impl_sums _ = some y := hy); clear hz; refine Exists.intro _ (Exists.intro _ ⟨impl_sums.call hy ?_, rfl, rfl, ?_⟩)) | ((with_reducible have hz : strconv_Itoa _ = some y := hy); clear hz; refine Exists.intro _ (Exists.intro _ ⟨strconv_Itoa.call hy ?_, rfl, rfl, ?_⟩)))
        | ((repeat (first | replace H := grd_k H | replace H := out_step H (by assumption))); refine loop_iter (G42_ok.at tok []) (ct := [(10, some [4, 7, 8])]) (F := (fun s1 : ByteArray × Int => ⟨sl [(0, (.tree ty_DayRow a0)), (4, (.v (.string s1.1))), (13, (.tree ty_DayRow a0)), (14, (.v (.int .i64 (a0.length : Int)))), (15, (.v (.int .i64 s1.2)))], []⟩)) (step := (fun s : ByteArray × Int => impl_WeekText_loop1 _ s.1 s.2)) _ H (by kernel_rfl) (sub_auto ?_) ?_; rotate_left; (intro s1 r v hr H); rotate_right)
        | ((repeat (first | replace H := grd_k H | replace H := out_step H (by assumption))); refine again_step H (by assumption) (sub_auto ?_))
        | ((with_reducible refine fin_mk ?_); (repeat (first | replace H := grd_k H | replace H := out_step H (by assumption))); have H := Option.some.inj H; subst H))
    | constructor
def G43 : Env := G42.add 13 [] impl_WeekText.S
theorem G43_ok : EnvOk Tryd.prog G43 := G42_ok.add ent_13 fun ar h r h1 ⟨a0, y, hy, e1, e2, e3, e4⟩ => by
  subst e3 e4; exact (impl_WeekText.spec a0 y hy).le e1 e2
attribute [local irreducible] impl_WeekText

noncomputable def spec_l26Good_loop1 (a0 : (List DayRow)) (v5 : Int) : Option (Lp (Int) ((Unit) ⊕ (Unit))) :=
  (cond (decide (v5 < (a0.length : Int))) (grd (0 ≤ v5 ∧ v5 < (a0.length : Int)) ((spec_l26One ((a0.getD v5.toNat d_DayRow).1, (a0.getD v5.toNat d_DayRow).2.1, (a0.getD v5.toNat d_DayRow).2.2.1, (a0.getD v5.toNat d_DayRow).2.2.2.1, (a0.getD v5.toNat d_DayRow).2.2.2.2.1, (a0.getD v5.toNat d_DayRow).2.2.2.2.2.1, ())).bind fun y6 => (cond (!y6) ((some (.out (Sum.inl ())))) (cond (decide ((0 : Int) < v5)) (grd (0 ≤ (w64 (v5 - (1 : Int))) ∧ (w64 (v5 - (1 : Int))) < (a0.length : Int)) (grd (0 ≤ v5 ∧ v5 < (a0.length : Int)) (cond (decide (((a0.getD v5.toNat d_DayRow).1) ≤ ((a0.getD ((w64 (v5 - (1 : Int))).toNat) d_DayRow).1))) ((some (.out (Sum.inl ())))) (some (.go (w64 (v5 + (1 : Int)))))))) (some (.go (w64 (v5 + (1 : Int))))))))) ((some (.out (Sum.inr ())))))
noncomputable def spec_l26Good (a0 : (List DayRow)) : Option (Bool) :=
  ((iter (fun s => spec_l26Good_loop1 a0 s) (0 : Int)).bind (Sum.elim (fun _ => (some false)) (fun _ => (some (decide ((a0.length : Int) ≤ (14 : Int)))))))
def spec_l26Good.res (_ : (List DayRow)) (y : Bool) : AV := (.bl y)
def spec_l26Good.out (_ : (List DayRow)) (_ : Bool) : List (Option LB) := []
def spec_l26Good.S (ar : List AV) (h : List (Option LB)) (r : AV) (h1 : List (Option LB)) : Prop := ∃ a0 y, spec_l26Good a0 = some y ∧ leL ar [(.tree ty_DayRow a0)] ∧ leH h [] ∧ r = spec_l26Good.res a0 y ∧ h1 = spec_l26Good.out a0 y
theorem spec_l26Good.call {ar : List AV} {h : List (Option LB)} {a0 : (List DayRow)} {y : Bool} (H : spec_l26Good a0 = some y) (h0 : leLk ar [(.tree ty_DayRow a0)] (leHk h [])) : spec_l26Good.S ar h (spec_l26Good.res a0 y) (spec_l26Good.out a0 y) := ⟨a0, y, H, (args_ok h0).1, (args_ok h0).2, rfl, rfl⟩
set_option maxHeartbeats 100000000 in
set_option maxRecDepth 100000 in
theorem spec_l26Good.spec (a0 : (List DayRow)) (y : Bool) (H : spec_l26Good a0 = some y) : Spec Tryd.prog 41 [(.tree ty_DayRow a0)] [] (spec_l26Good.res a0 y) (spec_l26Good.out a0 y) := by
  refine spec_intro (G43_ok.at tok []) (ct := [(5, some [0, 3, 17, 18, 19, 20, 21, 22, 23, 24, 25, 26, 27, 28, 29, 30, 31, 32, 33])]) Tryd.func41 rfl (by kernel_rfl) (by kernel_rfl) rfl ?_
  repeat' first
    | ((with_reducible refine eqg ?_); exact rfl)
    | ((with_reducible refine KOb.mk ?_); kernel_rfl)
    | ((with_reducible intro h); (repeat (first | replace H := grd_k H | replace H := out_step H (by assumption))); first | replace H := cond_t h H | replace H := cond_f h H | exact absurd h (by decide) | skip)
    | ((with_reducible refine Ob.mk ?_); first | (with_reducible rfl) | (first | ((repeat (first | (with_reducible exact grd_p H) | (replace H := grd_k H) | (replace H := out_step H (by assumption)))); done) | rfl | ((repeat (first | exact grd_p H | replace H := grd_k H | replace H := out_step H (by assumption))); done) | ((repeat (first | exact grd_p H | (have hp := grd_p H; exact hp) | replace H := grd_k H | replace H := out_step H (by assumption) | (replace H := bind_some H; obtain ⟨_, _, H⟩ := H))); done) | (repeat (first | exact grd_p H | replace H := grd_k H | replace H := out_step H (by assumption)))))
    | (with_reducible exact True.intro)
    | ((conv => whnf); first
        | (with_reducible refine And.intro ?_ ?_)
        | (with_reducible exact True.intro)
        | ((with_reducible refine Ob.mk ?_); first | (with_reducible rfl) | (first | ((repeat (first | (with_reducible exact grd_p H) | (replace H := grd_k H) | (replace H := out_step H (by assumption)))); done) | rfl | ((repeat (first | exact grd_p H | replace H := grd_k H | replace H := out_step H (by assumption))); done) | ((repeat (first | exact grd_p H | (have hp := grd_p H; exact hp) | replace H := grd_k H | replace H := out_step H (by assumption) | (replace H := bind_some H; obtain ⟨_, _, H⟩ := H))); done) | (repeat (first | exact grd_p H | replace H := grd_k H | replace H := out_step H (by assumption)))))
        | ((with_reducible refine CallW.mk ?_); (repeat (first | replace H := grd_k H | replace H := out_step H (by assumption))); replace H := bind_some H; obtain ⟨y, hy, H⟩ := H; first | ((with_reducible have hz : spec_l26One _ = some y := hy); clear hz; refine Exists.intro _ (Exists.intro _ ⟨spec_l26One.call hy ?_, rfl, rfl, ?_⟩)))
        | ((repeat (first | replace H := grd_k H | replace H := out_step H (by assumption))); refine loop_iter (G43_ok.at tok []) (ct := [(5, some [0, 3, 17, 18, 19, 20, 21, 22, 23, 24, 25, 26, 27, 28, 29, 30, 31, 32, 33])]) (F := (fun s1 : Int => ⟨sl [(0, (.tree ty_DayRow a0)), (3, (.v (.int .i64 s1)))], []⟩)) (step := (fun s : Int => spec_l26Good_loop1 _ s)) _ H (by kernel_rfl) (sub_auto ?_) ?_; rotate_left; (intro s1 r v hr H); rotate_right)
        | ((repeat (first | replace H := grd_k H | replace H := out_step H (by assumption))); refine again_step H (by assumption) (sub_auto ?_))
        | ((with_reducible refine fin_mk ?_); (repeat (first | replace H := grd_k H | replace H := out_step H (by assumption))); have H := Option.some.inj H; subst H))
    | constructor
def G44 : Env := G43.add 41 [] spec_l26Good.S
theorem G44_ok : EnvOk Tryd.prog G44 := G43_ok.add ent_41 fun ar h r h1 ⟨a0, y, hy, e1, e2, e3, e4⟩ => by
  subst e3 e4; exact (spec_l26Good.spec a0 y hy).le e1 e2
attribute [local irreducible] spec_l26Good

noncomputable def spec_WeekText_loop1 (a0 : (List DayRow)) (v8 : ByteArray) (v9 : Int) (v10 : Int) (v11 : Int) : Option (Lp (ByteArray × Int × Int × Int) ((ByteArray × Int × Int))) :=
  (cond (decide (v11 < (a0.length : Int))) (grd (0 ≤ v11 ∧ v11 < (a0.length : Int)) ((spec_l26Line ((a0.getD v11.toNat d_DayRow).1, (a0.getD v11.toNat d_DayRow).2.1, (a0.getD v11.toNat d_DayRow).2.2.1, (a0.getD v11.toNat d_DayRow).2.2.2.1, (a0.getD v11.toNat d_DayRow).2.2.2.2.1, (a0.getD v11.toNat d_DayRow).2.2.2.2.2.1, ())).bind fun y12 => (grd (v8.size + y12.size ≤ 9223372036854775807) (grd ((v8 ++ y12).size + (ByteArray.mk #[10]).size ≤ 9223372036854775807) (grd (0 ≤ v11 ∧ v11 < (a0.length : Int)) (grd (0 ≤ v11 ∧ v11 < (a0.length : Int)) (some (.go (((v8 ++ y12) ++ (ByteArray.mk #[10])), (w64 (v9 + ((a0.getD v11.toNat d_DayRow).2.1))), (w64 (v10 + ((a0.getD v11.toNat d_DayRow).2.2.1))), (w64 (v11 + (1 : Int)))))))))))) ((some (.out (v8, v9, v10)))))
noncomputable def spec_WeekText (a0 : (List DayRow)) : Option (ByteArray × Bool) :=
  ((spec_l26Good a0).bind fun y1 => (cond (!y1) ((some ((ByteArray.mk #[]), false))) ((iter (fun s => spec_WeekText_loop1 a0 s.1 s.2.1 s.2.2.1 s.2.2.2) ((ByteArray.mk #[]), (0 : Int), (0 : Int), (0 : Int))).bind (fun r13 => (grd (r13.1.size + (ByteArray.mk #[97, 108, 108, 58, 32]).size ≤ 9223372036854775807) ((spec_l1Num r13.2.1).bind fun y14 => (grd ((r13.1 ++ (ByteArray.mk #[97, 108, 108, 58, 32])).size + y14.size ≤ 9223372036854775807) (grd (((r13.1 ++ (ByteArray.mk #[97, 108, 108, 58, 32])) ++ y14).size + (ByteArray.mk #[32, 117, 112, 44, 32]).size ≤ 9223372036854775807) ((spec_l1Num r13.2.2).bind fun y15 => (grd ((((r13.1 ++ (ByteArray.mk #[97, 108, 108, 58, 32])) ++ y14) ++ (ByteArray.mk #[32, 117, 112, 44, 32])).size + y15.size ≤ 9223372036854775807) (grd (((((r13.1 ++ (ByteArray.mk #[97, 108, 108, 58, 32])) ++ y14) ++ (ByteArray.mk #[32, 117, 112, 44, 32])) ++ y15).size + (ByteArray.mk #[32, 100, 111, 119, 110]).size ≤ 9223372036854775807) ((some ((((((r13.1 ++ (ByteArray.mk #[97, 108, 108, 58, 32])) ++ y14) ++ (ByteArray.mk #[32, 117, 112, 44, 32])) ++ y15) ++ (ByteArray.mk #[32, 100, 111, 119, 110])), true))))))))))))))
def spec_WeekText.res (_ : (List DayRow)) (y : ByteArray × Bool) : AV := (.tup [(.v (.string y.1)), (.bl y.2)])
def spec_WeekText.out (_ : (List DayRow)) (_ : ByteArray × Bool) : List (Option LB) := []
def spec_WeekText.S (ar : List AV) (h : List (Option LB)) (r : AV) (h1 : List (Option LB)) : Prop := ∃ a0 y, spec_WeekText a0 = some y ∧ leL ar [(.tree ty_DayRow a0)] ∧ leH h [] ∧ r = spec_WeekText.res a0 y ∧ h1 = spec_WeekText.out a0 y
theorem spec_WeekText.call {ar : List AV} {h : List (Option LB)} {a0 : (List DayRow)} {y : ByteArray × Bool} (H : spec_WeekText a0 = some y) (h0 : leLk ar [(.tree ty_DayRow a0)] (leHk h [])) : spec_WeekText.S ar h (spec_WeekText.res a0 y) (spec_WeekText.out a0 y) := ⟨a0, y, H, (args_ok h0).1, (args_ok h0).2, rfl, rfl⟩
set_option maxHeartbeats 100000000 in
set_option maxRecDepth 100000 in
theorem spec_WeekText.spec (a0 : (List DayRow)) (y : ByteArray × Bool) (H : spec_WeekText a0 = some y) : Spec Tryd.prog 14 [(.tree ty_DayRow a0)] [] (spec_WeekText.res a0 y) (spec_WeekText.out a0 y) := by
  refine spec_intro (G44_ok.at tok []) (ct := [(9, some [0, 4, 5, 6, 7])]) Tryd.func14 rfl (by kernel_rfl) (by kernel_rfl) rfl ?_
  repeat' first
    | ((with_reducible refine eqg ?_); exact rfl)
    | ((with_reducible refine KOb.mk ?_); kernel_rfl)
    | ((with_reducible intro h); (repeat (first | replace H := grd_k H | replace H := out_step H (by assumption))); first | replace H := cond_t h H | replace H := cond_f h H | exact absurd h (by decide) | skip)
    | ((with_reducible refine Ob.mk ?_); first | (with_reducible rfl) | (first | ((repeat (first | (with_reducible exact grd_p H) | (replace H := grd_k H) | (replace H := out_step H (by assumption)))); done) | rfl | ((repeat (first | exact grd_p H | replace H := grd_k H | replace H := out_step H (by assumption))); done) | ((repeat (first | exact grd_p H | (have hp := grd_p H; exact hp) | replace H := grd_k H | replace H := out_step H (by assumption) | (replace H := bind_some H; obtain ⟨_, _, H⟩ := H))); done) | (repeat (first | exact grd_p H | replace H := grd_k H | replace H := out_step H (by assumption)))))
    | (with_reducible exact True.intro)
    | ((conv => whnf); first
        | (with_reducible refine And.intro ?_ ?_)
        | (with_reducible exact True.intro)
        | ((with_reducible refine Ob.mk ?_); first | (with_reducible rfl) | (first | ((repeat (first | (with_reducible exact grd_p H) | (replace H := grd_k H) | (replace H := out_step H (by assumption)))); done) | rfl | ((repeat (first | exact grd_p H | replace H := grd_k H | replace H := out_step H (by assumption))); done) | ((repeat (first | exact grd_p H | (have hp := grd_p H; exact hp) | replace H := grd_k H | replace H := out_step H (by assumption) | (replace H := bind_some H; obtain ⟨_, _, H⟩ := H))); done) | (repeat (first | exact grd_p H | replace H := grd_k H | replace H := out_step H (by assumption)))))
        | ((with_reducible refine CallW.mk ?_); (repeat (first | replace H := grd_k H | replace H := out_step H (by assumption))); replace H := bind_some H; obtain ⟨y, hy, H⟩ := H; first | ((with_reducible have hz : spec_l26Good _ = some y := hy); clear hz; refine Exists.intro _ (Exists.intro _ ⟨spec_l26Good.call hy ?_, rfl, rfl, ?_⟩)) | ((with_reducible have hz : spec_l26Line _ = some y := hy); clear hz; refine Exists.intro _ (Exists.intro _ ⟨spec_l26Line.call hy ?_, rfl, rfl, ?_⟩)) | ((with_reducible have hz : spec_l1Num _ = some y := hy); clear hz; refine Exists.intro _ (Exists.intro _ ⟨spec_l1Num.call hy ?_, rfl, rfl, ?_⟩)))
        | ((repeat (first | replace H := grd_k H | replace H := out_step H (by assumption))); refine loop_iter (G44_ok.at tok []) (ct := [(9, some [0, 4, 5, 6, 7])]) (F := (fun s1 : ByteArray × Int × Int × Int => ⟨sl [(0, (.tree ty_DayRow a0)), (4, (.v (.string s1.1))), (5, (.v (.int .i64 s1.2.1))), (6, (.v (.int .i64 s1.2.2.1))), (7, (.v (.int .i64 s1.2.2.2)))], []⟩)) (step := (fun s : ByteArray × Int × Int × Int => spec_WeekText_loop1 _ s.1 s.2.1 s.2.2.1 s.2.2.2)) _ H (by kernel_rfl) (sub_auto ?_) ?_; rotate_left; (intro s1 r v hr H); rotate_right)
        | ((repeat (first | replace H := grd_k H | replace H := out_step H (by assumption))); refine again_step H (by assumption) (sub_auto ?_))
        | ((with_reducible refine fin_mk ?_); (repeat (first | replace H := grd_k H | replace H := out_step H (by assumption))); have H := Option.some.inj H; subst H))
    | constructor
def G45 : Env := G44.add 14 [] spec_WeekText.S
theorem G45_ok : EnvOk Tryd.prog G45 := G44_ok.add ent_14 fun ar h r h1 ⟨a0, y, hy, e1, e2, e3, e4⟩ => by
  subst e3 e4; exact (spec_WeekText.spec a0 y hy).le e1 e2
attribute [local irreducible] spec_WeekText

noncomputable def spec_DrawOpenRuns (a0 : (List Int)) : Option ((List DayRow)) :=
  ((spec_DrawAreDayRows a0).bind fun y1 => (some y1))
def spec_DrawOpenRuns.res (_ : (List Int)) (_ : (List DayRow)) : AV := (.own 0)
def spec_DrawOpenRuns.out (_ : (List Int)) (y : (List DayRow)) : List (Option LB) := [some (.arr 25 ty_DayRow y)]
def spec_DrawOpenRuns.S (ar : List AV) (h : List (Option LB)) (r : AV) (h1 : List (Option LB)) : Prop := ∃ a0 y, spec_DrawOpenRuns a0 = some y ∧ leL ar [(.tree (.int .u8) a0)] ∧ leH h [] ∧ r = spec_DrawOpenRuns.res a0 y ∧ h1 = spec_DrawOpenRuns.out a0 y
theorem spec_DrawOpenRuns.call {ar : List AV} {h : List (Option LB)} {a0 : (List Int)} {y : (List DayRow)} (H : spec_DrawOpenRuns a0 = some y) (h0 : leLk ar [(.tree (.int .u8) a0)] (leHk h [])) : spec_DrawOpenRuns.S ar h (spec_DrawOpenRuns.res a0 y) (spec_DrawOpenRuns.out a0 y) := ⟨a0, y, H, (args_ok h0).1, (args_ok h0).2, rfl, rfl⟩
set_option maxHeartbeats 100000000 in
set_option maxRecDepth 100000 in
theorem spec_DrawOpenRuns.spec (a0 : (List Int)) (y : (List DayRow)) (H : spec_DrawOpenRuns a0 = some y) : Spec Tryd.prog 16 [(.tree (.int .u8) a0)] [] (spec_DrawOpenRuns.res a0 y) (spec_DrawOpenRuns.out a0 y) := by
  refine spec_intro (G45_ok.at tok []) (ct := []) Tryd.func16 rfl (by kernel_rfl) (by kernel_rfl) rfl ?_
  repeat' first
    | ((with_reducible refine eqg ?_); exact rfl)
    | ((with_reducible refine KOb.mk ?_); kernel_rfl)
    | ((with_reducible intro h); (repeat (first | replace H := grd_k H | replace H := out_step H (by assumption))); first | replace H := cond_t h H | replace H := cond_f h H | exact absurd h (by decide) | skip)
    | ((with_reducible refine Ob.mk ?_); first | (with_reducible rfl) | (first | ((repeat (first | (with_reducible exact grd_p H) | (replace H := grd_k H) | (replace H := out_step H (by assumption)))); done) | rfl | ((repeat (first | exact grd_p H | replace H := grd_k H | replace H := out_step H (by assumption))); done) | ((repeat (first | exact grd_p H | (have hp := grd_p H; exact hp) | replace H := grd_k H | replace H := out_step H (by assumption) | (replace H := bind_some H; obtain ⟨_, _, H⟩ := H))); done) | (repeat (first | exact grd_p H | replace H := grd_k H | replace H := out_step H (by assumption)))))
    | (with_reducible exact True.intro)
    | ((conv => whnf); first
        | (with_reducible refine And.intro ?_ ?_)
        | (with_reducible exact True.intro)
        | ((with_reducible refine Ob.mk ?_); first | (with_reducible rfl) | (first | ((repeat (first | (with_reducible exact grd_p H) | (replace H := grd_k H) | (replace H := out_step H (by assumption)))); done) | rfl | ((repeat (first | exact grd_p H | replace H := grd_k H | replace H := out_step H (by assumption))); done) | ((repeat (first | exact grd_p H | (have hp := grd_p H; exact hp) | replace H := grd_k H | replace H := out_step H (by assumption) | (replace H := bind_some H; obtain ⟨_, _, H⟩ := H))); done) | (repeat (first | exact grd_p H | replace H := grd_k H | replace H := out_step H (by assumption)))))
        | ((with_reducible refine CallW.mk ?_); (repeat (first | replace H := grd_k H | replace H := out_step H (by assumption))); replace H := bind_some H; obtain ⟨y, hy, H⟩ := H; first | ((with_reducible have hz : spec_DrawAreDayRows _ = some y := hy); clear hz; refine Exists.intro _ (Exists.intro _ ⟨spec_DrawAreDayRows.call hy ?_, rfl, rfl, ?_⟩)))
        | ((with_reducible refine fin_mk ?_); (repeat (first | replace H := grd_k H | replace H := out_step H (by assumption))); have H := Option.some.inj H; subst H))
    | constructor
def G46 : Env := G45.add 16 [] spec_DrawOpenRuns.S
theorem G46_ok : EnvOk Tryd.prog G46 := G45_ok.add ent_16 fun ar h r h1 ⟨a0, y, hy, e1, e2, e3, e4⟩ => by
  subst e3 e4; exact (spec_DrawOpenRuns.spec a0 y hy).le e1 e2
attribute [local irreducible] spec_DrawOpenRuns

noncomputable def impl_OpenRuns_loop1 (a0 : (List DayRow)) (v5 : Int) (v6 : (List (List Int))) : Option (Lp (Int × (List (List Int))) (((List (List Int))))) :=
  (cond (decide (v5 < (a0.length : Int))) (grd (0 ≤ v5 ∧ v5 < (a0.length : Int)) (cond (decide (((a0.getD v5.toNat d_DayRow).2.2.2.1) = (0 : Int))) (some (.go ((w64 (v5 + (1 : Int))), v6))) (cond (decide ((0 : Int) ≤ (w64 ((v6.length : Int) - (1 : Int))))) (grd (0 ≤ (w64 ((v6.length : Int) - (1 : Int))) ∧ (w64 ((v6.length : Int) - (1 : Int))) < (v6.length : Int)) (grd (0 ≤ (1 : Int) ∧ (1 : Int) < ((v6.getD ((w64 ((v6.length : Int) - (1 : Int))).toNat) []).length : Int)) (cond (decide (((v6.getD ((w64 ((v6.length : Int) - (1 : Int))).toNat) []).getD ((1 : Int).toNat) 0) = (w64 (((a0.getD v5.toNat d_DayRow).1) - (1 : Int))))) (grd (0 ≤ (w64 ((v6.length : Int) - (1 : Int))) ∧ (w64 ((v6.length : Int) - (1 : Int))) < (v6.length : Int)) (grd (0 ≤ (1 : Int) ∧ (1 : Int) < ((v6.getD ((w64 ((v6.length : Int) - (1 : Int))).toNat) []).length : Int)) (some (.go ((w64 (v5 + (1 : Int))), (v6.set ((w64 ((v6.length : Int) - (1 : Int))).toNat) ((v6.getD ((w64 ((v6.length : Int) - (1 : Int))).toNat) []).set ((1 : Int).toNat) ((a0.getD v5.toNat d_DayRow).1)))))))) (grd (v6.length + [[(a0.getD v5.toNat d_DayRow).1, (a0.getD v5.toNat d_DayRow).1]].length ≤ 140737488355328 / 24 ∧ v6.length + [[(a0.getD v5.toNat d_DayRow).1, (a0.getD v5.toNat d_DayRow).1]].length ≤ 140737488355328) (some (.go ((w64 (v5 + (1 : Int))), (v6 ++ [[(a0.getD v5.toNat d_DayRow).1, (a0.getD v5.toNat d_DayRow).1]])))))))) (grd (v6.length + [[(a0.getD v5.toNat d_DayRow).1, (a0.getD v5.toNat d_DayRow).1]].length ≤ 140737488355328 / 24 ∧ v6.length + [[(a0.getD v5.toNat d_DayRow).1, (a0.getD v5.toNat d_DayRow).1]].length ≤ 140737488355328) (some (.go ((w64 (v5 + (1 : Int))), (v6 ++ [[(a0.getD v5.toNat d_DayRow).1, (a0.getD v5.toNat d_DayRow).1]])))))))) ((some (.out v6))))
noncomputable def impl_OpenRuns (a0 : (List DayRow)) : Option ((Unit) ⊕ ((List (List Int)))) :=
  ((impl_AreDayRows a0).bind fun y1 => (cond (!y1) ((some (Sum.inl ()))) ((iter (fun s => impl_OpenRuns_loop1 a0 s.1 s.2) ((0 : Int), ([] : List (List Int)))).bind (fun r7 => (some (Sum.inr r7))))))
def impl_OpenRuns.res (_ : (List DayRow)) (y : (Unit) ⊕ ((List (List Int)))) : AV := match y with
  | (.inl y) => (.tup [(.v (.slice none 0 0)), (.v (.bool false))])
  | (.inr y) => (.tup [(.own 0), (.v (.bool true))])
def impl_OpenRuns.out (_ : (List DayRow)) (y : (Unit) ⊕ ((List (List Int)))) : List (Option LB) := match y with
  | (.inl y) => []
  | (.inr y) => [some (.nst 41 3 (.int .i64) y)]
def impl_OpenRuns.S (ar : List AV) (h : List (Option LB)) (r : AV) (h1 : List (Option LB)) : Prop := ∃ a0 y, impl_OpenRuns a0 = some y ∧ leL ar [(.tree ty_DayRow a0)] ∧ leH h [] ∧ r = impl_OpenRuns.res a0 y ∧ h1 = impl_OpenRuns.out a0 y
theorem impl_OpenRuns.call {ar : List AV} {h : List (Option LB)} {a0 : (List DayRow)} {y : (Unit) ⊕ ((List (List Int)))} (H : impl_OpenRuns a0 = some y) (h0 : leLk ar [(.tree ty_DayRow a0)] (leHk h [])) : impl_OpenRuns.S ar h (impl_OpenRuns.res a0 y) (impl_OpenRuns.out a0 y) := ⟨a0, y, H, (args_ok h0).1, (args_ok h0).2, rfl, rfl⟩
set_option maxHeartbeats 100000000 in
set_option maxRecDepth 100000 in
theorem impl_OpenRuns.spec (a0 : (List DayRow)) (y : (Unit) ⊕ ((List (List Int)))) (H : impl_OpenRuns a0 = some y) : Spec Tryd.prog 17 [(.tree ty_DayRow a0)] [] (impl_OpenRuns.res a0 y) (impl_OpenRuns.out a0 y) := by
  have hlen : Nat.ble ([] : List (Option LB)).length (impl_OpenRuns.out a0 y).length = true := by
    rcases y with y | y <;> rfl
  refine spec_intro (G46_ok.at tok [11, 27]) (ct := [(11, some [4, 6, 7, 12, 13, 14, 33, 37, 38, 39, 40, 41, 42, 43, 44, 45, 46]), (13, some [4])]) Tryd.func17 rfl (by kernel_rfl) (by kernel_rfl) hlen ?_
  repeat' first
    | ((with_reducible refine eqg ?_); exact rfl)
    | ((with_reducible refine KOb.mk ?_); kernel_rfl)
    | ((with_reducible intro h); (repeat (first | replace H := grd_k H | replace H := out_step H (by assumption))); first | replace H := cond_t h H | replace H := cond_f h H | exact absurd h (by decide) | skip)
    | ((with_reducible refine Ob.mk ?_); first | (with_reducible rfl) | (first | ((repeat (first | (with_reducible exact grd_p H) | (replace H := grd_k H) | (replace H := out_step H (by assumption)))); done) | rfl | ((repeat (first | exact grd_p H | replace H := grd_k H | replace H := out_step H (by assumption))); done) | ((repeat (first | exact grd_p H | (have hp := grd_p H; exact hp) | replace H := grd_k H | replace H := out_step H (by assumption) | (replace H := bind_some H; obtain ⟨_, _, H⟩ := H))); done) | (repeat (first | exact grd_p H | replace H := grd_k H | replace H := out_step H (by assumption)))))
    | (with_reducible exact True.intro)
    | ((conv => whnf); first
        | (with_reducible refine And.intro ?_ ?_)
        | (with_reducible exact True.intro)
        | ((with_reducible refine Ob.mk ?_); first | (with_reducible rfl) | (first | ((repeat (first | (with_reducible exact grd_p H) | (replace H := grd_k H) | (replace H := out_step H (by assumption)))); done) | rfl | ((repeat (first | exact grd_p H | replace H := grd_k H | replace H := out_step H (by assumption))); done) | ((repeat (first | exact grd_p H | (have hp := grd_p H; exact hp) | replace H := grd_k H | replace H := out_step H (by assumption) | (replace H := bind_some H; obtain ⟨_, _, H⟩ := H))); done) | (repeat (first | exact grd_p H | replace H := grd_k H | replace H := out_step H (by assumption)))))
        | ((with_reducible refine CallW.mk ?_); (repeat (first | replace H := grd_k H | replace H := out_step H (by assumption))); replace H := bind_some H; obtain ⟨y, hy, H⟩ := H; first | ((with_reducible have hz : impl_AreDayRows _ = some y := hy); clear hz; refine Exists.intro _ (Exists.intro _ ⟨impl_AreDayRows.call hy ?_, rfl, rfl, ?_⟩)))
        | ((repeat (first | replace H := grd_k H | replace H := out_step H (by assumption))); refine loop_iter (G46_ok.at tok [11, 27]) (ct := [(11, some [4, 6, 7, 12, 13, 14, 33, 37, 38, 39, 40, 41, 42, 43, 44, 45, 46]), (13, some [4])]) (F := (fun s1 : Int × (List (List Int)) => ⟨sl [(4, (.own 0)), (12, (.tree ty_DayRow a0)), (13, (.v (.int .i64 (a0.length : Int)))), (14, (.v (.int .i64 s1.1)))], [some (.nst 41 3 (.int .i64) s1.2)]⟩)) (step := (fun s : Int × (List (List Int)) => impl_OpenRuns_loop1 _ s.1 s.2)) _ H (by kernel_rfl) (sub_auto ?_) ?_; rotate_left; (intro s1 r v hr H); rotate_right)
        | ((repeat (first | replace H := grd_k H | replace H := out_step H (by assumption))); refine again_step H (by assumption) (sub_auto ?_))
        | ((with_reducible refine fin_mk ?_); (repeat (first | replace H := grd_k H | replace H := out_step H (by assumption))); have H := Option.some.inj H; subst H))
    | constructor
def G47 : Env := G46.add 17 [] impl_OpenRuns.S
theorem G47_ok : EnvOk Tryd.prog G47 := G46_ok.add ent_17 fun ar h r h1 ⟨a0, y, hy, e1, e2, e3, e4⟩ => by
  subst e3 e4; exact (impl_OpenRuns.spec a0 y hy).le e1 e2
attribute [local irreducible] impl_OpenRuns

noncomputable def spec_OpenRuns_loop1 (a0 : (List DayRow)) (v5 : Int) (v6 : (List (List Int))) : Option (Lp (Int × (List (List Int))) (((List (List Int))))) :=
  (cond (decide (v5 < (a0.length : Int))) (grd (0 ≤ v5 ∧ v5 < (a0.length : Int)) (grd (0 ≤ v5 ∧ v5 < (a0.length : Int)) (cond (decide (((a0.getD v5.toNat d_DayRow).2.2.2.1) = (0 : Int))) (some (.go ((w64 (v5 + (1 : Int))), v6))) (cond (decide ((0 : Int) < (v6.length : Int))) (grd (0 ≤ (w64 ((v6.length : Int) - (1 : Int))) ∧ (w64 ((v6.length : Int) - (1 : Int))) < (v6.length : Int)) (grd (0 ≤ (1 : Int) ∧ (1 : Int) < ((v6.getD ((w64 ((v6.length : Int) - (1 : Int))).toNat) []).length : Int)) (cond (decide (((v6.getD ((w64 ((v6.length : Int) - (1 : Int))).toNat) []).getD ((1 : Int).toNat) 0) = (w64 (((a0.getD v5.toNat d_DayRow).1) - (1 : Int))))) (grd (0 ≤ (w64 ((v6.length : Int) - (1 : Int))) ∧ (w64 ((v6.length : Int) - (1 : Int))) < (v6.length : Int)) (grd (0 ≤ (0 : Int) ∧ (0 : Int) < ((v6.getD ((w64 ((v6.length : Int) - (1 : Int))).toNat) []).length : Int)) (grd (0 ≤ (w64 ((v6.length : Int) - (1 : Int))) ∧ (w64 ((v6.length : Int) - (1 : Int))) < (v6.length : Int)) (some (.go ((w64 (v5 + (1 : Int))), (v6.set ((w64 ((v6.length : Int) - (1 : Int))).toNat) [((v6.getD ((w64 ((v6.length : Int) - (1 : Int))).toNat) []).getD ((0 : Int).toNat) 0), (a0.getD v5.toNat d_DayRow).1]))))))) (grd (v6.length + [[(a0.getD v5.toNat d_DayRow).1, (a0.getD v5.toNat d_DayRow).1]].length ≤ 140737488355328 / 24 ∧ v6.length + [[(a0.getD v5.toNat d_DayRow).1, (a0.getD v5.toNat d_DayRow).1]].length ≤ 140737488355328) (some (.go ((w64 (v5 + (1 : Int))), (v6 ++ [[(a0.getD v5.toNat d_DayRow).1, (a0.getD v5.toNat d_DayRow).1]])))))))) (grd (v6.length + [[(a0.getD v5.toNat d_DayRow).1, (a0.getD v5.toNat d_DayRow).1]].length ≤ 140737488355328 / 24 ∧ v6.length + [[(a0.getD v5.toNat d_DayRow).1, (a0.getD v5.toNat d_DayRow).1]].length ≤ 140737488355328) (some (.go ((w64 (v5 + (1 : Int))), (v6 ++ [[(a0.getD v5.toNat d_DayRow).1, (a0.getD v5.toNat d_DayRow).1]]))))))))) ((some (.out v6))))
noncomputable def spec_OpenRuns (a0 : (List DayRow)) : Option ((List (List Int)) × Bool × (List DayRow)) :=
  ((spec_l26Good a0).bind fun y1 => (cond (!y1) ((some (([] : List (List Int)), false, a0))) ((iter (fun s => spec_OpenRuns_loop1 a0 s.1 s.2) ((0 : Int), ([] : List (List Int)))).bind (fun r7 => (some (r7, true, a0))))))
def spec_OpenRuns.res (_ : (List DayRow)) (y : (List (List Int)) × Bool × (List DayRow)) : AV := (.tup [(.own 1), (.bl y.2.1)])
def spec_OpenRuns.out (_ : (List DayRow)) (y : (List (List Int)) × Bool × (List DayRow)) : List (Option LB) := [some (.arr 25 ty_DayRow y.2.2), some (.arr 41 (.sl (.int .i64)) y.1)]
def spec_OpenRuns.S (ar : List AV) (h : List (Option LB)) (r : AV) (h1 : List (Option LB)) : Prop := ∃ a0 y, spec_OpenRuns a0 = some y ∧ leL ar [(.own 0)] ∧ leH h [some (.arr 25 ty_DayRow a0)] ∧ r = spec_OpenRuns.res a0 y ∧ h1 = spec_OpenRuns.out a0 y
theorem spec_OpenRuns.call {ar : List AV} {h : List (Option LB)} {a0 : (List DayRow)} {y : (List (List Int)) × Bool × (List DayRow)} (H : spec_OpenRuns a0 = some y) (h0 : leLk ar [(.own 0)] (leHk h [some (.arr 25 ty_DayRow a0)])) : spec_OpenRuns.S ar h (spec_OpenRuns.res a0 y) (spec_OpenRuns.out a0 y) := ⟨a0, y, H, (args_ok h0).1, (args_ok h0).2, rfl, rfl⟩
set_option maxHeartbeats 100000000 in
set_option maxRecDepth 100000 in
theorem spec_OpenRuns.spec (a0 : (List DayRow)) (y : (List (List Int)) × Bool × (List DayRow)) (H : spec_OpenRuns a0 = some y) : Spec Tryd.prog 18 [(.own 0)] [some (.arr 25 ty_DayRow a0)] (spec_OpenRuns.res a0 y) (spec_OpenRuns.out a0 y) := by
  refine spec_intro (G47_ok.at tok []) (ct := [(9, some [0, 4, 5, 6, 35, 36, 37, 38, 39, 40, 41, 42, 43, 44]), (11, some [0, 4, 5, 6, 7, 35, 36, 37, 38, 39, 40, 41, 42, 43, 44, 45])]) Tryd.func18 rfl (by kernel_rfl) (by kernel_rfl) rfl ?_
  repeat' first
    | ((with_reducible refine eqg ?_); exact rfl)
    | ((with_reducible refine KOb.mk ?_); kernel_rfl)
    | ((with_reducible intro h); (repeat (first | replace H := grd_k H | replace H := out_step H (by assumption))); first | replace H := cond_t h H | replace H := cond_f h H | exact absurd h (by decide) | skip)
    | ((with_reducible refine Ob.mk ?_); first | (with_reducible rfl) | (first | ((repeat (first | (with_reducible exact grd_p H) | (replace H := grd_k H) | (replace H := out_step H (by assumption)))); done) | rfl | ((repeat (first | exact grd_p H | replace H := grd_k H | replace H := out_step H (by assumption))); done) | ((repeat (first | exact grd_p H | (have hp := grd_p H; exact hp) | replace H := grd_k H | replace H := out_step H (by assumption) | (replace H := bind_some H; obtain ⟨_, _, H⟩ := H))); done) | (repeat (first | exact grd_p H | replace H := grd_k H | replace H := out_step H (by assumption)))))
    | (with_reducible exact True.intro)
    | ((conv => whnf); first
        | (with_reducible refine And.intro ?_ ?_)
        | (with_reducible exact True.intro)
        | ((with_reducible refine Ob.mk ?_); first | (with_reducible rfl) | (first | ((repeat (first | (with_reducible exact grd_p H) | (replace H := grd_k H) | (replace H := out_step H (by assumption)))); done) | rfl | ((repeat (first | exact grd_p H | replace H := grd_k H | replace H := out_step H (by assumption))); done) | ((repeat (first | exact grd_p H | (have hp := grd_p H; exact hp) | replace H := grd_k H | replace H := out_step H (by assumption) | (replace H := bind_some H; obtain ⟨_, _, H⟩ := H))); done) | (repeat (first | exact grd_p H | replace H := grd_k H | replace H := out_step H (by assumption)))))
        | ((with_reducible refine CallW.mk ?_); (repeat (first | replace H := grd_k H | replace H := out_step H (by assumption))); replace H := bind_some H; obtain ⟨y, hy, H⟩ := H; first | ((with_reducible have hz : spec_l26Good _ = some y := hy); clear hz; refine Exists.intro _ (Exists.intro _ ⟨spec_l26Good.call hy ?_, rfl, rfl, ?_⟩)))
        | ((repeat (first | replace H := grd_k H | replace H := out_step H (by assumption))); refine loop_iter (G47_ok.at tok []) (ct := [(9, some [0, 4, 5, 6, 35, 36, 37, 38, 39, 40, 41, 42, 43, 44]), (11, some [0, 4, 5, 6, 7, 35, 36, 37, 38, 39, 40, 41, 42, 43, 44, 45])]) (F := (fun s1 : Int × (List (List Int)) => ⟨sl [(0, (.own 0)), (4, (.own 1)), (5, (.v (.int .i64 s1.1)))], [some (.arr 25 ty_DayRow a0), some (.arr 41 (.sl (.int .i64)) s1.2)]⟩)) (step := (fun s : Int × (List (List Int)) => spec_OpenRuns_loop1 _ s.1 s.2)) _ H (by kernel_rfl) (sub_auto ?_) ?_; rotate_left; (intro s1 r v hr H); rotate_right)
        | ((repeat (first | replace H := grd_k H | replace H := out_step H (by assumption))); refine again_step H (by assumption) (sub_auto ?_))
        | ((with_reducible refine fin_mk ?_); (repeat (first | replace H := grd_k H | replace H := out_step H (by assumption))); have H := Option.some.inj H; subst H))
    | constructor
def G48 : Env := G47.add 18 [true] spec_OpenRuns.S
theorem G48_ok : EnvOk Tryd.prog G48 := G47_ok.add ent_18 fun ar h r h1 ⟨a0, y, hy, e1, e2, e3, e4⟩ => by
  subst e3 e4; exact (spec_OpenRuns.spec a0 y hy).le e1 e2
attribute [local irreducible] spec_OpenRuns

noncomputable def laws_rInts_loop1 (a0 : (List Int)) (a1 : (List Int)) (v2 : Int) : Option (Lp (Int) ((Unit) ⊕ (Unit))) :=
  (cond (decide (v2 < (a0.length : Int))) (grd (0 ≤ v2 ∧ v2 < (a0.length : Int)) (grd (0 ≤ v2 ∧ v2 < (a1.length : Int)) (cond (!decide ((a0.getD v2.toNat 0) = (a1.getD v2.toNat 0))) ((some (.out (Sum.inl ())))) (some (.go (w64 (v2 + (1 : Int)))))))) ((some (.out (Sum.inr ())))))
noncomputable def laws_rInts (a0 : (List Int)) (a1 : (List Int)) : Option (Bool) :=
  (cond (!decide ((a0.length : Int) = (a1.length : Int))) ((some false)) ((iter (fun s => laws_rInts_loop1 a0 a1 s) (0 : Int)).bind (Sum.elim (fun _ => (some false)) (fun _ => (some true)))))
def laws_rInts.res (_ : (List Int)) (_ : (List Int)) (y : Bool) : AV := (.bl y)
def laws_rInts.out (_ : (List Int)) (_ : (List Int)) (_ : Bool) : List (Option LB) := []
def laws_rInts.S (ar : List AV) (h : List (Option LB)) (r : AV) (h1 : List (Option LB)) : Prop := ∃ a0 a1 y, laws_rInts a0 a1 = some y ∧ leL ar [(.tree (.int .i64) a0), (.tree (.int .i64) a1)] ∧ leH h [] ∧ r = laws_rInts.res a0 a1 y ∧ h1 = laws_rInts.out a0 a1 y
theorem laws_rInts.call {ar : List AV} {h : List (Option LB)} {a0 : (List Int)} {a1 : (List Int)} {y : Bool} (H : laws_rInts a0 a1 = some y) (h0 : leLk ar [(.tree (.int .i64) a0), (.tree (.int .i64) a1)] (leHk h [])) : laws_rInts.S ar h (laws_rInts.res a0 a1 y) (laws_rInts.out a0 a1 y) := ⟨a0, a1, y, H, (args_ok h0).1, (args_ok h0).2, rfl, rfl⟩
set_option maxHeartbeats 100000000 in
set_option maxRecDepth 100000 in
theorem laws_rInts.spec (a0 : (List Int)) (a1 : (List Int)) (y : Bool) (H : laws_rInts a0 a1 = some y) : Spec Tryd.prog 43 [(.tree (.int .i64) a0), (.tree (.int .i64) a1)] [] (laws_rInts.res a0 a1 y) (laws_rInts.out a0 a1 y) := by
  refine spec_intro (G48_ok.at tok []) (ct := [(5, some [0, 1, 5])]) Tryd.func43 rfl (by kernel_rfl) (by kernel_rfl) rfl ?_
  repeat' first
    | ((with_reducible refine eqg ?_); exact rfl)
    | ((with_reducible refine KOb.mk ?_); kernel_rfl)
    | ((with_reducible intro h); (repeat (first | replace H := grd_k H | replace H := out_step H (by assumption))); first | replace H := cond_t h H | replace H := cond_f h H | exact absurd h (by decide) | skip)
    | ((with_reducible refine Ob.mk ?_); first | (with_reducible rfl) | (first | ((repeat (first | (with_reducible exact grd_p H) | (replace H := grd_k H) | (replace H := out_step H (by assumption)))); done) | rfl | ((repeat (first | exact grd_p H | replace H := grd_k H | replace H := out_step H (by assumption))); done) | ((repeat (first | exact grd_p H | (have hp := grd_p H; exact hp) | replace H := grd_k H | replace H := out_step H (by assumption) | (replace H := bind_some H; obtain ⟨_, _, H⟩ := H))); done) | (repeat (first | exact grd_p H | replace H := grd_k H | replace H := out_step H (by assumption)))))
    | (with_reducible exact True.intro)
    | ((conv => whnf); first
        | (with_reducible refine And.intro ?_ ?_)
        | (with_reducible exact True.intro)
        | ((with_reducible refine Ob.mk ?_); first | (with_reducible rfl) | (first | ((repeat (first | (with_reducible exact grd_p H) | (replace H := grd_k H) | (replace H := out_step H (by assumption)))); done) | rfl | ((repeat (first | exact grd_p H | replace H := grd_k H | replace H := out_step H (by assumption))); done) | ((repeat (first | exact grd_p H | (have hp := grd_p H; exact hp) | replace H := grd_k H | replace H := out_step H (by assumption) | (replace H := bind_some H; obtain ⟨_, _, H⟩ := H))); done) | (repeat (first | exact grd_p H | replace H := grd_k H | replace H := out_step H (by assumption)))))
        | ((repeat (first | replace H := grd_k H | replace H := out_step H (by assumption))); refine loop_iter (G48_ok.at tok []) (ct := [(5, some [0, 1, 5])]) (F := (fun s1 : Int => ⟨sl [(0, (.tree (.int .i64) a0)), (1, (.tree (.int .i64) a1)), (5, (.v (.int .i64 s1)))], []⟩)) (step := (fun s : Int => laws_rInts_loop1 _ _ s)) _ H (by kernel_rfl) (sub_auto ?_) ?_; rotate_left; (intro s1 r v hr H); rotate_right)
        | ((repeat (first | replace H := grd_k H | replace H := out_step H (by assumption))); refine again_step H (by assumption) (sub_auto ?_))
        | ((with_reducible refine fin_mk ?_); (repeat (first | replace H := grd_k H | replace H := out_step H (by assumption))); have H := Option.some.inj H; subst H))
    | constructor
def G49 : Env := G48.add 43 [] laws_rInts.S
theorem G49_ok : EnvOk Tryd.prog G49 := G48_ok.add ent_43 fun ar h r h1 ⟨a0, a1, y, hy, e1, e2, e3, e4⟩ => by
  subst e3 e4; exact (laws_rInts.spec a0 a1 y hy).le e1 e2
attribute [local irreducible] laws_rInts

end Go.Proofs.YtjpnifmbgemibaaDoor
