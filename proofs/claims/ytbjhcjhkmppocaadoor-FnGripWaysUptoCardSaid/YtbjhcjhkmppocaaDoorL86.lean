/-
  The law of the ways of a grip: steps, texts, and back.
-/
import Derived.Test.YtbjhcjhkmppocaaDoorL85
namespace Go.Proofs.YtbjhcjhkmppocaaDoor
open Go.RowKit

theorem spoilt_ok (c : l1Cur) (n : Int) (A Q : List UInt8) (hA : A.length ≤ 100000) (hQ : Q.length = 4) (h : CG c n) (hn : n ≤ 100000000) : Gives (spec_l1Cur_spoilt c (bs A) (bs Q)) (n + 10) (fun s => s.size ≤ A.length + 4) := by
  obtain ⟨code, at', seed, u⟩ := c
  unfold spec_l1Cur_spoilt
  simp only [bs_size, bsub_bs, bs_app]
  refine gives_cond (fun _ => ?_) (fun h0 => ?_)
  · refine gives_grd (by omega) (Gives.ret (h.up (by omega)) ?_)
    show (bs _).size ≤ _
    rw [bs_size]; simp; omega
  · have hne : A ≠ [] := fun e => by subst e; exact absurd h0 (by decide)
    have hpos : 0 < A.length := List.length_pos_iff.2 hne
    refine gives_bind (pick_ok _ n _ h (by omega)) fun i code1 at1 seed1 hi hc => ?_
    dsimp only
    refine gives_bind (pick_ok _ (n + 2) _ hc (by omega)) fun j code2 at2 seed2 hj hc => ?_
    dsimp only
    have hi1 : i < (A.length : Int) := by omega
    have hj1 : j < (Q.length : Int) := by omega
    have hw : w64 (i + 1) = i + 1 := w64_id (by omega) (by omega)
    refine gives_grd (by omega) (gives_grd (by simp only [List.length_take, List.length_drop]; omega) ?_)
    refine gives_bind (pick_ok _ (n + 2 + 2) _ hc (by omega)) fun q code3 at3 seed3 hq hc => ?_
    dsimp only
    rw [hw]
    refine gives_cond (fun _ => ?_) (fun _ => gives_cond (fun _ => ?_) (fun _ => ?_))
    · refine gives_grd (by omega) (gives_grd (by simp only [List.length_take, List.length_drop]; omega) (gives_grd (by omega) (gives_grd (by simp only [List.length_append, List.length_take, List.length_drop]; omega) (Gives.ret (hc.up (by omega)) ?_))))
      rw [bs_size]; simp only [List.length_append, List.length_take, List.length_drop]; omega
    · refine gives_grd (by omega) (gives_grd (by simp only [List.length_take, List.length_drop]; omega) (gives_grd (by omega) (gives_grd (by simp only [List.length_append, List.length_take, List.length_drop]; omega) (Gives.ret (hc.up (by omega)) ?_))))
      rw [bs_size]; simp only [List.length_append, List.length_take, List.length_drop]; omega
    · refine gives_grd (by omega) (gives_grd (by omega) (gives_grd (by simp only [List.length_take, List.length_drop]; omega) (Gives.ret (hc.up (by omega)) ?_)))
      rw [bs_size]; simp only [List.length_append, List.length_take, List.length_drop]; omega

/-! ## A step taken -/
theorem step_near (st z f n k v : Int) (hg : GP st z f n) (r : GripState) (h : impl_GripState_step (st, z, f, n, ()) (k, v, ()) = some (r, true)) : Near (st, z, f, n, ()) r := by
  obtain ⟨r0, b, h1, h2, c, h3, h4, h5⟩ := step_ok st z f n k v hg
  rw [h] at h1
  obtain ⟨hr, hb⟩ := Prod.mk.inj (Option.some.inj h1)
  subst hr
  have hc : c = true := by
    cases c
    · exact absurd (hb.trans (h4 rfl)) (by decide)
    · rfl
  rw [l21Step_eq, hc] at h3
  by_cases hp : k = 2 ∧ st = 1
  · obtain ⟨rfl, hs⟩ := hp
    have hz : z = 1 := by omega
    have hf : f = 0 := by omega
    obtain ⟨r', h6, h7⟩ := h5 hc
    rw [push_yes hg hs] at h6
    have e := (Prod.mk.inj (Option.some.inj h6)).1
    have e2 := h7 hb.symm
    rw [← e] at e2
    have hG := h2 hb.symm
    subst e2
    subst hs hz hf
    rw [if_pos ⟨rfl, rfl⟩] at h3
    refine ⟨hG, ?_, ?_⟩
    · simp only [D2]; split <;> simp <;> split <;> omega
    · simp only [D0]; split <;> simp <;> split <;> omega
  · rw [if_neg hp] at h3
    have h3 : 1 ≤ k ∧ k ≤ 5 ∧ v = 0 := of_decide_eq_true (Option.some.inj h3)
    obtain ⟨k1, k2, rfl⟩ := h3
    have := stepI st z f n k 0 hg ⟨k1, k2⟩ (.inl rfl)
    rw [h] at this
    exact this
/-! ## Texts of grips -/
def NM : List (List UInt8) := [[111, 112, 101, 110], [99, 108, 111, 115, 105, 110, 103], [115, 104, 117, 116], [111, 112, 101, 110, 105, 110, 103], [108, 111, 99, 107, 101, 100]]
def ZN : List (List UInt8) := [[115, 116, 97, 116, 105, 111, 110], [101, 110, 116, 114, 121], [114, 111, 112, 101], [101, 120, 105, 116]]
theorem nm_map : ([(ByteArray.mk #[111, 112, 101, 110]), (ByteArray.mk #[99, 108, 111, 115, 105, 110, 103]), (ByteArray.mk #[115, 104, 117, 116]), (ByteArray.mk #[111, 112, 101, 110, 105, 110, 103]), (ByteArray.mk #[108, 111, 99, 107, 101, 100])] : List ByteArray) = NM.map bs := rfl
theorem zn_map : ([(ByteArray.mk #[115, 116, 97, 116, 105, 111, 110]), (ByteArray.mk #[101, 110, 116, 114, 121]), (ByteArray.mk #[114, 111, 112, 101]), (ByteArray.mk #[101, 120, 105, 116])] : List ByteArray) = ZN.map bs := rfl
def nm (st : Int) : List UInt8 := NM.getD st.toNat []
def zn (z : Int) : List UInt8 := ZN.getD z.toNat []
def tl6 (st f : Int) : List UInt8 := if st = 2 then 32 :: ([119, 105, 116, 104, 32] ++ Lib.decDigits f.toNat) else []
def txt (st z f : Int) : List UInt8 := nm st ++ 32 :: ([105, 110, 32] ++ (zn z ++ tl6 st f))
theorem nm_bs (st : Int) : (NM.map bs).getD st.toNat (ByteArray.mk #[]) = bs (nm st) := get_bs NM st.toNat
theorem zn_bs (z : Int) : (ZN.map bs).getD z.toNat (ByteArray.mk #[]) = bs (zn z) := get_bs ZN z.toNat
theorem kIn : (ByteArray.mk #[32, 105, 110, 32]) = bs [32, 105, 110, 32] := rfl
theorem kWith : (ByteArray.mk #[32, 119, 105, 116, 104, 32]) = bs [32, 119, 105, 116, 104, 32] := rfl
theorem nm_facts {st : Int} (h : 0 ≤ st ∧ st ≤ 4) : (nm st).length ≤ 7 ∧ (32 : UInt8) ∉ nm st := by
  have : st = 0 ∨ st = 1 ∨ st = 2 ∨ st = 3 ∨ st = 4 := by omega
  rcases this with rfl | rfl | rfl | rfl | rfl <;> decide
theorem zn_facts {z : Int} (h : 0 ≤ z ∧ z ≤ 3) : (zn z).length ≤ 7 ∧ (32 : UInt8) ∉ zn z := by
  have : z = 0 ∨ z = 1 ∨ z = 2 ∨ z = 3 := by omega
  rcases this with rfl | rfl | rfl | rfl <;> decide
theorem dec_four {f : Int} (h : f ≤ 2000) : (Lib.decDigits f.toNat).length ≤ 4 := dec_length 3 f.toNat (by omega)
theorem txt_len {st z f n : Int} (h : GP st z f n) : (txt st z f).length ≤ 40 := by
  have h1 := (nm_facts (st := st) (by omega)).1
  have h2 := (zn_facts (z := z) (by omega)).1
  have h3 := dec_four (f := f) (by omega)
  unfold txt tl6
  split <;> simp <;> omega
theorem implText {st z f n : Int} (h : GP st z f n) : impl_gripText (st, z, f, n, ()) = some (bs (txt st z f)) := by
  have h1 := (nm_facts (st := st) (by omega)).1
  have h2 := (zn_facts (z := z) (by omega)).1
  have h3 := dec_four (f := f) (by omega)
  unfold impl_gripText txt tl6
  dsimp only
  rw [nm_map, zn_map, nm_bs, zn_bs, kIn, kWith]
  simp only [bs_app, bs_size]
  rw [grd_pos (by omega), grd_pos (by simp only [List.length_cons, List.length_nil]; omega), grd_pos (by omega), grd_pos (by simp only [List.length_append, List.length_cons, List.length_nil]; omega)]
  by_cases hs : st = 2
  · rw [cond_dt hs, if_pos hs, show f = ((f.toNat : Nat) : Int) by omega, itoa_eq f.toNat (by omega), Int.toNat_natCast, Option.bind_some]
    simp only [bs_app, bs_size]
    rw [grd_pos (by simp only [List.length_cons, List.length_nil]; omega), grd_pos (by simp only [List.length_append, List.length_cons, List.length_nil]; omega)]
    simp
  · rw [cond_df hs, if_neg hs]
    simp
theorem specText {st z f n : Int} (h : GP st z f n) : spec_l21Text (st, z, f, n, ()) = some (bs (txt st z f)) := by
  have h1 := (nm_facts (st := st) (by omega)).1
  have h2 := (zn_facts (z := z) (by omega)).1
  have h3 := dec_four (f := f) (by omega)
  unfold spec_l21Text spec_l21States spec_l21Zones txt tl6
  simp only [Option.bind_some]
  rw [nm_map, zn_map, nm_bs, zn_bs, kIn, kWith]
  simp only [bs_app, bs_size]
  rw [grd_pos (by show 0 ≤ st ∧ st < ((5 : Nat) : Int); omega), grd_pos (by simp only [List.length_cons, List.length_nil]; omega), grd_pos (by show 0 ≤ z ∧ z < ((4 : Nat) : Int); omega), grd_pos (by simp only [List.length_append, List.length_cons, List.length_nil]; omega), Option.bind_some]
  dsimp only
  by_cases hs : st = 2
  · rw [cond_dt hs, if_pos hs, show f = ((f.toNat : Nat) : Int) by omega, l1Num_eq f.toNat (by omega), Int.toNat_natCast, Option.bind_some]
    simp only [bs_app, bs_size]
    rw [grd_pos (by simp only [List.length_append, List.length_cons, List.length_nil]; omega), grd_pos (by simp only [List.length_append, List.length_cons, List.length_nil]; omega)]
    simp
  · rw [cond_df hs, if_neg hs]
    simp
theorem index_ex (N : List (List UInt8)) (hN : N.length ≤ 100) (a : List UInt8) : ∃ i : Int, slices_Index___string_string_ (N.map bs) (bs a) = some i ∧
    ∀ k, k < N.length → (∀ j, j < N.length → N.getD j [] = N.getD k [] → j = k) → a = N.getD k [] → i = (k : Int) := by
  unfold slices_Index___string_string_
  obtain ⟨r, hr, hq⟩ := iter_ex (f := fun s => slices_Index___string_string__loop1 (N.map bs) (bs a) s) (miss := Sum.inr ()) N.length (fun k => decide (a = N.getD k [])) (fun k => Sum.inl (k : Int)) (fun k => (k : Int)) (fun k hk => by
    show slices_Index___string_string__loop1 (N.map bs) (bs a) (k : Int) = _
    unfold slices_Index___string_string__loop1
    rw [List.length_map, cond_dt (by omega), grd_pos (by omega), Int.toNat_natCast, get_bs, w64_nat (by omega)]
    by_cases e : a = N.getD k []
    · rw [cond_dt (congrArg bs e), decide_eq_true e]; rfl
    · rw [cond_df (fun e2 => e (bs_inj.1 e2)), decide_eq_false e]; rfl) (by
    show slices_Index___string_string__loop1 (N.map bs) (bs a) (N.length : Int) = _
    unfold slices_Index___string_string__loop1
    rw [List.length_map, cond_df (by omega)]) (s := (0 : Int)) rfl
  rw [hr]
  rcases hq with ⟨k, hk, hp, _, rfl⟩ | ⟨hn, rfl⟩
  · refine ⟨k, rfl, fun k' hk' hu e => ?_⟩
    have e2 : a = N.getD k [] := of_decide_eq_true hp
    rw [hu k hk (e2.symm.trans e)]
  · exact ⟨-1, rfl, fun k' hk' hu e => absurd e (of_decide_eq_false (hn k' hk'))⟩
theorem nm_one : ∀ k, k < NM.length → ∀ j, j < NM.length → NM.getD j [] = NM.getD k [] → j = k := by decide
theorem zn_one : ∀ k, k < ZN.length → ∀ j, j < ZN.length → ZN.getD j [] = ZN.getD k [] → j = k := by decide
theorem parse_nil : parseI (bs []) = (0, false) := by
  rcases parseI_cases [] with ⟨n, hn, e, _⟩ | ⟨e, _⟩
  · have := (itoa_length n hn).2
    rw [← e] at this
    simp at this
  · exact e
abbrev noG : GripState × Bool := ((0, 0, 0, 0, ()), false)
theorem impl_parse (s : List UInt8) (hs : s.length ≤ 2000000) : ∃ st z f, impl_ParseGrip (bs s) = some (if GP st z f 0 ∧ txt st z f = s then ((st, z, f, 0, ()), true) else noG) ∧
    ∀ st' z' f', GP st' z' f' 0 → txt st' z' f' = s → st = st' ∧ z = z' ∧ f = f' := by
  have c1 : strings_Cut (bs s) (ByteArray.mk #[32, 105, 110, 32]) = _ := cut_bs s 32 [105, 110, 32] hs
  have l1 := (cut_len s [32, 105, 110, 32]).2
  have c2 : strings_Cut (bs (Lib.cut s [32, 105, 110, 32]).2.1) (ByteArray.mk #[32, 119, 105, 116, 104, 32]) = _ := cut_bs (Lib.cut s [32, 105, 110, 32]).2.1 32 [119, 105, 116, 104, 32] (by omega)
  obtain ⟨i, e3, u3⟩ := index_ex NM (by decide) (Lib.cut s [32, 105, 110, 32]).1
  obtain ⟨j, e4, u4⟩ := index_ex ZN (by decide) (Lib.cut (Lib.cut s [32, 105, 110, 32]).2.1 [32, 119, 105, 116, 104, 32]).1
  refine ⟨i, j, (parseI (bs (Lib.cut (Lib.cut s [32, 105, 110, 32]).2.1 [32, 119, 105, 116, 104, 32]).2.1)).1, ?_, fun st' z' f' hg e => ?_⟩
  · unfold impl_ParseGrip
    rw [c1, Option.bind_some]
    dsimp only
    rw [c2, Option.bind_some]
    dsimp only
    rw [nm_map, zn_map, e3, Option.bind_some, e4, Option.bind_some, Option.bind_some]
    dsimp only
    unfold impl_ParseInt
    rw [Option.bind_some]
    dsimp only
    rw [isGrip_eq, Option.bind_some]
    by_cases hg : GP i j (parseI (bs (Lib.cut (Lib.cut s [32, 105, 110, 32]).2.1 [32, 119, 105, 116, 104, 32]).2.1)).1 0
    · rw [cond_ndt hg, implText hg, Option.bind_some]
      by_cases e : txt i j (parseI (bs (Lib.cut (Lib.cut s [32, 105, 110, 32]).2.1 [32, 119, 105, 116, 104, 32]).2.1)).1 = s
      · rw [cond_ndt (congrArg bs e), if_pos ⟨hg, e⟩]
      · rw [cond_ndf (fun e2 => e (bs_inj.1 e2)), if_neg (fun q => e q.2)]
    · rw [cond_ndf hg, if_neg (fun q => hg q.1)]
  · have hn := nm_facts (st := st') (by omega)
    have hz := zn_facts (z := z') (by omega)
    have q1 : Lib.cut s [32, 105, 110, 32] = (nm st', zn z' ++ tl6 st' f', true) := by
      rw [← e]; exact cut_app 32 [105, 110, 32] (nm st') (zn z' ++ tl6 st' f') hn.2
    rw [q1] at u3 u4 ⊢
    dsimp only at u3 u4 ⊢
    have hi : i = st' := by
      have := u3 st'.toNat (by show _ < 5; omega) (fun j hj => nm_one _ (by show _ < 5; omega) j hj) rfl
      omega
    have q2 : (Lib.cut (zn z' ++ tl6 st' f') [32, 119, 105, 116, 104, 32]).1 = zn z' ∧ (parseI (bs (Lib.cut (zn z' ++ tl6 st' f') [32, 119, 105, 116, 104, 32]).2.1)).1 = f' := by
      unfold tl6
      by_cases h2 : st' = 2
      · rw [if_pos h2, cut_app 32 [119, 105, 116, 104, 32] (zn z') (Lib.decDigits f'.toNat) hz.2]
        refine ⟨rfl, ?_⟩
        show (parseI (bs (Lib.decDigits f'.toNat))).1 = f'
        rw [parse_dec f'.toNat (by omega)]
        show ((f'.toNat : Nat) : Int) = f'
        omega
      · rw [if_neg h2, List.append_nil, cut_none 32 [119, 105, 116, 104, 32] (zn z') hz.2]
        refine ⟨rfl, ?_⟩
        show (parseI (bs [])).1 = f'
        rw [parse_nil]
        show 0 = f'
        omega
    have hj : j = z' := by
      have := u4 z'.toNat (by show _ < 4; omega) (fun j hj => zn_one _ (by show _ < 4; omega) j hj) q2.1
      omega
    exact ⟨hi, hj, q2.2⟩
theorem txt_inj {st z f st' z' f' : Int} (h : GP st z f 0) (h' : GP st' z' f' 0) (e : txt st z f = txt st' z' f') : st = st' ∧ z = z' ∧ f = f' := by
  obtain ⟨a, b, c, _, u⟩ := impl_parse (txt st z f) (by have := txt_len h; omega)
  obtain ⟨r1, r2, r3⟩ := u st z f h rfl
  obtain ⟨q1, q2, q3⟩ := u st' z' f' h' e.symm
  exact ⟨r1.symm.trans q1, r2.symm.trans q2, r3.symm.trans q3⟩
/-! ## The reference's reader -/
def fOf (v st : Int) : Int := if st = 2 then v else 0
theorem loop2_hit (s : List UInt8) (v st : Int) : ∃ r, iter (fun x => spec_ParseGrip_loop2 (bs s) v st x) (0 : Int) = some r ∧
    ((∃ k : Nat, k < 4 ∧ GP st k (fOf v st) 0 ∧ txt st k (fOf v st) = s ∧ r = .inl ((k : Int), fOf v st)) ∨ ((∀ k : Nat, k < 4 → ¬ (GP st k (fOf v st) 0 ∧ txt st k (fOf v st) = s)) ∧ r = .inr ())) := by
  obtain ⟨r, hr, hq⟩ := iter_ex (f := fun x => spec_ParseGrip_loop2 (bs s) v st x) (miss := Sum.inr ()) 4 (fun k => decide (GP st k (fOf v st) 0 ∧ txt st k (fOf v st) = s)) (fun k => Sum.inl ((k : Int), fOf v st)) (fun k => (k : Int)) (fun k hk => by
    show spec_ParseGrip_loop2 (bs s) v st (k : Int) = _
    unfold spec_ParseGrip_loop2
    have e : cond (decide (st = (2 : Int))) (some v) (some (0 : Int)) = some (fOf v st) := by
      unfold fOf
      by_cases h : st = 2
      · rw [cond_dt h, if_pos h]
      · rw [cond_df h, if_neg h]
    rw [cond_dt (by omega), e, Option.bind_some, l21Good_eq, Option.bind_some, w64_nat (by omega)]
    by_cases hg : GP st k (fOf v st) 0
    · rw [cond_dt hg, specText hg, Option.bind_some]
      by_cases e2 : txt st k (fOf v st) = s
      · rw [cond_dt (congrArg bs e2), if_pos (decide_eq_true ⟨hg, e2⟩)]
      · rw [cond_df (fun q => e2 (bs_inj.1 q)), if_neg (fun q => e2 (of_decide_eq_true q).2)]
    · rw [cond_df hg, if_neg (fun q => hg (of_decide_eq_true q).1)]) (by
    show spec_ParseGrip_loop2 (bs s) v st (4 : Int) = _
    unfold spec_ParseGrip_loop2
    rw [cond_df (by omega)]) (s := (0 : Int)) rfl
  refine ⟨r, hr, ?_⟩
  rcases hq with ⟨k, hk, hp, _, rfl⟩ | ⟨hn, rfl⟩
  · exact .inl ⟨k, hk, (of_decide_eq_true hp).1, (of_decide_eq_true hp).2, rfl⟩
  · exact .inr ⟨fun k hk => of_decide_eq_false (hn k hk), rfl⟩
theorem loop1_no (s : List UInt8) (v : Int) (h : ∀ st z f, GP st z f 0 → txt st z f ≠ s) : iter (fun x => spec_ParseGrip_loop1 (bs s) x.1 x.2) (v, (0 : Int)) = some (.inr ()) := by
  refine iter_for 5 (fun k => (v, (k : Int))) (fun k hk => ?_) ?_ rfl
  · show spec_ParseGrip_loop1 (bs s) v (k : Int) = _
    unfold spec_ParseGrip_loop1
    obtain ⟨r, hr, ⟨z, _, hg, e, _⟩ | ⟨_, rfl⟩⟩ := loop2_hit s v (k : Int)
    · exact absurd e (h _ _ _ hg)
    · rw [cond_dt (by omega), hr, Option.bind_some]
      show some (Lp.go (v, w64 ((k : Int) + 1))) = _
      rw [w64_nat (by omega)]
  · show spec_ParseGrip_loop1 (bs s) v (5 : Int) = _
    unfold spec_ParseGrip_loop1
    rw [cond_df (by omega)]
theorem loop1_yes (st z f v : Int) (hg : GP st z f 0) (hv : fOf v st = f) : iter (fun x => spec_ParseGrip_loop1 (bs (txt st z f)) x.1 x.2) (v, (0 : Int)) = some (.inl (st, z, f)) := by
  obtain ⟨r, hr, hq⟩ := iter_ex (f := fun x => spec_ParseGrip_loop1 (bs (txt st z f)) x.1 x.2) (miss := Sum.inr ()) 5 (fun k => decide ((k : Int) = st)) (fun _ => Sum.inl (st, z, f)) (fun k => (v, (k : Int))) (fun k hk => by
    show spec_ParseGrip_loop1 (bs (txt st z f)) v (k : Int) = _
    unfold spec_ParseGrip_loop1
    obtain ⟨r, hr, ⟨z', hz', hg', e, rfl⟩ | ⟨hn, rfl⟩⟩ := loop2_hit (txt st z f) v (k : Int)
    · obtain ⟨q1, q2, q3⟩ := txt_inj hg' hg e
      rw [cond_dt (by omega), hr, Option.bind_some, if_pos (decide_eq_true q1)]
      show some (Lp.out (Sum.inl ((k : Int), (z' : Int), fOf v (k : Int)))) = _
      rw [q3, q2, q1]
    · have hne : ¬ (k : Int) = st := fun e => by
        refine hn z.toNat (by omega) ?_
        rw [e, hv, show ((z.toNat : Nat) : Int) = z by omega]
        exact ⟨hg, rfl⟩
      rw [cond_dt (by omega), hr, Option.bind_some, if_neg (fun q => hne (of_decide_eq_true q))]
      show some (Lp.go (v, w64 ((k : Int) + 1))) = _
      rw [w64_nat (by omega)]) (by
    show spec_ParseGrip_loop1 (bs (txt st z f)) v (5 : Int) = _
    unfold spec_ParseGrip_loop1
    rw [cond_df (by omega)]) (s := (v, (0 : Int))) rfl
  rw [hr]
  rcases hq with ⟨k, hk, hp, _, rfl⟩ | ⟨hn, rfl⟩
  · rfl
  · exact absurd (show ((st.toNat : Nat) : Int) = st by omega) (of_decide_eq_false (hn st.toNat (by omega)))
theorem words (st z f : Int) (hg : GP st z f 0) : spl 32 (txt st z f) = if st = 2 then [nm st, [105, 110], zn z, [119, 105, 116, 104], Lib.decDigits f.toNat] else [nm st, [105, 110], zn z] := by
  have hn := (nm_facts (st := st) (by omega)).2
  have hz := (zn_facts (z := z) (by omega)).2
  unfold txt
  rw [spl_app 32 _ _ hn, show ([105, 110, 32] ++ (zn z ++ tl6 st f) : List UInt8) = [105, 110] ++ 32 :: (zn z ++ tl6 st f) from rfl, spl_app 32 [105, 110] _ (by decide)]
  unfold tl6
  by_cases h2 : st = 2
  · rw [if_pos h2, if_pos h2, spl_app 32 _ _ hz, show ([119, 105, 116, 104, 32] ++ Lib.decDigits f.toNat : List UInt8) = [119, 105, 116, 104] ++ 32 :: Lib.decDigits f.toNat from rfl, spl_app 32 [119, 105, 116, 104] _ (by decide), spl_not 32 _ (dec_no 32 (by decide) _)]
  · rw [if_neg h2, if_neg h2, List.append_nil, spl_not 32 _ hz]
theorem spl_count (c : UInt8) : ∀ l : List UInt8, (spl c l).length ≤ l.length + 1 := by
  intro l
  induction l with
  | nil => simp [spl]
  | cons b l ih =>
    unfold spl
    split
    · simp; omega
    · cases hq : spl c l with
      | nil => simp
      | cons q qs => rw [hq] at ih; simp at ih ⊢; omega
theorem spec_parse (s : List UInt8) (hs : s.length ≤ 2000000) : (∃ st z f, GP st z f 0 ∧ txt st z f = s ∧ spec_ParseGrip (bs s) = some ((st, z, f, 0, ()), true)) ∨ ((∀ st z f, GP st z f 0 → txt st z f ≠ s) ∧ spec_ParseGrip (bs s) = some noG) := by
  have e1 : spec_l1Split (bs s) (32 : Int) = some ((spl 32 s).map bs) := split_eq s 32 (by omega)
  unfold spec_ParseGrip
  rw [e1, Option.bind_some, bs_size, List.length_map]
  by_cases hx : ∃ st z f, GP st z f 0 ∧ txt st z f = s
  · obtain ⟨st, z, f, hg, e⟩ := hx
    have hlen := txt_len hg
    rw [e] at hlen
    have hwd := words st z f hg
    rw [e] at hwd
    refine .inl ⟨st, z, f, hg, e, ?_⟩
    rw [cond_df (by omega)]
    have key : ∃ (v : Int) (n : Nat), (spl 32 s).length = n + 1 ∧ 3 ≤ n + 1 ∧ n ≤ 10 ∧ fOf v st = f ∧ ∃ b, spec_l1Read (bs ((spl 32 s).getD n [])) = some (v, b) := by
      by_cases h2 : st = 2
      · rw [if_pos h2] at hwd
        rw [hwd]
        refine ⟨f, 4, rfl, by omega, by omega, if_pos h2, true, ?_⟩
        have h3 := dec_four (f := f) (by omega)
        show spec_l1Read (bs (Lib.decDigits f.toNat)) = _
        rw [l1Read_eq _ (by omega), parse_dec f.toNat (by omega), show ((f.toNat : Nat) : Int) = f by omega]
      · rw [if_neg h2] at hwd
        rw [hwd]
        have hz := (zn_facts (z := z) (by omega)).1
        refine ⟨(parseI (bs (zn z))).1, 2, rfl, by omega, by omega, ?_, (parseI (bs (zn z))).2, ?_⟩
        · unfold fOf; rw [if_neg h2]; omega
        · show spec_l1Read (bs (zn z)) = _
          rw [l1Read_eq _ (by omega)]
    obtain ⟨v, n, hn, h3, h10, hv, b, hr⟩ := key
    have hwn : w64 (((n + 1 : Nat) : Int) - 1) = (n : Int) := by rw [w64_id (by omega) (by omega)]; omega
    rw [hn, cond_df (by omega), hwn, grd_pos (by omega), Int.toNat_natCast, get_bs, hr, Option.bind_some, ← e, loop1_yes st z f v hg hv]
    rfl
  · have hx : ∀ st z f, GP st z f 0 → txt st z f ≠ s := fun st z f h1 h2 => hx ⟨st, z, f, h1, h2⟩
    refine .inr ⟨hx, ?_⟩
    by_cases h40 : (40 : Int) < (s.length : Int)
    · rw [cond_dt h40]
    · rw [cond_df h40]
      by_cases h3 : ((spl 32 s).length : Int) < 3
      · rw [cond_dt h3]
      · have hsl := spl_count 32 s
        have hlast : ((spl 32 s).getD ((spl 32 s).length - 1) []).length ≤ s.length := spl_part 32 s _ (by rw [getD_eq _ _ _ (show (spl 32 s).length - 1 < (spl 32 s).length by omega)]; exact List.getElem_mem _)
        have hwn : w64 (((spl 32 s).length : Int) - 1) = (((spl 32 s).length - 1 : Nat) : Int) := by rw [w64_id (by omega) (by omega)]; omega
        rw [cond_df h3, hwn, grd_pos (by omega), Int.toNat_natCast, get_bs, l1Read_eq ((spl 32 s).getD ((spl 32 s).length - 1) []) (Nat.le_trans hlast (by omega)), Option.bind_some, loop1_no s _ hx]
        rfl
theorem parses (s : List UInt8) (hs : s.length ≤ 2000000) : (∃ st z f, GP st z f 0 ∧ txt st z f = s ∧ impl_ParseGrip (bs s) = some ((st, z, f, 0, ()), true) ∧ spec_ParseGrip (bs s) = some ((st, z, f, 0, ()), true)) ∨ (impl_ParseGrip (bs s) = some noG ∧ spec_ParseGrip (bs s) = some noG) := by
  obtain ⟨st, z, f, e, u⟩ := impl_parse s hs
  rcases spec_parse s hs with ⟨st', z', f', hg, ht, e2⟩ | ⟨hn, e2⟩
  · obtain ⟨rfl, rfl, rfl⟩ := u st' z' f' hg ht
    rw [if_pos ⟨hg, ht⟩] at e
    exact .inl ⟨_, _, _, hg, ht, e, e2⟩
  · rw [if_neg (fun q => hn _ _ _ q.1 q.2)] at e
    exact .inr ⟨e, e2⟩
theorem texts (st z f n : Int) : (GP st z f n ∧ impl_GripText (st, z, f, n, ()) = some (bs (txt st z f), true) ∧ spec_GripText (st, z, f, n, ()) = some (bs (txt st z f), true)) ∨
    (¬ GP st z f n ∧ impl_GripText (st, z, f, n, ()) = some (bs [], false) ∧ spec_GripText (st, z, f, n, ()) = some (bs [], false)) := by
  unfold impl_GripText spec_GripText
  rw [isGrip_eq, l21Good_eq, Option.bind_some, Option.bind_some]
  by_cases h : GP st z f n
  · rw [cond_ndt h, cond_ndt h, implText h, specText h]
    exact .inl ⟨h, rfl, rfl⟩
  · rw [cond_ndf h, cond_ndf h]
    exact .inr ⟨h, rfl, rfl⟩
theorem GP_zero {st z f n : Int} (h : GP st z f n) : GP st z f 0 := by omega
theorem drawParse_ok (code : List Int) (hb : ∀ x ∈ code, 0 ≤ x ∧ x ≤ 255) (hl : code.length ≤ 1048576) : ∃ s, spec_DrawParseGrip code = some (bs s) ∧ s.length ≤ 2000000 := by
  unfold spec_DrawParseGrip
  obtain ⟨⟨st, z, f, n, ⟨⟩⟩, ⟨c1, t1, s1, u1⟩, e1, hc1, _⟩ := gripState_ok _ 0 (cg0 code hb hl) (by omega)
  rw [e1, Option.bind_some]
  dsimp only
  have key : ∃ A b, spec_GripText (st, z, f, n, ()) = some (bs A, b) ∧ A.length ≤ 100 := by
    rcases texts st z f n with ⟨h1, _, h3⟩ | ⟨h1, _, h3⟩
    · exact ⟨_, _, h3, by have := txt_len h1; omega⟩
    · exact ⟨_, _, h3, by simp⟩
  obtain ⟨A, b, eA, lA⟩ := key
  rw [eA, Option.bind_some]
  dsimp only
  have key2 : ∃ B : List UInt8, (cond (!b) ((some ((ByteArray.mk #[115, 104, 117, 116, 32, 105, 110, 32, 114, 111, 112, 101, 32, 119, 105, 116, 104, 32, 57, 48, 48]), c1, t1, s1))) ((some (bs A, c1, t1, s1)))) = some (bs B, c1, t1, s1) ∧ B.length ≤ 100 := by
    cases b
    · exact ⟨[115, 104, 117, 116, 32, 105, 110, 32, 114, 111, 112, 101, 32, 119, 105, 116, 104, 32, 57, 48, 48], rfl, by decide⟩
    · exact ⟨A, rfl, lA⟩
  obtain ⟨B, eB, lB⟩ := key2
  rw [eB, Option.bind_some]
  dsimp only
  obtain ⟨q, ⟨c3, t3, s3, u3⟩, e3, hc3, _⟩ := one_ok (c1, t1, s1, ()) _ 4 hc1 (by omega)
  rw [e3, Option.bind_some]
  cases q
  · exact ⟨B, rfl, by omega⟩
  · obtain ⟨w, c4, e4, _, hw⟩ := spoilt_ok (c3, t3, s3, ()) _ B [115, 32, 49, 48] (by omega) rfl hc3 (by omega)
    obtain ⟨W, rfl⟩ := bs_ex w
    simp only [cond_true]
    have e4' : spec_l1Cur_spoilt (c3, t3, s3, ()) (bs B) (ByteArray.mk #[115, 32, 49, 48]) = some (bs W, c4) := e4
    rw [e4', Option.bind_some]
    rw [bs_size] at hw
    exact ⟨W, rfl, by omega⟩
end Go.Proofs.YtbjhcjhkmppocaaDoor
