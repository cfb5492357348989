/-
  Plain laws of the readers of a weather record's text, of the side wind and of the strongest wind.
-/
import Derived.Test.YtaajchikfgbecaaGreatDoorZ82
namespace Go.Proofs.YtaajchikfgbecaaGreatDoor
open Go.RowKit

theorem eta_w (r : Weather) : ((r.1, r.2.1, r.2.2.1, r.2.2.2.1, r.2.2.2.2.1, ()) : Weather) = r := rfl
abbrev noW : Weather × Bool := ((0, 0, 0, 0, false, ()), false)
/-- A reader's answer is the one that its text tells. -/
def Reads (X : Option (Weather × Bool)) (s : List UInt8) : Prop :=
  ∃ x, X = some x ∧ (x = noW ∨ ∃ mi wa wi te st, RW mi wa wi te ∧ lnW mi wa wi te st = s ∧ x = (mkW mi wa wi te st, true)) ∧
    ∀ mi wa wi te st, RW mi wa wi te → lnW mi wa wi te st = s → x = (mkW mi wa wi te st, true)
theorem Reads.same {X Y : Option (Weather × Bool)} {s : List UInt8} (h1 : Reads X s) (h2 : Reads Y s) : X = Y := by
  obtain ⟨x, e1, a1, u1⟩ := h1
  obtain ⟨y, e2, a2, u2⟩ := h2
  rw [e1, e2]
  rcases a1 with rfl | ⟨mi, wa, wi, te, st, hr, ht, rfl⟩
  · rcases a2 with rfl | ⟨mi, wa, wi, te, st, hr, ht, rfl⟩
    · rfl
    · rw [u1 mi wa wi te st hr ht]
  · rw [u2 mi wa wi te st hr ht]
theorem reads_no {s : List UInt8} (h : ∀ mi wa wi te st, RW mi wa wi te → lnW mi wa wi te st ≠ s) : Reads (some noW) s :=
  ⟨_, rfl, .inl rfl, fun mi wa wi te st hr ht => absurd ht (h mi wa wi te st hr)⟩
/-- The last look of both readers. -/
theorem reads_tail (c : Weather) (s : List UInt8) (X : Option ByteArray) (hX : ∀ mi wa wi te st, RW mi wa wi te → c = mkW mi wa wi te st → X = some (bs (lnW mi wa wi te st))) (hu : ∀ mi wa wi te st, RW mi wa wi te → lnW mi wa wi te st = s → c = mkW mi wa wi te st) :
    Reads (cond (!(decide (okW c))) (some noW) (X.bind fun y => cond (!decide (y = bs s)) (some noW) (some (c, true)))) s := by
  by_cases hc : okW c
  · obtain ⟨mi, wa, wi, te, st, e, hr⟩ := w_out hc
    rw [cond_ndt hc, hX mi wa wi te st hr e, Option.bind_some]
    by_cases ht : lnW mi wa wi te st = s
    · rw [cond_ndt (congrArg bs ht)]
      refine ⟨_, rfl, .inr ⟨mi, wa, wi, te, st, hr, ht, by rw [e]⟩, fun mi' wa' wi' te' st' hr' ht' => ?_⟩
      rw [hu mi' wa' wi' te' st' hr' ht']
    · rw [cond_ndf (fun q => ht (bs_inj.1 q))]
      refine reads_no fun mi' wa' wi' te' st' hr' ht' => ?_
      have e2 := hu mi' wa' wi' te' st' hr' ht'
      rw [e] at e2
      obtain ⟨q1, q2, q3, q4, q5, _⟩ : (mi : Int) = mi' ∧ wi = wi' ∧ (wa : Int) = wa' ∧ te = te' ∧ st = st' ∧ True := by
        have p1 := congrArg (fun z : Weather => z.1) e2
        have p2 := congrArg (fun z : Weather => z.2.1) e2
        have p3 := congrArg (fun z : Weather => z.2.2.1) e2
        have p4 := congrArg (fun z : Weather => z.2.2.2.1) e2
        have p5 := congrArg (fun z : Weather => z.2.2.2.2.1) e2
        exact ⟨p1, p2, p3, p4, p5, trivial⟩
      obtain rfl : mi = mi' := by omega
      obtain rfl : wa = wa' := by omega
      subst q2 q4 q5
      exact ht ht'
  · rw [cond_ndf hc]
    refine reads_no fun mi wa wi te st hr ht => hc ?_
    rw [hu mi wa wi te st hr ht]
    exact okW_mk st hr
theorem parts (mi wa : Nat) (wi te : Int) (st : Bool) : splitB (bs (lnW mi wa wi te st)) (bs [44, 32]) = if st = true then [bs (hdW mi wa wi), bs (tmW te), bs [115, 116, 111, 114, 109]] else [bs (hdW mi wa wi), bs (tmW te)] := by
  have h1 : (44 : UInt8) ∉ hdW mi wa wi := by
    have a := dec_no 44 (by decide) mi
    have b := dec_no 44 (by decide) wa
    have c := tnL_no 44 (by decide) wi
    unfold hdW
    simp [a, b, c]
  have h2 : (44 : UInt8) ∉ tmW te := by
    have c := tnL_no 44 (by decide) te
    unfold tmW
    simp [c]
  unfold lnW
  rw [split_app 44 [32] _ _ h1]
  unfold stW
  cases st
  · rw [if_neg (by decide), if_neg (by decide), List.append_nil, split_none 44 [32] _ h2]
  · rw [if_pos rfl, if_pos rfl, split_app 44 [32] _ _ h2, split_none 44 [32] _ (by decide)]
theorem words7 (mi wa : Nat) (wi te : Int) (st : Bool) : spl 32 (lnW mi wa wi te st) = if st = true then [Lib.decDigits mi ++ [58], tnL wi, [109, 47, 115], [102, 114, 111, 109], Lib.decDigits wa ++ [44], tnL te, [67, 44], [115, 116, 111, 114, 109]] else [Lib.decDigits mi ++ [58], tnL wi, [109, 47, 115], [102, 114, 111, 109], Lib.decDigits wa ++ [44], tnL te, [67]] := by
  have a := dec_no 32 (by decide) mi
  have b := dec_no 32 (by decide) wa
  have c := tnL_no 32 (by decide) wi
  have d := tnL_no 32 (by decide) te
  have e : lnW mi wa wi te st = (Lib.decDigits mi ++ [58]) ++ 32 :: (tnL wi ++ 32 :: ([109, 47, 115] ++ 32 :: ([102, 114, 111, 109] ++ 32 :: ((Lib.decDigits wa ++ [44]) ++ 32 :: (tnL te ++ 32 :: (67 :: stW st)))))) := by
    simp [lnW, hdW, tmW]
  rw [e, spl_app 32 _ _ (by simp [a]), spl_app 32 _ _ c, spl_app 32 [109, 47, 115] _ (by decide), spl_app 32 [102, 114, 111, 109] _ (by decide), spl_app 32 _ _ (by simp [b]), spl_app 32 _ _ d]
  cases st
  · rfl
  · rfl
theorem trimC (te : Int) (h : -999 ≤ te ∧ te ≤ 999) : strings_TrimSuffix (bs (tmW te)) (ByteArray.mk #[32, 67]) = some (bs (tnL te)) := by
  have hl := tnL_len h
  have e : strings_TrimSuffix (bs (tmW te)) (ByteArray.mk #[32, 67]) = _ := trimS_bs (tmW te) [32, 67] (by unfold tmW; simp; omega) (by decide)
  rw [e]
  unfold tmW
  rw [cutS_app]
theorem impl_reads (s : List UInt8) (hs : s.length ≤ 2000000) : Reads (impl_ParseWeather (bs s)) s := by
  have e1 : strings_Split (bs s) (ByteArray.mk #[44, 32]) = some (splitB (bs s) (bs [44, 32])) := by
    unfold strings_Split
    rw [grd_pos ⟨by rw [bs_size]; omega, by decide⟩]
  have hle : ∀ k, ∃ A, (splitB (bs s) (bs [44, 32])).getD k (ByteArray.mk #[]) = bs A ∧ A.length ≤ 2000000 := fun k => by
    obtain ⟨A, hA⟩ := bs_ex ((splitB (bs s) (bs [44, 32])).getD k (ByteArray.mk #[]))
    refine ⟨A, hA, ?_⟩
    rcases Nat.lt_or_ge k (splitB (bs s) (bs [44, 32])).length with h | h
    · have hm : (splitB (bs s) (bs [44, 32])).getD k (ByteArray.mk #[]) ∈ splitB (bs s) (bs [44, 32]) := by rw [getD_eq _ _ _ h]; exact List.getElem_mem h
      have := splitB_len (bs [44, 32]) _ (bs s) _ hm
      rw [hA, bs_size, bs_size] at this; omega
    · rw [List.getD_eq_getElem?_getD, List.getElem?_eq_none h] at hA
      have := bs_inj.1 (show bs [] = bs A from hA)
      rw [← this]; simp
  unfold impl_ParseWeather
  rw [e1, Option.bind_some]
  by_cases h2 : ((splitB (bs s) (bs [44, 32])).length : Int) < 2
  · rw [cond_dt h2]
    refine reads_no fun mi wa wi te st hr ht => ?_
    rw [← ht, parts] at h2
    cases st <;> simp at h2
  rw [cond_df h2]
  by_cases h3 : (3 : Int) < ((splitB (bs s) (bs [44, 32])).length : Int)
  · rw [cond_dt h3]
    refine reads_no fun mi wa wi te st hr ht => ?_
    rw [← ht, parts] at h3
    cases st <;> simp at h3
  rw [cond_df h3, grd_pos (by omega), show (0 : Int).toNat = 0 from rfl, show (1 : Int).toNat = 1 from rfl]
  obtain ⟨A, eA, lA⟩ := hle 0
  obtain ⟨B, eB, lB⟩ := hle 1
  have c1 : strings_Cut (bs A) (ByteArray.mk #[58, 32]) = _ := cut_bs A 58 [32] lA
  have l1 := (cut_len A [58, 32]).2
  have c2 : strings_Cut (bs (Lib.cut A [58, 32]).2.1) (ByteArray.mk #[32, 109, 47, 115, 32, 102, 114, 111, 109, 32]) = _ := cut_bs (Lib.cut A [58, 32]).2.1 32 [109, 47, 115, 32, 102, 114, 111, 109, 32] (by omega)
  have l2 := (cut_len (Lib.cut A [58, 32]).2.1 [32, 109, 47, 115, 32, 102, 114, 111, 109, 32]).1
  have e5 : strings_TrimSuffix (bs B) (ByteArray.mk #[32, 67]) = _ := trimS_bs B [32, 67] lB (by decide)
  have l5 := cutS_len B [32, 67]
  rw [eA, c1, Option.bind_some]
  dsimp only
  rw [c2, Option.bind_some]
  dsimp only
  rw [read_eq _ (by omega), Option.bind_some, grd_pos (by omega), eB, e5, Option.bind_some, read_eq _ (by omega), Option.bind_some, Option.bind_some]
  dsimp only
  unfold impl_ParseInt
  rw [Option.bind_some, Option.bind_some]
  dsimp only
  have key := reads_tail ((parseI (bs (Lib.cut A [58, 32]).1)).1, rdT (Lib.cut (Lib.cut A [58, 32]).2.1 [32, 109, 47, 115, 32, 102, 114, 111, 109, 32]).1, (parseI (bs (Lib.cut (Lib.cut A [58, 32]).2.1 [32, 109, 47, 115, 32, 102, 114, 111, 109, 32]).2.1)).1, rdT (cutS B [32, 67]), decide (((splitB (bs s) (bs [44, 32])).length : Int) = 3), ()) s
    (impl_weatherText ((parseI (bs (Lib.cut A [58, 32]).1)).1, rdT (Lib.cut (Lib.cut A [58, 32]).2.1 [32, 109, 47, 115, 32, 102, 114, 111, 109, 32]).1, (parseI (bs (Lib.cut (Lib.cut A [58, 32]).2.1 [32, 109, 47, 115, 32, 102, 114, 111, 109, 32]).2.1)).1, rdT (cutS B [32, 67]), decide (((splitB (bs s) (bs [44, 32])).length : Int) = 3), ()))
    (fun mi wa wi te st hr e => by rw [e]; exact text_impl st hr) (fun mi wa wi te st hr ht => by
      have b1 := hr.h1; have b2 := hr.h2; have b3 := hr.h3; have b4 := hr.h4
      rw [← ht, parts] at eA eB
      have hA : A = hdW mi wa wi := by
        cases st
        · exact (bs_inj.1 (show bs (hdW mi wa wi) = bs A from eA)).symm
        · exact (bs_inj.1 (show bs (hdW mi wa wi) = bs A from eA)).symm
      have hB : B = tmW te := by
        cases st
        · exact (bs_inj.1 (show bs (tmW te) = bs B from eB)).symm
        · exact (bs_inj.1 (show bs (tmW te) = bs B from eB)).symm
      have q1 : Lib.cut A [58, 32] = (Lib.decDigits mi, tnL wi ++ 32 :: ([109, 47, 115, 32, 102, 114, 111, 109, 32] ++ Lib.decDigits wa), true) := by
        rw [hA]; exact cut_app 58 [32] _ _ (dec_no 58 (by decide) mi)
      have q2 : Lib.cut (tnL wi ++ 32 :: ([109, 47, 115, 32, 102, 114, 111, 109, 32] ++ Lib.decDigits wa)) [32, 109, 47, 115, 32, 102, 114, 111, 109, 32] = (tnL wi, Lib.decDigits wa, true) := cut_app 32 [109, 47, 115, 32, 102, 114, 111, 109, 32] _ _ (tnL_no 32 (by decide) wi)
      rw [q1]
      dsimp only
      rw [q2]
      dsimp only
      rw [parse_dec mi (by omega), parse_dec wa (by omega), read_tn wi (by omega), hB, show cutS (tmW te) [32, 67] = tnL te from cutS_app _ _, read_tn te (by omega), ← ht, parts]
      cases st <;> rfl)
  rw [isWeather_eq ((parseI (bs (Lib.cut A [58, 32]).1)).1, rdT (Lib.cut (Lib.cut A [58, 32]).2.1 [32, 109, 47, 115, 32, 102, 114, 111, 109, 32]).1, (parseI (bs (Lib.cut (Lib.cut A [58, 32]).2.1 [32, 109, 47, 115, 32, 102, 114, 111, 109, 32]).2.1)).1, rdT (cutS B [32, 67]), decide (((splitB (bs s) (bs [44, 32])).length : Int) = 3), ()), Option.bind_some]
  exact key
theorem dig_any (l : List UInt8) (h : l.length ≤ 2000000) : ∃ v, spec_l17Digits (bs l) = some v := ⟨_, dig_eq l h⟩
theorem spec_reads (s : List UInt8) (hs : s.length ≤ 2000000) : Reads (spec_ParseWeather (bs s)) s := by
  have e1 : spec_l1Split (bs s) (32 : Int) = some ((spl 32 s).map bs) := split_eq s 32 (by omega)
  have hw : ∀ k, ((spl 32 s).getD k []).length ≤ 2000000 := fun k => by
    rcases Nat.lt_or_ge k (spl 32 s).length with h | h
    · have := spl_part 32 s ((spl 32 s).getD k []) (by rw [getD_eq _ _ _ h]; exact List.getElem_mem h)
      omega
    · rw [List.getD_eq_getElem?_getD, List.getElem?_eq_none h]; simp
  unfold spec_ParseWeather
  rw [e1, Option.bind_some, bs_size]
  have no : Reads (some noW) s → Reads (some noW) s := id
  by_cases h60 : (60 : Int) < (s.length : Int)
  · rw [cond_dt h60, joinx_out]
    refine reads_no fun mi wa wi te st hr ht => ?_
    have := lnW_len st hr
    rw [ht] at this; omega
  rw [cond_df h60, List.length_map]
  have go : ((spl 32 s).length = 7 ∨ (spl 32 s).length = 8) → Reads (joinx (some (.go ((spl 32 s).map bs))) (fun (z2 : (List ByteArray)) => ((grd (0 ≤ (0 : Int) ∧ (0 : Int) < (z2.length : Int)) ((spec_l17Digits (z2.getD ((0 : Int).toNat) (ByteArray.mk #[]))).bind fun y3 => (grd (0 ≤ (1 : Int) ∧ (1 : Int) < (z2.length : Int)) ((spec_l17Digits (z2.getD ((1 : Int).toNat) (ByteArray.mk #[]))).bind fun y4 => (grd (0 ≤ (4 : Int) ∧ (4 : Int) < (z2.length : Int)) ((spec_l17Digits (z2.getD ((4 : Int).toNat) (ByteArray.mk #[]))).bind fun y5 => (grd (0 ≤ (5 : Int) ∧ (5 : Int) < (z2.length : Int)) ((spec_l17Digits (z2.getD ((5 : Int).toNat) (ByteArray.mk #[]))).bind fun y6 => (some ((Tg.mk : Tg 1), y3, y4, y5, y6, (decide ((z2.length : Int) = (8 : Int))))))))))))).bind fun z7 => ((spec_l17One (z7.2.1, z7.2.2.1, z7.2.2.2.1, z7.2.2.2.2.1, z7.2.2.2.2.2, ())).bind fun y8 => (cond (!y8) ((some (((0 : Int), (0 : Int), (0 : Int), (0 : Int), false, ()), false))) ((spec_l17Text (z7.2.1, z7.2.2.1, z7.2.2.2.1, z7.2.2.2.2.1, z7.2.2.2.2.2, ())).bind fun y9 => (cond (!decide (y9 = (bs s))) ((some (((0 : Int), (0 : Int), (0 : Int), (0 : Int), false, ()), false))) ((some ((z7.2.1, z7.2.2.1, z7.2.2.2.1, z7.2.2.2.2.1, z7.2.2.2.2.2, ()), true)))))))))) s := fun hn => by
    rw [joinx_go]
    simp only [List.length_map, get_bs]
    rw [show (0 : Int).toNat = 0 from rfl, show (1 : Int).toNat = 1 from rfl, show (4 : Int).toNat = 4 from rfl, show (5 : Int).toNat = 5 from rfl]
    obtain ⟨v0, d0⟩ := dig_any _ (hw 0)
    obtain ⟨v1, d1⟩ := dig_any _ (hw 1)
    obtain ⟨v4, d4⟩ := dig_any _ (hw 4)
    obtain ⟨v5, d5⟩ := dig_any _ (hw 5)
    rw [grd_pos (by omega), d0, Option.bind_some, grd_pos (by omega), d1, Option.bind_some, grd_pos (by omega), d4, Option.bind_some, grd_pos (by omega), d5, Option.bind_some, Option.bind_some]
    dsimp only
    rw [l17One_eq (v0, v1, v4, v5, decide (((spl 32 s).length : Int) = 8), ()), Option.bind_some]
    refine reads_tail (v0, v1, v4, v5, decide (((spl 32 s).length : Int) = 8), ()) s _ (fun mi wa wi te st hr e => ?_) (fun mi wa wi te st hr ht => ?_)
    · rw [e]; exact text_spec st hr
    · have b1 := hr.h1; have b2 := hr.h2; have b3 := hr.h3; have b4 := hr.h4
      rw [← ht, words7] at d0 d1 d4 d5
      have q0 : spec_l17Digits (bs (Lib.decDigits mi ++ [58])) = some v0 := by cases st <;> exact d0
      have q1 : spec_l17Digits (bs (tnL wi)) = some v1 := by cases st <;> exact d1
      have q4 : spec_l17Digits (bs (Lib.decDigits wa ++ [44])) = some v4 := by cases st <;> exact d4
      have q5 : spec_l17Digits (bs (tnL te)) = some v5 := by cases st <;> exact d5
      rw [dig_num mi 58 (by decide) (by omega)] at q0
      rw [dig_tn wi (by omega)] at q1
      rw [dig_num wa 44 (by decide) (by omega)] at q4
      rw [dig_tn te (by omega)] at q5
      rw [← Option.some.inj q0, ← Option.some.inj q1, ← Option.some.inj q4, ← Option.some.inj q5, ← ht, words7]
      cases st <;> rfl
  by_cases h7 : ((spl 32 s).length : Int) = 7
  · rw [cond_ndt h7]
    exact go (.inl (by omega))
  rw [cond_ndf h7]
  by_cases h8 : ((spl 32 s).length : Int) = 8
  · rw [cond_ndt h8]
    exact go (.inr (by omega))
  rw [cond_ndf h8, joinx_out]
  refine reads_no fun mi wa wi te st hr ht => ?_
  rw [← ht, words7] at h7 h8
  cases st
  · exact h7 rfl
  · exact h8 rfl
end Go.Proofs.YtaajchikfgbecaaGreatDoor
