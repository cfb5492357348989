/-
  Plain laws of the log: reading records, and the laws of its functions.
-/
import Derived.Test.YtppiaacfnoifkaaDoorU2
namespace Go.Proofs.YtppiaacfnoifkaaDoor
open Go.RowKit

/-! ### One line -/
def preL (k : Nat) : List UInt8 := Lib.decDigits k ++ [32]
/-- The record that a line encodes as number k. -/
def decL (k : Nat) (l : List UInt8) : Option (List UInt8 × List UInt8) :=
  if sealL (bef 35 l) = l ∧ (bef 35 l).take (preL k).length = preL k ∧ (64 : UInt8) ∈ (bef 35 l).drop (preL k).length then
    if goodB (bef 64 ((bef 35 l).drop (preL k).length)) (((bef 35 l).drop (preL k).length).drop ((bef 64 ((bef 35 l).drop (preL k).length)).length + 1)) = true then
      some (bef 64 ((bef 35 l).drop (preL k).length), ((bef 35 l).drop (preL k).length).drop ((bef 64 ((bef 35 l).drop (preL k).length)).length + 1)) else none
  else none
theorem split64 (x : List UInt8) (h : (64 : UInt8) ∈ x) : x = bef 64 x ++ [64] ++ x.drop ((bef 64 x).length + 1) := by
  obtain ⟨r, e⟩ := bef_split 64 x h
  have h2 : x.drop ((bef 64 x).length + 1) = r := by
    conv => lhs; rw [e]
    rw [bef_app 64 _ _ (bef_not 64 x)]
    simp
  rw [h2]
  conv => lhs; rw [e]
  simp
/-- What a decoded line is. -/
theorem decL_some {k : Nat} {l c r : List UInt8} (h : decL k l = some (c, r)) : goodB c r = true ∧ l ++ [10] = lineL k c r ∧ bef 35 l = textL k c r := by
  unfold decL at h
  split at h
  · rename_i h1
    split at h
    · rename_i h2
      simp only [Option.some.injEq, Prod.mk.injEq] at h
      obtain ⟨rfl, rfl⟩ := h
      have e : bef 35 l = textL k (bef 64 ((bef 35 l).drop (preL k).length)) (((bef 35 l).drop (preL k).length).drop ((bef 64 ((bef 35 l).drop (preL k).length)).length + 1)) := by
        have e1 := split64 _ h1.2.2
        have e2 : bef 35 l = preL k ++ (bef 35 l).drop (preL k).length := by
          conv => lhs; rw [← List.take_append_drop (preL k).length (bef 35 l)]
          rw [h1.2.1]
        conv => lhs; rw [e2]
        conv => lhs; rw [e1]
        simp [textL, preL]
      refine ⟨h2, ?_, e⟩
      unfold lineL
      rw [← e, h1.1]
    · cases h
  · cases h
theorem decL_length {k : Nat} {l c r : List UInt8} (hk : k < 1000) (h : decL k l = some (c, r)) : l.length ≤ 399 ∧ (textL k c r).length ≤ 380 := by
  obtain ⟨hg, e, e2⟩ := decL_some h
  obtain ⟨g1, g2, g3, _⟩ := goodB_out hg
  have h2 := textL_length k c r (by omega)
  have h3 := sealL_length (textL k c r)
  have := congrArg List.length e
  simp only [lineL, List.length_append, List.length_cons, List.length_nil] at this
  omega
theorem cutP_eq (t p : List UInt8) (ht : t.length ≤ 4000000000) (hp : p.length ≤ 4000000000) : strings_CutPrefix (bs t) (bs p) = some (if t.take p.length = p then (bs (t.drop p.length), true) else (bs t, false)) := by
  unfold strings_CutPrefix internal_stringslite_CutPrefix internal_stringslite_HasPrefix
  simp only [bs_size]
  by_cases h : p.length ≤ t.length
  · rw [cond_dt (by omega), grd_pos (by omega), bsub_bs]
    simp only [Option.bind_some]
    have e0 : (t.drop (0 : Int).toNat).take ((p.length : Int).toNat - (0 : Int).toNat) = t.take p.length := by simp
    rw [e0]
    by_cases h2 : t.take p.length = p
    · rw [decide_eq_true (bs_inj.2 h2), if_pos h2]
      simp only [Bool.not_true, cond_false]
      rw [grd_pos (by omega), bsub_bs]
      have e1 : (t.drop (p.length : Int).toNat).take ((t.length : Int).toNat - (p.length : Int).toNat) = t.drop p.length := by rw [Int.toNat_natCast, Int.toNat_natCast, List.take_of_length_le (by simp)]
      rw [e1]; rfl
    · rw [decide_eq_false (fun h => h2 (bs_inj.1 h)), if_neg h2]; rfl
  · rw [cond_df (by omega), if_neg (fun h2 => by
      have := congrArg List.length h2
      simp at this; omega)]
    rfl
theorem decode_eq (k : Nat) (l : List UInt8) (hk : k < 1000) (hl : l.length ≤ 1000000000) : ∃ e b, impl_decodeRecord (k : Int) (bs l) = some (e, b) ∧ b = (decL k l).isSome ∧ ∀ c r, decL k l = some (c, r) → e = (bs c, bs r, ()) := by
  have hle := bef_length 35 l
  have h1 := dec_length 5 k (by omega)
  have hpl : (preL k).length ≤ 7 := by simp [preL]; omega
  unfold impl_decodeRecord
  rw [verify_eq l (by omega), Option.bind_some, itoa_eq k (by omega), Option.bind_some]
  simp only [show (ByteArray.mk #[32]) = bs [32] from rfl, show (ByteArray.mk #[64]) = bs [64] from rfl, bs_app, bs_size]
  rw [grd_pos (by simp; omega)]
  have hsl := sealL_length (bef 35 l)
  by_cases hv : (bef 35 l).length ≤ 4000 ∧ (sealL (bef 35 l)).length ≤ 4000 ∧ sealL (bef 35 l) = l
  · rw [if_pos hv]
    simp only []
    rw [show Lib.decDigits k ++ [32] = preL k from rfl, cutP_eq _ _ (by omega) (by omega), Option.bind_some]
    by_cases hp : (bef 35 l).take (preL k).length = preL k
    · rw [if_pos hp]
      simp only []
      unfold strings_Cut
      have hdl : ((bef 35 l).drop (preL k).length).length ≤ (bef 35 l).length := by simp
      rw [grd_pos (by rw [bs_size]; omega), Option.bind_some]
      have ca : cutA (bs ((bef 35 l).drop (preL k).length)) (bs [64]) = bs (bef 64 ((bef 35 l).drop (preL k).length)) := by unfold cutA; rw [list_bs, list_bs, cut_eq]
      have cb : cutB (bs ((bef 35 l).drop (preL k).length)) (bs [64]) = bs (if (64 : UInt8) ∈ ((bef 35 l).drop (preL k).length) then ((bef 35 l).drop (preL k).length).drop ((bef 64 ((bef 35 l).drop (preL k).length)).length + 1) else []) := by unfold cutB; rw [list_bs, list_bs, cut_eq]
      have cf : cutF (bs ((bef 35 l).drop (preL k).length)) (bs [64]) = decide ((64 : UInt8) ∈ ((bef 35 l).drop (preL k).length)) := by unfold cutF; rw [list_bs, list_bs, cut_eq]
      simp only [ca, cb, cf, cond_true]
      by_cases hm : (64 : UInt8) ∈ (bef 35 l).drop (preL k).length
      · have b1 := bef_length 64 ((bef 35 l).drop (preL k).length)
        rw [cond_dt hm, if_pos hm, isValid_eq _ _ (by omega) (by simp; omega), Option.bind_some]
        refine ⟨_, _, rfl, ?_, ?_⟩
        · unfold decL
          rw [if_pos ⟨hv.2.2, hp, hm⟩]
          split
          · rename_i hg; rw [hg]; rfl
          · rename_i hg; rw [Bool.not_eq_true] at hg; rw [hg]; rfl
        · intro c r hd
          unfold decL at hd
          rw [if_pos ⟨hv.2.2, hp, hm⟩] at hd
          split at hd
          · simp only [Option.some.injEq, Prod.mk.injEq] at hd
            obtain ⟨rfl, rfl⟩ := hd; rfl
          · cases hd
      · rw [cond_df hm]
        have hn : decL k l = none := by unfold decL; rw [if_neg (fun h => hm h.2.2)]
        exact ⟨_, _, rfl, by rw [hn]; rfl, fun c r h => by rw [hn] at h; cases h⟩
    · rw [if_neg hp]
      have hn : decL k l = none := by unfold decL; rw [if_neg (fun h => hp h.2.1)]
      simp only [cond_true, cond_false]
      unfold strings_Cut
      rw [grd_pos (by rw [bs_size]; omega), Option.bind_some]
      exact ⟨_, _, rfl, by rw [hn]; rfl, fun c r h => by rw [hn] at h; cases h⟩
  · rw [if_neg hv]
    have hn : decL k l = none := by
      cases hd : decL k l with
      | none => rfl
      | some p =>
        exfalso
        obtain ⟨c, r⟩ := p
        obtain ⟨d1, d2⟩ := decL_length hk hd
        have d3 := (decL_some hd).2.2
        have hs : sealL (bef 35 l) = l := by
          unfold decL at hd
          split at hd
          · rename_i h1; exact h1.1
          · cases hd
        exact hv ⟨by rw [d3]; omega, by rw [hs]; omega, hs⟩
    simp only [cond_false]
    rw [cutP_eq [] _ (by simp) (by simp; omega), Option.bind_some]
    unfold strings_Cut
    by_cases h0 : ([] : List UInt8).take (Lib.decDigits k ++ [32]).length = Lib.decDigits k ++ [32]
    · exfalso
      have := congrArg List.length h0
      simp at this
    · rw [if_neg h0]
      simp only []
      rw [grd_pos (by rw [bs_size]; simp), Option.bind_some]
      exact ⟨_, _, rfl, by rw [hn]; rfl, fun c r h => by rw [hn] at h; cases h⟩
theorem split_eq (l : List UInt8) (c : UInt8) (hl : l.length ≤ 1000000000) : spec_l1Split (bs l) (c.toNat : Int) = some ((spl c l).map bs) := by
  unfold spec_l1Split
  have key : ∀ (d i from' : Nat) (out : List ByteArray), i + d = l.length → from' ≤ i → out.length ≤ i → (∃ o : List (List UInt8), out = o.map bs ∧ spl c l = o ++ preF ((l.drop from').take (i - from')) (spl c (l.drop i))) →
      ∃ (f' : Nat) (o : List (List UInt8)), iter (fun s => spec_l1Split_loop1 (bs l) (c.toNat : Int) s.1 s.2.1 s.2.2) ((from' : Int), (i : Int), out) = some ((f' : Int), o.map bs) ∧ f' ≤ l.length ∧ o.length ≤ l.length ∧ spl c l = o ++ [l.drop f'] := by
    intro d
    induction d with
    | zero =>
      rintro i from' out hi hf ho ⟨o, rfl, e⟩
      refine ⟨from', o, iter_out ?_, by omega, by simp at ho; omega, ?_⟩
      · show spec_l1Split_loop1 (bs l) (c.toNat : Int) (from' : Int) (i : Int) _ = _
        unfold spec_l1Split_loop1
        rw [cond_df (by rw [bs_size]; omega)]
      · rw [e, show l.drop i = [] from List.drop_eq_nil_of_le (by omega), preF_nil]
        congr 2
        rw [List.take_of_length_le (by simp; omega)]
    | succ d ih =>
      rintro i from' out hi hf ho ⟨o, rfl, e⟩
      have hil : i < l.length := by omega
      have hdrop : l.drop i = l[i] :: l.drop (i + 1) := List.drop_eq_getElem_cons hil
      have htake : (l.drop from').take (i + 1 - from') = (l.drop from').take (i - from') ++ [l[i]] := by
        rw [show i + 1 - from' = (i - from') + 1 by omega, List.take_succ_eq_append_getElem (by simp; omega)]
        simp [show from' + (i - from') = i by omega]
      by_cases hc : l[i] = c
      · obtain ⟨f', o', h1, h2, h3, h4⟩ := ih (i + 1) (i + 1) ((o ++ [(l.drop from').take (i - from')]).map bs) (by omega) (by omega) (by simp at ho ⊢; omega) ⟨_, rfl, by
          rw [e, hdrop, hc, preF_hit]
          simp [preF_zero]⟩
        refine ⟨f', o', (iter_go ?_).trans h1, h2, h3, h4⟩
        show spec_l1Split_loop1 (bs l) (c.toNat : Int) (from' : Int) (i : Int) _ = _
        unfold spec_l1Split_loop1
        simp only [List.length_map] at ho
        rw [cond_dt (by rw [bs_size]; omega), grd_pos (by rw [bs_size]; omega), bAt_bs, Int.toNat_natCast, getD_eq _ _ _ hil, hc, cond_dt rfl, grd_pos (by rw [bs_size]; omega), grd_pos (by simp; omega), w64_nat (by omega), bsub_bs]
        simp
      · obtain ⟨f', o', h1, h2, h3, h4⟩ := ih (i + 1) from' (o.map bs) (by omega) (by omega) (by simp at ho ⊢; omega) ⟨o, rfl, by
          rw [e, hdrop, preF_snoc c _ _ _ hc, htake]⟩
        refine ⟨f', o', (iter_go ?_).trans h1, h2, h3, h4⟩
        show spec_l1Split_loop1 (bs l) (c.toNat : Int) (from' : Int) (i : Int) _ = _
        unfold spec_l1Split_loop1
        rw [cond_dt (by rw [bs_size]; omega), grd_pos (by rw [bs_size]; omega), bAt_bs, Int.toNat_natCast, getD_eq _ _ _ hil, cond_df (fun h => hc (UInt8.toNat_inj.1 (by omega))), w64_nat (by omega)]
  obtain ⟨f', o, h1, h2, h3, h4⟩ := key l.length 0 0 [] (by omega) (by omega) (by simp) ⟨[], rfl, by simp [preF_zero]⟩
  rw [show ((0 : Nat) : Int) = (0 : Int) from rfl] at h1
  rw [h1, Option.bind_some]
  simp only [bs_size, bsub_bs]
  rw [grd_pos (by omega), grd_pos (by simp; omega), h4, List.map_append, Int.toNat_natCast, Int.toNat_natCast, List.take_of_length_le (by simp)]
  rfl
theorem read_eq (k : Nat) (l : List UInt8) (hk : k < 1000) (hl : l.length ≤ 1000000000) : ∃ e b, spec_l27Read (bs l) (k : Int) = some (e, b) ∧ b = (decL k l).isSome ∧ ∀ c r, decL k l = some (c, r) → e = (bs c, bs r, ()) := by
  have hle := bef_length 35 l
  have h1 := dec_length 5 k (by omega)
  have hpl : (preL k).length ≤ 7 := by simp [preL]; omega
  unfold spec_l27Read
  rw [l1Num_eq k (by omega), Option.bind_some]
  simp only [show (ByteArray.mk #[32]) = bs [32] from rfl, show (ByteArray.mk #[10]) = bs [10] from rfl, show (ByteArray.mk #[]) = bs [] from rfl, bs_app, bs_size]
  rw [grd_pos (by simp; omega), show ((35 : Int)) = (((35 : UInt8).toNat : Nat) : Int) from rfl, split_eq l 35 hl, Option.bind_some, show Lib.decDigits k ++ [32] = preL k from rfl]
  have hne : 0 < ((spl 35 l).map bs).length := by
    rw [List.length_map]; exact List.length_pos_iff.2 (spl_ne 35 l)
  have hg0 : ((spl 35 l).map bs).getD ((0 : Int).toNat) (bs []) = bs (bef 35 l) := by
    have := spl_head 35 l []
    rw [← this]
    rw [show ((0 : Int).toNat) = 0 from rfl]
    simp [List.getD_eq_getElem?_getD]
  rw [grd_pos (by omega), hg0, bs_size]
  by_cases hlen : (bef 35 l).length < (preL k).length
  · rw [cond_dt (by omega)]
    have hn : decL k l = none := by
      unfold decL
      rw [if_neg (fun h => by
        have := congrArg List.length h.2.1
        simp at this; omega)]
    exact ⟨_, _, rfl, by rw [hn]; rfl, fun c r h => by rw [hn] at h; cases h⟩
  rw [cond_df (by omega), grd_pos (by omega), bsub_bs]
  have e0 : ((bef 35 l).drop (0 : Int).toNat).take (((preL k).length : Int).toNat - (0 : Int).toNat) = (bef 35 l).take (preL k).length := by simp
  rw [e0]
  by_cases hp : (bef 35 l).take (preL k).length = preL k
  case neg =>
    rw [cond_ndf (fun h => hp (bs_inj.1 h))]
    have hn : decL k l = none := by unfold decL; rw [if_neg (fun h => hp h.2.1)]
    exact ⟨_, _, rfl, by rw [hn]; rfl, fun c r h => by rw [hn] at h; cases h⟩
  rw [cond_ndt (bs_inj.2 hp), grd_pos (by omega), bsub_bs]
  have e1 : ((bef 35 l).drop ((preL k).length : Int).toNat).take (((bef 35 l).length : Int).toNat - ((preL k).length : Int).toNat) = (bef 35 l).drop (preL k).length := by rw [Int.toNat_natCast, Int.toNat_natCast, List.take_of_length_le (by simp)]
  rw [e1]
  have hdl : ((bef 35 l).drop (preL k).length).length ≤ (bef 35 l).length := by simp
  generalize hx : (bef 35 l).drop (preL k).length = x at *
  rw [show ((64 : Int)) = (((64 : UInt8).toNat : Nat) : Int) from rfl, split_eq x 64 (by omega), Option.bind_some]
  have hne2 : 0 < ((spl 64 x).map bs).length := by
    rw [List.length_map]; exact List.length_pos_iff.2 (spl_ne 64 x)
  have hg1 : ((spl 64 x).map bs).getD ((0 : Int).toNat) (bs []) = bs (bef 64 x) := by
    have := spl_head 64 x []
    rw [← this]
    rw [show ((0 : Int).toNat) = 0 from rfl]
    simp [List.getD_eq_getElem?_getD]
  have b1 := bef_length 64 x
  rw [grd_pos (by omega), hg1, bs_size, bs_size]
  by_cases hm : (64 : UInt8) ∈ x
  · have b2 := bef_lt 64 x hm
    have ew : w64 (((bef 64 x).length : Int) + 1) = (((bef 64 x).length + 1 : Nat) : Int) := w64_nat (by omega)
    rw [cond_df (by omega), ew, grd_pos (by omega), bsub_bs]
    have e2 : (x.drop (((bef 64 x).length + 1 : Nat) : Int).toNat).take ((x.length : Int).toNat - (((bef 64 x).length + 1 : Nat) : Int).toNat) = x.drop ((bef 64 x).length + 1) := by
      rw [Int.toNat_natCast, Int.toNat_natCast, List.take_of_length_le (by simp)]
    rw [e2]
    have b3 : (x.drop ((bef 64 x).length + 1)).length ≤ x.length := by simp
    rw [good_eq _ _ (by omega) (by omega), Option.bind_some]
    cases hg : goodB (bef 64 x) (x.drop ((bef 64 x).length + 1)) with
    | false =>
      have hn : decL k l = none := by
        unfold decL
        rw [hx]
        split
        · rw [if_neg (by rw [hg]; exact Bool.false_ne_true)]
        · rfl
      exact ⟨_, _, rfl, by rw [hn]; rfl, fun c r h => by rw [hn] at h; cases h⟩
    | true =>
      rw [cond_true, l27Line_eq k _ _ (by omega) (by omega) (by omega), Option.bind_some, grd_pos (by simp; omega)]
      have e3 : textL k (bef 64 x) (x.drop ((bef 64 x).length + 1)) = bef 35 l := by
        have q1 := split64 x hm
        have q2 : bef 35 l = preL k ++ x := by
          rw [← hx]
          conv => lhs; rw [← List.take_append_drop (preL k).length (bef 35 l)]
          rw [hp]
        rw [q2]
        conv => rhs; rw [q1]
        simp [textL, preL]
      have hiff : (bs (lineL k (bef 64 x) (x.drop ((bef 64 x).length + 1))) = bs (l ++ [10])) ↔ sealL (bef 35 l) = l := by
        rw [bs_inj]
        unfold lineL
        rw [e3]
        exact ⟨fun h => List.append_cancel_right h, fun h => by rw [h]⟩
      have hd : decL k l = if sealL (bef 35 l) = l then some (bef 64 x, x.drop ((bef 64 x).length + 1)) else none := by
        unfold decL
        rw [hx]
        by_cases hs : sealL (bef 35 l) = l
        · rw [if_pos ⟨hs, hp, hm⟩, if_pos hg, if_pos hs]
        · rw [if_neg (fun h => hs h.1), if_neg hs]
      by_cases hs : sealL (bef 35 l) = l
      · refine ⟨_, _, rfl, ?_, fun c r h => ?_⟩
        · rw [hd, if_pos hs, decide_eq_true (hiff.2 hs)]; rfl
        · rw [hd, if_pos hs] at h
          simp only [Option.some.injEq, Prod.mk.injEq] at h
          obtain ⟨rfl, rfl⟩ := h; rfl
      · refine ⟨_, _, rfl, ?_, fun c r h => ?_⟩
        · rw [hd, if_neg hs, decide_eq_false (fun h => hs (hiff.1 h))]; rfl
        · rw [hd, if_neg hs] at h; cases h
  · rw [cond_dt (by rw [bef_all 64 x hm])]
    have hn : decL k l = none := by
      unfold decL
      rw [hx, if_neg (fun h => hm h.2.2)]
    exact ⟨_, _, rfl, by rw [hn]; rfl, fun c r h => by rw [hn] at h; cases h⟩
end Go.Proofs.YtppiaacfnoifkaaDoor
