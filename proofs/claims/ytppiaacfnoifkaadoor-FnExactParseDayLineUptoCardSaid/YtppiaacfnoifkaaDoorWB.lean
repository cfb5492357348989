/-
  What is cut out of a text, and the numbers and words in a day's line.
-/
import Derived.Test.YtppiaacfnoifkaaDoorWA
namespace Go.Proofs.YtppiaacfnoifkaaDoor
open Go.RowKit

noncomputable def restI (d : Int) (t : ByteArray) : Option (Int × Int × Int × Int × Int × ByteArray) :=
  ((strings_Split t (ByteArray.mk #[44, 32])).bind fun y4 => (cond (decide ((3 : Int) ≤ (y4.length : Int))) (grd (0 ≤ (0 : Int) ∧ (0 : Int) < (y4.length : Int)) ((strings_TrimSuffix (y4.getD ((0 : Int).toNat) (ByteArray.mk #[])) (ByteArray.mk #[32, 117, 112])).bind fun y5 => ((impl_ParseInt y5).bind fun y6 => (grd (0 ≤ (1 : Int) ∧ (1 : Int) < (y4.length : Int)) ((strings_TrimSuffix (y4.getD ((1 : Int).toNat) (ByteArray.mk #[])) (ByteArray.mk #[32, 100, 111, 119, 110])).bind fun y7 => ((impl_ParseInt y7).bind fun y8 => (grd (0 ≤ (2 : Int) ∧ (2 : Int) < (y4.length : Int)) ((strings_TrimSuffix (y4.getD ((2 : Int).toNat) (ByteArray.mk #[])) (ByteArray.mk #[32, 104])).bind fun y9 => ((impl_ParseInt y9).bind fun y10 => (cond (decide ((3 : Int) < (y4.length : Int))) (grd (0 ≤ (3 : Int) ∧ (3 : Int) < (y4.length : Int)) ((strings_Cut (y4.getD ((3 : Int).toNat) (ByteArray.mk #[])) (ByteArray.mk #[32, 40])).bind fun y11 => ((strings_Cut y11.1 (ByteArray.mk #[32])).bind fun y12 => ((impl_ParseInt y12.1).bind fun y13 => ((strings_TrimSuffix y11.2.1 (ByteArray.mk #[41])).bind fun y14 => (some (d, y6.1, y8.1, y10.1, y13.1, y14))))))) ((some (d, y6.1, y8.1, y10.1, (0 : Int), (ByteArray.mk #[])))))))))))))) ((some (d, (0 : Int), (0 : Int), (0 : Int), (0 : Int), (ByteArray.mk #[]))))))
noncomputable def tailI (a0 : ByteArray) (z15 : Int × Int × Int × Int × Int × ByteArray) : Option (DayRow × Bool) :=
  ((impl_IsDayRow (z15.1, z15.2.1, z15.2.2.1, z15.2.2.2.1, z15.2.2.2.2.1, z15.2.2.2.2.2, ())).bind fun y16 => (cond (!y16) ((some (((0 : Int), (0 : Int), (0 : Int), (0 : Int), (0 : Int), (ByteArray.mk #[]), ()), false))) ((impl_dayLine (z15.1, z15.2.1, z15.2.2.1, z15.2.2.2.1, z15.2.2.2.2.1, z15.2.2.2.2.2, ())).bind fun y17 => (cond (!decide (y17 = a0)) ((some (((0 : Int), (0 : Int), (0 : Int), (0 : Int), (0 : Int), (ByteArray.mk #[]), ()), false))) ((some ((z15.1, z15.2.1, z15.2.2.1, z15.2.2.2.1, z15.2.2.2.2.1, z15.2.2.2.2.2, ()), true)))))))
noncomputable def tailS (a0 : ByteArray) (z11 : Int × Int × Int × Int × Int × ByteArray) : Option (DayRow × Bool) :=
  ((spec_l26One (z11.1, z11.2.1, z11.2.2.1, z11.2.2.2.1, z11.2.2.2.2.1, z11.2.2.2.2.2, ())).bind fun y12 => (cond (!y12) ((some (((0 : Int), (0 : Int), (0 : Int), (0 : Int), (0 : Int), (ByteArray.mk #[]), ()), false))) ((spec_l26Line (z11.1, z11.2.1, z11.2.2.1, z11.2.2.2.1, z11.2.2.2.2.1, z11.2.2.2.2.2, ())).bind fun y13 => (cond (!decide (y13 = a0)) ((some (((0 : Int), (0 : Int), (0 : Int), (0 : Int), (0 : Int), (ByteArray.mk #[]), ()), false))) ((some ((z11.1, z11.2.1, z11.2.2.1, z11.2.2.2.1, z11.2.2.2.2.1, z11.2.2.2.2.2, ()), true)))))))
noncomputable def goS (a0 : ByteArray) (z2 : Int × (List ByteArray)) : Option (DayRow × Bool) :=
  ((grd (0 ≤ (1 : Int) ∧ (1 : Int) < (z2.2.length : Int)) (grd (0 ≤ (1 : Int) ∧ (1 : Int) < (z2.2.length : Int)) (grd (0 ≤ (0 : Int) ∧ (0 : Int) ≤ (w64 (((z2.2.getD ((1 : Int).toNat) (ByteArray.mk #[])).size : Int) - (1 : Int))) ∧ (w64 (((z2.2.getD ((1 : Int).toNat) (ByteArray.mk #[])).size : Int) - (1 : Int))) ≤ ((z2.2.getD ((1 : Int).toNat) (ByteArray.mk #[])).size : Int)) ((spec_l1Read (bsub (z2.2.getD ((1 : Int).toNat) (ByteArray.mk #[])) (0 : Int) (w64 (((z2.2.getD ((1 : Int).toNat) (ByteArray.mk #[])).size : Int) - (1 : Int))))).bind fun y3 => (some ((Tg.mk : Tg 1), z2.1, z2.2, y3.1)))))).bind fun z4 => ((cond (decide ((3 : Int) < z4.2.1)) (grd (0 ≤ (2 : Int) ∧ (2 : Int) < (z4.2.2.1.length : Int)) ((spec_l1Read (z4.2.2.1.getD ((2 : Int).toNat) (ByteArray.mk #[]))).bind fun y5 => (grd (0 ≤ (4 : Int) ∧ (4 : Int) < (z4.2.2.1.length : Int)) ((spec_l1Read (z4.2.2.1.getD ((4 : Int).toNat) (ByteArray.mk #[]))).bind fun y6 => (grd (0 ≤ (6 : Int) ∧ (6 : Int) < (z4.2.2.1.length : Int)) ((spec_l1Read (z4.2.2.1.getD ((6 : Int).toNat) (ByteArray.mk #[]))).bind fun y7 => (some (z4.2.1, z4.2.2.1, z4.2.2.2, y5.1, y6.1, y7.1)))))))) ((some (z4.2.1, z4.2.2.1, z4.2.2.2, (0 : Int), (0 : Int), (0 : Int))))).bind fun z8 => (((cond (decide (z8.1 = (11 : Int))) (grd (0 ≤ (10 : Int) ∧ (10 : Int) < (z8.2.1.length : Int)) ((some ((decide ((2 : Int) < ((z8.2.1.getD ((10 : Int).toNat) (ByteArray.mk #[])).size : Int))), z8.2.1, z8.2.2.1, z8.2.2.2.1, z8.2.2.2.2.1, z8.2.2.2.2.2)))) ((some (false, z8.2.1, z8.2.2.1, z8.2.2.2.1, z8.2.2.2.2.1, z8.2.2.2.2.2)))).bind fun z9 => (cond z9.1 (grd (0 ≤ (8 : Int) ∧ (8 : Int) < (z9.2.1.length : Int)) ((spec_l1Read (z9.2.1.getD ((8 : Int).toNat) (ByteArray.mk #[]))).bind fun y10 => (grd (0 ≤ (10 : Int) ∧ (10 : Int) < (z9.2.1.length : Int)) (grd (0 ≤ (10 : Int) ∧ (10 : Int) < (z9.2.1.length : Int)) (grd (0 ≤ (1 : Int) ∧ (1 : Int) ≤ (w64 (((z9.2.1.getD ((10 : Int).toNat) (ByteArray.mk #[])).size : Int) - (1 : Int))) ∧ (w64 (((z9.2.1.getD ((10 : Int).toNat) (ByteArray.mk #[])).size : Int) - (1 : Int))) ≤ ((z9.2.1.getD ((10 : Int).toNat) (ByteArray.mk #[])).size : Int)) ((some (z9.2.2.1, z9.2.2.2.1, z9.2.2.2.2.1, z9.2.2.2.2.2, y10.1, (bsub (z9.2.1.getD ((10 : Int).toNat) (ByteArray.mk #[])) (1 : Int) (w64 (((z9.2.1.getD ((10 : Int).toNat) (ByteArray.mk #[])).size : Int) - (1 : Int)))))))))))) ((some (z9.2.2.1, z9.2.2.2.1, z9.2.2.2.2.1, z9.2.2.2.2.2, (0 : Int), (ByteArray.mk #[])))))).bind fun z11 => (tailS a0 z11))))
noncomputable def preS (a0 : ByteArray) (y1 : List ByteArray) : Option (Lp (Int × (List ByteArray)) (DayRow × Bool)) :=
  (cond (decide ((80 : Int) < (a0.size : Int))) (outm ((some (((0 : Int), (0 : Int), (0 : Int), (0 : Int), (0 : Int), (ByteArray.mk #[]), ()), false)))) (cond (!decide ((y1.length : Int) = (3 : Int))) (cond (!decide ((y1.length : Int) = (8 : Int))) (cond (!decide ((y1.length : Int) = (11 : Int))) (outm ((some (((0 : Int), (0 : Int), (0 : Int), (0 : Int), (0 : Int), (ByteArray.mk #[]), ()), false)))) (grd (0 ≤ (1 : Int) ∧ (1 : Int) < (y1.length : Int)) (cond (decide (((y1.getD ((1 : Int).toNat) (ByteArray.mk #[])).size : Int) < (2 : Int))) (outm ((some (((0 : Int), (0 : Int), (0 : Int), (0 : Int), (0 : Int), (ByteArray.mk #[]), ()), false)))) ((some (.go ((y1.length : Int), y1))))))) (grd (0 ≤ (1 : Int) ∧ (1 : Int) < (y1.length : Int)) (cond (decide (((y1.getD ((1 : Int).toNat) (ByteArray.mk #[])).size : Int) < (2 : Int))) (outm ((some (((0 : Int), (0 : Int), (0 : Int), (0 : Int), (0 : Int), (ByteArray.mk #[]), ()), false)))) ((some (.go ((y1.length : Int), y1))))))) (grd (0 ≤ (1 : Int) ∧ (1 : Int) < (y1.length : Int)) (cond (decide (((y1.getD ((1 : Int).toNat) (ByteArray.mk #[])).size : Int) < (2 : Int))) (outm ((some (((0 : Int), (0 : Int), (0 : Int), (0 : Int), (0 : Int), (ByteArray.mk #[]), ()), false)))) ((some (.go ((y1.length : Int), y1))))))))

/-! ### Texts -/
theorem cut_bs (l : List UInt8) (c : UInt8) (q : List UInt8) (h : l.length ≤ 2000000) : strings_Cut (bs l) (bs (c :: q)) = some (bs (Lib.cut l (c :: q)).1, bs (Lib.cut l (c :: q)).2.1, (Lib.cut l (c :: q)).2.2) := by
  unfold strings_Cut
  rw [grd_pos (by rw [bs_size]; omega)]
  unfold cutA cutB cutF
  rw [list_bs, list_bs]
theorem cut_len (l p : List UInt8) : (Lib.cut l p).1.length ≤ l.length ∧ (Lib.cut l p).2.1.length ≤ l.length := by
  unfold Lib.cut
  split
  · exact ⟨by simp; omega, by simp⟩
  · exact ⟨Nat.le_refl _, by simp⟩
theorem trimP_bs (l p : List UInt8) (_ : l.length ≤ 2000000) (hp : p.length ≤ 100) : strings_TrimPrefix (bs l) (bs p) = some (bs (if p.length ≤ l.length ∧ l.take p.length = p then l.drop p.length else l)) := by
  unfold strings_TrimPrefix internal_stringslite_TrimPrefix internal_stringslite_HasPrefix
  simp only [bs_size]
  by_cases h1 : p.length ≤ l.length
  · rw [cond_dt (by omega), grd_pos (by omega), bsub_bs, Option.bind_some]
    simp only [Int.toNat_zero, List.drop_zero, Int.toNat_natCast, Nat.sub_zero]
    by_cases h2 : l.take p.length = p
    · rw [h2, decide_eq_true rfl, cond_true, grd_pos (by omega), bsub_bs, if_pos ⟨h1, rfl⟩]
      simp only [Int.toNat_natCast, Option.bind_some]
      rw [List.take_of_length_le (by simp)]
    · rw [decide_eq_false (fun e => h2 (bs_inj.1 e)), cond_false, if_neg (fun e => h2 e.2)]
      rfl
  · rw [cond_df (by omega), Option.bind_some, cond_false, if_neg (fun e => h1 e.1)]
    rfl
def cutS (l q : List UInt8) : List UInt8 := if q.length ≤ l.length ∧ l.drop (l.length - q.length) = q then l.take (l.length - q.length) else l
theorem cutS_len (l q : List UInt8) : (cutS l q).length ≤ l.length := by
  unfold cutS
  split
  · simp
  · exact Nat.le_refl _
theorem cutS_app (a q : List UInt8) : cutS (a ++ q) q = a := by
  have e : (a ++ q).length - q.length = a.length := by simp
  unfold cutS
  rw [e, if_pos ⟨by simp, List.drop_left ..⟩, List.take_left ..]
theorem trimS_bs (l q : List UInt8) (h : l.length ≤ 2000000) (hq : q.length ≤ 100) : strings_TrimSuffix (bs l) (bs q) = some (bs (cutS l q)) := by
  unfold strings_TrimSuffix internal_stringslite_TrimSuffix internal_stringslite_HasSuffix cutS
  simp only [bs_size]
  by_cases h1 : q.length ≤ l.length
  · have hw : w64 ((l.length : Int) - (q.length : Int)) = ((l.length - q.length : Nat) : Int) := by rw [w64_id (by omega) (by omega)]; omega
    rw [cond_dt (by omega), hw, grd_pos (by omega), bsub_bs, Option.bind_some]
    simp only [Int.toNat_natCast, show (l.drop (l.length - q.length)).take (l.length - (l.length - q.length)) = l.drop (l.length - q.length) from List.take_of_length_le (by simp)]
    by_cases h2 : l.drop (l.length - q.length) = q
    · rw [h2, decide_eq_true rfl, cond_true, grd_pos (by omega), bsub_bs, if_pos ⟨h1, rfl⟩]
      simp only [Int.toNat_natCast, Int.toNat_zero, List.drop_zero, Nat.sub_zero, Option.bind_some]
    · rw [decide_eq_false (fun e => h2 (bs_inj.1 e)), cond_false, if_neg (fun e => h2 e.2)]
      rfl
  · rw [cond_df (by omega), Option.bind_some, cond_false, if_neg (fun e => h1 e.1)]
    rfl
theorem splitB_len (sep : ByteArray) : ∀ (k : Nat) (s x : ByteArray), x ∈ Lib.splitB sep 0 k s → x.size ≤ s.size
  | 0, s, x, h => by
    simp only [Lib.splitB, List.mem_singleton] at h
    rw [h]; exact Nat.le_refl _
  | k + 1, s, x, h => by
    unfold Lib.splitB at h
    split at h
    · rw [List.mem_singleton.1 h]; exact Nat.le_refl _
    · rcases List.mem_cons.1 h with h | h
      · rw [h, ByteArray.size_extract]; omega
      · have := splitB_len sep k _ x h
        rw [ByteArray.size_extract] at this
        omega
theorem cut_app2 (c e : UInt8) (hce : c ≠ e) (a r : List UInt8) (h : e ∉ a) : Lib.cut (a ++ c :: e :: r) [c, e] = (a, r, true) := by
  have key : ∀ a : List UInt8, e ∉ a → Lib.index (a ++ c :: e :: r) [c, e] = (a.length : Int) := by
    intro a
    induction a with
    | nil =>
      intro _
      have hp : [c, e].isPrefixOf (c :: e :: r) = true := by simp [List.isPrefixOf]
      rw [List.nil_append]
      unfold Lib.index
      rw [hp]; rfl
    | cons b a ih =>
      intro h
      simp only [List.mem_cons, not_or] at h
      have ih := ih h.2
      have hp : [c, e].isPrefixOf (b :: (a ++ c :: e :: r)) = false := by
        cases a with
        | nil =>
          have : (e == c) = false := by rw [beq_eq_false_iff_ne]; exact fun h => hce h.symm
          simp [List.isPrefixOf, this]
        | cons d a =>
          simp only [List.mem_cons, not_or] at h
          have : (e == d) = false := by rw [beq_eq_false_iff_ne]; exact h.2.1
          simp [List.isPrefixOf, this]
      have h2 : (((a.length : Nat) : Int) == -1) = false := by rw [beq_eq_false_iff_ne]; omega
      rw [List.cons_append]
      unfold Lib.index
      rw [hp, ih, h2]
      simp
  unfold Lib.cut
  rw [key a h, if_pos (by omega)]
  have e1 : a ++ c :: e :: r = a ++ ([c, e] ++ r) := rfl
  rw [Int.toNat_natCast, e1, List.take_left, ← List.drop_drop, List.drop_left, List.drop_left]
theorem dec_no (c : UInt8) (h : c.toNat < 48 ∨ 57 < c.toNat) (n : Nat) : c ∉ Lib.decDigits n := fun hm => by
  have := dec_mem n c hm
  omega
theorem parse_dec (n : Nat) (h : n ≤ 99999) : parseI (bs (Lib.decDigits n)) = ((n : Int), true) := by
  have e : Lib.itoa (n : Int) = Lib.decDigits n := by
    unfold Lib.itoa
    rw [if_neg (by omega)]; rfl
  rw [← e]
  exact parseI_itoa n (by omega)
/-! ### The row of a line, by the implementation -/
abbrev rowZ (z : Int × Int × Int × Int × Int × ByteArray) : DayRow := (z.1, z.2.1, z.2.2.1, z.2.2.2.1, z.2.2.2.2.1, z.2.2.2.2.2, ())
abbrev noRow : DayRow × Bool := ((0, 0, 0, 0, 0, ByteArray.mk #[], ()), false)
theorem impl_form (a0 : ByteArray) : impl_ParseDayLine a0 = (strings_Cut a0 (ByteArray.mk #[58, 32])).bind fun y1 => (strings_TrimPrefix y1.1 (ByteArray.mk #[100, 97, 121, 32])).bind fun y2 => (impl_ParseInt y2).bind fun y3 => (restI y3.1 y1.2.1).bind fun z15 => tailI a0 z15 := rfl
theorem spec_form (a0 : ByteArray) : spec_ParseDayLine a0 = (spec_l1Split a0 (32 : Int)).bind fun y1 => joinx (preS a0 y1) (goS a0) := rfl
theorem tailI_yes (s : List UInt8) (z : Int × Int × Int × Int × Int × ByteArray) (hz : z.2.2.2.2.2.size ≤ 1000000000) (h : rowB (rowZ z) = true) (e : lineR (rowZ z) = s) : tailI (bs s) z = some (rowZ z, true) := by
  unfold tailI
  rw [isRow_eq (rowZ z) hz, Option.bind_some, h]
  simp only [Bool.not_true, cond_false]
  rw [(lines_eq (rowZ z) h hz).2, Option.bind_some, e, cond_ndt rfl]
theorem tailI_no (s : List UInt8) (z : Int × Int × Int × Int × Int × ByteArray) (hz : z.2.2.2.2.2.size ≤ 1000000000) (h : ∀ r, rowB r = true → lineR r ≠ s) : tailI (bs s) z = some noRow := by
  unfold tailI
  rw [isRow_eq (rowZ z) hz, Option.bind_some]
  cases hb : rowB (rowZ z) with
  | false => rfl
  | true =>
    simp only [Bool.not_true, cond_false]
    rw [(lines_eq (rowZ z) hb hz).2, Option.bind_some, cond_ndf (fun e => h _ hb (bs_inj.1 e))]
theorem tailS_yes (s : List UInt8) (z : Int × Int × Int × Int × Int × ByteArray) (hz : z.2.2.2.2.2.size ≤ 1000000000) (h : rowB (rowZ z) = true) (e : lineR (rowZ z) = s) : tailS (bs s) z = some (rowZ z, true) := by
  unfold tailS
  rw [one_eq (rowZ z) hz, Option.bind_some, h]
  simp only [Bool.not_true, cond_false]
  rw [(lines_eq (rowZ z) h hz).1, Option.bind_some, e, cond_ndt rfl]
theorem tailS_no (s : List UInt8) (z : Int × Int × Int × Int × Int × ByteArray) (hz : z.2.2.2.2.2.size ≤ 1000000000) (h : ∀ r, rowB r = true → lineR r ≠ s) : tailS (bs s) z = some noRow := by
  unfold tailS
  rw [one_eq (rowZ z) hz, Option.bind_some]
  cases hb : rowB (rowZ z) with
  | false => rfl
  | true =>
    simp only [Bool.not_true, cond_false]
    rw [(lines_eq (rowZ z) hb hz).1, Option.bind_some, cond_ndf (fun e => h _ hb (bs_inj.1 e))]
theorem rest_any (d : Int) (t : List UInt8) (ht : t.length ≤ 2000000) : ∃ z, restI d (bs t) = some z ∧ z.2.2.2.2.2.size ≤ 1000000000 := by
  unfold restI strings_Split
  have h1 : (ByteArray.mk #[44, 32]).size = 2 := rfl
  rw [grd_pos (by rw [bs_size]; omega), Option.bind_some]
  have hlen : ∀ x ∈ splitB (bs t) (ByteArray.mk #[44, 32]), x.size ≤ 2000000 := fun x hx => by
    have := splitB_len _ _ _ x hx
    have h9 := bs_size t
    omega
  generalize splitB (bs t) (ByteArray.mk #[44, 32]) = ps at hlen
  by_cases h3 : (3 : Int) ≤ (ps.length : Int)
  · rw [cond_dt h3, grd_pos (by omega)]
    have part : ∀ k, k < ps.length → ∃ l, ps.getD k (ByteArray.mk #[]) = bs l ∧ l.length ≤ 2000000 := fun k hk => by
      obtain ⟨l, hl⟩ := bs_ex ps[k]
      have := hlen _ (List.getElem_mem hk)
      rw [hl, bs_size] at this
      exact ⟨l, by rw [getD_eq _ _ _ hk, hl], this⟩
    obtain ⟨p0, e0, l0⟩ := part 0 (by omega)
    obtain ⟨p1, e1, l1⟩ := part 1 (by omega)
    obtain ⟨p2, e2, l2⟩ := part 2 (by omega)
    have e0 : ps.getD (0 : Int).toNat (ByteArray.mk #[]) = bs p0 := e0
    have e1 : ps.getD (1 : Int).toNat (ByteArray.mk #[]) = bs p1 := e1
    have e2 : ps.getD (2 : Int).toNat (ByteArray.mk #[]) = bs p2 := e2
    have t0 : strings_TrimSuffix (bs p0) (ByteArray.mk #[32, 117, 112]) = _ := trimS_bs p0 [32, 117, 112] l0 (by decide)
    have t1 : strings_TrimSuffix (bs p1) (ByteArray.mk #[32, 100, 111, 119, 110]) = _ := trimS_bs p1 [32, 100, 111, 119, 110] l1 (by decide)
    have t2 : strings_TrimSuffix (bs p2) (ByteArray.mk #[32, 104]) = _ := trimS_bs p2 [32, 104] l2 (by decide)
    unfold impl_ParseInt
    rw [e0, t0, Option.bind_some, Option.bind_some, grd_pos (by omega), e1, t1, Option.bind_some, Option.bind_some, grd_pos (by omega), e2, t2, Option.bind_some, Option.bind_some]
    by_cases h4 : (3 : Int) < (ps.length : Int)
    · obtain ⟨p3, e3, l3⟩ := part 3 (by omega)
      have e3 : ps.getD (3 : Int).toNat (ByteArray.mk #[]) = bs p3 := e3
      have c1 : strings_Cut (bs p3) (ByteArray.mk #[32, 40]) = _ := cut_bs p3 32 [40] l3
      have c2 := cut_len p3 [32, 40]
      have c3 : strings_Cut (bs (Lib.cut p3 [32, 40]).1) (ByteArray.mk #[32]) = _ := cut_bs (Lib.cut p3 [32, 40]).1 32 [] (by omega)
      have t3 : strings_TrimSuffix (bs (Lib.cut p3 [32, 40]).2.1) (ByteArray.mk #[41]) = _ := trimS_bs (Lib.cut p3 [32, 40]).2.1 [41] (by omega) (by decide)
      have c4 := cutS_len (Lib.cut p3 [32, 40]).2.1 [41]
      rw [cond_dt h4, grd_pos (by omega), e3, c1, Option.bind_some]
      dsimp only
      rw [c3, Option.bind_some, Option.bind_some, t3, Option.bind_some]
      exact ⟨_, rfl, by rw [bs_size]; omega⟩
    · rw [cond_df h4]
      exact ⟨_, rfl, by show (ByteArray.mk #[]).size ≤ 1000000000; decide⟩
  · rw [cond_df h3]
    exact ⟨_, rfl, by show (ByteArray.mk #[]).size ≤ 1000000000; decide⟩
theorem impl_no (s : List UInt8) (hs : s.length ≤ 2000000) (h : ∀ r, rowB r = true → lineR r ≠ s) : impl_ParseDayLine (bs s) = some noRow := by
  rw [impl_form]
  have c1 : strings_Cut (bs s) (ByteArray.mk #[58, 32]) = _ := cut_bs s 58 [32] hs
  have c2 := cut_len s [58, 32]
  obtain ⟨x, t1⟩ : ∃ x, strings_TrimPrefix (bs (Lib.cut s [58, 32]).1) (ByteArray.mk #[100, 97, 121, 32]) = some (bs x) := ⟨_, trimP_bs (Lib.cut s [58, 32]).1 [100, 97, 121, 32] (by omega) (by decide)⟩
  rw [c1, Option.bind_some]
  dsimp only
  rw [t1, Option.bind_some]
  unfold impl_ParseInt
  rw [Option.bind_some]
  dsimp only
  obtain ⟨z, e, hz⟩ := rest_any (parseI (bs x)).1 (Lib.cut s [58, 32]).2.1 (by omega)
  rw [e, Option.bind_some]
  exact tailI_no s z hz h
end Go.Proofs.YtppiaacfnoifkaaDoor
