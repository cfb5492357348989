/-
  Plain laws, carried over from texts of other seats.
-/
import Derived.Test.YtbjhcjhkmppocaaDoorL84
namespace Go.Proofs.YtbjhcjhkmppocaaDoor
open Go.RowKit

theorem digs_get (d : Nat) (h : d < 10) : bsub (ByteArray.mk #[48, 49, 50, 51, 52, 53, 54, 55, 56, 57]) (d : Int) (w64 ((d : Int) + 1)) = bs [UInt8.ofNat (48 + d)] := by
  have : w64 ((d : Int) + 1) = ((d + 1 : Nat) : Int) := w64_nat (by omega)
  rw [this, show (ByteArray.mk #[48, 49, 50, 51, 52, 53, 54, 55, 56, 57]) = bs [48, 49, 50, 51, 52, 53, 54, 55, 56, 57] from rfl, bsub_bs]
  have hd : d = 0 ∨ d = 1 ∨ d = 2 ∨ d = 3 ∨ d = 4 ∨ d = 5 ∨ d = 6 ∨ d = 7 ∨ d = 8 ∨ d = 9 := by omega
  rcases hd with rfl | rfl | rfl | rfl | rfl | rfl | rfl | rfl | rfl | rfl <;> rfl
theorem l1Num_f_eq : ∀ (k n : Nat), n < 10 ^ k → n < 1000000000000000000 → spec_l1Num_f (k + 1) (n : Int) = some (bs (Lib.decDigits n))
  | 0, n, h, _ => by
    obtain rfl : n = 0 := by simpa using h
    rw [spec_l1Num_f_succ, cond_df (by omega), cond_dt (by omega), grd_pos ⟨by omega, by decide, by decide⟩]
    have := digs_get 0 (by omega)
    rw [show ((0 : Nat) : Int) = (0 : Int) from rfl] at this ⊢
    rw [this]
    unfold Lib.decDigits
    rw [dif_pos (by omega)]
  | k + 1, n, h, h18 => by
    rw [spec_l1Num_f_succ, cond_df (by omega)]
    by_cases h10 : n < 10
    · have e : w64 ((n : Int) + 1) = ((n + 1 : Nat) : Int) := w64_nat (by omega)
      have hs : (ByteArray.mk #[48, 49, 50, 51, 52, 53, 54, 55, 56, 57]).size = 10 := rfl
      rw [cond_dt (by omega), grd_pos ⟨by omega, by rw [e]; omega, by rw [e, hs]; omega⟩, digs_get n h10]
      unfold Lib.decDigits
      rw [dif_pos h10]
    · have hq : n / 10 < 10 ^ k := by
        rw [Nat.div_lt_iff_lt_mul (by omega)]
        rw [Nat.pow_succ] at h; exact h
      have ih := l1Num_f_eq k (n / 10) hq (by omega)
      have e1 : w64 (Int.tdiv (n : Int) 10) = ((n / 10 : Nat) : Int) := by
        rw [show Int.tdiv (n : Int) 10 = ((n / 10 : Nat) : Int) from by rw [show (10 : Int) = ((10 : Nat) : Int) from rfl, ← Int.ofNat_tdiv]]
        rw [w64_id (by omega) (by omega)]
      have e2 : Int.tmod (n : Int) 10 = ((n % 10 : Nat) : Int) := by rw [show (10 : Int) = ((10 : Nat) : Int) from rfl, ← Int.ofNat_tmod]
      have hlen : (Lib.decDigits (n / 10)).length ≤ 19 := dec_length 18 (n / 10) (by omega)
      have hs : (ByteArray.mk #[48, 49, 50, 51, 52, 53, 54, 55, 56, 57]).size = 10 := rfl
      have e3 : w64 (((n % 10 : Nat) : Int) + 1) = ((n % 10 + 1 : Nat) : Int) := w64_nat (by omega)
      rw [cond_df (by omega), grd_pos (by omega), e1, ih, Option.bind_some]
      simp only [e2]
      have hm : n % 10 < 10 := Nat.mod_lt _ (by omega)
      rw [grd_pos (by omega), grd_pos (by omega), grd_pos ⟨by omega, by rw [e3]; omega, by rw [e3, hs]; omega⟩, digs_get (n % 10) hm, grd_pos (by rw [bs_size, bs_size]; simp; omega), bs_app]
      conv => rhs; unfold Lib.decDigits
      rw [dif_neg h10]
theorem l1Num_eq (n : Nat) (h : n < 1000000000000000000) : spec_l1Num (n : Int) = some (bs (Lib.decDigits n)) := by
  unfold spec_l1Num
  have := l1Num_f_eq 63 n (Nat.lt_of_lt_of_le h (by decide)) h
  exact this
theorem itoa_eq (n : Nat) (h : n < 1000000000000000000) : strconv_Itoa (n : Int) = some (bs (Lib.decDigits n)) := by
  unfold strconv_Itoa
  rw [grd_pos (by omega)]
  have : itoaB (n : Int) = bs (Lib.decDigits n) := by
    unfold itoaB Lib.itoa
    rw [if_neg (by omega), Int.toNat_natCast]
  rw [this]

def letB (b : UInt8) : Bool := decide (97 ≤ b.toNat ∧ b.toNat ≤ 122)
theorem bAt_get (s : ByteArray) (k : Nat) : bAt s (k : Int) = ((s.data.toList.getD k 0).toNat : Int) := by unfold bAt; rw [Int.toNat_natCast]
theorem size_list (s : ByteArray) : s.data.toList.length = s.size := Array.length_toList
theorem l1Num_int (n : Int) (h : -1000000000000 ≤ n ∧ n ≤ 1000000000000) : spec_l1Num n = some (bs (Lib.itoa n)) := by
  by_cases h0 : n < 0
  · obtain ⟨m, rfl⟩ : ∃ m : Nat, n = -(m : Int) := ⟨n.natAbs, by omega⟩
    have hm : 1 ≤ m := by omega
    have e := l1Num_f_eq 62 m (Nat.lt_of_lt_of_le (m := 10 ^ 18) (by omega) (by decide)) (by omega)
    have hl := dec_length 18 m (Nat.lt_of_lt_of_le (m := 10 ^ 18) (by omega) (by decide))
    unfold spec_l1Num
    rw [show (64 : Nat) = 63 + 1 from rfl, spec_l1Num_f_succ, cond_dt h0, show (0 - -(m : Int)) = (m : Int) by omega, w64_id (by omega) (by omega), e, Option.bind_some, grd_pos (by rw [bs_size]; show 1 + (Lib.decDigits m).length ≤ 9223372036854775807; omega), Lib.itoa_neg m hm]
    show some (bs [45] ++ bs (Lib.decDigits m)) = _
    rw [bs_app]; rfl
  · obtain ⟨m, rfl⟩ : ∃ m : Nat, n = (m : Int) := ⟨n.toNat, by omega⟩
    rw [l1Num_eq m (by omega), Lib.itoa_nonneg]
theorem itoa_int (n : Int) (h : -1000000000000 ≤ n ∧ n ≤ 1000000000000) : strconv_Itoa n = some (bs (Lib.itoa n)) := by
  unfold strconv_Itoa
  rw [grd_pos (by omega)]; rfl
theorem read_loop (t : List UInt8) (ht : t.length ≤ 6) : ∀ (r p : List UInt8) (acc : Nat), t = p ++ r → acc < 10 ^ p.length →
    iter (fun s => spec_l1Read_loop1 s.1 s.2.1 s.2.2) (bs t, (acc : Int), (p.length : Int)) = some (match Lib.decFrom acc r with | none => Sum.inl () | some m => Sum.inr (bs t, (m : Int)))
  | [], p, acc, e, _ => by
    refine iter_out ?_
    show spec_l1Read_loop1 (bs t) (acc : Int) (p.length : Int) = _
    unfold spec_l1Read_loop1
    have : t.length = p.length := by rw [e]; simp
    rw [cond_df (by rw [bs_size]; omega)]
    rfl
  | b :: r, p, acc, e, ha => by
    have hl : t.length = p.length + (r.length + 1) := by rw [e]; simp
    have hb : bAt (bs t) (p.length : Int) = (b.toNat : Int) := by
      rw [bAt_bs, Int.toNat_natCast, e]; simp [List.getD_eq_getElem?_getD]
    have hlt : b.toNat < 256 := UInt8.toNat_lt b
    have hacc : acc < 1000000 := Nat.lt_of_lt_of_le ha (Nat.le_trans (Nat.pow_le_pow_right (by omega) (show p.length ≤ 6 by omega)) (by decide))
    have h1 : 0 ≤ (p.length : Int) ∧ (p.length : Int) < ((bs t).size : Int) := by rw [bs_size]; omega
    by_cases hd : 48 ≤ b.toNat ∧ b.toNat ≤ 57
    · have hv : Lib.digitVal b = some (b.toNat - 48) := by unfold Lib.digitVal; rw [if_pos hd]
      have e2 : Lib.decFrom acc (b :: r) = Lib.decFrom (acc * 10 + (b.toNat - 48)) r := by
        conv => lhs; unfold Lib.decFrom
        rw [hv]
      have w1 : wu8 ((b.toNat : Int) - 48) = (b.toNat : Int) - 48 := by
        show IntKind.u8.wrap _ = _
        rw [IntKind.wrap_u8]; omega
      have w2 : w64 (w64 (10 * (acc : Int)) + w64 (wu8 ((b.toNat : Int) - 48))) = ((acc * 10 + (b.toNat - 48) : Nat) : Int) := by
        rw [w1, w64_id (x := 10 * (acc : Int)) (by omega) (by omega), w64_id (x := (b.toNat : Int) - 48) (by omega) (by omega), w64_id (by omega) (by omega)]; omega
      have w3 : w64 ((p.length : Int) + 1) = ((p ++ [b]).length : Int) := by rw [w64_nat (by omega)]; simp
      have step : spec_l1Read_loop1 (bs t) (acc : Int) (p.length : Int) = some (.go (bs t, ((acc * 10 + (b.toNat - 48) : Nat) : Int), ((p ++ [b]).length : Int))) := by
        unfold spec_l1Read_loop1
        rw [cond_dt h1.2, grd_pos h1, hb, cond_df (by omega), grd_pos h1, cond_df (by omega), grd_pos h1, w2, w3]
      have hp : acc * 10 + (b.toNat - 48) < 10 ^ (p ++ [b]).length := by
        rw [List.length_append, List.length_singleton, Nat.pow_succ]; omega
      rw [e2]
      exact (iter_go step).trans (read_loop t ht r (p ++ [b]) _ (by rw [e]; simp) hp)
    · have hv : Lib.digitVal b = none := by unfold Lib.digitVal; rw [if_neg hd]
      have e2 : Lib.decFrom acc (b :: r) = none := by
        conv => lhs; unfold Lib.decFrom
        rw [hv]
      rw [e2]
      refine iter_out ?_
      show spec_l1Read_loop1 (bs t) (acc : Int) (p.length : Int) = _
      unfold spec_l1Read_loop1
      rw [cond_dt h1.2, grd_pos h1, hb]
      by_cases h2 : (b.toNat : Int) < 48
      · rw [cond_dt h2]
      · rw [cond_df h2, grd_pos h1, cond_dt (by omega)]
theorem cut_sign (l : List UInt8) (hl : l.length ≤ 1000000) : ∃ t, (cond (decide ((1 : Int) < ((bs l).size : Int))) (grd (0 ≤ (0 : Int) ∧ (0 : Int) < ((bs l).size : Int)) (cond (decide ((bAt (bs l) (0 : Int)) = (45 : Int))) (grd (0 ≤ (1 : Int) ∧ (1 : Int) ≤ ((bs l).size : Int) ∧ ((bs l).size : Int) ≤ ((bs l).size : Int)) ((some (bsub (bs l) (1 : Int) ((bs l).size : Int))))) ((some (bs l))))) ((some (bs l)))) = some (bs t) ∧
    ((t = l ∧ ∀ r, l = 45 :: r → r = []) ∨ (l = 45 :: t ∧ t ≠ [])) := by
  match l, hl with
  | [], _ => exact ⟨[], rfl, .inl ⟨rfl, (fun r h => by cases h)⟩⟩
  | [b], _ => exact ⟨[b], rfl, .inl ⟨rfl, fun r h => by cases h; rfl⟩⟩
  | b :: c :: r, hl =>
    have hs : ((bs (b :: c :: r)).size : Int) = (r.length : Int) + 2 := by rw [bs_size]; simp only [List.length_cons]; omega
    rw [cond_dt (by rw [hs]; omega), grd_pos (by rw [hs]; omega)]
    have hb : bAt (bs (b :: c :: r)) (0 : Int) = (b.toNat : Int) := by rw [bAt_bs]; rfl
    rw [hb]
    by_cases h : b.toNat = 45
    · have hb45 : b = 45 := UInt8.toNat_inj.1 h
      rw [cond_dt (by omega), grd_pos (by rw [hs]; omega), bsub_bs]
      refine ⟨c :: r, ?_, .inr ⟨by rw [hb45], by simp⟩⟩
      congr 2
      have : ((bs (b :: c :: r)).size : Int).toNat = r.length + 2 := by rw [hs]; omega
      rw [this]
      simp
    · rw [cond_df (by omega)]
      refine ⟨b :: c :: r, rfl, .inl ⟨rfl, fun r' h' => ?_⟩⟩
      have : b = 45 := by cases h'; rfl
      rw [this] at h
      exact absurd rfl h
theorem decFrom_six {t : List UInt8} {m : Nat} (h : Lib.decFrom 0 t = some m) (hl : t.length ≤ 6) : m < 1000000 := by
  have := Lib.decFrom_lt t 0 m h
  have h6 : (10 : Nat) ^ t.length ≤ 10 ^ 6 := Nat.pow_le_pow_right (by omega) hl
  have h7 : (10 : Nat) ^ 6 = 1000000 := by decide
  omega
theorem l1Read_eq (l : List UInt8) (hl : l.length ≤ 1000000) : spec_l1Read (bs l) = some (parseI (bs l)) := by
  obtain ⟨t, e1, e2⟩ := cut_sign l hl
  have hts : (t = l ∧ t.length = l.length) ∨ (l = 45 :: t ∧ t.length < l.length) := by
    rcases e2 with ⟨h, _⟩ | ⟨h, _⟩
    · exact .inl ⟨h, by rw [h]⟩
    · exact .inr ⟨h, by rw [h]; simp⟩
  -- what is read, if anything
  have key : ∃ o : Option Int, spec_l1Read (bs l) = some (match o with | none => (0, false) | some n => if l = Lib.itoa n then (n, true) else (0, false)) ∧
      (∀ n, o = some n → -999999 ≤ n ∧ n ≤ 999999) ∧ (1 ≤ t.length ∧ t.length ≤ 6 → ∀ m, Lib.decFrom 0 t = some m → o = some (if t.length < l.length then -(m : Int) else (m : Int))) := by
    unfold spec_l1Read
    rw [e1, Option.bind_some, l1In_eq, Option.bind_some, bs_size]
    by_cases hr : (1 : Int) ≤ (t.length : Int) ∧ (t.length : Int) ≤ 6
    case neg =>
      rw [cond_ndf hr]
      exact ⟨none, rfl, (fun n h => by cases h), fun h => absurd h (by omega)⟩
    rw [cond_ndt hr]
    have lp := read_loop t (by omega) t [] 0 rfl (by simp)
    rw [show (([] : List UInt8).length : Int) = (0 : Int) from rfl, show ((0 : Nat) : Int) = (0 : Int) from rfl] at lp
    rw [lp]
    cases hd : Lib.decFrom 0 t with
    | none => exact ⟨none, rfl, (fun n h => by cases h), (fun _ m h => by cases h)⟩
    | some m =>
      have hm := decFrom_six hd (by omega)
      simp only [Option.bind_some, Sum.elim_inr, bs_size]
      by_cases hlt : t.length < l.length
      · have w1 : w64 (0 - (m : Int)) = -(m : Int) := by rw [w64_id (by omega) (by omega)]; omega
        rw [cond_dt (by omega), w1, l1Num_int _ (by omega), Option.bind_some]
        refine ⟨some (-(m : Int)), ?_, (fun n h => by cases h; omega), (fun _ m' h => by cases h; rw [if_pos hlt])⟩
        dsimp only
        by_cases he : bs (Lib.itoa (-(m : Int))) = bs l
        · rw [cond_ndt he, if_pos (bs_inj.1 he).symm]
        · rw [cond_ndf he, if_neg (fun h => he (by rw [h]))]
      · rw [cond_df (by omega), l1Num_int _ (by omega), Option.bind_some]
        refine ⟨some (m : Int), ?_, (fun n h => by cases h; omega), (fun _ m' h => by cases h; rw [if_neg hlt])⟩
        dsimp only
        by_cases he : bs (Lib.itoa (m : Int)) = bs l
        · rw [cond_ndt he, if_pos (bs_inj.1 he).symm]
        · rw [cond_ndf he, if_neg (fun h => he (by rw [h]))]
  obtain ⟨o, k1, k2, k3⟩ := key
  rw [k1]
  rcases parseI_cases l with ⟨n, hn, hln, hp⟩ | ⟨hp, hno⟩
  · rw [hp]
    have hlen := itoa_length n hn
    have ho : o = some n := by
      by_cases h0 : n < 0
      · obtain ⟨m, rfl⟩ : ∃ m : Nat, n = -(m : Int) := ⟨n.natAbs, by omega⟩
        have h45 : l = 45 :: Lib.decDigits m := by rw [hln, Lib.itoa_neg m (by omega)]
        have ht : t = Lib.decDigits m := by
          rcases e2 with ⟨_, h⟩ | ⟨h, _⟩
          · have := h _ h45
            have h2 := digit_length m
            rw [this] at h2; simp at h2
          · rw [h45] at h
            simp only [List.cons.injEq, true_and] at h
            exact h.symm
        have hl6 := dec_length 5 m (by have : (10 : Nat) ^ (5 + 1) = 1000000 := by decide
                                       omega)
        have := k3 ⟨by rw [ht]; exact digit_length m, by rw [ht]; omega⟩ m (by rw [ht]; exact decFrom_dec m)
        rw [this, if_pos (by rw [h45, ht]; simp)]
      · obtain ⟨m, rfl⟩ : ∃ m : Nat, n = (m : Int) := ⟨n.toNat, by omega⟩
        have hd : l = Lib.decDigits m := by rw [hln, Lib.itoa_nonneg]
        have ht : t = Lib.decDigits m := by
          rcases e2 with ⟨h, _⟩ | ⟨h, _⟩
          · rw [h, hd]
          · exfalso
            obtain ⟨b, r, e, hb, _⟩ := dec_cons m
            rw [hd, e] at h
            have : b = 45 := by cases h; rfl
            rw [this] at hb
            exact absurd hb (by decide)
        have hl6 := dec_length 5 m (by have : (10 : Nat) ^ (5 + 1) = 1000000 := by decide
                                       omega)
        have := k3 ⟨by rw [ht]; exact digit_length m, by rw [ht]; omega⟩ m (by rw [ht]; exact decFrom_dec m)
        rw [this, if_neg (by rw [hd, ht]; omega)]
    rw [ho]
    dsimp only
    rw [if_pos hln]
  · rw [hp]
    cases o with
    | none => rfl
    | some n =>
      dsimp only
      rw [if_neg (hno n (k2 n rfl))]

theorem split_eq (l : List UInt8) (c : UInt8) (hl : l.length ≤ 1000000000) : spec_l1Split (bs l) (c.toNat : Int) = some ((spl c l).map bs) := by
  unfold spec_l1Split
  have key : ∀ (d i from' : Nat) (out : List ByteArray), i + d = l.length → from' ≤ i → out.length ≤ i → (∃ o : List (List UInt8), out = o.map bs ∧ spl c l = o ++ preF ((l.drop from').take (i - from')) (spl c (l.drop i))) →
      ∃ (f' : Nat) (o : List (List UInt8)), iter (fun s => spec_l1Split_loop1 (bs l) (c.toNat : Int) s.1 s.2.1 s.2.2) ((from' : Int), (i : Int), out) = some ((f' : Int), o.map bs) ∧ f' ≤ l.length ∧ o.length ≤ l.length ∧ spl c l = o ++ [l.drop f'] := by
    intro d
    induction d with
    | zero =>
      rintro i from' out hi hf ho ⟨o, rfl, e⟩
      refine ⟨from', o, iter_out ?_, by omega, by simp at ho; omega, ?_⟩
      · show spec_l1Split_loop1 (bs l) (c.toNat : Int) (from' : Int) (i : Int) _ = _
        unfold spec_l1Split_loop1
        rw [cond_df (by rw [bs_size]; omega)]
      · rw [e, show l.drop i = [] from List.drop_eq_nil_of_le (by omega), preF_nil]
        congr 2
        rw [List.take_of_length_le (by simp; omega)]
    | succ d ih =>
      rintro i from' out hi hf ho ⟨o, rfl, e⟩
      have hil : i < l.length := by omega
      have hdrop : l.drop i = l[i] :: l.drop (i + 1) := List.drop_eq_getElem_cons hil
      have htake : (l.drop from').take (i + 1 - from') = (l.drop from').take (i - from') ++ [l[i]] := by
        rw [show i + 1 - from' = (i - from') + 1 by omega, List.take_succ_eq_append_getElem (by simp; omega)]
        simp [show from' + (i - from') = i by omega]
      by_cases hc : l[i] = c
      · obtain ⟨f', o', h1, h2, h3, h4⟩ := ih (i + 1) (i + 1) ((o ++ [(l.drop from').take (i - from')]).map bs) (by omega) (by omega) (by simp at ho ⊢; omega) ⟨_, rfl, by
          rw [e, hdrop, hc, preF_hit]
          simp [preF_zero]⟩
        refine ⟨f', o', (iter_go ?_).trans h1, h2, h3, h4⟩
        show spec_l1Split_loop1 (bs l) (c.toNat : Int) (from' : Int) (i : Int) _ = _
        unfold spec_l1Split_loop1
        simp only [List.length_map] at ho
        rw [cond_dt (by rw [bs_size]; omega), grd_pos (by rw [bs_size]; omega), bAt_bs, Int.toNat_natCast, getD_eq _ _ _ hil, hc, cond_dt rfl, grd_pos (by rw [bs_size]; omega), grd_pos (by simp; omega), w64_nat (by omega), bsub_bs]
        simp
      · obtain ⟨f', o', h1, h2, h3, h4⟩ := ih (i + 1) from' (o.map bs) (by omega) (by omega) (by simp at ho ⊢; omega) ⟨o, rfl, by
          rw [e, hdrop, preF_snoc c _ _ _ hc, htake]⟩
        refine ⟨f', o', (iter_go ?_).trans h1, h2, h3, h4⟩
        show spec_l1Split_loop1 (bs l) (c.toNat : Int) (from' : Int) (i : Int) _ = _
        unfold spec_l1Split_loop1
        rw [cond_dt (by rw [bs_size]; omega), grd_pos (by rw [bs_size]; omega), bAt_bs, Int.toNat_natCast, getD_eq _ _ _ hil, cond_df (fun h => hc (UInt8.toNat_inj.1 (by omega))), w64_nat (by omega)]
  obtain ⟨f', o, h1, h2, h3, h4⟩ := key l.length 0 0 [] (by omega) (by omega) (by simp) ⟨[], rfl, by simp [preF_zero]⟩
  rw [show ((0 : Nat) : Int) = (0 : Int) from rfl] at h1
  rw [h1, Option.bind_some]
  simp only [bs_size, bsub_bs]
  rw [grd_pos (by omega), grd_pos (by simp; omega), h4, List.map_append, Int.toNat_natCast, Int.toNat_natCast, List.take_of_length_le (by simp)]
  rfl
theorem k1 : (ByteArray.mk #[100, 97, 121, 32]) = bs [100, 97, 121, 32] := rfl
theorem k2 : (ByteArray.mk #[58, 32]) = bs [58, 32] := rfl
theorem k3 : (ByteArray.mk #[99, 108, 111, 115, 101, 100]) = bs [99, 108, 111, 115, 101, 100] := rfl
theorem k4 : (ByteArray.mk #[32, 117, 112, 44, 32]) = bs [32, 117, 112, 44, 32] := rfl
theorem k5 : (ByteArray.mk #[32, 100, 111, 119, 110, 44, 32]) = bs [32, 100, 111, 119, 110, 44, 32] := rfl
theorem k6 : (ByteArray.mk #[32, 104]) = bs [32, 104] := rfl
theorem k7 : (ByteArray.mk #[44, 32, 49, 32, 115, 116, 111, 112, 32, 40]) = bs [44, 32, 49, 32, 115, 116, 111, 112, 32, 40] := rfl
theorem k8 : (ByteArray.mk #[41]) = bs [41] := rfl
theorem k9 : (ByteArray.mk #[44, 32]) = bs [44, 32] := rfl
theorem k10 : (ByteArray.mk #[32, 115, 116, 111, 112, 115, 32, 40]) = bs [32, 115, 116, 111, 112, 115, 32, 40] := rfl
theorem k11 : (ByteArray.mk #[10]) = bs [10] := rfl
theorem k12 : (ByteArray.mk #[97, 108, 108, 58, 32]) = bs [97, 108, 108, 58, 32] := rfl
theorem k13 : (ByteArray.mk #[32, 100, 111, 119, 110]) = bs [32, 100, 111, 119, 110] := rfl
theorem k14 : (ByteArray.mk #[]) = bs [] := rfl
/-- A row's line. -/
theorem cut_bs (l : List UInt8) (c : UInt8) (q : List UInt8) (h : l.length ≤ 2000000) : strings_Cut (bs l) (bs (c :: q)) = some (bs (Lib.cut l (c :: q)).1, bs (Lib.cut l (c :: q)).2.1, (Lib.cut l (c :: q)).2.2) := by
  unfold strings_Cut
  rw [grd_pos (by rw [bs_size]; omega)]
  unfold cutA cutB cutF
  rw [list_bs, list_bs]
theorem cut_len (l p : List UInt8) : (Lib.cut l p).1.length ≤ l.length ∧ (Lib.cut l p).2.1.length ≤ l.length := by
  unfold Lib.cut
  split
  · exact ⟨by simp; omega, by simp⟩
  · exact ⟨Nat.le_refl _, by simp⟩
def cutS (l q : List UInt8) : List UInt8 := if q.length ≤ l.length ∧ l.drop (l.length - q.length) = q then l.take (l.length - q.length) else l
theorem cutS_len (l q : List UInt8) : (cutS l q).length ≤ l.length := by
  unfold cutS
  split
  · simp
  · exact Nat.le_refl _
theorem cutS_app (a q : List UInt8) : cutS (a ++ q) q = a := by
  have e : (a ++ q).length - q.length = a.length := by simp
  unfold cutS
  rw [e, if_pos ⟨by simp, List.drop_left ..⟩, List.take_left ..]
theorem splitB_len (sep : ByteArray) : ∀ (k : Nat) (s x : ByteArray), x ∈ Lib.splitB sep 0 k s → x.size ≤ s.size
  | 0, s, x, h => by
    simp only [Lib.splitB, List.mem_singleton] at h
    rw [h]; exact Nat.le_refl _
  | k + 1, s, x, h => by
    unfold Lib.splitB at h
    split at h
    · rw [List.mem_singleton.1 h]; exact Nat.le_refl _
    · rcases List.mem_cons.1 h with h | h
      · rw [h, ByteArray.size_extract]; omega
      · have := splitB_len sep k _ x h
        rw [ByteArray.size_extract] at this
        omega
theorem cut_app2 (c e : UInt8) (hce : c ≠ e) (a r : List UInt8) (h : e ∉ a) : Lib.cut (a ++ c :: e :: r) [c, e] = (a, r, true) := by
  have key : ∀ a : List UInt8, e ∉ a → Lib.index (a ++ c :: e :: r) [c, e] = (a.length : Int) := by
    intro a
    induction a with
    | nil =>
      intro _
      have hp : [c, e].isPrefixOf (c :: e :: r) = true := by simp [List.isPrefixOf]
      rw [List.nil_append]
      unfold Lib.index
      rw [hp]; rfl
    | cons b a ih =>
      intro h
      simp only [List.mem_cons, not_or] at h
      have ih := ih h.2
      have hp : [c, e].isPrefixOf (b :: (a ++ c :: e :: r)) = false := by
        cases a with
        | nil =>
          have : (e == c) = false := by rw [beq_eq_false_iff_ne]; exact fun h => hce h.symm
          simp [List.isPrefixOf, this]
        | cons d a =>
          simp only [List.mem_cons, not_or] at h
          have : (e == d) = false := by rw [beq_eq_false_iff_ne]; exact h.2.1
          simp [List.isPrefixOf, this]
      have h2 : (((a.length : Nat) : Int) == -1) = false := by rw [beq_eq_false_iff_ne]; omega
      rw [List.cons_append]
      unfold Lib.index
      rw [hp, ih, h2]
      simp
  unfold Lib.cut
  rw [key a h, if_pos (by omega)]
  have e1 : a ++ c :: e :: r = a ++ ([c, e] ++ r) := rfl
  rw [Int.toNat_natCast, e1, List.take_left, ← List.drop_drop, List.drop_left, List.drop_left]
theorem dec_no (c : UInt8) (h : c.toNat < 48 ∨ 57 < c.toNat) (n : Nat) : c ∉ Lib.decDigits n := fun hm => by
  have := dec_mem n c hm
  omega
theorem parse_dec (n : Nat) (h : n ≤ 99999) : parseI (bs (Lib.decDigits n)) = ((n : Int), true) := by
  have e : Lib.itoa (n : Int) = Lib.decDigits n := by
    unfold Lib.itoa
    rw [if_neg (by omega)]; rfl
  rw [← e]
  exact parseI_itoa n (by omega)
theorem get_bs (ws : List (List UInt8)) (k : Nat) : (ws.map bs).getD k (ByteArray.mk #[]) = bs (ws.getD k []) := by
  rw [List.getD_eq_getElem?_getD, List.getD_eq_getElem?_getD, List.getElem?_map]
  cases ws[k]? <;> rfl
/-- The row that the words of a line tell. -/
theorem spl_part (c : UInt8) : ∀ (l z : List UInt8), z ∈ spl c l → z.length ≤ l.length := by
  intro l
  induction l with
  | nil => intro z hz; simp [spl] at hz; simp [hz]
  | cons b l ih =>
    intro z hz
    unfold spl at hz
    split at hz
    · rcases List.mem_cons.1 hz with hz | hz
      · simp [hz]
      · have := ih z hz; simp; omega
    · cases hq : spl c l with
      | nil => rw [hq] at hz; simp at hz; simp [hz]
      | cons q qs =>
        rw [hq] at hz
        rcases List.mem_cons.1 hz with hz | hz
        · have := ih q (by rw [hq]; simp)
          rw [hz]; simp; omega
        · have := ih z (by rw [hq]; simp [hz])
          simp; omega
theorem getD_part (s : List UInt8) (k : Nat) : ((spl 32 s).getD k []).length ≤ s.length := by
  by_cases hk : k < (spl 32 s).length
  · rw [getD_eq _ _ _ hk]
    exact spl_part 32 s _ (List.getElem_mem hk)
  · rw [List.getD_eq_getElem?_getD, List.getElem?_eq_none (by omega)]; simp
theorem dec_pos (n : Nat) : 1 ≤ (Lib.decDigits n).length := by
  obtain ⟨b, r, e, _⟩ := dec_cons n
  rw [e]; simp
/-- The place of the reader stays small; what it reads are bytes. -/
def CG (c : l1Cur) (n : Int) : Prop := (∀ x ∈ c.1, 0 ≤ x ∧ x ≤ 255) ∧ c.1.length ≤ 1048576 ∧ 0 ≤ c.2.1 ∧ c.2.1 ≤ n
theorem CG.up {c : l1Cur} {n m : Int} (h : CG c n) (hm : n ≤ m) : CG c m := ⟨h.1, h.2.1, h.2.2.1, by have := h.2.2.2; omega⟩
def Gives {α : Type} (x : Option (α × l1Cur)) (n : Int) (Q : α → Prop) : Prop := ∃ a c, x = some (a, c) ∧ CG c n ∧ Q a
theorem Gives.ret {α : Type} {a : α} {c : l1Cur} {n : Int} {Q : α → Prop} (h : CG c n) (hq : Q a) : Gives (some (a, c)) n Q := ⟨a, c, rfl, h, hq⟩
theorem Gives.mono {α : Type} {x : Option (α × l1Cur)} {n m : Int} {P Q : α → Prop} (h : Gives x n P) (hm : n ≤ m) (hq : ∀ a, P a → Q a) : Gives x m Q := by
  obtain ⟨a, c, e, h1, h2⟩ := h
  exact ⟨a, c, e, h1.up hm, hq a h2⟩
theorem gives_bind {α β : Type} {x : Option (α × l1Cur)} {f : α × l1Cur → Option (β × l1Cur)} {n m : Int} {P : α → Prop} {Q : β → Prop} (h : Gives x n P)
    (hf : ∀ a code at' seed, P a → CG (code, at', seed, ()) n → Gives (f (a, (code, at', seed, ()))) m Q) : Gives (x.bind f) m Q := by
  obtain ⟨a, ⟨code, at', seed, u⟩, e, h1, h2⟩ := h
  rw [e]
  exact hf a code at' seed h2 h1
theorem gives_cond {α : Type} {b : Bool} {x y : Option (α × l1Cur)} {n : Int} {Q : α → Prop} (h1 : b = true → Gives x n Q) (h2 : b = false → Gives y n Q) : Gives (cond b x y) n Q := by
  cases b
  · exact h2 rfl
  · exact h1 rfl
theorem gives_grd {α : Type} {p : Prop} [Decidable p] {x : Option (α × l1Cur)} {n : Int} {Q : α → Prop} (hp : p) (h : Gives x n Q) : Gives (grd p x) n Q := by
  rw [grd_pos hp]; exact h

theorem and255 (x : Int) : 0 ≤ w64 (wu64 ((BitVec.ofInt (IntKind.u64).bits x &&& BitVec.ofInt (IntKind.u64).bits (255 : Int)).toNat)) ∧ w64 (wu64 ((BitVec.ofInt (IntKind.u64).bits x &&& BitVec.ofInt (IntKind.u64).bits (255 : Int)).toNat)) ≤ 255 := by
  have h : (BitVec.ofInt (IntKind.u64).bits x &&& BitVec.ofInt (IntKind.u64).bits (255 : Int)).toNat ≤ 255 := by
    rw [BitVec.toNat_and]
    exact Nat.le_trans Nat.and_le_right (by decide)
  have e : wu64 ((BitVec.ofInt (IntKind.u64).bits x &&& BitVec.ofInt (IntKind.u64).bits (255 : Int)).toNat : Int) = ((BitVec.ofInt (IntKind.u64).bits x &&& BitVec.ofInt (IntKind.u64).bits (255 : Int)).toNat : Int) := by
    show IntKind.u64.wrap _ = _
    rw [IntKind.wrap_u64]; omega
  rw [e, w64_id (by omega) (by omega)]
  omega
theorem next_ok (c : l1Cur) (n : Int) (h : CG c n) (hn : n ≤ 1000000000000) : Gives (spec_l1Cur_next c) (n + 1) (fun v => 0 ≤ v ∧ v ≤ 255) := by
  obtain ⟨code, at', seed, u⟩ := c
  obtain ⟨hb, hl, h0, h1⟩ := h
  have h0 : 0 ≤ at' := h0
  have h1 : at' ≤ n := h1
  have hw : w64 (at' + 1) = at' + 1 := w64_id (by omega) (by omega)
  have key : ∃ b : Int, (cond (decide (at' < (code.length : Int))) (grd (0 ≤ at' ∧ at' < (code.length : Int)) ((some (w64 (code.getD at'.toNat 0))))) ((some (0 : Int)))) = some b ∧ 0 ≤ b ∧ b ≤ 255 := by
    by_cases hlt : at' < (code.length : Int)
    · rw [cond_dt hlt, grd_pos ⟨h0, hlt⟩]
      have hi : at'.toNat < code.length := by omega
      have hm : code.getD at'.toNat 0 ∈ code := by rw [getD_eq _ _ _ hi]; exact List.getElem_mem hi
      have := hb _ hm
      exact ⟨_, rfl, by rw [w64_id (by omega) (by omega)]; exact this⟩
    · rw [cond_df hlt]; exact ⟨0, rfl, by omega, by omega⟩
  obtain ⟨b, e, b0, b1⟩ := key
  unfold spec_l1Cur_next
  simp only [e, Option.bind_some]
  refine gives_cond (fun _ => ?_) (fun _ => ?_)
  · exact Gives.ret ⟨hb, hl, by show 0 ≤ w64 (at' + 1); omega, by show w64 (at' + 1) ≤ n + 1; omega⟩ ⟨b0, b1⟩
  · refine gives_grd (by omega) ?_
    exact Gives.ret ⟨hb, hl, by show 0 ≤ w64 (at' + 1); omega, by show w64 (at' + 1) ≤ n + 1; omega⟩ (and255 _)
theorem pick_ok (c : l1Cur) (n k : Int) (h : CG c n) (hn : n ≤ 100000000000) : Gives (spec_l1Cur_pick c k) (n + 2) (fun v => 0 ≤ v ∧ (v = 0 ∨ v < k)) := by
  obtain ⟨code, at', seed, u⟩ := c
  unfold spec_l1Cur_pick
  by_cases hk : k ≤ 1
  · rw [cond_dt hk]
    exact Gives.ret (h.up (by omega)) ⟨by omega, .inl rfl⟩
  rw [cond_df hk]
  refine gives_bind (next_ok _ n h (by omega)) fun a code1 at1 seed1 ha hc => ?_
  dsimp only
  by_cases h2 : 200 < k
  · rw [cond_dt h2]
    refine gives_bind (next_ok _ (n + 1) hc (by omega)) fun b code2 at2 seed2 hb hc => ?_
    dsimp only
    refine gives_grd (by omega) (Gives.ret (hc.up (by omega)) ?_)
    rw [w64_id (x := a * 256) (by omega) (by omega), w64_id (by omega) (by omega)]
    exact ⟨Int.tmod_nonneg _ (by omega), .inr (Int.tmod_lt_of_pos _ (by omega))⟩
  · rw [cond_df h2]
    refine gives_grd (by omega) (Gives.ret (hc.up (by omega)) ?_)
    exact ⟨Int.tmod_nonneg _ (by omega), .inr (Int.tmod_lt_of_pos _ (by omega))⟩
theorem among_ok (c : l1Cur) (n : Int) (l : List Int) (hl : l ≠ []) (h : CG c n) (hn : n ≤ 100000000000) : Gives (spec_l1Cur_among c l) (n + 2) (fun v => v ∈ l) := by
  obtain ⟨code, at', seed, u⟩ := c
  unfold spec_l1Cur_among
  refine gives_bind (pick_ok _ n _ h hn) fun a code1 at1 seed1 ha hc => ?_
  dsimp only
  have hpos : 0 < l.length := List.length_pos_iff.2 hl
  have hlt : a < (l.length : Int) := by omega
  refine gives_grd ⟨ha.1, hlt⟩ (Gives.ret hc ?_)
  have hi : a.toNat < l.length := by omega
  show l.getD a.toNat 0 ∈ l
  rw [getD_eq _ _ _ hi]; exact List.getElem_mem hi
theorem one_ok (c : l1Cur) (n k : Int) (h : CG c n) (hn : n ≤ 100000000000) : Gives (spec_l1Cur_one c k) (n + 2) (fun _ => True) := by
  obtain ⟨code, at', seed, u⟩ := c
  unfold spec_l1Cur_one
  refine gives_bind (pick_ok _ n _ h hn) fun a code1 at1 seed1 ha hc => ?_
  dsimp only
  exact Gives.ret hc trivial
theorem stepGrip_full (st z f n k v : Int) : ∃ (a b c d : Int) (ok : Bool), spec_StepGrip (st, z, f, n, ()) (k, v, ()) = some ((a, b, c, d, ()), ok) ∧ impl_StepGrip (st, z, f, n, ()) (k, v, ()) = some ((a, b, c, d, ()), ok) ∧
    (ok = true → GP st z f n ∧ GP a b c d ∧ okb st z f n k v = true) := by
  unfold spec_StepGrip impl_StepGrip
  simp only [l21Good_eq, isGrip_eq, Option.bind_some]
  by_cases hg : GP st z f n
  · obtain ⟨⟨a, b, c, d, u⟩, ok, h1, hgood, q, h2, h3, h4⟩ := step_ok st z f n k v hg
    have hok : okb st z f n k v = ok := by unfold okb; rw [h1]
    rw [cond_ndt hg, cond_ndt hg]
    simp only [h1, h2, Option.bind_some]
    cases q with
    | false => rw [h3 rfl]; exact ⟨_, _, _, _, _, rfl, rfl, fun h => by cases h⟩
    | true =>
      obtain ⟨r', h5, h6⟩ := h4 rfl
      simp only [h5, Option.bind_some, Bool.not_true, cond_false]
      cases ok with
      | false => exact ⟨_, _, _, _, _, rfl, rfl, fun h => by cases h⟩
      | true => rw [h6 rfl]; exact ⟨a, b, c, d, true, rfl, rfl, fun _ => ⟨hg, hgood rfl, hok⟩⟩
  · rw [cond_ndf hg, cond_ndf hg]
    exact ⟨_, _, _, _, _, rfl, rfl, fun h => by cases h⟩
abbrev R4 : Type := Int × Int × Int × Int × Int
theorem gripStep_ok (c : l1Cur) (g : GripState) (n : Int) (h : CG c n) (hn : n ≤ 1000000000) : Gives (spec_l1Cur_gripStep c g) (n + 10) (fun _ => True) := by
  obtain ⟨code, at', seed, u⟩ := c
  unfold spec_l1Cur_gripStep
  refine gives_bind (among_ok _ n _ (by simp) h (by omega)) fun a code1 at1 seed1 _ hc => ?_
  dsimp only
  have key : ∃ c2 t2 s2 v, (cond (decide (a = (2 : Int))) (cond (decide (g.1 = (1 : Int))) ((spec_l1Cur_among (code1, at1, seed1, ()) [(1 : Int), (499 : Int), (500 : Int), (501 : Int), (1500 : Int), (2000 : Int), (2000 : Int), (2001 : Int), (0 : Int)]).bind fun y2 => (some (y2.2.1, y2.2.2.1, y2.2.2.2.1, a, y2.1))) ((some (code1, at1, seed1, a, (0 : Int))))) ((some (code1, at1, seed1, a, (0 : Int))))) = some (c2, t2, s2, a, v) ∧ CG (c2, t2, s2, ()) (n + 4) := by
    by_cases h1 : a = 2
    · rw [cond_dt h1]
      by_cases h2 : g.1 = 1
      · rw [cond_dt h2]
        obtain ⟨v, ⟨c2, t2, s2, _⟩, e, hc2, _⟩ := among_ok (code1, at1, seed1, ()) (n + 2) [(1 : Int), (499 : Int), (500 : Int), (501 : Int), (1500 : Int), (2000 : Int), (2000 : Int), (2001 : Int), (0 : Int)] (by simp) hc (by omega)
        rw [e]; exact ⟨c2, t2, s2, v, rfl, hc2.up (by omega)⟩
      · rw [cond_df h2]; exact ⟨_, _, _, _, rfl, hc.up (by omega)⟩
    · rw [cond_df h1]; exact ⟨_, _, _, _, rfl, hc.up (by omega)⟩
  obtain ⟨c2, t2, s2, v, e, hc2⟩ := key
  simp only [e, Option.bind_some]
  refine gives_bind (one_ok _ (n + 4) 32 hc2 (by omega)) fun b code3 at3 seed3 _ hc3 => ?_
  dsimp only
  refine gives_cond (fun _ => ?_) (fun _ => Gives.ret (hc3.up (by omega)) trivial)
  refine gives_bind (among_ok _ (n + 6) _ (by simp) (hc3.up (by omega)) (by omega)) fun k code4 at4 seed4 _ hc4 => ?_
  dsimp only
  refine gives_bind (among_ok _ (n + 8) _ (by simp) (hc4.up (by omega)) (by omega)) fun k code5 at5 seed5 _ hc5 => ?_
  dsimp only
  exact Gives.ret (hc5.up (by omega)) trivial
theorem grip_loop : ∀ (d : Nat) (code : List Int) (at' seed a b c e : Int) (n : Int), CG (code, at', seed, ()) n → n + 10 * d ≤ 1000000 → d ≤ 1000 →
    ∃ code2 at2 seed2 a2 b2 c2 e2, iter (fun s => spec_l1Cur_gripState_loop1 s.1 s.2.1 s.2.2.1 s.2.2.2.1 s.2.2.2.2.1 s.2.2.2.2.2.1 s.2.2.2.2.2.2.1 s.2.2.2.2.2.2.2) ((d : Int), code, at', seed, a, b, c, e) = some (code2, at2, seed2, a2, b2, c2, e2) ∧ CG (code2, at2, seed2, ()) (n + 10 * d)
  | 0, code, at', seed, a, b, c, e, n, hc, _, _ => by
    refine ⟨code, at', seed, a, b, c, e, iter_out ?_, hc.up (by omega)⟩
    show spec_l1Cur_gripState_loop1 ((0 : Nat) : Int) code at' seed a b c e = _
    unfold spec_l1Cur_gripState_loop1
    rw [cond_df (by omega)]
  | d + 1, code, at', seed, a, b, c, e, n, hc, hn, hd => by
    obtain ⟨⟨k, v, _⟩, ⟨code1, at1, seed1, _⟩, e1, hc1, _⟩ := gripStep_ok (code, at', seed, ()) (a, b, c, e, ()) n hc (by omega)
    obtain ⟨a1, b1, c1, d1, ok, e2, _, _⟩ := stepGrip_full a b c e k v
    have ih := fun a b c e => grip_loop d code1 at1 seed1 a b c e (n + 10) hc1 (by omega) (by omega)
    have hw : w64 (((d + 1 : Nat) : Int) - 1) = (d : Int) := by rw [w64_id (by omega) (by omega)]; omega
    cases ok with
    | true =>
      obtain ⟨code2, at2, seed2, a2, b2, c2, e2', h1, h2⟩ := ih a1 b1 c1 d1
      refine ⟨code2, at2, seed2, a2, b2, c2, e2', (iter_go ?_).trans h1, h2.up (by omega)⟩
      show spec_l1Cur_gripState_loop1 ((d + 1 : Nat) : Int) code at' seed a b c e = _
      unfold spec_l1Cur_gripState_loop1
      rw [cond_dt (by omega), e1, Option.bind_some, hw]
      simp only [e2, Option.bind_some, cond_true]
    | false =>
      obtain ⟨code2, at2, seed2, a2, b2, c2, e2', h1, h2⟩ := ih a b c e
      refine ⟨code2, at2, seed2, a2, b2, c2, e2', (iter_go ?_).trans h1, h2.up (by omega)⟩
      show spec_l1Cur_gripState_loop1 ((d + 1 : Nat) : Int) code at' seed a b c e = _
      unfold spec_l1Cur_gripState_loop1
      rw [cond_dt (by omega), e1, Option.bind_some, hw]
      simp only [e2, Option.bind_some, cond_false]
theorem gripState_ok (c : l1Cur) (n : Int) (h : CG c n) (hn : n ≤ 100000) : Gives (spec_l1Cur_gripState c) (n + 130) (fun _ => True) := by
  obtain ⟨code, at', seed, u⟩ := c
  unfold spec_l1Cur_gripState
  refine gives_bind (among_ok _ n _ (by simp) h (by omega)) fun a code1 at1 seed1 _ hc => ?_
  dsimp only
  refine gives_bind (pick_ok _ (n + 2) 12 hc (by omega)) fun k code2 at2 seed2 hk hc2 => ?_
  dsimp only
  obtain ⟨code3, at3, seed3, a3, b3, c3, e3, h3, hc3⟩ := grip_loop k.toNat code2 at2 seed2 0 0 0 a (n + 4) (hc2.up (by omega)) (by omega) (by omega)
  rw [show ((k.toNat : Nat) : Int) = k by omega] at h3
  simp only [h3, Option.bind_some]
  have hc3 : CG (code3, at3, seed3, ()) (n + 120) := hc3.up (by omega)
  refine gives_bind (pick_ok _ (n + 120) 24 hc3 (by omega)) fun q code4 at4 seed4 _ hc4 => ?_
  dsimp only
  refine gives_cond (fun _ => ?_) (fun _ => gives_cond (fun _ => ?_) (fun _ => gives_cond (fun _ => ?_) (fun _ => gives_cond (fun _ => ?_) (fun _ => Gives.ret (hc4.up (by omega)) trivial))))
  all_goals
    refine gives_bind (among_ok _ (n + 122) _ (by simp) (hc4.up (by omega)) (by omega)) fun r code5 at5 seed5 _ hc5 => ?_
    dsimp only
    exact Gives.ret (hc5.up (by omega)) trivial
theorem cg0 (code : List Int) (hb : ∀ x ∈ code, 0 ≤ x ∧ x ≤ 255) (hl : code.length ≤ 1048576) : CG (code, (0 : Int), (0 : Int), ()) 0 := ⟨hb, hl, by show (0 : Int) ≤ 0; omega, by show (0 : Int) ≤ 0; omega⟩
theorem drawIsGrip_ok (code : List Int) (hb : ∀ x ∈ code, 0 ≤ x ∧ x ≤ 255) (hl : code.length ≤ 1048576) : ∃ st z f n, spec_DrawIsGripState code = some (st, z, f, n, ()) := by
  obtain ⟨⟨st, z, f, n, _⟩, ⟨_, _, _, _⟩, e, _, _⟩ := gripState_ok _ 0 (cg0 code hb hl) (by omega)
  unfold spec_DrawIsGripState
  rw [e]; exact ⟨st, z, f, n, rfl⟩
theorem drawStepGrip_ok (code : List Int) (hb : ∀ x ∈ code, 0 ≤ x ∧ x ≤ 255) (hl : code.length ≤ 1048576) : ∃ st z f n k v, spec_DrawStepGrip code = some ((st, z, f, n, ()), (k, v, ())) := by
  obtain ⟨⟨st, z, f, n, _⟩, ⟨c1, t1, s1, _⟩, e, hc, _⟩ := gripState_ok _ 0 (cg0 code hb hl) (by omega)
  obtain ⟨⟨k, v, _⟩, ⟨c2, t2, s2, _⟩, e2, _, _⟩ := gripStep_ok (c1, t1, s1, ()) (st, z, f, n, ()) _ hc (by omega)
  unfold spec_DrawStepGrip
  rw [e, Option.bind_some]
  simp only [e2]
  exact ⟨st, z, f, n, k, v, rfl⟩
theorem joinx_unit {Y : Type} {X : Option (Lp Unit Y)} {k : Unit → Option Y} {y : Option Y} (h : X = some (.go ())) (hk : k () = y) : joinx X k = y := by rw [h]; exact hk
end Go.Proofs.YtbjhcjhkmppocaaDoor
