/-
  Plain laws of numbers in texts, and of texts between separators.
-/
import Derived.Test.YtaajchikfgbecaaGreatDoorXP
namespace Go.Proofs.YtaajchikfgbecaaGreatDoor
open Go.RowKit

theorem dv (d : Nat) (h : d < 10) : Lib.digitVal (UInt8.ofNat (48 + d)) = some d := by
  unfold Lib.digitVal
  rw [UInt8.toNat_ofNat', Nat.mod_eq_of_lt (by omega), if_pos (by omega)]
  congr 1; omega
theorem decFrom_app (b : UInt8) : ∀ (l : List UInt8) (acc : Nat), Lib.decFrom acc (l ++ [b]) = (Lib.decFrom acc l).bind fun m => (Lib.digitVal b).map fun d => m * 10 + d
  | [], acc => by
    show (match Lib.digitVal b with | some d => Lib.decFrom (acc * 10 + d) [] | none => none) = (some acc).bind fun m => (Lib.digitVal b).map fun d => m * 10 + d
    cases Lib.digitVal b <;> rfl
  | c :: l, acc => by
    show (match Lib.digitVal c with | some d => Lib.decFrom (acc * 10 + d) (l ++ [b]) | none => none) = (match Lib.digitVal c with | some d => Lib.decFrom (acc * 10 + d) l | none => none).bind _
    cases Lib.digitVal c with
    | none => rfl
    | some d => exact decFrom_app b l _
theorem decFrom_dec (n : Nat) : Lib.decFrom 0 (Lib.decDigits n) = some n := by
  induction n using Nat.strongRecOn with
  | ind n ih =>
    unfold Lib.decDigits
    split
    · rename_i h
      show (match Lib.digitVal (UInt8.ofNat (48 + n)) with | some d => Lib.decFrom (0 * 10 + d) [] | none => none) = some n
      rw [dv n h]
      show some (0 * 10 + n) = some n
      congr 1; omega
    · rename_i h
      rw [decFrom_app, ih (n / 10) (by omega), Option.bind_some, dv _ (Nat.mod_lt _ (by omega)), Option.map_some]
      congr 1; omega
theorem dec_cons (n : Nat) : ∃ b r, Lib.decDigits n = b :: r ∧ 48 ≤ b.toNat ∧ b.toNat ≤ 57 := by
  cases h : Lib.decDigits n with
  | nil => have := digit_length n; rw [h] at this; simp at this
  | cons b r => exact ⟨b, r, rfl, dec_mem n b (by rw [h]; simp)⟩
theorem decNat_dec (n : Nat) : Lib.decNat (Lib.decDigits n) = some n := by
  obtain ⟨b, r, h, _⟩ := dec_cons n
  have h2 := decFrom_dec n
  unfold Lib.decNat
  rw [h] at h2 ⊢
  exact h2
theorem atoi_itoa (n : Int) : Lib.atoi (Lib.itoa n) = some n := by
  unfold Lib.itoa
  split
  · rename_i h
    show Lib.atoi (45 :: Lib.decDigits n.natAbs) = _
    unfold Lib.atoi
    dsimp only
    rw [if_pos (show ((45 : UInt8) == 45) = true from rfl), decNat_dec, Option.map_some]
    congr 1; omega
  · rename_i h
    obtain ⟨b, r, e, h1, h2⟩ := dec_cons n.toNat
    have h3 := decNat_dec n.toNat
    rw [e] at h3 ⊢
    have n45 : (b == 45) = false := by
      rw [beq_eq_false_iff_ne]; rintro rfl
      have : (45 : UInt8).toNat = 45 := rfl
      omega
    have n43 : (b == 43) = false := by
      rw [beq_eq_false_iff_ne]; rintro rfl
      have : (43 : UInt8).toNat = 43 := rfl
      omega
    unfold Lib.atoi
    dsimp only
    rw [if_neg (show ¬ ((b == 45) = true) by rw [n45]; simp), if_neg (show ¬ ((b == 43) = true) by rw [n43]; simp), h3, Option.map_some]
    congr 1; omega
theorem itoa_inj {m n : Int} (h : Lib.itoa m = Lib.itoa n) : m = n := by
  have := atoi_itoa m
  rw [h, atoi_itoa n] at this
  exact (Option.some.inj this).symm
theorem itoa_length (n : Int) (h : -999999 ≤ n ∧ n ≤ 999999) : (Lib.itoa n).length ≤ 7 ∧ 1 ≤ (Lib.itoa n).length := by
  unfold Lib.itoa
  split
  · have := dec_length 5 n.natAbs (by have : (10 : Nat) ^ (5 + 1) = 1000000 := by decide
                                      omega)
    have := digit_length n.natAbs
    simp; omega
  · have := dec_length 5 n.toNat (by have : (10 : Nat) ^ (5 + 1) = 1000000 := by decide
                                     omega)
    have := digit_length n.toNat
    omega
theorem itoaB_bs (n : Int) : itoaB n = bs (Lib.itoa n) := rfl
theorem parseI_itoa (n : Int) (h : -999999 ≤ n ∧ n ≤ 999999) : parseI (bs (Lib.itoa n)) = (n, true) := by
  unfold parseI
  rw [if_pos (by rw [bs_size]; exact (itoa_length n h).1), list_bs, atoi_itoa]
  dsimp only
  rw [if_pos ⟨h, rfl⟩]
theorem parseI_cases (l : List UInt8) : (∃ n : Int, (-999999 ≤ n ∧ n ≤ 999999) ∧ l = Lib.itoa n ∧ parseI (bs l) = (n, true)) ∨ (parseI (bs l) = (0, false) ∧ ∀ n : Int, -999999 ≤ n ∧ n ≤ 999999 → l ≠ Lib.itoa n) := by
  by_cases h : ∃ n : Int, (-999999 ≤ n ∧ n ≤ 999999) ∧ l = Lib.itoa n
  · obtain ⟨n, hn, rfl⟩ := h
    exact .inl ⟨n, hn, rfl, parseI_itoa n hn⟩
  · refine .inr ⟨?_, fun n hn e => h ⟨n, hn, e⟩⟩
    unfold parseI
    split
    · split
      · rename_i n e
        rw [if_neg]
        rintro ⟨hn, e2⟩
        exact h ⟨n, hn, (bs_inj.1 e2).symm⟩
      · rfl
    · rfl

/-! ### Between separators -/
theorem spl_app (c : UInt8) (a r : List UInt8) (h : c ∉ a) : spl c (a ++ c :: r) = a :: spl c r := by
  induction a with
  | nil => conv => lhs; unfold spl; 
           simp
  | cons b a ih =>
    simp only [List.mem_cons, not_or] at h
    have ih := ih h.2
    conv => lhs; rw [List.cons_append]; unfold spl
    rw [if_neg (fun e => h.1 e.symm), ih]
theorem spl_not (c : UInt8) (l : List UInt8) (h : c ∉ l) : spl c l = [l] := by
  induction l with
  | nil => rfl
  | cons b l ih =>
    simp only [List.mem_cons, not_or] at h
    have ih := ih h.2
    unfold spl
    rw [if_neg (fun e => h.1 e.symm), ih]
theorem splitK_spl (c : UInt8) : ∀ (k : Nat) (l : List UInt8), l.count c = k → Lib.splitK [c] 0 k l = spl c l
  | 0, l, h => by
    rw [spl_not c l (List.count_eq_zero.1 h)]; rfl
  | k + 1, l, h => by
    have hm : c ∈ l := List.count_pos_iff.1 (by omega)
    obtain ⟨r, e⟩ := bef_split c l hm
    have hi := index_one c l
    rw [if_pos hm] at hi
    have hcr : r.count c = k := by
      have h0 : (bef c l).count c = 0 := List.count_eq_zero.2 (bef_not c l)
      rw [e, List.count_append, List.count_cons_self, h0] at h
      omega
    have ih := splitK_spl c k r hcr
    unfold Lib.splitK
    rw [hi, if_neg (by simp)]
    have hd : l.drop (((bef c l).length : Int).toNat + [c].length) = r := by
      conv => lhs; rw [e]
      rw [bef_app c _ _ (bef_not c l), Int.toNat_natCast, ← List.drop_drop, List.drop_left]; rfl
    rw [hd, ih, Int.toNat_natCast, Nat.add_zero, bef_take]
    conv => rhs; rw [e]
    rw [spl_app c _ _ (bef_not c l)]
theorem map_bs (xs : List ByteArray) (ys : List (List UInt8)) (h : xs.map (·.data.toList) = ys) : xs = ys.map bs := by
  subst h
  rw [List.map_map]
  conv => lhs; rw [← List.map_id xs]
  exact List.map_congr_left fun x _ => (bs_list x).symm
theorem splitB_eq (c : UInt8) (l : List UInt8) : splitB (bs l) (bs [c]) = (spl c l).map bs := by
  refine map_bs _ _ ?_
  unfold splitB
  rw [Lib.splitB_data, list_bs, list_bs]
  have e : Lib.countB (bs l) (bs [c]) = l.count c := by
    have h1 := Lib.count_one c l
    have h2 : Lib.countB (bs l) (bs [c]) = Lib.count l [c] := by
      show Lib.count (bs l).data.toList (bs [c]).data.toList = _
      rw [list_bs, list_bs]
    rw [h2, h1]
  rw [e]
  exact splitK_spl c _ l rfl
/-! ### Separators of more bytes than one -/
theorem index_app (c : UInt8) (q : List UInt8) : ∀ (a r : List UInt8), c ∉ a → Lib.index (a ++ c :: (q ++ r)) (c :: q) = (a.length : Int)
  | [], r, _ => by
    have hp : (c :: q).isPrefixOf (c :: (q ++ r)) = true := by
      rw [List.isPrefixOf_iff_prefix]
      exact ⟨r, rfl⟩
    rw [List.nil_append]
    unfold Lib.index
    rw [hp]; rfl
  | b :: a, r, h => by
    simp only [List.mem_cons, not_or] at h
    have ih := index_app c q a r h.2
    have hp : (c :: q).isPrefixOf (b :: (a ++ c :: (q ++ r))) = false := by
      have : (c == b) = false := by rw [beq_eq_false_iff_ne]; exact h.1
      unfold List.isPrefixOf
      rw [this]; rfl
    rw [List.cons_append]
    unfold Lib.index
    have h2 : (((a.length : Nat) : Int) == -1) = false := by rw [beq_eq_false_iff_ne]; omega
    rw [hp, ih, h2]
    simp
theorem index_no (c : UInt8) (q : List UInt8) : ∀ l : List UInt8, c ∉ l → Lib.index l (c :: q) = -1
  | [], _ => by simp [Lib.index]
  | b :: l, h => by
    simp only [List.mem_cons, not_or] at h
    have ih := index_no c q l h.2
    have hp : (c :: q).isPrefixOf (b :: l) = false := by
      have : (c == b) = false := by rw [beq_eq_false_iff_ne]; exact h.1
      unfold List.isPrefixOf
      rw [this]; rfl
    unfold Lib.index
    rw [hp, ih]
    simp
theorem cut_app (c : UInt8) (q a r : List UInt8) (h : c ∉ a) : Lib.cut (a ++ c :: (q ++ r)) (c :: q) = (a, r, true) := by
  unfold Lib.cut
  rw [index_app c q a r h, if_pos (by omega)]
  have e : a ++ c :: (q ++ r) = a ++ ((c :: q) ++ r) := rfl
  rw [Int.toNat_natCast, e, List.take_left, ← List.drop_drop, List.drop_left, List.drop_left]
theorem cut_none (c : UInt8) (q l : List UInt8) (h : c ∉ l) : Lib.cut l (c :: q) = (l, [], false) := by
  unfold Lib.cut
  rw [index_no c q l h, if_neg (by omega)]
theorem ext_bs (l : List UInt8) (i j : Nat) : (bs l).extract i j = bs ((l.drop i).take (j - i)) := by
  have := Lib.extract_eq (bs l) i j
  rw [list_bs] at this
  exact this
theorem split_app (c : UInt8) (q a r : List UInt8) (h : c ∉ a) : splitB (bs (a ++ c :: (q ++ r))) (bs (c :: q)) = bs a :: splitB (bs r) (bs (c :: q)) := by
  have hi : Lib.indexB (bs (a ++ c :: (q ++ r))) (bs (c :: q)) = (a.length : Int) := by
    show Lib.index (bs (a ++ c :: (q ++ r))).data.toList (bs (c :: q)).data.toList = _
    rw [list_bs, list_bs, index_app c q a r h]
  have h1 : 1 ≤ (bs (c :: q)).size := by rw [bs_size]; simp
  have e : a ++ c :: (q ++ r) = a ++ ((c :: q) ++ r) := rfl
  have e1 : (bs (a ++ c :: (q ++ r))).extract (a.length + (bs (c :: q)).size) (bs (a ++ c :: (q ++ r))).size = bs r := by
    rw [ext_bs, bs_size, bs_size, e, ← List.drop_drop, List.drop_left, List.drop_left, List.take_of_length_le (by simp; omega)]
  have e2 : (bs (a ++ c :: (q ++ r))).extract 0 (a.length + 0) = bs a := by
    rw [ext_bs, List.drop_zero, Nat.add_zero, Nat.sub_zero, List.take_left]
  unfold splitB
  rw [Lib.countB_hit _ _ _ h1 hi, Nat.add_comm 1, Lib.splitB_hit _ _ _ _ _ hi, e1, e2]
theorem split_none (c : UInt8) (q a : List UInt8) (h : c ∉ a) : splitB (bs a) (bs (c :: q)) = [bs a] := by
  have hi : Lib.indexB (bs a) (bs (c :: q)) = -1 := by
    show Lib.index (bs a).data.toList (bs (c :: q)).data.toList = _
    rw [list_bs, list_bs, index_no c q a h]
  unfold splitB
  rw [Lib.splitB_miss _ _ _ _ hi]
end Go.Proofs.YtaajchikfgbecaaGreatDoor
