/-
  Plain laws of texts as lists of bytes.
-/
import Derived.Test.YtpmmaohaahbphaaDoorL2
import Derived.Lib.IndexMore
import Derived.Lib.IndexAny
import Derived.Lib.ItoaNum
import Derived.Lib.Strings
namespace Go.Proofs.YtpmmaohaahbphaaDoor
open Go.RowKit

abbrev bs (l : List UInt8) : ByteArray := ⟨l.toArray⟩
theorem bs_list (s : ByteArray) : bs s.data.toList = s := by cases s; rfl
theorem list_bs (l : List UInt8) : (bs l).data.toList = l := by simp [bs]
theorem bs_size (l : List UInt8) : (bs l).size = l.length := by simp [bs, ByteArray.size]
theorem bs_app (a b : List UInt8) : bs a ++ bs b = bs (a ++ b) := by
  apply ByteArray.ext
  simp [bs]
theorem bs_inj {a b : List UInt8} : bs a = bs b ↔ a = b := by
  constructor
  · intro h
    have := congrArg (fun s => s.data.toList) h
    simpa [bs] using this
  · rintro rfl; rfl
theorem bs_ex (s : ByteArray) : ∃ l, s = bs l := ⟨_, (bs_list s).symm⟩
theorem bsub_bs (l : List UInt8) (i j : Int) : bsub (bs l) i j = bs ((l.drop i.toNat).take (j.toNat - i.toNat)) := by
  have := Lib.extract_eq (bs l) i.toNat j.toNat
  rw [list_bs] at this
  exact this
theorem bAt_bs (l : List UInt8) (i : Int) : bAt (bs l) i = ((l.getD i.toNat 0).toNat : Int) := by simp [bAt, bs]

/-! ### What stands before a byte -/
def bef (c : UInt8) : List UInt8 → List UInt8
  | [] => []
  | b :: l => if b = c then [] else b :: bef c l
theorem bef_not (c : UInt8) : ∀ l, c ∉ bef c l
  | [] => by simp [bef]
  | b :: l => by
    unfold bef
    split
    · simp
    · rename_i h
      simp only [List.mem_cons, not_or]
      exact ⟨fun e => h e.symm, bef_not c l⟩
theorem bef_all (c : UInt8) : ∀ l, c ∉ l → bef c l = l
  | [], _ => rfl
  | b :: l, h => by
    simp only [List.mem_cons, not_or] at h
    unfold bef
    rw [if_neg (fun e => h.1 e.symm), bef_all c l h.2]
theorem bef_split (c : UInt8) : ∀ l, c ∈ l → ∃ r, l = bef c l ++ c :: r
  | [], h => by simp at h
  | b :: l, h => by
    unfold bef
    by_cases e : b = c
    · rw [if_pos e, e]; exact ⟨l, rfl⟩
    · rw [if_neg e]
      obtain ⟨r, hr⟩ := bef_split c l (by
        rcases List.mem_cons.1 h with h | h
        · exact absurd h.symm e
        · exact h)
      exact ⟨r, by rw [List.cons_append, ← hr]⟩
theorem bef_app (c : UInt8) : ∀ (a r : List UInt8), c ∉ a → bef c (a ++ c :: r) = a
  | [], r, _ => by simp [bef]
  | b :: a, r, h => by
    simp only [List.mem_cons, not_or] at h
    rw [List.cons_append]
    unfold bef
    rw [if_neg (fun e => h.1 e.symm), bef_app c a r h.2]
theorem bef_length (c : UInt8) : ∀ l, (bef c l).length ≤ l.length
  | [] => by simp [bef]
  | b :: l => by
    unfold bef
    have := bef_length c l
    split <;> simp <;> omega
theorem bef_lt (c : UInt8) (l : List UInt8) (h : c ∈ l) : (bef c l).length < l.length := by
  obtain ⟨r, e⟩ := bef_split c l h
  have := congrArg List.length e
  simp at this; omega
theorem bef_take (c : UInt8) : ∀ l, l.take (bef c l).length = bef c l
  | [] => by simp [bef]
  | b :: l => by
    unfold bef
    split
    · simp
    · simp [bef_take c l]

theorem index_one (c : UInt8) : ∀ l, Lib.index l [c] = if c ∈ l then ((bef c l).length : Int) else -1
  | [] => by simp [Lib.index]
  | b :: l => by
    unfold Lib.index
    by_cases e : b = c
    · subst e
      simp [bef]
    · have e2 : ([c].isPrefixOf (b :: l)) = false := by
        simp [List.isPrefixOf]
        exact fun h => e h.symm
      rw [e2, index_one c l]
      by_cases h : c ∈ l
      · rw [if_pos h, if_pos (List.mem_cons_of_mem _ h)]
        have : bef c (b :: l) = b :: bef c l := by conv => lhs; unfold bef; rw [if_neg e]
        rw [this]
        have h2 : (((bef c l).length : Int) == -1) = false := by
          rw [beq_eq_false_iff_ne]; omega
        simp [h2]
      · have h3 : c ∉ b :: l := by simp only [List.mem_cons, not_or]; exact ⟨fun h => e h.symm, h⟩
        rw [if_neg h, if_neg h3]
        simp
theorem contains_one (c : UInt8) (l : List UInt8) : Lib.contains l [c] = decide (c ∈ l) := by
  unfold Lib.contains
  rw [index_one]
  by_cases h : c ∈ l
  · rw [if_pos h]; simp [h]
  · rw [if_neg h]; simp [h]
theorem cut_yes (c : UInt8) (a r : List UInt8) (h : c ∉ a) : Lib.cut (a ++ c :: r) [c] = (a, r, true) := by
  unfold Lib.cut
  have hm : c ∈ a ++ c :: r := by simp
  rw [index_one, if_pos hm, bef_app c a r h, if_pos (by omega)]
  simp
theorem cut_no (c : UInt8) (l : List UInt8) (h : c ∉ l) : Lib.cut l [c] = (l, [], false) := by
  unfold Lib.cut
  rw [index_one, if_neg h, if_neg (by omega)]
theorem cut_eq (c : UInt8) (l : List UInt8) : Lib.cut l [c] = (bef c l, if c ∈ l then l.drop ((bef c l).length + 1) else [], decide (c ∈ l)) := by
  by_cases h : c ∈ l
  · obtain ⟨r, e⟩ := bef_split c l h
    have := cut_yes c (bef c l) r (bef_not c l)
    rw [← e] at this
    rw [this, if_pos h]
    simp only [h, decide_true, Prod.mk.injEq, true_and, and_true]
    conv => rhs; rw [e]
    rw [bef_app c _ _ (bef_not c l)]
    simp
  · rw [cut_no c l h, if_neg h, bef_all c l h]
    simp [h]
theorem containsAny_iff (cs : List UInt8) : ∀ l, Lib.containsAny l cs = l.any fun b => cs.contains b
  | [] => by simp [Lib.containsAny, Lib.indexAny]
  | b :: l => by
    have ih := containsAny_iff cs l
    have hge := Lib.indexAny_ge cs l
    unfold Lib.containsAny at ih ⊢
    unfold Lib.indexAny
    rw [List.any_cons, ← ih]
    by_cases h : cs.contains b = true
    · rw [if_pos h, h]; simp
    · have h0 : cs.contains b = false := by simpa using h
      rw [if_neg h, h0, Bool.false_or]
      by_cases h2 : Lib.indexAny l cs = -1
      · rw [h2]; simp
      · have h3 : (Lib.indexAny l cs == -1) = false := by simpa using h2
        rw [h3]
        simp only [Bool.false_eq_true, if_false]
        congr 1
        apply propext
        constructor <;> intro <;> omega

/-! ### The pieces between bytes -/
def spl (c : UInt8) : List UInt8 → List (List UInt8)
  | [] => [[]]
  | b :: l => if b = c then [] :: spl c l else match spl c l with
    | x :: xs => (b :: x) :: xs
    | [] => [[b]]
def preF (p : List UInt8) : List (List UInt8) → List (List UInt8)
  | x :: xs => (p ++ x) :: xs
  | [] => [p]
theorem spl_ne (c : UInt8) : ∀ l, spl c l ≠ []
  | [] => by simp [spl]
  | b :: l => by
    unfold spl
    split
    · simp
    · split <;> simp
theorem preF_snoc (c b : UInt8) (p l : List UInt8) (h : b ≠ c) : preF p (spl c (b :: l)) = preF (p ++ [b]) (spl c l) := by
  have e : spl c (b :: l) = match spl c l with
    | x :: xs => (b :: x) :: xs
    | [] => [[b]] := by conv => lhs; unfold spl; rw [if_neg h]
  rw [e]
  cases hs : spl c l with
  | nil => exact absurd hs (spl_ne c l)
  | cons x xs => simp [preF]
theorem preF_hit (c : UInt8) (p l : List UInt8) : preF p (spl c (c :: l)) = p :: spl c l := by
  have e : spl c (c :: l) = [] :: spl c l := by conv => lhs; unfold spl; rw [if_pos rfl]
  rw [e]; simp [preF]
theorem preF_nil (c : UInt8) (p : List UInt8) : preF p (spl c []) = [p] := by simp [spl, preF]
theorem preF_zero (c : UInt8) (l : List UInt8) : preF [] (spl c l) = spl c l := by
  cases hs : spl c l with
  | nil => exact absurd hs (spl_ne c l)
  | cons x xs => simp [preF]
theorem spl_head (c : UInt8) : ∀ l d, (spl c l).getD 0 d = bef c l
  | [], d => by simp [spl, bef]
  | b :: l, d => by
    have ih := spl_head c l d
    unfold spl bef
    by_cases h : b = c
    · rw [if_pos h, if_pos h]; simp
    · rw [if_neg h, if_neg h]
      cases hs : spl c l with
      | nil => exact absurd hs (spl_ne c l)
      | cons x xs => rw [hs] at ih; simp at ih; simp [ih]
theorem spl_two (c : UInt8) : ∀ l, 2 ≤ (spl c l).length ↔ c ∈ l
  | [] => by simp [spl]
  | b :: l => by
    have ih := spl_two c l
    unfold spl
    by_cases h : b = c
    · rw [if_pos h]
      subst h
      have : (spl b l).length ≠ 0 := fun e => spl_ne b l (List.length_eq_zero_iff.1 e)
      simp; omega
    · rw [if_neg h]
      have hm : c ∈ b :: l ↔ c ∈ l := by simp only [List.mem_cons]; exact ⟨fun e => e.elim (fun e => absurd e.symm h) id, .inr⟩
      rw [hm, ← ih]
      cases hs : spl c l with
      | nil => exact absurd hs (spl_ne c l)
      | cons x xs => simp
theorem spl_length (c : UInt8) : ∀ l, (spl c l).length ≤ l.length + 1
  | [] => by simp [spl]
  | b :: l => by
    have ih := spl_length c l
    unfold spl
    by_cases h : b = c
    · rw [if_pos h]; simp; omega
    · rw [if_neg h]
      cases hs : spl c l with
      | nil => simp
      | cons x xs => rw [hs] at ih; simp at ih ⊢; omega

/-! ### Numerals -/
theorem digit_length : ∀ u : Nat, 0 < (Lib.decDigits u).length := by
  intro u
  unfold Lib.decDigits
  split <;> simp
theorem dec_length : ∀ (k u : Nat), u < 10 ^ (k + 1) → (Lib.decDigits u).length ≤ k + 1
  | 0, u, h => by
    unfold Lib.decDigits
    rw [dif_pos (by simpa using h)]; simp
  | k + 1, u, h => by
    unfold Lib.decDigits
    split
    · simp
    · have : u / 10 < 10 ^ (k + 1) := by
        rw [Nat.div_lt_iff_lt_mul (by omega)]
        rw [Nat.pow_succ] at h; exact h
      have := dec_length k (u / 10) this
      simp; omega
theorem dec_mem : ∀ (u : Nat) (b : UInt8), b ∈ Lib.decDigits u → 48 ≤ b.toNat ∧ b.toNat ≤ 57 := by
  intro u
  induction u using Nat.strongRecOn with
  | ind u ih =>
    intro b hb
    unfold Lib.decDigits at hb
    have key : ∀ d : Nat, d < 10 → (UInt8.ofNat (48 + d)).toNat = 48 + d := fun d hd => by
      simp only [UInt8.toNat_ofNat']; omega
    split at hb
    · rename_i h
      simp only [List.mem_singleton] at hb
      subst hb
      rw [key u h]; omega
    · simp only [List.mem_append, List.mem_singleton] at hb
      rcases hb with hb | hb
      · exact ih (u / 10) (by omega) b hb
      · subst hb
        rw [key _ (by omega)]; omega
/-! ### The sum over a text -/
def sumF (h : Int) : List UInt8 → Int
  | [] => h
  | b :: l => sumF ((41 * h + b.toNat + 1) % 999979) l
theorem sumF_range : ∀ (l : List UInt8) (h : Int), 0 ≤ h → h < 999979 → 0 ≤ sumF h l ∧ sumF h l < 999979
  | [], h, h0, h1 => ⟨h0, h1⟩
  | b :: l, h, h0, h1 => sumF_range l _ (Int.emod_nonneg _ (by omega)) (Int.emod_lt_of_pos _ (by omega))
theorem sumF_snoc : ∀ (l : List UInt8) (h : Int) (b : UInt8), sumF h (l ++ [b]) = (41 * sumF h l + b.toNat + 1) % 999979
  | [], h, b => rfl
  | a :: l, h, b => sumF_snoc l _ b
end Go.Proofs.YtpmmaohaahbphaaDoor
