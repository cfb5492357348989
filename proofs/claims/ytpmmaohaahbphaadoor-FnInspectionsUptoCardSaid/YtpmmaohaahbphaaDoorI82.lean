/-
  The order of rows of numbers, and rows in order.
-/
import Derived.Test.YtpmmaohaahbphaaDoorProg
namespace Go.Proofs.YtpmmaohaahbphaaDoor

/-- How slices.Compare orders rows. -/
def cmpR : List Int → List Int → Int
  | [], [] => 0
  | [], _ :: _ => -1
  | _ :: _, [] => 1
  | x :: xs, y :: ys => if x < y then -1 else if y < x then 1 else cmpR xs ys
def leR (a b : List Int) : Bool := !decide (cmpR b a < 0)
/-- Rows in order. -/
def sortR (l : List (List Int)) : List (List Int) := l.mergeSort leR
theorem cmpR_cons (x y : Int) (xs ys : List Int) : cmpR (x :: xs) (y :: ys) = if x < y then -1 else if y < x then 1 else cmpR xs ys := rfl
theorem cmpR_self : ∀ (a : List Int), cmpR a a = 0
  | [] => rfl
  | x :: xs => by rw [cmpR_cons, if_neg (by omega), if_neg (by omega)]; exact cmpR_self xs
theorem cmpR_swap : ∀ (a b : List Int), cmpR b a = - cmpR a b
  | [], [] => rfl
  | [], _ :: _ => rfl
  | _ :: _, [] => rfl
  | x :: xs, y :: ys => by
    rw [cmpR_cons, cmpR_cons, cmpR_swap xs ys]
    by_cases h1 : x < y
    · rw [if_neg (by omega), if_pos h1, if_pos h1]; rfl
    · by_cases h2 : y < x
      · rw [if_pos h2, if_neg h1, if_pos h2]
      · rw [if_neg h2, if_neg h1, if_neg h1, if_neg h2]
theorem cmpR_eq : ∀ (a b : List Int), cmpR a b = 0 → a = b
  | [], [], _ => rfl
  | [], _ :: _, h => by cases h
  | _ :: _, [], h => by cases h
  | x :: xs, y :: ys, h => by
    rw [cmpR_cons] at h
    by_cases h1 : x < y
    · rw [if_pos h1] at h; cases h
    · by_cases h2 : y < x
      · rw [if_neg h1, if_pos h2] at h; cases h
      · rw [if_neg h1, if_neg h2] at h
        rw [cmpR_eq xs ys h, show x = y by omega]
theorem cmpR_trans : ∀ (a b c : List Int), cmpR a b < 0 → cmpR b c < 0 → cmpR a c < 0
  | [], [], _, h, _ => by simp [cmpR] at h
  | _ :: _, [], _, h, _ => by simp [cmpR] at h
  | _, _ :: _, [], _, h => by simp [cmpR] at h
  | [], _ :: _, _ :: _, _, _ => by simp [cmpR]
  | x :: xs, y :: ys, z :: zs, h1, h2 => by
    rw [cmpR_cons] at h1 h2 ⊢
    by_cases a1 : x < y
    · by_cases a2 : y < z
      · rw [if_pos (by omega)]; omega
      · by_cases a3 : z < y
        · rw [if_neg a2, if_pos a3] at h2; omega
        · rw [if_pos (by omega)]; omega
    · by_cases a3 : y < x
      · rw [if_neg a1, if_pos a3] at h1; omega
      · rw [if_neg a1, if_neg a3] at h1
        by_cases a2 : y < z
        · rw [if_pos (by omega)]; omega
        · by_cases a4 : z < y
          · rw [if_neg a2, if_pos a4] at h2; omega
          · rw [if_neg a2, if_neg a4] at h2
            rw [if_neg (by omega), if_neg (by omega)]
            exact cmpR_trans xs ys zs h1 h2
theorem cmpR_le_trans (a b c : List Int) (h1 : ¬ cmpR a b < 0) (h2 : ¬ cmpR b c < 0) : ¬ cmpR a c < 0 := by
  intro h
  have e1 := cmpR_swap a b
  have e2 := cmpR_swap b c
  by_cases g1 : cmpR a b = 0
  · rw [cmpR_eq a b g1] at h; exact h2 h
  · have := cmpR_trans b a c (by omega) h
    exact h2 this
theorem leR_trans (a b c : List Int) (h1 : leR a b = true) (h2 : leR b c = true) : leR a c = true := by
  unfold leR at *
  simp only [Bool.not_eq_true', decide_eq_false_iff_not] at *
  exact cmpR_le_trans c b a h2 h1
theorem leR_total (a b : List Int) : (leR a b || leR b a) = true := by
  unfold leR
  have := cmpR_swap a b
  by_cases h : cmpR b a < 0
  · have : ¬ cmpR a b < 0 := by omega
    simp [h, this]
  · simp [h]
theorem leR_antisymm (a b : List Int) (h1 : leR a b = true) (h2 : leR b a = true) : a = b := by
  unfold leR at *
  simp only [Bool.not_eq_true', decide_eq_false_iff_not] at *
  have := cmpR_swap a b
  exact cmpR_eq a b (by omega)
theorem sortR_perm (l : List (List Int)) : (sortR l).Perm l := List.mergeSort_perm _ _
theorem sortR_sorted (l : List (List Int)) : (sortR l).Pairwise (fun a b => leR a b = true) := List.pairwise_mergeSort leR_trans leR_total l
/-- There is one sorted permutation. -/
theorem sortR_unique {l m : List (List Int)} (hp : m.Perm l) (hs : m.Pairwise (fun a b => leR a b = true)) : m = sortR l :=
  List.Perm.eq_of_pairwise (le := fun a b => leR a b = true) (fun a b _ _ => leR_antisymm a b) hs (sortR_sorted l) (hp.trans (sortR_perm l).symm)
theorem sortR_length (l : List (List Int)) : (sortR l).length = l.length := (sortR_perm l).length_eq
theorem sortR_all {l : List (List Int)} {p : List Int → Prop} (h : ∀ r ∈ l, p r) : ∀ r ∈ sortR l, p r := fun r hr => h r ((sortR_perm l).mem_iff.1 hr)
end Go.Proofs.YtpmmaohaahbphaaDoor
