/-
  Plans: the days of a condition, day by day and condition by condition; both are one list in order.
-/
import Derived.Test.YtpmmaohaahbphaaDoorI72
namespace Go.Proofs.YtpmmaohaahbphaaDoor
open Go.RowKit

/-- The first day on which a condition is inspected. -/
def firstC (f : Int) (r : Condition) : Int := if f < endC r then endC r else f
theorem firstC_ge (f : Int) (r : Condition) : f ≤ firstC f r := by unfold firstC; split <;> omega
def evC' (r : Condition) : Int := r.2.2.1
/-- The rows of one condition. -/
def cntC (f t : Int) (r : Condition) : Nat := ((t - firstC f r) / evC' r + 1).toNat
def rowsC (f t : Int) (r : Condition) : List (List Int) := (List.range (cntC f t r)).map fun (j : Nat) => [firstC f r + (j : Int) * evC' r, r.1]
def implL (l : List Condition) (f t : Int) : List (List Int) := l.flatMap (rowsC f t)
/-- Is a condition inspected on a day? -/
def dueC (f d : Int) (r : Condition) : Bool := decide (firstC f r ≤ d) && decide ((d - firstC f r) % evC' r = 0)
def dayL (l : List Condition) (f d : Int) : List (List Int) := (l.filter (dueC f d)).map fun r => [d, r.1]
def specL (l : List Condition) (f : Int) (n : Nat) : List (List Int) := (List.range n).flatMap fun (k : Nat) => dayL l f (f + (k : Int))

theorem cnt_lt {f t : Int} {r : Condition} (he : 1 ≤ evC' r) (j : Nat) : j < cntC f t r ↔ firstC f r + (j : Int) * evC' r ≤ t := by
  unfold cntC
  have h1 : (j : Int) ≤ (t - firstC f r) / evC' r ↔ (j : Int) * evC' r ≤ t - firstC f r := Int.le_ediv_iff_mul_le (by omega)
  constructor
  · intro h
    have := h1.1 (by omega)
    omega
  · intro h
    have := h1.2 (by omega)
    omega
theorem mem_rowsC {f t : Int} {r : Condition} (he : 1 ≤ evC' r) (x : List Int) : x ∈ rowsC f t r ↔ ∃ d, firstC f r ≤ d ∧ d ≤ t ∧ (d - firstC f r) % evC' r = 0 ∧ x = [d, r.1] := by
  unfold rowsC
  simp only [List.mem_map, List.mem_range]
  constructor
  · rintro ⟨j, hj, rfl⟩
    have := (cnt_lt he j).1 hj
    have h0 : 0 ≤ (j : Int) * evC' r := Int.mul_nonneg (by omega) (by omega)
    refine ⟨_, by omega, this, ?_, rfl⟩
    rw [show firstC f r + (j : Int) * evC' r - firstC f r = (j : Int) * evC' r by omega]
    exact Int.mul_emod_left _ _
  · rintro ⟨d, h1, h2, h3, rfl⟩
    have hq : (d - firstC f r) / evC' r * evC' r = d - firstC f r := Int.ediv_mul_cancel_of_emod_eq_zero h3
    have hq0 : 0 ≤ (d - firstC f r) / evC' r := Int.ediv_nonneg (by omega) (by omega)
    refine ⟨((d - firstC f r) / evC' r).toNat, (cnt_lt he _).2 ?_, ?_⟩
    · rw [Int.toNat_of_nonneg hq0, hq]; omega
    · rw [Int.toNat_of_nonneg hq0, hq]
      rw [show firstC f r + (d - firstC f r) = d by omega]
theorem mem_implL {l : List Condition} {f t : Int} (he : ∀ r ∈ l, 1 ≤ evC' r) (x : List Int) : x ∈ implL l f t ↔ ∃ r ∈ l, ∃ d, firstC f r ≤ d ∧ d ≤ t ∧ (d - firstC f r) % evC' r = 0 ∧ x = [d, r.1] := by
  unfold implL
  rw [List.mem_flatMap]
  constructor
  · rintro ⟨r, hr, h⟩; exact ⟨r, hr, (mem_rowsC (he r hr) x).1 h⟩
  · rintro ⟨r, hr, h⟩; exact ⟨r, hr, (mem_rowsC (he r hr) x).2 h⟩
theorem mem_dayL {l : List Condition} {f d : Int} (x : List Int) : x ∈ dayL l f d ↔ ∃ r ∈ l, firstC f r ≤ d ∧ (d - firstC f r) % evC' r = 0 ∧ x = [d, r.1] := by
  unfold dayL dueC
  simp only [List.mem_map, List.mem_filter, Bool.and_eq_true, decide_eq_true_eq]
  constructor
  · rintro ⟨r, ⟨h1, h2, h3⟩, rfl⟩; exact ⟨r, h1, h2, h3, rfl⟩
  · rintro ⟨r, h1, h2, h3, rfl⟩; exact ⟨r, ⟨h1, h2, h3⟩, rfl⟩
theorem mem_specL {l : List Condition} {f : Int} {n : Nat} (x : List Int) : x ∈ specL l f n ↔ ∃ r ∈ l, ∃ d, firstC f r ≤ d ∧ d < f + n ∧ (d - firstC f r) % evC' r = 0 ∧ x = [d, r.1] := by
  unfold specL
  simp only [List.mem_flatMap, List.mem_range, mem_dayL]
  constructor
  · rintro ⟨k, hk, r, h1, h2, h3, rfl⟩; exact ⟨r, h1, f + (k : Int), h2, by omega, h3, rfl⟩
  · rintro ⟨r, h1, d, h2, h3, h4, rfl⟩
    have := firstC_ge f r
    refine ⟨(d - f).toNat, by omega, r, h1, ?_⟩
    rw [show f + ((d - f).toNat : Int) = d by omega]
    exact ⟨h2, h4, rfl⟩

theorem cmp_day {d d' a b : Int} (h : d < d') : cmpR [d, a] [d', b] < 0 := by rw [cmpR_cons, if_pos h]; decide
theorem cmp_num {d a b : Int} (h : a < b) : cmpR [d, a] [d, b] < 0 := by rw [cmpR_cons, if_neg (by omega), if_neg (by omega), cmpR_cons, if_pos h]; decide
/-- By days and numbers, each once. -/
def Strict (l : List (List Int)) : Prop := l.Pairwise fun a b => cmpR a b < 0
theorem Strict.nodup {l : List (List Int)} (h : Strict l) : l.Nodup := by
  rw [List.nodup_iff_pairwise_ne]
  refine List.Pairwise.imp (fun {a b} hab e => ?_) h
  rw [e, cmpR_self] at hab; omega
theorem Strict.sorted {l : List (List Int)} (h : Strict l) : l.Pairwise fun a b => leR a b = true := by
  refine List.Pairwise.imp (fun {a b} hab => ?_) h
  unfold leR
  have := cmpR_swap a b
  simp only [Bool.not_eq_true', decide_eq_false_iff_not]
  omega
/-- Two strict lists with the same rows are one. -/
theorem Strict.eq {l m : List (List Int)} (h1 : Strict l) (h2 : Strict m) (h : ∀ x, x ∈ l ↔ x ∈ m) : l = m := by
  have hp : l.Perm m := (List.perm_ext_iff_of_nodup h1.nodup h2.nodup).2 h
  rw [sortR_unique hp h1.sorted, ← sortR_unique (List.Perm.refl m) h2.sorted]
theorem strict_rowsC {f t : Int} {r : Condition} (he : 1 ≤ evC' r) : Strict (rowsC f t r) := by
  unfold Strict rowsC
  rw [List.pairwise_map]
  refine List.Pairwise.imp (fun {a b} hab => ?_) (List.pairwise_lt_range (n := cntC f t r))
  refine cmp_day ?_
  have h1 : (a : Int) * evC' r + evC' r ≤ (b : Int) * evC' r := by
    have : ((a : Int) + 1) * evC' r ≤ (b : Int) * evC' r := Int.mul_le_mul_of_nonneg_right (by omega) (by omega)
    rw [Int.add_mul, Int.one_mul] at this; exact this
  omega
def Rising (l : List Condition) : Prop := l.Pairwise fun a b => a.1 < b.1
theorem strict_dayL {l : List Condition} (hl : Rising l) (f d : Int) : Strict (dayL l f d) := by
  unfold Strict dayL
  rw [List.pairwise_map]
  exact List.Pairwise.imp (fun {a b} hab => cmp_num hab) (hl.filter _)
theorem strict_specL {l : List Condition} (hl : Rising l) (f : Int) (n : Nat) : Strict (specL l f n) := by
  unfold Strict specL
  rw [List.pairwise_flatMap]
  refine ⟨fun k _ => strict_dayL hl f _, ?_⟩
  refine List.Pairwise.imp (fun {a b} hab x hx y hy => ?_) (List.pairwise_lt_range (n := n))
  obtain ⟨r, _, _, _, rfl⟩ := (mem_dayL x).1 hx
  obtain ⟨r', _, _, _, rfl⟩ := (mem_dayL y).1 hy
  exact cmp_day (by omega)
theorem nodup_implL {l : List Condition} (hl : Rising l) {f t : Int} (he : ∀ r ∈ l, 1 ≤ evC' r) : (implL l f t).Nodup := by
  unfold implL
  rw [List.nodup_iff_pairwise_ne, List.pairwise_flatMap]
  refine ⟨fun r hr => List.nodup_iff_pairwise_ne.1 (strict_rowsC (he r hr)).nodup, ?_⟩
  have : l.Pairwise fun a b => (1 ≤ evC' a ∧ 1 ≤ evC' b) ∧ a.1 < b.1 := by
    unfold Rising at hl
    rw [List.pairwise_iff_getElem] at hl ⊢
    intro i j hi hj hij
    exact ⟨⟨he _ (List.getElem_mem hi), he _ (List.getElem_mem hj)⟩, hl i j hi hj hij⟩
  refine List.Pairwise.imp (fun {a b} hab x hx y hy e => ?_) this
  obtain ⟨⟨h1, h2⟩, h3⟩ := hab
  obtain ⟨d, _, _, _, rfl⟩ := (mem_rowsC h1 x).1 hx
  obtain ⟨d', _, _, _, rfl⟩ := (mem_rowsC h2 y).1 hy
  simp only [List.cons.injEq] at e
  omega
/-- The plan by conditions, put in order, is the plan by days. -/
theorem plan_eq {l : List Condition} (hl : Rising l) {f t : Int} (he : ∀ r ∈ l, 1 ≤ evC' r) (hft : f ≤ t + 1) : sortR (implL l f t) = specL l f (t - f + 1).toNat := by
  have hs := strict_specL hl f (t - f + 1).toNat
  refine (sortR_unique ((List.perm_ext_iff_of_nodup hs.nodup (nodup_implL hl he)).2 fun x => ?_) hs.sorted).symm
  rw [mem_specL, mem_implL he]
  constructor
  · rintro ⟨r, h1, d, h2, h3, h4⟩; exact ⟨r, h1, d, h2, by omega, h4⟩
  · rintro ⟨r, h1, d, h2, h3, h4⟩; exact ⟨r, h1, d, h2, by omega, h4⟩
/-- The rows of one condition in the plan. -/
theorem plan_of {l : List Condition} (hl : Rising l) {f t : Int} (he : ∀ r ∈ l, 1 ≤ evC' r) (hft : f ≤ t + 1) {r : Condition} (hr : r ∈ l) :
    (specL l f (t - f + 1).toNat).filter (fun x => decide (x.getD 1 0 = r.1)) = rowsC f t r := by
  refine Strict.eq ((strict_specL hl f _).filter _) (strict_rowsC (he r hr)) fun x => ?_
  rw [List.mem_filter, mem_specL, mem_rowsC (he r hr)]
  constructor
  · rintro ⟨⟨r', h1, d, h2, h3, h4, rfl⟩, h5⟩
    have h5 : r'.1 = r.1 := of_decide_eq_true h5
    have : r' = r := by
      obtain ⟨i, hi, e1⟩ := List.mem_iff_getElem.1 h1
      obtain ⟨j, hj, e2⟩ := List.mem_iff_getElem.1 hr
      rw [Rising, List.pairwise_iff_getElem] at hl
      rcases Nat.lt_trichotomy i j with hij | hij | hij
      · have := hl i j hi hj hij; rw [e1, e2] at this; omega
      · subst hij; rw [← e1, ← e2]
      · have := hl j i hj hi hij; rw [e1, e2] at this; omega
    subst this
    exact ⟨d, h2, by omega, h4, rfl⟩
  · rintro ⟨d, h2, h3, h4, rfl⟩
    exact ⟨⟨r, hr, d, h2, by omega, h4, rfl⟩, by simp⟩
theorem rows_two {l : List Condition} {f t : Int} : ∀ x ∈ implL l f t, x.length = 2 := fun x hx => by
  unfold implL rowsC at hx
  rw [List.mem_flatMap] at hx
  obtain ⟨r, _, h⟩ := hx
  obtain ⟨j, _, rfl⟩ := List.mem_map.1 h
  rfl
end Go.Proofs.YtpmmaohaahbphaaDoor
