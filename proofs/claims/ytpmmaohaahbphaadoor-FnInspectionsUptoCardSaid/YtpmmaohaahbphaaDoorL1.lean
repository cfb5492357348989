/-
  Plain laws of repeated steps, with no program in sight.
-/
import Derived.Test.YtpmmaohaahbphaaDoorTy
import Derived.Laws.BitsLemmas
namespace Go.Proofs.YtpmmaohaahbphaaDoor
open Go.RowKit

theorem w64_id {x : Int} (h1 : -9223372036854775808 ≤ x) (h2 : x ≤ 9223372036854775807) : w64 x = x := by
  show IntKind.i64.wrap x = x
  rw [IntKind.wrap_i64]; omega
theorem w64_nat {k : Nat} (h : k < 4611686018427387904) : w64 ((k : Int) + 1) = ((k + 1 : Nat) : Int) := by
  rw [w64_id (by omega) (by omega)]; omega
theorem grd_pos {α : Type} {p : Prop} [Decidable p] {x : Option α} (h : p) : grd p x = x := if_pos h
theorem cond_dt {α : Type} {p : Prop} [Decidable p] {x y : α} (h : p) : cond (decide p) x y = x := by rw [decide_eq_true h]; rfl
theorem cond_df {α : Type} {p : Prop} [Decidable p] {x y : α} (h : ¬ p) : cond (decide p) x y = y := by rw [decide_eq_false h]; rfl
theorem cond_ndt {α : Type} {p : Prop} [Decidable p] {x y : α} (h : p) : cond (!decide p) x y = y := by rw [decide_eq_true h]; rfl
theorem cond_ndf {α : Type} {p : Prop} [Decidable p] {x y : α} (h : ¬ p) : cond (!decide p) x y = x := by rw [decide_eq_false h]; rfl
theorem getD_eq {α : Type} (l : List α) (k : Nat) (d : α) (h : k < l.length) : l.getD k d = l[k] := by simp [h]

theorem iter_rel {S S' R R' : Type} {f : S → Option (Lp S R)} {g : S' → Option (Lp S' R')} (I : Nat → S → S' → Prop) (Q : R → R' → Prop) (n : Nat)
    (h : ∀ k s t, k < n → I k s t → (∃ s' t', f s = some (.go s') ∧ g t = some (.go t') ∧ I (k + 1) s' t') ∨ ∃ r r', f s = some (.out r) ∧ g t = some (.out r') ∧ Q r r')
    (h' : ∀ s t, I n s t → ∃ r r', f s = some (.out r) ∧ g t = some (.out r') ∧ Q r r') {s : S} {t : S'} (h0 : I 0 s t) :
    ∃ r r', iter f s = some r ∧ iter g t = some r' ∧ Q r r' := by
  have key : ∀ d k s t, k + d = n → I k s t → ∃ r r', iter f s = some r ∧ iter g t = some r' ∧ Q r r' := by
    intro d
    induction d with
    | zero =>
      intro k s t hk hI
      obtain rfl : k = n := by omega
      obtain ⟨r, r', a, b, q⟩ := h' s t hI
      exact ⟨r, r', iter_out a, iter_out b, q⟩
    | succ d ih =>
      intro k s t hk hI
      rcases h k s t (by omega) hI with ⟨s', t', a, b, hI'⟩ | ⟨r, r', a, b, q⟩
      · obtain ⟨r, r', e1, e2, q⟩ := ih (k + 1) s' t' (by omega) hI'
        exact ⟨r, r', (iter_go a).trans e1, (iter_go b).trans e2, q⟩
      · exact ⟨r, r', iter_out a, iter_out b, q⟩
  exact key n 0 s t (by omega) h0

theorem iter_for {S R : Type} {f : S → Option (Lp S R)} {r : R} (n : Nat) (st : Nat → S)
    (h : ∀ k, k < n → f (st k) = some (.go (st (k + 1)))) (h' : f (st n) = some (.out r)) {s : S} (h0 : s = st 0) : iter f s = some r := by
  have key : ∀ d k, k + d = n → iter f (st k) = some r := by
    intro d
    induction d with
    | zero => intro k hk; obtain rfl : k = n := by omega
              exact iter_out h'
    | succ d ih => intro k hk; exact (iter_go (h k (by omega))).trans (ih (k + 1) (by omega))
  rw [h0]; exact key n 0 (by omega)

theorem iter_all {α S R : Type} {f : S → Option (Lp S R)} {good bad : R} (l : List α) (p : α → Bool) (d : α) (st : Nat → S)
    (h : ∀ k, k < l.length → f (st k) = some (if p (l.getD k d) then .go (st (k + 1)) else .out bad)) (h' : f (st l.length) = some (.out good)) {s : S} (h0 : s = st 0) :
    iter f s = some (if l.all p then good else bad) := by
  have key : ∀ e k, k + e = l.length → iter f (st k) = some (if (l.drop k).all p then good else bad) := by
    intro e
    induction e with
    | zero => intro k hk
              obtain rfl : k = l.length := by omega
              rw [iter_out h']; simp
    | succ e ih =>
      intro k hk
      have hk' : k < l.length := by omega
      have hh := h k hk'
      rw [List.drop_eq_getElem_cons hk', List.all_cons]
      rw [getD_eq l k d hk'] at hh
      cases hp : p l[k] with
      | true => rw [hp, if_pos rfl] at hh; rw [iter_go hh, ih (k + 1) (by omega)]; simp
      | false => rw [hp] at hh; rw [iter_out hh]; simp
  have := key l.length 0 (by omega)
  rw [h0, this]; simp

theorem set_take {α : Type} (l : List α) (d d' : α) (k : Nat) (h : k < l.length) :
    (l.take k ++ List.replicate (l.length - k) d).set k (l.getD k d') = l.take (k + 1) ++ List.replicate (l.length - (k + 1)) d := by
  rw [getD_eq l k d' h]
  apply List.ext_getElem
  · simp; omega
  · intro i h1 h2
    simp at h1 h2
    simp only [List.getElem_set, List.getElem_append, List.length_take, List.getElem_take, List.getElem_replicate]
    by_cases hi : k = i
    · subst hi
      rw [if_pos rfl, dif_pos (by omega)]
    · rw [if_neg hi]
      by_cases h3 : i < min k l.length
      · rw [dif_pos h3, dif_pos (by omega)]
      · rw [dif_neg h3, dif_neg (by omega)]

theorem iter_copy {α R : Type} (l : List α) (d d' : α) {f : Int × List α → Option (Lp (Int × List α) R)} {r : R}
    (h : ∀ (k : Nat) (m : List α), k < l.length → m.length = l.length → f ((k : Int), m) = some (.go (((k + 1 : Nat) : Int), m.set k (l.getD k d'))))
    (h' : f ((l.length : Int), l) = some (.out r)) {s : Int × List α} (h0 : s = ((0 : Int), List.replicate l.length d)) : iter f s = some r := by
  refine iter_for l.length (fun k => ((k : Int), l.take k ++ List.replicate (l.length - k) d)) (fun k hk => ?_) ?_ (by rw [h0]; simp)
  · rw [h k _ hk (by simp; omega), set_take l d d' k hk]
  · simpa using h'

theorem iter_allN {S R : Type} {f : S → Option (Lp S R)} {good bad : R} (n : Nat) (p : Nat → Bool) (st : Nat → S)
    (h : ∀ k, k < n → f (st k) = some (if p k then .go (st (k + 1)) else .out bad)) (h' : f (st n) = some (.out good)) {s : S} (h0 : s = st 0) :
    iter f s = some (if (List.range n).all p then good else bad) := by
  refine iter_all (List.range n) p 0 st (fun k hk => ?_) (by simpa using h') h0
  have hk : k < n := by simpa using hk
  rw [h k hk, getD_eq _ _ _ (by simpa using hk)]
  simp
theorem iter_ex {S R : Type} {f : S → Option (Lp S R)} {miss : R} (n : Nat) (p : Nat → Bool) (hit : Nat → R) (st : Nat → S)
    (h : ∀ k, k < n → f (st k) = some (if p k then .out (hit k) else .go (st (k + 1)))) (h' : f (st n) = some (.out miss)) {s : S} (h0 : s = st 0) :
    ∃ r, iter f s = some r ∧ ((∃ k, k < n ∧ p k = true ∧ (∀ j, j < k → p j = false) ∧ r = hit k) ∨ ((∀ k, k < n → p k = false) ∧ r = miss)) := by
  have key : ∀ e k, k + e = n → (∀ j, j < k → p j = false) → ∃ r, iter f (st k) = some r ∧ ((∃ k, k < n ∧ p k = true ∧ (∀ j, j < k → p j = false) ∧ r = hit k) ∨ ((∀ k, k < n → p k = false) ∧ r = miss)) := by
    intro e
    induction e with
    | zero => intro k hk hj
              obtain rfl : k = n := by omega
              exact ⟨miss, iter_out h', .inr ⟨hj, rfl⟩⟩
    | succ e ih =>
      intro k hk hj
      have hh := h k (by omega)
      cases hp : p k with
      | true => rw [hp, if_pos rfl] at hh; exact ⟨hit k, iter_out hh, .inl ⟨k, by omega, hp, hj, rfl⟩⟩
      | false =>
        rw [hp] at hh
        obtain ⟨r, hr, hq⟩ := ih (k + 1) (by omega) (fun j hj' => by
          rcases Nat.lt_or_ge j k with h1 | h1
          · exact hj j h1
          · obtain rfl : j = k := by omega
            exact hp)
        exact ⟨r, (iter_go hh).trans hr, hq⟩
  rw [h0]; exact key n 0 (by omega) (fun j hj => by omega)

end Go.Proofs.YtpmmaohaahbphaaDoor
