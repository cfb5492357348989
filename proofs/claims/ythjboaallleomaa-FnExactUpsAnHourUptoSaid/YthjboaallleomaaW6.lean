/-
  'AreDayRows', both sides and the law, for every list.
-/
import Derived.Test.YthjboaallleomaaW5
namespace Go.Proofs.Ythjboaallleomaa
open Go.RowKit
attribute [local irreducible] Ob loopwp Sub Spec IsV Again Leaves

def E_toRows (ar : List AV) (K : AV → List (Option LB) → Prop) : Prop := match ar with
  | [c] => listK 6 DayRow.enc row0 c fun rs => Ob ((∀ r ∈ rs, r.reason.size ≤ maxLen) ∧ rs.length ≤ 1048576) ∧ K (.own 0) [some (rowsLB rs)]
  | _ => False
def G6 : Env := ((G5.addD 49 D_eqRow).addE 15 E_szRows).addE 17 E_toRows
theorem G6_ok : EnvOk Try.prog G6 := by
  refine EnvOk.addE (EnvOk.addE (EnvOk.addD G5_ok ent_49 fun ar K h => ?_) ent_15 fun ar K h => ?_) ent_17 fun ar K h => ?_
  · unfold D_eqRow at h; split at h
    · obtain ⟨r, rfl, h1, h2⟩ := rowK_out h
      obtain ⟨r', rfl, h3, h4⟩ := rowK_out h2
      exact ⟨_, eqDayRow_spec r r', h4⟩
    · exact h.elim
  · unfold E_szRows at h; split at h
    · obtain ⟨rs, hle, h1, h2⟩ := listK_out h
      obtain ⟨g1, g2, g3, g4⟩ := h1.out
      refine Spec.mono (Spec.le (szDayRowS_spec rs _ g1 g2 g3 g4) ?_) fun c h' e => ?_
      · exact ⟨hle, AV.le.refl _, trivial⟩
      · obtain ⟨⟨n, rfl⟩, rfl⟩ := e
        exact h2 n
    · exact h.elim
  · unfold E_toRows at h; split at h
    · obtain ⟨rs, hle, h1, h2⟩ := listK_out h
      obtain ⟨g1, g2⟩ := h1.out
      refine Spec.mono (Spec.le (toDayRowS_spec rs g1 g2) ?_) fun c h' e => ?_
      · exact ⟨hle, trivial⟩
      · obtain ⟨rfl, rfl⟩ := e
        exact h2
    · exact h.elim

def areTo (rs : List DayRow) (n : Nat) : Prop := ∀ i, i < n → rowB (rs.getD i row0) = true ∧ (0 < i → (rs.getD (i - 1) row0).day < (rs.getD i row0).day)
def areP (rs : List DayRow) : Prop := areTo rs rs.length ∧ rs.length ≤ 14
theorem areTo_succ {rs : List DayRow} {k : Nat} (h : areTo rs k) (h1 : rowB (rs.getD k row0) = true) (h2 : 0 < k → (rs.getD (k - 1) row0).day < (rs.getD k row0).day) : areTo rs (k + 1) := fun i hi => by
  rcases (show i < k ∨ i = k by omega) with e | e
  · exact h i e
  · subst e; exact ⟨h1, h2⟩
theorem areP_f {rs : List DayRow} (k : Nat) (hk : k < rs.length) (h : rowB (rs.getD k row0) = false ∨ (0 < k ∧ (rs.getD k row0).day ≤ (rs.getD (k - 1) row0).day)) : isB (areP rs) = false := by
  refine isB_f fun g => ?_
  have := g.1 k hk
  rcases h with h | h
  · rw [h] at this; simp at this
  · have := this.2 h.1; omega
set_option maxRecDepth 100000 in
theorem areDayRows_spec (rs : List DayRow) (h1 : ∀ r ∈ rs, r.reason.size ≤ maxLen) (h2 : rs.length ≤ 1048576) : Spec Try.prog 18 [rowsAV rs] [] fun c h => c = .v (.bool (isB (areP rs))) ∧ h = [] := by
  refine spec_v G6_ok Try.func18 rfl (by kernel_rfl) (by kernel_rfl) ?_
  repeat' (first | constructor | intro _)
  refine loop_law G6_ok (by kernel_rfl) (F := fun k : Nat => ⟨sl [(0, rowsAV rs), (5, rowsAV rs), (6, .v (.int .i64 rs.length)), (7, .v (.int .i64 k))], []⟩) (I := fun k => k ≤ rs.length ∧ areTo rs k) (μ := fun k => rs.length - k) 0 ⟨Nat.zero_le _, fun i h => absurd h (Nat.not_lt_zero _)⟩ (sub_sl0 ?_) ?_
  · repeat' (first | constructor | exact Ob.mk rfl | intro _)
  · rintro k ⟨hk, ht⟩
    have hmx := maxLen_eq
    have := getD_all (d := row0) h1 (by decide) k
    repeat' (first | constructor | intro _)
    all_goals (try simp only [Int.toNat_natCast] at *)
    all_goals have e : 0 < k → IntKind.i64.wrap ((k : Int) - 1) = ((k - 1 : Nat) : Int) := fun h => by rw [wrapI (by omega) (by omega)]; omega
    all_goals have e1 : 0 < k → (IntKind.i64.wrap ((k : Int) - 1)).toNat = k - 1 := fun h => by rw [e h, Int.toNat_natCast]
    all_goals first
      | (refine Ob.mk ?_; first | omega | (rw [e (by omega)]; omega) | (rw [e (by omega), Int.toNat_natCast]; omega))
      | (refine IsV.bool (areP_f k (by omega) ?_).symm
         first
         | exact .inl (by assumption)
         | (refine .inr ⟨by omega, ?_⟩
            rw [← e1 (by omega)]
            assumption))
      | (refine IsV.bool ?_
         have hk2 : k = rs.length := by omega
         subst hk2
         symm
         first
         | exact isB_t ⟨ht, by omega⟩
         | exact isB_f fun g => by have := g.2; omega)
      | (conv => whnf
         refine Again.mk (k + 1) ?_ ?_ ?_
         · refine ⟨by omega, areTo_succ ht (by assumption) fun h0 => ?_⟩
           first
           | omega
           | (rw [← e1 h0]; assumption)
         · show rs.length - (k + 1) < rs.length - k
           omega
         · refine sub_sl0 ?_
           repeat' (first | constructor | exact Ob.mk rfl | intro _)
           exact obInt (wrapI (by omega) (by omega)))
      | skip
    all_goals trace_state
end Go.Proofs.Ythjboaallleomaa
