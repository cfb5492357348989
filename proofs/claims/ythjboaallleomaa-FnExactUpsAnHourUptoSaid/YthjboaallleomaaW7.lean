/-
  'AreDayRows', both sides and the law, for every list.
-/
import Derived.Test.YthjboaallleomaaW6
namespace Go.Proofs.Ythjboaallleomaa
open Go.RowKit
attribute [local irreducible] Ob loopwp Sub Spec IsV Again Leaves

set_option maxRecDepth 100000 in
theorem l26Good_spec (rs : List DayRow) (h1 : ∀ r ∈ rs, r.reason.size ≤ maxLen) (h2 : rs.length ≤ 1048576) : Spec Try.prog 48 [rowsAV rs] [] fun c h => c = .v (.bool (isB (areP rs))) ∧ h = [] := by
  refine spec_v G6_ok Try.func48 rfl (by kernel_rfl) (by kernel_rfl) ?_
  repeat' (first | constructor | intro _)
  refine loop_law G6_ok (by kernel_rfl) (F := fun k : Nat => ⟨sl [(0, rowsAV rs), (3, .v (.int .i64 k))], []⟩) (I := fun k => k ≤ rs.length ∧ areTo rs k) (μ := fun k => rs.length - k) 0 ⟨Nat.zero_le _, fun i h => absurd h (Nat.not_lt_zero _)⟩ (sub_sl0 ?_) ?_
  · repeat' (first | constructor | exact Ob.mk rfl | intro _)
  · rintro k ⟨hk, ht⟩
    have hmx := maxLen_eq
    have := getD_all (d := row0) h1 (by decide) k
    repeat' (first | constructor | intro _)
    all_goals (try simp only [Int.toNat_natCast] at *)
    all_goals have e : 0 < k → IntKind.i64.wrap ((k : Int) - 1) = ((k - 1 : Nat) : Int) := fun h => by rw [wrapI (by omega) (by omega)]; omega
    all_goals have e1 : 0 < k → (IntKind.i64.wrap ((k : Int) - 1)).toNat = k - 1 := fun h => by rw [e h, Int.toNat_natCast]
    all_goals first
      | (refine Ob.mk ?_; first | omega | (rw [e (by omega)]; omega) | (rw [e (by omega), Int.toNat_natCast]; omega))
      | (refine IsV.bool (areP_f k (by omega) ?_).symm
         first
         | exact .inl (by assumption)
         | (refine .inr ⟨by omega, ?_⟩
            rw [← e1 (by omega)]
            assumption))
      | (refine IsV.bool ?_
         have hk2 : k = rs.length := by omega
         subst hk2
         symm
         first
         | exact isB_t ⟨ht, by omega⟩
         | exact isB_f fun g => by have := g.2; omega)
      | (conv => whnf
         refine Again.mk (k + 1) ?_ ?_ ?_
         · refine ⟨by omega, areTo_succ ht (by assumption) fun h0 => ?_⟩
           first
           | omega
           | (rw [← e1 h0]; assumption)
         · show rs.length - (k + 1) < rs.length - k
           omega
         · refine sub_sl0 ?_
           repeat' (first | constructor | exact Ob.mk rfl | intro _)
           exact obInt (wrapI (by omega) (by omega)))

theorem eqList {xs ys : List DayRow} (hl : xs.length = ys.length) (h : ∀ i, i < xs.length → xs.getD i row0 = ys.getD i row0) : xs = ys := by
  refine List.ext_getElem hl fun i h1 h2 => ?_
  have := h i h1
  simpa [List.getD_eq_getElem?_getD, h1, h2] using this
set_option maxRecDepth 100000 in
theorem eqDayRowS_spec (xs ys : List DayRow) (h1 : ∀ r ∈ xs, r.reason.size ≤ maxLen) (h3 : ∀ r ∈ ys, r.reason.size ≤ maxLen) (h2 : xs.length ≤ 1048576) : Spec Try.prog 19 [rowsAV xs, rowsAV ys] [] fun c h => c = .v (.bool (isB (xs = ys))) ∧ h = [] := by
  refine spec_v G6_ok Try.func19 rfl (by kernel_rfl) (by kernel_rfl) ?_
  repeat' (first | constructor | intro _)
  · refine IsV.bool (isB_f fun g => ?_).symm
    subst g
    omega
  have hl : xs.length = ys.length := by omega
  refine loop_law G6_ok (by kernel_rfl) (F := fun k : Nat => ⟨sl [(0, rowsAV xs), (1, rowsAV ys), (5, .v (.int .i64 k))], []⟩) (I := fun k => k ≤ xs.length ∧ ∀ i, i < k → xs.getD i row0 = ys.getD i row0) (μ := fun k => xs.length - k) 0 ⟨Nat.zero_le _, fun i h => absurd h (Nat.not_lt_zero _)⟩ (sub_sl0 ?_) ?_
  · repeat' (first | constructor | exact Ob.mk rfl | intro _)
  · rintro k ⟨hk, ht⟩
    have hmx := maxLen_eq
    have := getD_all (d := row0) h1 (by decide) k
    have := getD_all (d := row0) h3 (by decide) k
    repeat' (first | constructor | intro _)
    all_goals (try simp only [Int.toNat_natCast] at *)
    all_goals first
      | (refine Ob.mk ?_; first | omega)
      | (refine IsV.bool ?_
         symm
         refine isB_f fun g => ?_
         rename_i h0
         exact (isB_iff_f.1 h0) (by subst g; rfl))
      | (refine IsV.bool ?_
         symm
         exact isB_t (eqList hl fun i hi => ht i (by omega)))
      | (conv => whnf
         refine Again.mk (k + 1) ?_ ?_ ?_
         · refine ⟨by omega, fun i hi => ?_⟩
           rcases (show i < k ∨ i = k by omega) with e | e
           · exact ht i e
           · subst e; rename_i h0; exact isB_iff.1 h0
         · show xs.length - (k + 1) < xs.length - k
           omega
         · refine sub_sl0 ?_
           repeat' (first | constructor | exact Ob.mk rfl | intro _)
           exact obInt (wrapI (by omega) (by omega)))
def D_are (ar : List AV) (K : Value → Prop) : Prop := match ar with
  | [c] => listK 6 DayRow.enc row0 c fun rs => Ob ((∀ r ∈ rs, r.reason.size ≤ maxLen) ∧ rs.length ≤ 1048576) ∧ K (.bool (isB (areP rs)))
  | _ => False
def D_eqRows (ar : List AV) (K : Value → Prop) : Prop := match ar with
  | [c, d] => listK 6 DayRow.enc row0 c fun xs => listK 6 DayRow.enc row0 d fun ys => Ob ((∀ r ∈ xs, r.reason.size ≤ maxLen) ∧ (∀ r ∈ ys, r.reason.size ≤ maxLen) ∧ xs.length ≤ 1048576) ∧ K (.bool (isB (xs = ys)))
  | _ => False
theorem are_of {f : FuncId} (hs : ∀ rs : List DayRow, (∀ r ∈ rs, r.reason.size ≤ maxLen) → rs.length ≤ 1048576 → Spec Try.prog f [rowsAV rs] [] fun c h => c = .v (.bool (isB (areP rs))) ∧ h = []) {ar : List AV} {K : Value → Prop} (h : D_are ar K) : ∃ r, Spec Try.prog f ar [] (fun c h => c = .v r ∧ h = []) ∧ K r := by
  unfold D_are at h; split at h
  · obtain ⟨rs, hle, h1, h2⟩ := listK_out h
    refine ⟨_, Spec.le (hs rs h1.out.1 h1.out.2) ?_, h2⟩
    exact ⟨hle, trivial⟩
  · exact h.elim
def G7 : Env := ((G6.addD 18 D_are).addD 48 D_are).addD 19 D_eqRows
theorem G7_ok : EnvOk Try.prog G7 := by
  refine EnvOk.addD (EnvOk.addD (EnvOk.addD G6_ok ent_18 fun _ _ h => are_of areDayRows_spec h) ent_48 fun _ _ h => are_of l26Good_spec h) ent_19 fun ar K h => ?_
  unfold D_eqRows at h; split at h
  · obtain ⟨rs, hle, h0⟩ := listK_out h
    obtain ⟨rs', hle', h1, h2⟩ := listK_out h0
    refine ⟨_, Spec.le (eqDayRowS_spec rs rs' h1.out.1 h1.out.2.1 h1.out.2.2) ?_, h2⟩
    exact ⟨hle, hle', trivial⟩
  · exact h.elim
theorem specAreDayRows_spec (rs : List DayRow) (h1 : ∀ r ∈ rs, r.reason.size ≤ maxLen) (h2 : rs.length ≤ 1048576) : Spec Try.prog 16 [rowsAV rs] [] fun c h => c = .v (.bool (isB (areP rs))) ∧ h = [] := by
  refine spec_v G7_ok Try.func16 rfl (by kernel_rfl) (by kernel_rfl) ?_
  repeat' (first | constructor | intro _)
  all_goals first
    | (refine IsV.bool ?_; simp_all)
    | exact Ob.mk ⟨h1, h2⟩
def G8 : Env := G7.addD 16 D_are
theorem G8_ok : EnvOk Try.prog G8 := EnvOk.addD G7_ok ent_16 fun _ _ h => are_of specAreDayRows_spec h
set_option maxRecDepth 100000 in
theorem lawAreDayRows_spec (rs : List DayRow) (h1 : ∀ r ∈ rs, r.reason.size ≤ 1048576) (h2 : rs.length ≤ 1048576) : Spec Try.prog 4 [rowsAV rs] [] fun c h => c = .v (.bool true) ∧ h = [] := by
  have hmx := maxLen_eq
  have h3 : ∀ r ∈ rs, r.reason.size ≤ maxLen := fun r hr => by have := h1 r hr; omega
  refine spec_v G8_ok Try.func4 rfl (by kernel_rfl) (by kernel_rfl) ?_
  repeat' (first | constructor | intro _)
  all_goals first
    | (refine Ob.mk ?_; first | exact ⟨h1, h2, by omega, by omega⟩ | exact ⟨h3, h2⟩ | exact ⟨h3, h3, h2⟩)
    | (refine IsV.bool ?_; first | rfl | (simp_all; done) | (have := isB_t (p := rs = rs) rfl; simp_all; done))
    | skip
  all_goals trace_state
end Go.Proofs.Ythjboaallleomaa
