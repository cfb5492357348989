/-
  'MainReason', the reference's side, and the law, for every list.
-/
import Derived.Test.YthjboaallleomaaX1
namespace Go.Proofs.Ythjboaallleomaa
open Go.RowKit
attribute [local irreducible] Ob loopwp Sub Spec IsV Again Leaves

set_option maxRecDepth 100000 in
theorem specMainReason_spec (rs : List DayRow) (h1 : ∀ r ∈ rs, r.reason.size ≤ maxLen) (h2 : rs.length ≤ 1048576) : Spec Try.prog 20 [rowsAV rs] [] fun c h => c = .v (mainV rs) ∧ h = [] := by
  refine spec_v G8_ok Try.func20 rfl (by kernel_rfl) (by kernel_rfl) ?_
  repeat' (first | constructor | intro _)
  · exact Ob.mk ⟨h1, h2⟩
  all_goals first
    | (refine IsV.eq rfl ?_
       simp_all [mainV]
       done)
    | skip
  rename_i hA
  have hP := isB_iff.1 hA
  have hmx := maxLen_eq
  refine loop_law G8_ok (by kernel_rfl) (F := fun k : Nat => ⟨sl [(0, rowsAV rs), (5, .v (.string (bestTo rs k).1)), (6, .v (.int .i64 (bestTo rs k).2)), (7, .v (.int .i64 k))], []⟩) (I := fun k => k ≤ rs.length) (μ := fun k => rs.length - k) 0 (Nat.zero_le _) (sub_sl0 ?_) ?_
  · repeat' (first | constructor | exact Ob.mk rfl | intro _)
  intro k hk
  have hbk := bestTo_bound hP k
  repeat' (first | constructor | intro _)
  all_goals (try simp only [Int.toNat_natCast] at *)
  all_goals first
    | (refine Ob.mk ?_; omega)
    | skip
  · rename_i hlt _
    have hk' : k < rs.length := by omega
    refine loop_law G8_ok (by kernel_rfl) (F := fun j : Nat => ⟨sl [(0, rowsAV rs), (5, .v (.string (bestTo rs k).1)), (6, .v (.int .i64 (bestTo rs k).2)), (7, .v (.int .i64 k)), (8, .v (.int .i64 (sumTo rs (rs.getD k row0).reason j))), (9, .v (.int .i64 j))], []⟩) (I := fun j => j ≤ rs.length) (μ := fun j => rs.length - j) 0 (Nat.zero_le _) (sub_sl0 ?_) ?_
    · repeat' (first | constructor | exact Ob.mk rfl | intro _)
    intro j hj
    have hsj := sumTo_bound hP (rs.getD k row0).reason j hj
    have hlen := hP.2
    repeat' (first | constructor | intro _)
    all_goals (try simp only [Int.toNat_natCast] at *)
    all_goals first
      | (refine Ob.mk ?_; omega)
      | skip
    all_goals try conv => whnf
    all_goals first
      | (refine Again.mk (j + 1) ?_ ?_ ?_
         · show j + 1 ≤ rs.length
           omega
         · show rs.length - (j + 1) < rs.length - j
           omega
         have hst := are_stops hP (k := j) (by omega)
         refine sub_sl0 ?_
         repeat' (first | constructor | exact Ob.mk rfl | intro _)
         all_goals first
           | exact obInt (wrapI (by omega) (by omega))
           | (refine obInt ?_; rw [sumTo, if_pos (by assumption)]; exact wrapI (by omega) (by omega))
           | (refine obInt ?_; rw [sumTo, if_neg (by assumption)]))
      | (have hjn : j = rs.length := by omega
         subst hjn
         refine Again.mk (k + 1) ?_ ?_ ?_
         · show k + 1 ≤ rs.length
           omega
         · show rs.length - (k + 1) < rs.length - k
           omega
         refine sub_sl0 ?_
         repeat' (first | constructor | exact Ob.mk rfl | intro _)
         all_goals first
           | exact obInt (wrapI (by omega) (by omega))
           | (have hb : betterR (rs.getD k row0).reason (sumTo rs (rs.getD k row0).reason rs.length) (bestTo rs k) := by grind [betterR]
              first | exact obStr (by rw [bestTo_t hb]) | exact obInt (by rw [bestTo_t hb]))
           | (have hb : ¬ betterR (rs.getD k row0).reason (sumTo rs (rs.getD k row0).reason rs.length) (bestTo rs k) := by grind [betterR]
              first | exact obStr (by rw [bestTo_f hb]) | exact obInt (by rw [bestTo_f hb])))
      | skip
    all_goals trace_state
  all_goals
    have hkn : k = rs.length := by omega
    subst hkn
    refine IsV.eq rfl ?_
    simp only [mainV, isB_t hP]
    congr 3
    simp; omega

def D_main (ar : List AV) (K : Value → Prop) : Prop := match ar with
  | [c] => listK 6 DayRow.enc row0 c fun rs => Ob ((∀ r ∈ rs, r.reason.size ≤ maxLen) ∧ rs.length ≤ 1048576) ∧
    (isB (areP rs) = true → K (.tuple #[.string (bestTo rs rs.length).1, .int .i64 (bestTo rs rs.length).2, .bool (decide (0 < (bestTo rs rs.length).2))])) ∧ (isB (areP rs) = false → K (.tuple #[.string ⟨#[]⟩, .int .i64 0, .bool false]))
  | _ => False
theorem main_of {f : FuncId} (hs : ∀ rs : List DayRow, (∀ r ∈ rs, r.reason.size ≤ maxLen) → rs.length ≤ 1048576 → Spec Try.prog f [rowsAV rs] [] fun c h => c = .v (mainV rs) ∧ h = []) {ar : List AV} {K : Value → Prop} (h : D_main ar K) : ∃ r, Spec Try.prog f ar [] (fun c h => c = .v r ∧ h = []) ∧ K r := by
  unfold D_main at h; split at h
  · obtain ⟨rs, hle, h1, h2, h3⟩ := listK_out h
    refine ⟨mainV rs, Spec.le (hs rs h1.out.1 h1.out.2) ?_, ?_⟩
    · exact ⟨hle, trivial⟩
    · unfold mainV
      split
      · exact h2 (by assumption)
      · exact h3 (by assumption)
  · exact h.elim
def G9 : Env := (G8.addD 21 D_main).addD 20 D_main
theorem G9_ok : EnvOk Try.prog G9 := EnvOk.addD (EnvOk.addD G8_ok ent_21 fun _ _ h => main_of mainReason_spec h) ent_20 fun _ _ h => main_of specMainReason_spec h
set_option maxRecDepth 100000 in
theorem lawMainReason_spec (rs : List DayRow) (h1 : ∀ r ∈ rs, r.reason.size ≤ 1048576) (h2 : rs.length ≤ 1048576) : Spec Try.prog 5 [rowsAV rs] [] fun c h => c = .v (.bool true) ∧ h = [] := by
  have hmx := maxLen_eq
  have h3 : ∀ r ∈ rs, r.reason.size ≤ maxLen := fun r hr => by have := h1 r hr; omega
  have hrr : isB (rs = rs) = true := isB_t rfl
  refine spec_v G9_ok Try.func5 rfl (by kernel_rfl) (by kernel_rfl) ?_
  repeat' (first | constructor | intro _)
  all_goals first
    | (refine Ob.mk ?_; first | exact ⟨h1, h2, by omega, by omega⟩ | exact ⟨h3, h2⟩ | exact ⟨h3, h3, h2⟩)
    | (refine IsV.bool ?_; first | rfl | (simp_all; done) | (exfalso; omega))
    | skip
  all_goals trace_state
end Go.Proofs.Ythjboaallleomaa
