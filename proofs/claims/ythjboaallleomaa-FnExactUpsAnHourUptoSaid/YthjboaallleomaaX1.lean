/-
  'MainReason', both sides, for every list.
-/
import Derived.Test.YthjboaallleomaaW8
namespace Go.Proofs.Ythjboaallleomaa
open Go.RowKit
attribute [local irreducible] Ob loopwp Sub Spec IsV Again Leaves

def sumTo (rs : List DayRow) (w : ByteArray) : Nat → Int
  | 0 => 0
  | k + 1 => if (rs.getD k row0).reason = w then sumTo rs w k + (rs.getD k row0).stops else sumTo rs w k
def betterR (w : ByteArray) (s : Int) (p : ByteArray × Int) : Prop := p.2 < s ∨ (s = p.2 ∧ 0 < s ∧ Op.bytesLess w.toList p.1.toList = true)
noncomputable def bestTo (rs : List DayRow) : Nat → ByteArray × Int
  | 0 => (⟨#[]⟩, 0)
  | k + 1 => match isB (betterR (rs.getD k row0).reason (sumTo rs (rs.getD k row0).reason rs.length) (bestTo rs k)) with
    | true => ((rs.getD k row0).reason, sumTo rs (rs.getD k row0).reason rs.length)
    | false => bestTo rs k
theorem are_stops {rs : List DayRow} (h : areP rs) {k : Nat} (hk : k < rs.length) : 0 ≤ (rs.getD k row0).stops ∧ (rs.getD k row0).stops ≤ 99 := by
  have h1 := (h.1 k hk).1
  simp only [rowB, inB, Bool.and_eq_true, decide_eq_true_eq] at h1
  omega
theorem sumTo_bound {rs : List DayRow} (h : areP rs) (w : ByteArray) : ∀ k, k ≤ rs.length → 0 ≤ sumTo rs w k ∧ sumTo rs w k ≤ 99 * k
  | 0, _ => by simp [sumTo]
  | k + 1, hk => by
    have h1 := sumTo_bound h w k (by omega)
    have h2 := are_stops h (k := k) (by omega)
    simp only [sumTo]
    split <;> omega
theorem bestTo_bound {rs : List DayRow} (h : areP rs) : ∀ k, 0 ≤ (bestTo rs k).2 ∧ (bestTo rs k).2 ≤ 1386
  | 0 => by simp [bestTo]
  | k + 1 => by
    have h1 := bestTo_bound h k
    have h2 := sumTo_bound h (rs.getD k row0).reason rs.length (Nat.le_refl _)
    have h3 := h.2
    simp only [bestTo]
    split
    · dsimp only; omega
    · exact h1
theorem bestTo_t {rs : List DayRow} {k : Nat} (h : betterR (rs.getD k row0).reason (sumTo rs (rs.getD k row0).reason rs.length) (bestTo rs k)) : bestTo rs (k + 1) = ((rs.getD k row0).reason, sumTo rs (rs.getD k row0).reason rs.length) := by
  simp only [bestTo, isB_t h]
theorem bestTo_f {rs : List DayRow} {k : Nat} (h : ¬ betterR (rs.getD k row0).reason (sumTo rs (rs.getD k row0).reason rs.length) (bestTo rs k)) : bestTo rs (k + 1) = bestTo rs k := by
  simp only [bestTo, isB_f h]
noncomputable def mainV (rs : List DayRow) : Value := match isB (areP rs) with
  | true => .tuple #[.string (bestTo rs rs.length).1, .int .i64 (bestTo rs rs.length).2, .bool (decide (0 < (bestTo rs rs.length).2))]
  | false => .tuple #[.string ⟨#[]⟩, .int .i64 0, .bool false]

set_option maxRecDepth 100000 in
theorem mainReason_spec (rs : List DayRow) (h1 : ∀ r ∈ rs, r.reason.size ≤ maxLen) (h2 : rs.length ≤ 1048576) : Spec Try.prog 21 [rowsAV rs] [] fun c h => c = .v (mainV rs) ∧ h = [] := by
  refine spec_v G8_ok Try.func21 rfl (by kernel_rfl) (by kernel_rfl) ?_
  repeat' (first | constructor | intro _)
  · exact Ob.mk ⟨h1, h2⟩
  rotate_left
  · refine IsV.eq rfl ?_
    simp_all [mainV]
  rename_i hA _
  have hP := isB_iff.1 hA
  have hmx := maxLen_eq
  refine loop_law G8_ok (by kernel_rfl) (F := fun k : Nat => ⟨sl [(0, rowsAV rs), (5, .v (.string (bestTo rs k).1)), (6, .v (.int .i64 (bestTo rs k).2)), (15, rowsAV rs), (16, .v (.int .i64 rs.length)), (17, .v (.int .i64 k))], []⟩) (I := fun k => k ≤ rs.length) (μ := fun k => rs.length - k) 0 (Nat.zero_le _) (sub_sl0 ?_) ?_
  · repeat' (first | constructor | exact Ob.mk rfl | intro _)
  intro k hk
  have hbk := bestTo_bound hP k
  repeat' (first | constructor | intro _)
  all_goals (try simp only [Int.toNat_natCast] at *)
  all_goals first
    | (refine Ob.mk ?_; omega)
    | skip
  · rename_i hlt _
    have hk' : k < rs.length := by omega
    refine loop_law G8_ok (by kernel_rfl) (F := fun j : Nat => ⟨sl [(0, rowsAV rs), (5, .v (.string (bestTo rs k).1)), (6, .v (.int .i64 (bestTo rs k).2)), (8, .loc 0 0 0), (9, .v (.int .i64 (sumTo rs (rs.getD k row0).reason j))), (15, rowsAV rs), (16, .v (.int .i64 rs.length)), (17, .v (.int .i64 k)), (21, rowsAV rs), (22, .v (.int .i64 rs.length)), (23, .v (.int .i64 j))], [some ⟨26, 6, 1, fun _ => (rs.getD k row0).enc, false⟩]⟩) (I := fun j => j ≤ rs.length) (μ := fun j => rs.length - j) 0 (Nat.zero_le _) (sub_sl [0] (by decide) (by decide) (fun i h => by omega) ?_ ?_) ?_
    · repeat' (first | constructor | exact Ob.mk rfl | intro _)
    · repeat' (first | constructor | exact Ob.mk rfl | intro _)
    intro j hj
    have hsj := sumTo_bound hP (rs.getD k row0).reason j hj
    have hlen := hP.2
    repeat' (first | constructor | intro _)
    all_goals (try simp only [Int.toNat_natCast] at *)
    all_goals first
      | (refine Ob.mk ?_; omega)
      | skip
    all_goals try conv => whnf
    all_goals first
      | (refine Again.mk (j + 1) ?_ ?_ ?_
         · show j + 1 ≤ rs.length
           omega
         · show rs.length - (j + 1) < rs.length - j
           omega
         have hst := are_stops hP (k := j) (by omega)
         refine sub_sl [0] (by decide) (by decide) (fun i h => by omega) ?_ ?_
         · repeat' (first | constructor | exact Ob.mk rfl | intro _)
           all_goals first
             | exact obInt (wrapI (by omega) (by omega))
             | (refine obInt ?_; rw [sumTo, if_pos (by assumption)]; exact wrapI (by omega) (by omega))
             | (refine obInt ?_; rw [sumTo, if_neg (by assumption)])
         · repeat' (first | constructor | exact Ob.mk rfl | intro _))
      | (have hjn : j = rs.length := by omega
         subst hjn
         refine Again.mk (k + 1) ?_ ?_ ?_
         · show k + 1 ≤ rs.length
           omega
         · show rs.length - (k + 1) < rs.length - k
           omega
         refine sub_sl0 ?_
         repeat' (first | constructor | exact Ob.mk rfl | intro _)
         all_goals first
           | exact obInt (wrapI (by omega) (by omega))
           | (have hb : betterR (rs.getD k row0).reason (sumTo rs (rs.getD k row0).reason rs.length) (bestTo rs k) := by grind [betterR]
              first | exact obStr (by rw [bestTo_t hb]) | exact obInt (by rw [bestTo_t hb]))
           | (have hb : ¬ betterR (rs.getD k row0).reason (sumTo rs (rs.getD k row0).reason rs.length) (bestTo rs k) := by grind [betterR]
              first | exact obStr (by rw [bestTo_f hb]) | exact obInt (by rw [bestTo_f hb])))
      | skip
    all_goals trace_state
  all_goals
    have hkn : k = rs.length := by omega
    subst hkn
    refine IsV.eq rfl ?_
    simp only [mainV, isB_t hP]
    congr 3
    simp; omega
end Go.Proofs.Ythjboaallleomaa
