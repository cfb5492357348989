import Derived.Test.YthjboaallleomaaW3
import Derived.Test.YthjboaallleomaaAo2
namespace Go.Proofs.Ythjboaallleomaa
open Go.RowKit
attribute [local irreducible] Ob loopwp Sub Spec IsV Again

theorem specIsDayRow_spec (r : DayRow) (hs : r.reason.size ≤ maxLen) : Spec Try.prog 12 [.agg r.enc] [] fun c h => c = .v (.bool (rowB r)) ∧ h = [] := by
  refine spec_v G4_ok Try.func12 rfl (by kernel_rfl) (by kernel_rfl) ?_
  repeat' (first | constructor | intro _)
  all_goals (first | (refine IsV.bool ?_; simp_all) | (refine Ob.mk ?_; assumption))

def szRow (r : DayRow) (left : Int) : Int := if left - r.reason.size < 0 then -1 else left - r.reason.size
set_option maxRecDepth 100000 in
theorem szDayRow_spec (r : DayRow) (left : Int) (hs : r.reason.size ≤ 1048576) (h0 : 0 ≤ left) (h1 : left ≤ 1048576) : Spec Try.prog 11 [.agg r.enc, .v (.int .i64 left)] [] fun c h => c = .v (.int .i64 (szRow r left)) ∧ h = [] := by
  refine spec_v G4_ok Try.func11 rfl (by kernel_rfl) (by kernel_rfl) ?_
  repeat' (first | constructor | intro _)
  all_goals (first | (refine IsV.int ?_; grind [szRow, IntKind.wrap_i64]) | (refine Ob.mk ?_; omega))
set_option maxRecDepth 100000 in
theorem toDayRow_spec (r : DayRow) (_hs : r.reason.size ≤ maxLen) : Spec Try.prog 13 [.agg r.enc] [] fun c h => c = .v r.val ∧ h = [] := by
  refine spec_v G4_ok Try.func13 rfl (by kernel_rfl) (by kernel_rfl) ?_
  repeat' (first | constructor | intro _)
  all_goals first | exact IsV.of rfl | skip
def D_specRow (ar : List AV) (K : Value → Prop) : Prop := D_row ar K
def D_szRow (ar : List AV) (K : Value → Prop) : Prop := match ar with
  | [c, .v (.int .i64 left)] => rowK c fun r => Ob (r.reason.size ≤ 1048576 ∧ 0 ≤ left ∧ left ≤ 1048576) ∧ K (.int .i64 (szRow r left))
  | _ => False
def D_toRow (ar : List AV) (K : Value → Prop) : Prop := match ar with
  | [c] => rowK c fun r => K r.val
  | _ => False
def G5 : Env := ((G4.addD 12 D_row).addD 11 D_szRow).addD 13 D_toRow
theorem G5_ok : EnvOk Try.prog G5 := by
  refine EnvOk.addD (EnvOk.addD (EnvOk.addD G4_ok ent_12 fun ar K h => ?_) ent_11 fun ar K h => ?_) ent_13 fun ar K h => ?_
  · unfold D_row at h; split at h
    · obtain ⟨r, rfl, h1, h2⟩ := rowK_out h
      exact ⟨_, specIsDayRow_spec r h1, h2⟩
    · exact h.elim
  · unfold D_szRow at h; split at h
    · obtain ⟨r, rfl, h1, h2, h3⟩ := rowK_out h
      exact ⟨_, szDayRow_spec r _ h2.out.1 h2.out.2.1 h2.out.2.2, h3⟩
    · exact h.elim
  · unfold D_toRow at h; split at h
    · obtain ⟨r, rfl, h1, h2⟩ := rowK_out h
      exact ⟨_, toDayRow_spec r h1, h2⟩
    · exact h.elim
set_option maxRecDepth 100000 in
theorem lawIsDayRow_spec (r : DayRow) (hs : r.reason.size ≤ 1048576) : Spec Try.prog 3 [.agg r.enc] [] fun c h => c = .v (.bool true) ∧ h = [] := by
  have hmx : 1048576 ≤ maxLen := by decide
  refine spec_v G5_ok Try.func3 rfl (by kernel_rfl) (by kernel_rfl) ?_
  repeat' (first | constructor | intro _)
  all_goals first | (refine IsV.bool ?_; simp_all) | (refine Ob.mk ?_; (try dsimp only); first | omega | (exact ⟨hs, by omega, by omega⟩))
end Go.Proofs.Ythjboaallleomaa
