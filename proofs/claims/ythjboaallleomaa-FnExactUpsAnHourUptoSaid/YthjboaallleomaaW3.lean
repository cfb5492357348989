import Derived.Test.YthjboaallleomaaW2
namespace Go.Proofs.Ythjboaallleomaa
open Go.RowKit
attribute [local irreducible] Ob loopwp Sub Spec IsV Again

structure DayRow where
  day : Int
  ups : Int
  downs : Int
  hours : Int
  stops : Int
  reason : ByteArray
def DayRow.enc (r : DayRow) : List AV := [.v (.int .i64 r.day), .v (.int .i64 r.ups), .v (.int .i64 r.downs), .v (.int .i64 r.hours), .v (.int .i64 r.stops), .v (.string r.reason)]
def DayRow.val (r : DayRow) : Value := .agg #[.int .i64 r.day, .int .i64 r.ups, .int .i64 r.downs, .int .i64 r.hours, .int .i64 r.stops, .string r.reason]
def rowB (r : DayRow) : Bool := inB r.day 0 999 && inB r.ups 0 99999 && inB r.downs 0 99999 && inB r.hours 0 24 && inB r.stops 0 99 && !(decide (r.hours = 0) && (decide (0 < r.ups) || decide (0 < r.downs) || decide (0 < r.stops))) && (decide (r.stops = 0) && decide (r.reason = ⟨#[]⟩) || decide (0 < r.stops) && wordB r.reason)

theorem isDay_spec (n : Int) : Spec Try.prog 45 [.v (.int .i64 n)] [] fun c h => c = .v (.bool (inB n 0 999)) ∧ h = [] := by
  refine spec_v G2_ok Try.func45 rfl (by kernel_rfl) (by kernel_rfl) ?_
  repeat' (first | constructor | intro _)
  all_goals (refine IsV.bool ?_; simp_all)
def D_isDay (ar : List AV) (K : Value → Prop) : Prop := match ar with | [.v (.int .i64 n)] => K (.bool (inB n 0 999)) | _ => False
def G3 : Env := G2.addD 45 D_isDay
theorem G3_ok : EnvOk Try.prog G3 := G2_ok.addD ent_45 fun ar K h => by
  unfold D_isDay at h; split at h
  · exact ⟨_, isDay_spec _, h⟩
  · exact h.elim

set_option maxRecDepth 100000 in
theorem isDayRow_spec (r : DayRow) (hs : r.reason.size ≤ maxLen) : Spec Try.prog 14 [.agg r.enc] [] fun c h => c = .v (.bool (rowB r)) ∧ h = [] := by
  refine spec_v G3_ok Try.func14 rfl (by kernel_rfl) (by kernel_rfl) ?_
  repeat' (first | constructor | intro _)
  all_goals (first | (refine IsV.bool ?_; grind [rowB, inB, IntKind.wrap_i64]) | (refine Ob.mk ?_; assumption) | skip)
set_option maxRecDepth 100000 in
theorem l26One_spec (r : DayRow) (hs : r.reason.size ≤ maxLen) : Spec Try.prog 44 [.agg r.enc] [] fun c h => c = .v (.bool (rowB r)) ∧ h = [] := by
  refine spec_v G3_ok Try.func44 rfl (by kernel_rfl) (by kernel_rfl) ?_
  repeat' (first | constructor | intro _)
  all_goals (first | (refine IsV.bool ?_; grind [rowB, inB, IntKind.wrap_i64]) | (refine Ob.mk ?_; assumption) | skip)
def rowK (c : AV) (p : DayRow → Prop) : Prop := match c with
  | .agg [.v (.int .i64 a), .v (.int .i64 b), .v (.int .i64 c), .v (.int .i64 d), .v (.int .i64 e), .v (.string s)] => Ob (s.size ≤ maxLen) ∧ p ⟨a, b, c, d, e, s⟩
  | _ => False
theorem rowK_out {c : AV} {p : DayRow → Prop} (h : rowK c p) : ∃ r : DayRow, c = .agg r.enc ∧ r.reason.size ≤ maxLen ∧ p r := by
  unfold rowK at h; split at h
  · exact ⟨_, rfl, h.1.out, h.2⟩
  · exact h.elim
def D_row (ar : List AV) (K : Value → Prop) : Prop := match ar with
  | [c] => rowK c fun r => K (.bool (rowB r))
  | _ => False
def G4 : Env := (G3.addD 14 D_row).addD 44 D_row
theorem G4_ok : EnvOk Try.prog G4 := by
  refine EnvOk.addD (EnvOk.addD G3_ok ent_14 fun ar K h => ?_) ent_44 fun ar K h => ?_
  · unfold D_row at h; split at h
    · obtain ⟨r, rfl, h1, h2⟩ := rowK_out h
      exact ⟨_, isDayRow_spec r h1, h2⟩
    · exact h.elim
  · unfold D_row at h; split at h
    · obtain ⟨r, rfl, h1, h2⟩ := rowK_out h
      exact ⟨_, l26One_spec r h1, h2⟩
    · exact h.elim
end Go.Proofs.Ythjboaallleomaa
