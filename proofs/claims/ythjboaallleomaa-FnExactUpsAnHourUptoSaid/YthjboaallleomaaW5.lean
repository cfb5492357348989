/-
  Lists of day rows: what the law's helpers and both sides of 'AreDayRows' return, for every list.
-/
import Derived.Test.YthjboaallleomaaW4
namespace Go.Proofs.Ythjboaallleomaa
open Go.RowKit
attribute [local irreducible] Ob loopwp Sub Spec IsV Again Leaves

def row0 : DayRow := ⟨0, 0, 0, 0, 0, ⟨#[]⟩⟩
abbrev rowsAV (rs : List DayRow) : AV := listAV 6 DayRow.enc row0 rs
noncomputable def isB (p : Prop) : Bool := @decide p (Classical.propDecidable p)
theorem isB_t {p : Prop} (h : p) : isB p = true := by unfold isB; simp [h]
theorem isB_f {p : Prop} (h : ¬ p) : isB p = false := by unfold isB; simp [h]
theorem isB_iff {p : Prop} : isB p = true ↔ p := by unfold isB; simp
theorem isB_iff_f {p : Prop} : isB p = false ↔ ¬ p := by unfold isB; simp

set_option maxRecDepth 100000 in
theorem eqDayRow_spec (a b : DayRow) : Spec Try.prog 49 [.agg a.enc, .agg b.enc] [] fun c h => c = .v (.bool (isB (a = b))) ∧ h = [] := by
  refine spec_v G5_ok Try.func49 rfl (by kernel_rfl) (by kernel_rfl) ?_
  cases a; cases b
  repeat' (first | constructor | intro _)
  all_goals (refine IsV.bool ?_; symm; first | (apply isB_t; simp; simp_all; done) | (apply isB_f; simp; simp_all; done))
def D_eqRow (ar : List AV) (K : Value → Prop) : Prop := match ar with
  | [c, d] => rowK c fun a => rowK d fun b => K (.bool (isB (a = b)))
  | _ => False

set_option maxRecDepth 100000 in
theorem szDayRowS_spec (rs : List DayRow) (left : Int) (h1 : ∀ r ∈ rs, r.reason.size ≤ 1048576) (h2 : rs.length ≤ 1048576) (h3 : 0 ≤ left) (h4 : left ≤ 1048576) : Spec Try.prog 15 [rowsAV rs, .v (.int .i64 left)] [] fun c h => (∃ n, c = .v (.int .i64 n)) ∧ h = [] := by
  refine spec_e G5_ok Try.func15 rfl (by kernel_rfl) (by kernel_rfl) ?_
  repeat' (first | constructor | intro _)
  all_goals first
    | exact Leaves.mk (.v (.int .i64 _)) [] [] ⟨⟨_, rfl⟩, rfl⟩ List.nodup_nil ⟨rfl, Ob.mk rfl⟩ trivial
    | skip
  rename_i hh
  refine loop_law G5_ok (by kernel_rfl) (F := fun x : Nat × Int => ⟨sl [(0, rowsAV rs), (1, .v (.int .i64 x.2)), (5, .v (.int .i64 x.1))], []⟩) (I := fun x => x.1 ≤ rs.length ∧ 0 ≤ x.2 ∧ x.2 ≤ 1048576) (μ := fun x => rs.length - x.1) (0, IntKind.i64.wrap (left - rs.length)) ⟨Nat.zero_le _, hh, by show IntKind.i64.wrap (left - rs.length) ≤ 1048576; rw [wrapI (by omega) (by omega)]; omega⟩ (sub_sl0 ?_) ?_
  · repeat' (first | constructor | exact Ob.mk rfl | intro _)
  · rintro ⟨k, l⟩ ⟨hk, hl0, hl1⟩
    dsimp only at hk hl0 hl1
    have hmx := maxLen_eq
    have := getD_all (d := row0) h1 (by decide) k
    repeat' (first | constructor | intro _)
    all_goals first
      | exact Leaves.mk (.v (.int .i64 _)) [] [] ⟨⟨_, rfl⟩, rfl⟩ List.nodup_nil ⟨rfl, Ob.mk rfl⟩ trivial
      | (refine Ob.mk ?_; (try simp only [Int.toNat_natCast] at *); omega)
      | (conv => whnf
         refine Again.mk (k + 1, szRow (rs.getD k row0) l) ?_ ?_ ?_
         · refine ⟨?_, ?_, ?_⟩
           · dsimp only at *; omega
           · assumption
           · show szRow (rs.getD k row0) l ≤ 1048576
             unfold szRow; split <;> omega
         · dsimp only at *; omega
         · refine sub_sl0 ?_
           repeat' (first | constructor | exact Ob.mk rfl | intro _)
           exact obInt (wrapI (by dsimp only at *; omega) (by dsimp only at *; omega)))
def E_szRows (ar : List AV) (K : AV → List (Option LB) → Prop) : Prop := match ar with
  | [c, .v (.int .i64 left)] => listK 6 DayRow.enc row0 c fun rs => Ob ((∀ r ∈ rs, r.reason.size ≤ 1048576) ∧ rs.length ≤ 1048576 ∧ 0 ≤ left ∧ left ≤ 1048576) ∧ ∀ n, K (.v (.int .i64 n)) []
  | _ => False

/-- What lies in the new list after k rounds. -/
def rowsTo (rs : List DayRow) (k j : Nat) : List AV := if j < k then (rs.getD j row0).enc else row0.enc
def rowsLB (rs : List DayRow) : LB := ⟨26, 6, rs.length, rowsOf DayRow.enc row0 rs, true⟩
set_option maxRecDepth 100000 in
theorem toDayRowS_spec (rs : List DayRow) (h1 : ∀ r ∈ rs, r.reason.size ≤ maxLen) (h2 : rs.length ≤ 1048576) : Spec Try.prog 17 [rowsAV rs] [] fun c h => c = .own 0 ∧ h = [some (rowsLB rs)] := by
  refine spec_e G5_ok Try.func17 rfl (by kernel_rfl) (by kernel_rfl) ?_
  repeat' (first | constructor | intro _)
  · refine Ob.mk ?_; dsimp only; omega
  refine loop_law G5_ok (by kernel_rfl) (F := fun k : Nat => ⟨sl [(0, rowsAV rs), (3, .own 0), (4, .v (.int .i64 k))], [some ⟨26, 6, rs.length, rowsTo rs k, true⟩]⟩) (I := fun k => k ≤ rs.length) (μ := fun k => rs.length - k) 0 (Nat.zero_le _) (sub_sl [0] (by decide) (by decide) (fun i h => by omega) ?_ ?_) ?_
  · repeat' (first | constructor | exact Ob.mk rfl | intro _)
  · refine ⟨rfl, ⟨rfl, rfl, ?_⟩, trivial⟩
    exact Ob.mk ⟨rfl, fun k _ => rfl⟩
  · intro k hk
    have hmx := maxLen_eq
    have := getD_all (d := row0) h1 (by decide) k
    repeat' (first | constructor | intro _)
    all_goals first
      | (refine Ob.mk ?_; (try simp only [Int.toNat_natCast] at *); omega)
      | (conv => whnf
         refine Again.mk (k + 1) ?_ ?_ ?_
         · show k + 1 ≤ rs.length
           omega
         · show rs.length - (k + 1) < rs.length - k
           omega
         refine sub_sl [0] (by decide) (by decide) (fun i h => by omega) ?_ ?_
         · repeat' (first | constructor | exact Ob.mk rfl | intro _)
           exact obInt (wrapI (by omega) (by omega))
         · refine ⟨rfl, ⟨rfl, rfl, ?_⟩, trivial⟩
           refine Ob.mk ⟨rfl, fun j _ => ?_⟩
           show updR (rowsTo rs k) (Int.toNat k) _ j = _
           unfold updR rowsTo
           rw [show Int.toNat (k : Int) = k from rfl]
           by_cases h : j = k
           · subst h
             simp only [if_true, Nat.lt_irrefl, if_false, Nat.lt_succ_self]
             rfl
           · have : (j < k) = (j < k + 1) := by simp; omega
             simp only [h, if_false, this])
      | (conv => whnf
         refine Leaves.mk (.own 0) [some (rowsLB rs)] [0] ?_ (by decide) ?_ ?_
         · exact ⟨rfl, rfl⟩
         · exact ⟨rfl, Ob.mk rfl⟩
         refine ⟨rfl, ⟨rfl, rfl, Ob.mk ⟨rfl, fun j hj => ?_⟩⟩, trivial⟩
         show rowsTo rs k j = _
         unfold rowsTo rowsOf
         have : j < k := by have : (rs.length : Int) ≤ k := by assumption
                            omega
         simp [this])
end Go.Proofs.Ythjboaallleomaa
