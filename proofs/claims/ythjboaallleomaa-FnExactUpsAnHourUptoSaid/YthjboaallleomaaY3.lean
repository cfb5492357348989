/-
  'UpsAnHour', both sides and the law, for every list.
-/
import Derived.Test.YthjboaallleomaaY2
namespace Go.Proofs.Ythjboaallleomaa
open Go.RowKit
attribute [local irreducible] Ob loopwp Sub Spec IsV Again Leaves

theorem lowest_spec (n d : Int) (h0 : 0 ≤ n) (h1 : n ≤ 9223372036854775807) (h2 : 0 < d) (h3 : d ≤ 9223372036854775807) : Spec Try.prog 52 [.v (.int .i64 n), .v (.int .i64 d)] [] fun c h => c = .v (.agg #[.int .i64 (IntKind.i64.wrap (n.tdiv (gcdI n d))), .int .i64 (IntKind.i64.wrap (d.tdiv (gcdI n d)))]) ∧ h = [] := by
  refine spec_v G10_ok Try.func52 rfl (by kernel_rfl) (by kernel_rfl) ?_
  repeat' (first | constructor | intro _)
  all_goals first
    | exact Ob.mk ⟨h0, h1, by omega, h3⟩
    | exact Ob.mk (gcdI_pos h2)
    | exact IsV.of rfl
    | skip
  all_goals trace_state
def D_lowest (ar : List AV) (K : Value → Prop) : Prop := match ar with
  | [.v (.int .i64 n), .v (.int .i64 d)] => Ob (0 ≤ n ∧ n ≤ 9223372036854775807 ∧ 0 < d ∧ d ≤ 9223372036854775807) ∧ K (.agg #[.int .i64 (IntKind.i64.wrap (n.tdiv (gcdI n d))), .int .i64 (IntKind.i64.wrap (d.tdiv (gcdI n d)))])
  | _ => False
def D_sums (ar : List AV) (K : Value → Prop) : Prop := match ar with
  | [c] => listK 6 DayRow.enc row0 c fun rs => Ob (areP rs) ∧ K (sumsV rs)
  | _ => False
def G11 : Env := (G10.addD 52 D_lowest).addD 51 D_sums
theorem G11_ok : EnvOk Try.prog G11 := by
  refine EnvOk.addD (EnvOk.addD G10_ok ent_52 fun ar K h => ?_) ent_51 fun ar K h => ?_
  · unfold D_lowest at h; split at h
    · obtain ⟨g1, g2, g3, g4⟩ := h.1.out
      exact ⟨_, lowest_spec _ _ g1 g2 g3 g4, h.2⟩
    · exact h.elim
  · unfold D_sums at h; split at h
    · obtain ⟨rs, hle, h1, h2⟩ := listK_out h
      refine ⟨_, Spec.le (sums_spec rs h1.out) ?_, h2⟩
      exact ⟨hle, trivial⟩
    · exact h.elim
def upsN (rs : List DayRow) : Int := sumF DayRow.ups rs rs.length
def hoursN (rs : List DayRow) : Int := sumF DayRow.hours rs rs.length
noncomputable def upsV (rs : List DayRow) : Value := match isB (areP rs ∧ hoursN rs ≠ 0) with
  | true => .tuple #[.int .i64 (IntKind.i64.wrap ((upsN rs).tdiv (gcdI (upsN rs) (hoursN rs)))), .int .i64 (IntKind.i64.wrap ((hoursN rs).tdiv (gcdI (upsN rs) (hoursN rs)))), .bool true]
  | false => .tuple #[.int .i64 0, .int .i64 0, .bool false]
theorem upsN_bound {rs : List DayRow} (hP : areP rs) : 0 ≤ upsN rs ∧ upsN rs ≤ 1399986 := sumF_small (f := DayRow.ups) (rs := rs) (fun k hk => by have := are_range hP hk; exact ⟨this.1, this.2.1⟩) hP.2 (Nat.le_refl _)
theorem hoursN_bound {rs : List DayRow} (hP : areP rs) : 0 ≤ hoursN rs ∧ hoursN rs ≤ 1399986 := sumF_small (f := DayRow.hours) (rs := rs) (fun k hk => by have := are_range hP hk; omega) hP.2 (Nat.le_refl _)
set_option maxRecDepth 100000 in
theorem upsAnHour_spec (rs : List DayRow) (h1 : ∀ r ∈ rs, r.reason.size ≤ maxLen) (h2 : rs.length ≤ 1048576) : Spec Try.prog 23 [rowsAV rs] [] fun c h => c = .v (upsV rs) ∧ h = [] := by
  refine spec_v G11_ok Try.func23 rfl (by kernel_rfl) (by kernel_rfl) ?_
  repeat' (first | constructor | intro _)
  all_goals first
    | exact Ob.mk ⟨h1, h2⟩
    | exact Ob.mk (isB_iff.1 (by assumption))
    | (refine Ob.mk ?_
       have hP : areP rs := isB_iff.1 (by assumption)
       have hu : 0 ≤ sumF DayRow.ups rs rs.length ∧ sumF DayRow.ups rs rs.length ≤ 1399986 := upsN_bound hP
       have hh : 0 ≤ sumF DayRow.hours rs rs.length ∧ sumF DayRow.hours rs rs.length ≤ 1399986 := hoursN_bound hP
       omega)
    | (refine IsV.eq rfl ?_
       have hP : areP rs := isB_iff.1 (by assumption)
       have hh : hoursN rs ≠ 0 := by assumption
       simp only [upsV, isB_t (show areP rs ∧ hoursN rs ≠ 0 from ⟨hP, hh⟩)]
       rfl)
    | (refine IsV.eq rfl ?_
       have hn : ¬ (areP rs ∧ hoursN rs ≠ 0) := fun g => g.2 (by assumption)
       simp only [upsV, isB_f hn])
    | (refine IsV.eq rfl ?_
       have hP : ¬ areP rs := isB_iff_f.1 (by assumption)
       have hn : ¬ (areP rs ∧ hoursN rs ≠ 0) := fun g => hP g.1
       simp only [upsV, isB_f hn])
    | skip
  all_goals trace_state
set_option maxRecDepth 100000 in
theorem specUpsAnHour_spec (rs : List DayRow) (h1 : ∀ r ∈ rs, r.reason.size ≤ maxLen) (h2 : rs.length ≤ 1048576) : Spec Try.prog 22 [rowsAV rs] [] fun c h => c = .v (upsV rs) ∧ h = [] := by
  refine spec_v G11_ok Try.func22 rfl (by kernel_rfl) (by kernel_rfl) ?_
  repeat' (first | constructor | intro _)
  · exact Ob.mk ⟨h1, h2⟩
  all_goals first
    | (refine IsV.eq rfl ?_
       have hP : ¬ areP rs := isB_iff_f.1 (by assumption)
       have hn : ¬ (areP rs ∧ hoursN rs ≠ 0) := fun g => hP g.1
       simp only [upsV, isB_f hn]
       done)
    | (exfalso; rename_i g; exact g rfl)
    | skip
  rename_i hA
  have hP : areP rs := isB_iff.1 hA
  have hlen := hP.2
  have hu := fun k hk => sumF_small (f := DayRow.ups) (rs := rs) (fun k hk => by have := are_range hP hk; exact ⟨this.1, this.2.1⟩) hlen (k := k) hk
  have hh := fun k hk => sumF_small (f := DayRow.hours) (rs := rs) (fun k hk => by have := are_range hP hk; omega) hlen (k := k) hk
  refine loop_law G11_ok (by kernel_rfl) (F := fun k : Nat => ⟨sl [(0, rowsAV rs), (5, .v (.int .i64 (sumF DayRow.ups rs k))), (6, .v (.int .i64 (sumF DayRow.hours rs k))), (7, .v (.int .i64 k))], []⟩) (I := fun k => k ≤ rs.length) (μ := fun k => rs.length - k) 0 (Nat.zero_le _) (sub_sl0 ?_) ?_
  · repeat' (first | constructor | exact Ob.mk rfl | intro _)
  intro k hk
  have hu1 := hu k hk
  have hh1 := hh k hk
  repeat' (first | constructor | intro _)
  all_goals (try simp only [Int.toNat_natCast] at *)
  all_goals first
    | (refine Ob.mk ?_; omega)
    | (refine Ob.mk (gcdI_pos ?_); omega)
    | (refine IsV.eq rfl ?_
       have hkn : k = rs.length := by omega
       subst hkn
       have hh : hoursN rs ≠ 0 := by assumption
       simp only [upsV, isB_t (show areP rs ∧ hoursN rs ≠ 0 from ⟨hP, hh⟩)]
       rfl)
    | (refine IsV.eq rfl ?_
       have hkn : k = rs.length := by omega
       subst hkn
       have hn : ¬ (areP rs ∧ hoursN rs ≠ 0) := fun g => g.2 (by assumption)
       simp only [upsV, isB_f hn])
    | (conv => whnf
       refine Again.mk (k + 1) ?_ ?_ ?_
       · show k + 1 ≤ rs.length
         omega
       · show rs.length - (k + 1) < rs.length - k
         omega
       have h2 := are_range hP (k := k) (by omega)
       refine sub_sl0 ?_
       repeat' (first | constructor | exact Ob.mk rfl | intro _)
       all_goals exact obInt (wrapI (by omega) (by omega)))
    | skip
  all_goals trace_state
def D_ups (ar : List AV) (K : Value → Prop) : Prop := match ar with
  | [c] => listK 6 DayRow.enc row0 c fun rs => Ob ((∀ r ∈ rs, r.reason.size ≤ maxLen) ∧ rs.length ≤ 1048576) ∧
    (isB (areP rs ∧ hoursN rs ≠ 0) = true → K (.tuple #[.int .i64 (IntKind.i64.wrap ((upsN rs).tdiv (gcdI (upsN rs) (hoursN rs)))), .int .i64 (IntKind.i64.wrap ((hoursN rs).tdiv (gcdI (upsN rs) (hoursN rs)))), .bool true])) ∧ (isB (areP rs ∧ hoursN rs ≠ 0) = false → K (.tuple #[.int .i64 0, .int .i64 0, .bool false]))
  | _ => False
theorem ups_of {f : FuncId} (hs : ∀ rs : List DayRow, (∀ r ∈ rs, r.reason.size ≤ maxLen) → rs.length ≤ 1048576 → Spec Try.prog f [rowsAV rs] [] fun c h => c = .v (upsV rs) ∧ h = []) {ar : List AV} {K : Value → Prop} (h : D_ups ar K) : ∃ r, Spec Try.prog f ar [] (fun c h => c = .v r ∧ h = []) ∧ K r := by
  unfold D_ups at h; split at h
  · obtain ⟨rs, hle, h1, h2, h3⟩ := listK_out h
    refine ⟨upsV rs, Spec.le (hs rs h1.out.1 h1.out.2) ?_, ?_⟩
    · exact ⟨hle, trivial⟩
    · unfold upsV
      split
      · exact h2 (by assumption)
      · exact h3 (by assumption)
  · exact h.elim
def G12 : Env := (G11.addD 23 D_ups).addD 22 D_ups
theorem G12_ok : EnvOk Try.prog G12 := EnvOk.addD (EnvOk.addD G11_ok ent_23 fun _ _ h => ups_of upsAnHour_spec h) ent_22 fun _ _ h => ups_of specUpsAnHour_spec h
set_option maxRecDepth 100000 in
theorem lawUpsAnHour_spec (rs : List DayRow) (h1 : ∀ r ∈ rs, r.reason.size ≤ 1048576) (h2 : rs.length ≤ 1048576) : Spec Try.prog 6 [rowsAV rs] [] fun c h => c = .v (.bool true) ∧ h = [] := by
  have hmx := maxLen_eq
  have h3 : ∀ r ∈ rs, r.reason.size ≤ maxLen := fun r hr => by have := h1 r hr; omega
  have hrr : isB (rs = rs) = true := isB_t rfl
  refine spec_v G12_ok Try.func6 rfl (by kernel_rfl) (by kernel_rfl) ?_
  repeat' (first | constructor | intro _)
  all_goals first
    | (refine Ob.mk ?_; first | exact ⟨h1, h2, by omega, by omega⟩ | exact ⟨h3, h2⟩ | exact ⟨h3, h3, h2⟩)
    | (refine IsV.bool ?_; first | rfl | contradiction | (exfalso; exact absurd rfl (by assumption)) | (exfalso; exact Bool.noConfusion ((by assumption : _ = true).symm.trans (by assumption : _ = false))) | grind)
    | skip
  all_goals trace_state
end Go.Proofs.Ythjboaallleomaa
