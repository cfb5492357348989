/-
  'UpsAnHour', both sides and the law, for every list.
-/
import Derived.Test.YthjboaallleomaaY1
namespace Go.Proofs.Ythjboaallleomaa
open Go.RowKit
attribute [local irreducible] Ob loopwp Sub Spec IsV Again Leaves

def gcdI (n d : Int) : Int := ((Nat.gcd n.toNat d.toNat : Nat) : Int)
theorem gcdI_pos {n d : Int} (h : 0 < d) : gcdI n d ≠ 0 := by
  unfold gcdI
  have := Nat.gcd_pos_of_pos_right n.toNat (show 0 < d.toNat by omega)
  omega
def D_gcd (ar : List AV) (K : Value → Prop) : Prop := match ar with
  | [.v (.int .i64 n), .v (.int .i64 d)] => Ob (0 ≤ n ∧ n ≤ 9223372036854775807 ∧ 0 ≤ d ∧ d ≤ 9223372036854775807) ∧ K (.int .i64 (gcdI n d))
  | _ => False
theorem gcd_of {f : FuncId} (hs : ∀ x y : Nat, x ≤ 9223372036854775807 → y ≤ 9223372036854775807 → Spec Try.prog f [.v (.int .i64 x), .v (.int .i64 y)] [] fun c h => c = .v (.int .i64 (Nat.gcd x y : Nat)) ∧ h = []) {ar : List AV} {K : Value → Prop} (h : D_gcd ar K) : ∃ r, Spec Try.prog f ar [] (fun c h => c = .v r ∧ h = []) ∧ K r := by
  unfold D_gcd at h; split at h
  · obtain ⟨h1, h2⟩ := h
    obtain ⟨g1, g2, g3, g4⟩ := h1.out
    rename_i n d
    refine ⟨_, ?_, h2⟩
    have := hs n.toNat d.toNat (by omega) (by omega)
    rw [Int.toNat_of_nonneg g1, Int.toNat_of_nonneg g3] at this
    exact this
  · exact h.elim
def G10 : Env := (G9.addD 66 D_gcd).addD 50 D_gcd
theorem G10_ok : EnvOk Try.prog G10 := EnvOk.addD (EnvOk.addD G9_ok ent_66 fun _ _ h => gcd_of divisor_spec h) ent_50 fun _ _ h => gcd_of l26Common_spec h
def sumF (f : DayRow → Int) (rs : List DayRow) : Nat → Int
  | 0 => 0
  | k + 1 => sumF f rs k + f (rs.getD k row0)
theorem sumF_bound {f : DayRow → Int} {rs : List DayRow} {m : Nat} (h : ∀ k, k < rs.length → 0 ≤ f (rs.getD k row0) ∧ f (rs.getD k row0) ≤ m) : ∀ k, k ≤ rs.length → 0 ≤ sumF f rs k ∧ sumF f rs k ≤ k * m
  | 0, _ => by simp [sumF]
  | k + 1, hk => by
    have h1 := sumF_bound h k (by omega)
    have h2 := h k (by omega)
    simp only [sumF]
    have h3 : ((k + 1 : Nat) : Int) * (m : Int) = (k : Int) * m + m := by rw [Int.natCast_add, Int.add_mul]; simp
    omega
theorem are_range {rs : List DayRow} (h : areP rs) {k : Nat} (hk : k < rs.length) : 0 ≤ (rs.getD k row0).ups ∧ (rs.getD k row0).ups ≤ 99999 ∧ 0 ≤ (rs.getD k row0).downs ∧ (rs.getD k row0).downs ≤ 99999 ∧ 0 ≤ (rs.getD k row0).hours ∧ (rs.getD k row0).hours ≤ 24 := by
  have h1 := (h.1 k hk).1
  simp only [rowB, inB, Bool.and_eq_true, decide_eq_true_eq] at h1
  omega
theorem sumF_small {f : DayRow → Int} {rs : List DayRow} (h : ∀ k, k < rs.length → 0 ≤ f (rs.getD k row0) ∧ f (rs.getD k row0) ≤ (99999 : Nat)) (hl : rs.length ≤ 14) {k : Nat} (hk : k ≤ rs.length) : 0 ≤ sumF f rs k ∧ sumF f rs k ≤ 1399986 := by
  have h1 := sumF_bound h k hk
  have : (k : Int) * (99999 : Nat) ≤ 14 * 99999 := by omega
  omega
def sumsV (rs : List DayRow) : Value := .tuple #[.int .i64 (sumF DayRow.ups rs rs.length), .int .i64 (sumF DayRow.downs rs rs.length), .int .i64 (sumF DayRow.hours rs rs.length)]
set_option maxRecDepth 100000 in
theorem sums_spec (rs : List DayRow) (hP : areP rs) : Spec Try.prog 51 [rowsAV rs] [] fun c h => c = .v (sumsV rs) ∧ h = [] := by
  have hlen := hP.2
  have hu := fun k hk => sumF_small (f := DayRow.ups) (rs := rs) (fun k hk => by have := are_range hP hk; exact ⟨this.1, this.2.1⟩) hlen (k := k) hk
  have hd := fun k hk => sumF_small (f := DayRow.downs) (rs := rs) (fun k hk => by have := are_range hP hk; exact ⟨this.2.2.1, this.2.2.2.1⟩) hlen (k := k) hk
  have hh := fun k hk => sumF_small (f := DayRow.hours) (rs := rs) (fun k hk => by have := are_range hP hk; omega) hlen (k := k) hk
  refine spec_v G10_ok Try.func51 rfl (by kernel_rfl) (by kernel_rfl) ?_
  repeat' (first | constructor | intro _)
  refine loop_law G10_ok (by kernel_rfl) (F := fun k : Nat => ⟨sl [(0, rowsAV rs), (5, .v (.int .i64 (sumF DayRow.ups rs k))), (6, .v (.int .i64 (sumF DayRow.downs rs k))), (7, .v (.int .i64 (sumF DayRow.hours rs k))), (10, rowsAV rs), (11, .v (.int .i64 rs.length)), (12, .v (.int .i64 k))], []⟩) (I := fun k => k ≤ rs.length) (μ := fun k => rs.length - k) 0 (Nat.zero_le _) (sub_sl0 ?_) ?_
  · repeat' (first | constructor | exact Ob.mk rfl | intro _)
  intro k hk
  have hu1 := hu k hk
  have hd1 := hd k hk
  have hh1 := hh k hk
  repeat' (first | constructor | intro _)
  all_goals (try simp only [Int.toNat_natCast] at *)
  all_goals first
    | (refine Ob.mk ?_; omega)
    | (refine IsV.eq rfl ?_
       have hkn : k = rs.length := by omega
       subst hkn
       rfl)
    | (conv => whnf
       refine Again.mk (k + 1) ?_ ?_ ?_
       · show k + 1 ≤ rs.length
         omega
       · show rs.length - (k + 1) < rs.length - k
         omega
       have h2 := are_range hP (k := k) (by omega)
       refine sub_sl0 ?_
       repeat' (first | constructor | exact Ob.mk rfl | intro _)
       all_goals exact obInt (wrapI (by omega) (by omega)))
    | skip
  all_goals trace_state
end Go.Proofs.Ythjboaallleomaa
