/-
  Greatest common divisors and sums of rows: 'UpsAnHour', for every list.
-/
import Derived.Test.YthjboaallleomaaX2
namespace Go.Proofs.Ythjboaallleomaa
open Go.RowKit
attribute [local irreducible] Ob loopwp Sub Spec IsV Again Leaves

theorem gcd_step (a b : Nat) : Nat.gcd b (a % b) = Nat.gcd a b := by rw [Nat.gcd_comm b (a % b), ← Nat.gcd_rec b a, Nat.gcd_comm]
theorem tmod_nat (a b : Nat) : (a : Int).tmod (b : Int) = ((a % b : Nat) : Int) := by rfl
set_option maxRecDepth 100000 in
theorem divisor_spec (x y : Nat) (hx2 : x ≤ 9223372036854775807) (hy2 : y ≤ 9223372036854775807) : Spec Try.prog 66 [.v (.int .i64 x), .v (.int .i64 y)] [] fun c h => c = .v (.int .i64 (Nat.gcd x y : Nat)) ∧ h = [] := by
  refine spec_v G9_ok Try.func66 rfl (by kernel_rfl) (by kernel_rfl) ?_
  repeat' (first | constructor | intro _)
  refine loop_law G9_ok (by kernel_rfl) (F := fun p : Nat × Nat => ⟨sl [(0, .v (.int .i64 p.1)), (1, .v (.int .i64 p.2))], []⟩) (I := fun p => p.1 ≤ 9223372036854775807 ∧ p.2 ≤ 9223372036854775807 ∧ Nat.gcd p.1 p.2 = Nat.gcd x y) (μ := fun p => p.2) (x, y) ⟨hx2, hy2, rfl⟩ (sub_sl0 ?_) ?_
  · repeat' (first | constructor | exact Ob.mk rfl | intro _)
  rintro ⟨a, b⟩ ⟨ha2, hb2, hg⟩
  dsimp only at ha2 hb2 hg
  repeat' (first | constructor | intro _)
  all_goals (try simp only at *)
  all_goals first
    | (refine Ob.mk ?_; assumption)
    | (refine IsV.int ?_
       have hb : b = 0 := by omega
       subst hb
       rw [Nat.gcd_zero_right] at hg
       simp only [Bool.false_eq_true, if_false]
       split
       · rename_i h0
         simp only [IntKind.wrap_i64] at h0 ⊢
         omega
       · omega)
    | (conv => whnf
       refine Again.mk (b, a % b) ?_ ?_ ?_
       · have := Nat.mod_lt a (show 0 < b by omega)
         exact ⟨hb2, by show a % b ≤ _; omega, by rw [← hg]; exact gcd_step a b⟩
       · exact Nat.mod_lt a (show 0 < b by omega)
       · refine sub_sl0 ?_
         repeat' (first | constructor | exact Ob.mk rfl | intro _))
    | skip
  all_goals trace_state
set_option maxRecDepth 100000 in
theorem l26Common_spec (x y : Nat) (hx2 : x ≤ 9223372036854775807) (hy2 : y ≤ 9223372036854775807) : Spec Try.prog 50 [.v (.int .i64 x), .v (.int .i64 y)] [] fun c h => c = .v (.int .i64 (Nat.gcd x y : Nat)) ∧ h = [] := by
  refine spec_v G9_ok Try.func50 rfl (by kernel_rfl) (by kernel_rfl) ?_
  repeat' (first | constructor | intro _)
  refine loop_law G9_ok (by kernel_rfl) (F := fun p : Nat × Nat => ⟨sl [(0, .v (.int .i64 p.1)), (1, .v (.int .i64 p.2))], []⟩) (I := fun p => p.1 ≤ 9223372036854775807 ∧ p.2 ≤ 9223372036854775807 ∧ Nat.gcd p.1 p.2 = Nat.gcd x y) (μ := fun p => p.2) (x, y) ⟨hx2, hy2, rfl⟩ (sub_sl0 ?_) ?_
  · repeat' (first | constructor | exact Ob.mk rfl | intro _)
  rintro ⟨a, b⟩ ⟨ha2, hb2, hg⟩
  dsimp only at ha2 hb2 hg
  repeat' (first | constructor | intro _)
  all_goals (try simp only at *)
  all_goals first
    | (refine Ob.mk ?_; omega)
    | (refine IsV.int ?_
       have hb : b = 0 := by omega
       subst hb
       rw [Nat.gcd_zero_right] at hg
       omega)
    | (conv => whnf
       refine Again.mk (b, a % b) ?_ ?_ ?_
       · have := Nat.mod_lt a (show 0 < b by omega)
         exact ⟨hb2, by show a % b ≤ _; omega, by rw [← hg]; exact gcd_step a b⟩
       · exact Nat.mod_lt a (show 0 < b by omega)
       · refine sub_sl0 ?_
         repeat' (first | constructor | exact Ob.mk rfl | intro _))
    | skip
  all_goals trace_state
end Go.Proofs.Ythjboaallleomaa
