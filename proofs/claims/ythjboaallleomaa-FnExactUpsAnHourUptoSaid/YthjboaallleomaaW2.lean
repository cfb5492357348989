import Derived.Test.YthjboaallleomaaAe10
import Derived.Test.YthjboaallleomaaTy
namespace Go.Proofs.Ythjboaallleomaa
open Go.RowKit
attribute [local irreducible] Ob loopwp Sub Spec IsV Again

def inB (n lo hi : Int) : Bool := decide (lo ≤ n) && decide (n ≤ hi)
def wordB (s : ByteArray) : Bool := decide (∀ i, i < s.size → 97 ≤ bAt s i ∧ bAt s i ≤ 122) && decide (1 ≤ s.size) && decide (s.size ≤ 10)
theorem wordB_t {s : ByteArray} (h : ∀ i : Nat, i < s.size → 97 ≤ bAt s i ∧ bAt s i ≤ 122) : wordB s = (decide (1 ≤ s.size) && decide (s.size ≤ 10)) := by
  unfold wordB; rw [decide_eq_true h, Bool.true_and]
theorem wordB_f {s : ByteArray} {i : Nat} (h : i < s.size) (h1 : bAt s i < 97 ∨ 122 < bAt s i) : wordB s = false := by
  unfold wordB
  have : ¬ ∀ i : Nat, i < s.size → 97 ≤ bAt s i ∧ bAt s i ≤ 122 := fun g => by have := g i h; omega
  rw [decide_eq_false this, Bool.false_and, Bool.false_and]
theorem wordIn {s : ByteArray} : inB (s.size : Int) 1 10 = (decide (1 ≤ s.size) && decide (s.size ≤ 10)) := by
  unfold inB; congr 1 <;> (apply decide_eq_decide.mpr; omega)

theorem within_spec (n lo hi : Int) : Spec Try.prog 46 [.v (.int .i64 n), .v (.int .i64 lo), .v (.int .i64 hi)] [] fun c h => c = .v (.bool (inB n lo hi)) ∧ h = [] := by
  refine spec_v (env0_ok tok hmix) Try.func46 rfl (by kernel_rfl) (by kernel_rfl) ?_
  repeat' (first | constructor | intro _)
  all_goals (refine IsV.bool ?_; simp [inB]; omega)
def D_within (ar : List AV) (K : Value → Prop) : Prop := match ar with | [.v (.int .i64 n), .v (.int .i64 lo), .v (.int .i64 hi)] => K (.bool (inB n lo hi)) | _ => False
theorem l1In_spec (n lo hi : Int) : Spec Try.prog 54 [.v (.int .i64 n), .v (.int .i64 lo), .v (.int .i64 hi)] [] fun c h => c = .v (.bool (inB n lo hi)) ∧ h = [] := by
  refine spec_v (env0_ok tok hmix) Try.func54 rfl (by kernel_rfl) (by kernel_rfl) ?_
  repeat' (first | constructor | intro _)
  all_goals (refine IsV.bool ?_; simp [inB]; omega)

set_option maxRecDepth 100000 in
theorem isWord_spec (s : ByteArray) (hs : s.size ≤ maxLen) : Spec Try.prog 47 [.v (.string s)] [] fun c h => c = .v (.bool (wordB s)) ∧ h = [] := by
  refine spec_v (env0_ok tok hmix) Try.func47 rfl (by kernel_rfl) (by kernel_rfl) ?_
  repeat' (first | constructor | intro _)
  refine loop_law (env0_ok tok hmix) (by kernel_rfl) (F := fun k : Nat => ⟨sl [(0, .v (.string s)), (5, .v (.int .i64 s.size)), (6, .v (.int .i64 k))], []⟩) (I := fun k => k ≤ s.size ∧ ∀ i, i < k → 97 ≤ bAt s i ∧ bAt s i ≤ 122) (μ := fun k => s.size - k) 0 ⟨Nat.zero_le _, fun i h => absurd h (Nat.not_lt_zero _)⟩ (sub_sl0 ?_) ?_
  · repeat' (first | constructor | exact Ob.mk rfl | intro _)
  · rintro k ⟨hk, hw⟩
    have hmx : maxLen ≤ 9223372036854775807 := maxLen_le
    repeat' (first | constructor | intro _)
    all_goals first
      | (refine Ob.mk ?_; omega)
      | (refine IsV.bool ?_
         first
         | (rw [wordB_f (i := k) (by omega) (by omega)])
         | (rw [wordB_t (fun i h => hw i (by omega))]; simp; omega))
      | (refine Again.mk (k + 1) ⟨by omega, fun i hi => ?_⟩ (by show s.size - (k + 1) < s.size - k; omega) (sub_sl0 ?_)
         · rcases (show i < k ∨ i = k by omega) with h | h
           · exact hw i h
           · subst h; omega
         · repeat' (first | constructor | exact Ob.mk rfl | intro _)
           exact obInt (wrapI (by omega) (by omega)))
def D_isWord (ar : List AV) (K : Value → Prop) : Prop := match ar with | [.v (.string s)] => Ob (s.size ≤ maxLen) ∧ K (.bool (wordB s)) | _ => False
def G1 : Env := (((env0 T).addD 46 D_within).addD 54 D_within).addD 47 D_isWord
theorem G1_ok : EnvOk Try.prog G1 := by
  refine EnvOk.addD (EnvOk.addD (EnvOk.addD (env0_ok tok hmix) ent_46 fun ar K h => ?_) ent_54 fun ar K h => ?_) ent_47 fun ar K h => ?_
  · unfold D_within at h; split at h
    · exact ⟨_, within_spec _ _ _, h⟩
    · exact h.elim
  · unfold D_within at h; split at h
    · exact ⟨_, l1In_spec _ _ _, h⟩
    · exact h.elim
  · unfold D_isWord at h; split at h
    · exact ⟨_, isWord_spec _ h.1.out, h.2⟩
    · exact h.elim
set_option maxRecDepth 100000 in
theorem l2Word_spec (s : ByteArray) (hs : s.size ≤ maxLen) : Spec Try.prog 65 [.v (.string s)] [] fun c h => c = .v (.bool (wordB s)) ∧ h = [] := by
  refine spec_v G1_ok Try.func65 rfl (by kernel_rfl) (by kernel_rfl) ?_
  repeat' (first | constructor | intro _)
  refine loop_law G1_ok (by kernel_rfl) (F := fun k : Nat => ⟨sl [(0, .v (.string s)), (3, .v (.int .i64 k))], []⟩) (I := fun k => k ≤ s.size ∧ ∀ i, i < k → 97 ≤ bAt s i ∧ bAt s i ≤ 122) (μ := fun k => s.size - k) 0 ⟨Nat.zero_le _, fun i h => absurd h (Nat.not_lt_zero _)⟩ (sub_sl0 ?_) ?_
  · repeat' (first | constructor | exact Ob.mk rfl | intro _)
  · rintro k ⟨hk, hw⟩
    have hmx : maxLen ≤ 9223372036854775807 := maxLen_le
    repeat' (first | constructor | intro _)
    all_goals first
      | (refine Ob.mk ?_; omega)
      | (refine IsV.bool ?_
         first
         | (rw [wordB_f (i := k) (by omega) (by omega)])
         | (rw [wordB_t (fun i h => hw i (by omega)), ← wordIn]; assumption)
         | (rw [wordB_t (fun i h => hw i (by omega)), ← wordIn]; symm; assumption))
      | (refine Again.mk (k + 1) ⟨by omega, fun i hi => ?_⟩ (by show s.size - (k + 1) < s.size - k; omega) (sub_sl0 ?_)
         · rcases (show i < k ∨ i = k by omega) with h | h
           · exact hw i h
           · subst h; omega
         · repeat' (first | constructor | exact Ob.mk rfl | intro _)
           exact obInt (wrapI (by omega) (by omega)))
def G2 : Env := G1.addD 65 D_isWord
theorem G2_ok : EnvOk Try.prog G2 := by
  refine EnvOk.addD G1_ok ent_65 fun ar K h => ?_
  unfold D_isWord at h; split at h
  · exact ⟨_, l2Word_spec _ h.1.out, h.2⟩
  · exact h.elim
end Go.Proofs.Ythjboaallleomaa
