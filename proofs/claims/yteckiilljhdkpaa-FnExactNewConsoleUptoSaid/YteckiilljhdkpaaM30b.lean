/-
  The law of NewConsole.
-/
import Derived.Test.YteckiilljhdkpaaM30a
namespace Go.Proofs.Yteckiilljhdkpaa
open Go.RowKit

theorem eqLog_self (b : Log) : laws_eqLog b b = some true := by
  unfold laws_eqLog
  simp only [decide_true, Bool.not_true, cond_false]
theorem eqConsole_eq (x p q r : Int) (l : List Slot) (w : Int) (b c : ByteArray) (n : Int) (h : l.length ≤ 1048576) :
    laws_eqConsole ((x, l, w, p, q, ()), (b, c, n, ()), ()) ((x, l, w, p, q, ()), (b, c, n, ()), ()) = some true := by
  unfold laws_eqConsole
  simp only [eqRopeway_eq (x, l, w, p, q, ()) h, eqLog_self, Option.bind_some, Bool.not_true, cond_false]
theorem newConsole_ok (n w : Int) :
    (spec_NewConsole n w = some (Sum.inl ((0, [], 0, 0, 0, ()), (ByteArray.mk #[], ByteArray.mk #[], 0, ()), ())) ∧ impl_NewConsole n w = some (Sum.inl ((0, [], 0, 0, 0, ()), (ByteArray.mk #[], ByteArray.mk #[], 0, ()), ()))) ∨
    ∃ l, spec_NewConsole n w = some (Sum.inr ((0, l, w, 0, 0, ()), (ByteArray.mk #[], ByteArray.mk #[], 0, ()), ())) ∧ impl_NewConsole n w = some (Sum.inr ((0, l, w, 0, 0, ()), (ByteArray.mk #[], ByteArray.mk #[], 0, ()), ())) ∧ l.length ≤ 1048576 := by
  unfold spec_NewConsole impl_NewConsole
  rcases newRopeway_ok n w with ⟨e1, e2⟩ | ⟨l, e1, e2, hl⟩
  · left; rw [e1, e2]; exact ⟨rfl, rfl⟩
  · right; rw [e1, e2]; exact ⟨l, rfl, rfl, hl⟩
theorem law_FnExactNewConsole (n w : Int) (_ : Ty.fit (.int .i64) n) (_ : Ty.fit (.int .i64) w) : laws_FnExactNewConsole n w = some true := by
  unfold laws_FnExactNewConsole
  rcases newConsole_ok n w with ⟨e1, e2⟩ | ⟨l, e1, e2, hl⟩
  · have hm : laws_markConsole_i1 0 0 0 0 (ByteArray.mk #[]) (ByteArray.mk #[]) 0 1 = some 1 := by
      unfold laws_markConsole_i1; rw [markRopeway_nil]; rfl
    have hh : laws_heldConsole ((0, [], 0, 0, 0, ()), (ByteArray.mk #[], ByteArray.mk #[], 0, ()), ()) 1 = some 1 := by
      unfold laws_heldConsole; rw [heldRopeway_nil]; rfl
    simp only [e1, e2, Option.bind_some, Sum.elim_inl, eqConsole_eq 0 0 0 0 [] 0 _ _ 0 (by simp), hm, hh, decide_true, Bool.not_true, cond_false, beq_self_eq_true]
    rfl
  · have h2 : ¬ (1 : Int) + 3 * (l.length : Int) < 0 := by omega
    have hm : laws_markConsole ((0, l, w, 0, 0, ()), (ByteArray.mk #[], ByteArray.mk #[], 0, ()), ()) 1 = some (1 + 3 * (l.length : Int), marksL advS mkS l.length 1) := by
      unfold laws_markConsole; rw [markRopeway_eq _ _ _ _ l hl]; rfl
    have hh : laws_heldConsole ((0, marksL advS mkS l.length 1, w, 0, 0, ()), (ByteArray.mk #[], ByteArray.mk #[], 0, ()), ()) 1 = some (1 + 3 * (l.length : Int)) := by
      unfold laws_heldConsole; rw [heldRopeway_eq _ _ _ _ l.length hl, Option.bind_some, cond_df h2]
    simp only [e1, e2, Option.bind_some, Sum.elim_inr, eqConsole_eq 0 0 0 0 l w _ _ 0 hl, hm, hh, decide_true, Bool.not_true, cond_false, beq_self_eq_true]
    simp only [cond_df h2]
end Go.Proofs.Yteckiilljhdkpaa
