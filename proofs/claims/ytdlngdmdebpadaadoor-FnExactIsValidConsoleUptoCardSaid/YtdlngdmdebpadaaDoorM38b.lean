/-
  The law of IsValidConsole.
-/
import Derived.Test.YtdlngdmdebpadaaDoorM38r
namespace Go.Proofs.YtdlngdmdebpadaaDoor
open Go.RowKit

theorem szConsole_ex (r : Ropeway) (b : Log) (n : Int) : ∃ y, laws_szConsole (r, b, ()) n = some y := by
  unfold laws_szConsole
  obtain ⟨y1, h1⟩ := szRopeway_eq (r.1, r.2.1, r.2.2.1, r.2.2.2.1, r.2.2.2.2.1, ()) n
  obtain ⟨y2, h2⟩ := szLog_ex (b.1, b.2.1, b.2.2.1, ()) y1
  dsimp only
  rw [h1, Option.bind_some]
  by_cases h0 : y1 < 0
  · rw [cond_dt h0]; exact ⟨_, rfl⟩
  · rw [cond_df h0, h2, Option.bind_some]
    by_cases h3 : y2 < 0
    · rw [cond_dt h3]; exact ⟨_, rfl⟩
    · rw [cond_df h3]; exact ⟨_, rfl⟩
theorem law_FnExactIsValidConsole (a : Console) (ha : Ty.fit ty_Console a) : laws_FnExactIsValidConsole a = some true := by
  obtain ⟨⟨x, l, p, q, r, u1⟩, ⟨D0, P0, n, u2⟩, u3⟩ := a
  obtain ⟨D, rfl⟩ := bs_ex D0
  obtain ⟨P, rfl⟩ := bs_ex P0
  have hl : l.length ≤ 1048576 := ha.1.2.1.1
  have hD : D.length ≤ 1048576 := by rw [← bs_size]; exact ha.2.1.1
  have hP : P.length ≤ 1048576 := by rw [← bs_size]; exact ha.2.1.2.1
  obtain ⟨y, hy⟩ := szConsole_ex (x, l, p, q, r, ()) (bs D, bs P, n, ()) 1048576
  obtain ⟨b, e1, e2⟩ := rw_good_eq (x, l, p, q, r, ()) hl
  have e4 : impl_IsValidLog (bs D, bs P, n, ()) = some (okLog D P n) := by
    unfold impl_IsValidLog
    simp only [records_eq D P n (by omega) (by omega), Option.bind_some]
  have e5 : spec_l27Log (bs D, bs P, n, ()) = some (okLog D P n) := log_eq D P n (by omega) (by omega)
  have t1 : laws_toConsole ((x, l, p, q, r, ()), (bs D, bs P, n, ()), ()) = some ((x, l, p, q, r, ()), (bs D, bs P, n, ()), ()) := by
    unfold laws_toConsole laws_toLog
    rw [toRopeway_eq (x, l, p, q, r, ()) hl]; rfl
  have t2 : laws_eqConsole ((x, l, p, q, r, ()), (bs D, bs P, n, ()), ()) ((x, l, p, q, r, ()), (bs D, bs P, n, ()), ()) = some true := by
    unfold laws_eqConsole
    simp only [eqRopeway_eq (x, l, p, q, r, ()) hl, eqLog_eq, Option.bind_some, Bool.not_true, cond_false]
  have s1 : spec_IsValidConsole ((x, l, p, q, r, ()), (bs D, bs P, n, ()), ()) = some (b && okLog D P n) := by
    unfold spec_IsValidConsole spec_l28Good
    simp only [e1, e5, Option.bind_some]
    cases b <;> rfl
  have s2 : impl_IsValidConsole ((x, l, p, q, r, ()), (bs D, bs P, n, ()), ()) = some (b && okLog D P n) := by
    unfold impl_IsValidConsole
    simp only [e2, e4, Option.bind_some]
    cases b <;> rfl
  unfold laws_FnExactIsValidConsole
  simp only [hy, Option.bind_some]
  by_cases h0 : y < 0
  · rw [cond_dt h0]
  · rw [cond_df h0]
    simp only [t1, t2, s1, s2, Option.bind_some, Bool.not_true, cond_false, beq_self_eq_true]
end Go.Proofs.YtdlngdmdebpadaaDoor
