/-
  The laws of the log's functions, in plain words.
-/
import Derived.Test.YtppiaacfnoifkaaDoorU4
namespace Go.Proofs.YtppiaacfnoifkaaDoor
open Go.RowKit

theorem szLog_ex (a : Log) (n : Int) : ∃ y, laws_szLog a n = some y := by
  unfold laws_szLog
  by_cases h1 : (w64 (n - (a.1.size : Int))) < 0
  · rw [cond_dt h1]; exact ⟨_, rfl⟩
  · rw [cond_df h1]
    by_cases h2 : (w64 ((w64 (n - (a.1.size : Int))) - (a.2.1.size : Int))) < 0
    · rw [cond_dt h2]; exact ⟨_, rfl⟩
    · rw [cond_df h2]; exact ⟨_, rfl⟩
theorem valid_eq (D P : List UInt8) (n : Int) (hD : D.length ≤ 10000000) (hP : P.length ≤ 10000000) : impl_IsValidLog (bs D, bs P, n, ()) = some (okLog D P n) := by
  unfold impl_IsValidLog
  simp only [records_eq D P n hD hP, Option.bind_some]
theorem okLog_count {D P : List UInt8} {n : Int} (h : okLog D P n = true) : 0 ≤ n ∧ n ≤ 60 := by
  have h := of_decide_eq_true h
  have : (rsOf (D ++ P)).length ≤ 60 := par_length 60 0 (D ++ P)
  omega
end Go.Proofs.YtppiaacfnoifkaaDoor
