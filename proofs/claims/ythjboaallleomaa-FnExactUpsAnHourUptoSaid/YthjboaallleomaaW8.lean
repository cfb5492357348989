/-
  How a row's cells are read.
-/
import Derived.Test.YthjboaallleomaaW7
import Derived.Test.YthjboaallleomaaAo3
namespace Go.Proofs.Ythjboaallleomaa
def shRow : Sh := .st [.int .i64, .int .i64, .int .i64, .int .i64, .int .i64, .str]
theorem asRowCells {x : Dat} (h : Has shRow x) : ∃ r : DayRow, x.cells = r.enc ∧ r.reason.size ≤ 1048576 := by
  cases h with | st _ _ h => ?_
  cases h with | cons _ _ _ _ h1 h => ?_
  cases h1; cases h with | cons _ _ _ _ h1 h => ?_
  cases h1; cases h with | cons _ _ _ _ h1 h => ?_
  cases h1; cases h with | cons _ _ _ _ h1 h => ?_
  cases h1; cases h with | cons _ _ _ _ h1 h => ?_
  cases h1; cases h with | cons _ _ _ _ h1 h => ?_
  cases h1 with | str s hs => ?_
  cases h
  exact ⟨⟨_, _, _, _, _, s⟩, rfl, hs⟩
end Go.Proofs.Ythjboaallleomaa
