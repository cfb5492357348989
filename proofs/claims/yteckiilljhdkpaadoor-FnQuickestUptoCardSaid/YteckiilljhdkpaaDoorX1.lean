/-
  Contracts of the library's functions on texts.
-/
import Derived.Test.YteckiilljhdkpaaDoorX0
import Derived.Test.YteckiilljhdkpaaDoorXS
import Derived.Test.YteckiilljhdkpaaDoorT1
namespace Go.Proofs.YteckiilljhdkpaaDoor
open Go.RowKit

def itoaB (n : Int) : ByteArray := ⟨(Lib.itoa n).toArray⟩
theorem ext_strconv_Itoa (a0 : Int) (h : -9223372036854775808 ≤ a0 ∧ a0 ≤ 9223372036854775807) : Spec Tryd.prog 67 [.v (.int .i64 a0)] [] (.v (.string (itoaB a0))) [] :=
  spec_ext (vs := [.int .i64 a0]) fun w GB hL hB => by
    obtain ⟨_, _, t, fr, ht⟩ := hL
    refine (Any.strconv_Itoa Tryd.laysM171 a0 h.1 h.2 w (by
      unfold Lib.TabIs World.var?
      rw [Tryd.laysM171.m17]
      rw [Option.bind_some]
      show (match w.heap[1]? with | some (Obj.cells cs _ _) => some cs | _ => none) = _
      rw [ht])).mono ?_
    rintro e w' ⟨rfl, k, os, rfl⟩
    exact ⟨_, rfl, fun w S => .v _, below_grow w k os⟩
end Go.Proofs.YteckiilljhdkpaaDoor
