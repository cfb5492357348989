/-
  Contracts of the library's functions on texts.
-/
import Derived.Test.YtpmmaohaahbphaaDoorX0
import Derived.Test.YtpmmaohaahbphaaDoorXS
import Derived.Test.YtpmmaohaahbphaaDoorT1
namespace Go.Proofs.YtpmmaohaahbphaaDoor
open Go.RowKit

def cutA (s p : ByteArray) : ByteArray := ⟨(Lib.cut s.data.toList p.data.toList).1.toArray⟩
def cutB (s p : ByteArray) : ByteArray := ⟨(Lib.cut s.data.toList p.data.toList).2.1.toArray⟩
def cutF (s p : ByteArray) : Bool := (Lib.cut s.data.toList p.data.toList).2.2
def anyOf (s p : ByteArray) : Bool := Lib.containsAny s.data.toList p.data.toList
def asciiB (s : ByteArray) : Bool := s.data.toList.all fun b => decide (b.toNat < 128)
def itoaB (n : Int) : ByteArray := ⟨(Lib.itoa n).toArray⟩
theorem asciiB_out {s : ByteArray} (h : asciiB s = true) : ∀ (j : Nat) b, s.data.toList[j]? = some b → b.toNat < 128 := fun j b e => by
  have := List.all_eq_true.1 h b (List.mem_of_getElem? e)
  simpa using this
theorem ext_strconv_Itoa (a0 : Int) (h : -9223372036854775808 ≤ a0 ∧ a0 ≤ 9223372036854775807) : Spec Tryd.prog 41 [.v (.int .i64 a0)] [] (.v (.string (itoaB a0))) [] :=
  spec_ext (vs := [.int .i64 a0]) fun w GB hL hB => by
    obtain ⟨_, _, t, fr, ht⟩ := hL
    refine (Any.strconv_Itoa Tryd.laysM171 a0 h.1 h.2 w (by
      unfold Lib.TabIs World.var?
      rw [Tryd.laysM171.m17]
      rw [Option.bind_some]
      show (match w.heap[0]? with | some (Obj.cells cs _ _) => some cs | _ => none) = _
      rw [ht])).mono ?_
    rintro e w' ⟨rfl, k, os, rfl⟩
    exact ⟨_, rfl, fun w S => .v _, below_grow w k os⟩
end Go.Proofs.YtpmmaohaahbphaaDoor
