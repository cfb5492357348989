/-
  Contracts of the library's functions on texts.
-/
import Derived.Test.YtpfdhaldjeedfaaX0
import Derived.Test.YtpfdhaldjeedfaaXS
import Derived.Test.YtpfdhaldjeedfaaT1
namespace Go.Proofs.Ytpfdhaldjeedfaa
open Go.RowKit

def anyOf (s p : ByteArray) : Bool := Lib.containsAny s.data.toList p.data.toList
def asciiB (s : ByteArray) : Bool := s.data.toList.all fun b => decide (b.toNat < 128)
theorem asciiB_out {s : ByteArray} (h : asciiB s = true) : ∀ (j : Nat) b, s.data.toList[j]? = some b → b.toNat < 128 := fun j b e => by
  have := List.all_eq_true.1 h b (List.mem_of_getElem? e)
  simpa using this
theorem ext_strings_ContainsAny (a0 a1 : ByteArray) (h : a0.size < 4294967281 ∧ a1.size < 4294967281 ∧ asciiB a0 = true ∧ asciiB a1 = true) : Spec Try.prog 13 [.v (.string a0), .v (.string a1)] [] (.bl (anyOf a0 a1)) [] :=
  spec_ext (vs := [.string a0, .string a1]) fun w GB hL hB => by
    refine (Any.strings_ContainsAny_laid Try.lays150 (by kernel_rfl) a0 a1 w h.1 h.2.1 (asciiB_out h.2.2.1) (asciiB_out h.2.2.2)).mono ?_
    rintro e w' ⟨rfl, hb⟩
    exact ⟨_, rfl, fun w S => .bl _, hb⟩
end Go.Proofs.Ytpfdhaldjeedfaa
