/-
  Contracts of two more of the library's functions on texts: one letter struck off at the left, a text put for another.
-/
import Derived.Test.YtaajchikfgbecaaGreatDoorXP
import Derived.Shelf.Strings.Trim
import Derived.Shelf.Strings.SplitShaped
namespace Go.Proofs.YtaajchikfgbecaaGreatDoor
open Go.RowKit

def trimL (s p : ByteArray) : ByteArray := ⟨(Lib.trimLeftB s.data.toList (p.data.toList.getD 0 0)).toArray⟩
def replB (s a b : ByteArray) (n : Int) : ByteArray := ⟨(Lib.replace s.data.toList a.data.toList b.data.toList n).toArray⟩
theorem one_byte {p : ByteArray} (h : p.size = 1) : ∃ c, p = ⟨#[c]⟩ := by
  obtain ⟨⟨l⟩⟩ := p
  match l, h with
  | [c], _ => exact ⟨c, rfl⟩
theorem ext_strings_TrimLeft (a0 a1 : ByteArray) (h : a1.size = 1 ∧ asciiB a1 = true) : Spec Tryz.prog 53 [.v (.string a0), .v (.string a1)] [] (.v (.string (trimL a0 a1))) [] := by
  obtain ⟨c, rfl⟩ := one_byte h.1
  have hc : c.toNat < 128 := asciiB_out h.2 0 c rfl
  refine spec_ext (vs := [.string a0, .string ⟨#[c]⟩]) fun w GB hL hB => ?_
  refine (Any.strings_TrimLeft_one Tryz.lays161 a0 c hc w).mono ?_
  rintro e w' ⟨rfl, rfl⟩
  exact ⟨_, rfl, fun w S => .v _, Below.refl _ _⟩
theorem ext_strings_Replace (a0 a1 a2 : ByteArray) (a3 : Int) (h : a0.size < 4294967281 ∧ 1 ≤ a1.size ∧ a0.size + Lib.countB a0 a1 * a2.size ≤ 140737488355328) :
    Spec Tryz.prog 54 [.v (.string a0), .v (.string a1), .v (.string a2), .v (.int .i64 a3)] [] (.v (.string (replB a0 a1 a2 a3))) [] :=
  spec_ext (vs := [.string a0, .string a1, .string a2, .int .i64 a3]) fun w GB hL hB => by
    obtain ⟨⟨_, m, hm⟩, _⟩ := hL
    refine (Any.strings_Replace Tryz.lays154 Tryz.Builder_Extra_154 a0 a1 a2 a3 m w h.1 hm h.2.1 h.2.2).mono ?_
    rintro e w' ⟨rfl, hb⟩
    exact ⟨_, rfl, fun w S => .v _, hb⟩
end Go.Proofs.YtaajchikfgbecaaGreatDoor
