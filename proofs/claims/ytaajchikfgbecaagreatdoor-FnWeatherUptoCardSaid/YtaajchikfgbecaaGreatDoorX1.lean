/-
  Contracts of the library's functions on texts.
-/
import Derived.Test.YtaajchikfgbecaaGreatDoorX0
import Derived.Test.YtaajchikfgbecaaGreatDoorXS
import Derived.Test.YtaajchikfgbecaaGreatDoorT1
namespace Go.Proofs.YtaajchikfgbecaaGreatDoor
open Go.RowKit

def cutA (s p : ByteArray) : ByteArray := ⟨(Lib.cut s.data.toList p.data.toList).1.toArray⟩
def cutB (s p : ByteArray) : ByteArray := ⟨(Lib.cut s.data.toList p.data.toList).2.1.toArray⟩
def cutF (s p : ByteArray) : Bool := (Lib.cut s.data.toList p.data.toList).2.2
def anyOf (s p : ByteArray) : Bool := Lib.containsAny s.data.toList p.data.toList
def asciiB (s : ByteArray) : Bool := s.data.toList.all fun b => decide (b.toNat < 128)
def itoaB (n : Int) : ByteArray := ⟨(Lib.itoa n).toArray⟩
theorem asciiB_out {s : ByteArray} (h : asciiB s = true) : ∀ (j : Nat) b, s.data.toList[j]? = some b → b.toNat < 128 := fun j b e => by
  have := List.all_eq_true.1 h b (List.mem_of_getElem? e)
  simpa using this
theorem ext_strings_Cut (a0 a1 : ByteArray) (h : a0.size < 4294967281) : Spec Tryz.prog 26 [.v (.string a0), .v (.string a1)] [] (.tup [.v (.string (cutA a0 a1)), .v (.string (cutB a0 a1)), .bl (cutF a0 a1)]) [] :=
  spec_ext (vs := [.string a0, .string a1]) fun w GB hL hB => by
    obtain ⟨⟨_, m, hm⟩, _⟩ := hL
    refine (Any.strings_Cut Tryz.lays145 a0 a1 m w h hm).mono ?_
    rintro e w' ⟨rfl, n, rfl⟩
    refine ⟨_, rfl, fun w S => ?_, below_draw w n⟩
    refine rt_tup (vs := [.string (cutA a0 a1), .string (cutB a0 a1), .bool (cutF a0 a1)]) rfl fun i c x e1 e2 => ?_
    match i with
    | 0 => cases e1; cases e2; exact .v _
    | 1 => cases e1; cases e2; exact .v _
    | 2 => cases e1; cases e2; exact .bl _
    | i + 3 => cases e1
theorem ext_strconv_Itoa (a0 : Int) (h : -9223372036854775808 ≤ a0 ∧ a0 ≤ 9223372036854775807) : Spec Tryz.prog 46 [.v (.int .i64 a0)] [] (.v (.string (itoaB a0))) [] :=
  spec_ext (vs := [.int .i64 a0]) fun w GB hL hB => by
    obtain ⟨_, _, t, fr, ht⟩ := hL
    refine (Any.strconv_Itoa Tryz.laysM171 a0 h.1 h.2 w (by
      unfold Lib.TabIs World.var?
      rw [Tryz.laysM171.m17]
      rw [Option.bind_some]
      show (match w.heap[6]? with | some (Obj.cells cs _ _) => some cs | _ => none) = _
      rw [ht])).mono ?_
    rintro e w' ⟨rfl, k, os, rfl⟩
    exact ⟨_, rfl, fun w S => .v _, below_grow w k os⟩
end Go.Proofs.YtaajchikfgbecaaGreatDoor
