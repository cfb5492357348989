/-
  The contract of the library's function that tells how many bits a number has.
-/
import Derived.Test.YtpopcdnjnligiaaX0
import Derived.Test.YtpopcdnjnligiaaXS
namespace Go.Proofs.Ytpopcdnjnligiaa
open Go.RowKit

theorem ext_bits_Len64 (a0 : Int) (h : 0 ≤ a0 ∧ a0 ≤ 18446744073709551615) : Spec Try.prog 195 [.v (.int .u64 a0)] [] (.v (.int .i64 ((Lib.bitLen a0.toNat : Nat) : Int))) [] :=
  spec_ext (vs := [.int .u64 a0]) fun w GB _ _ => by
    refine (Any.bits_Len64 Try.lays129 a0 w h.1 h.2).mono ?_
    rintro e w' ⟨rfl, rfl⟩
    exact ⟨_, rfl, fun w S => .v _, Below.refl _ _⟩
end Go.Proofs.Ytpopcdnjnligiaa
