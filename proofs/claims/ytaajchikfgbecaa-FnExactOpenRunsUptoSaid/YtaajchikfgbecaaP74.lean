/-
  The law 'FnExactOpenRuns' returns true for every input whose bulk is at most 1048576.
-/
import Derived.Test.YtaajchikfgbecaaR72
import Derived.Test.YtaajchikfgbecaaO1
namespace Go.Proofs.Ytaajchikfgbecaa.fnExactOpenRuns
open Go.ChangeShapes Go.WideShapes Go.ChangeAt Go.RowKit

theorem own : ownKnob Try.prog.godebug = none := by kernel_rfl
theorem laid : laidOutB Try.prog = true := by kernel_rfl
theorem run (xs : Ty.dens [(.sl ty_DayRow)]) (hx : Ty.fits [(.sl ty_DayRow)] xs) : Spec Try.prog 3 (Ty.avs [(.sl ty_DayRow)] xs) [] (.bl true) [] :=
  laws_FnExactOpenRuns.spec xs.1 true (law_FnExactOpenRuns xs.1 hx.1)

set_option maxRecDepth 100000 in
theorem contract (H : Type) (enc : TypeId × Value → H) (W : World) (base : Nat) (args : Array Value) (ds gs : List (DataW H)) (before : List MemPlace)
    (hval : ∀ (j : Nat) t v, Try.f3.params[j]? = some t → args[j]? = some v → Value.okWide Try.prog W .any base t v)
    (hW : DataW.Whole enc Try.prog Try.f3.params.toList Rows.fnExactOpenRunsSpec.vars false W args.toList ds gs before) (hk : Rows.uptoSmall H (ds ++ gs) = true) :
    Calls Try.prog 3 args W fun e W' => ∃ v, e = .returned v ∧ Rows.fnExactOpenRunsSpec.post enc Try.prog Try.f3 false true false false W args v W' := by
  refine law_upto (shs := [(.sl ty_DayRow)]) rfl laid (by kernel_rfl) rfl Try.underlying4 (fun ds hl => ?_) (by kernel_rfl) run W base args ds gs before hval hW (of_decide_eq_true hk) (fun _ => False) (fun _ h => h.elim) trivial
  match ds, hl with
  | [d0], _ => rfl
set_option maxRecDepth 100000 in
theorem lifted (os : Os) (started : os.Started) (H : Type) (enc : TypeId × Value → H) (F : Stop.Interp) :
    ReturnsInHanded {} Try.checked os 3 .any ((Rows.OpenSpec.upto Rows.fnExactOpenRunsSpec).pre6 enc Try.prog Try.f3 Rows.fnExactOpenRunsUptoRow.domain false) (((Rows.OpenSpec.upto Rows.fnExactOpenRunsSpec).at F).post enc Try.prog Try.f3 false true false false) := by
  refine returnsInHanded_of_cond (C := Try.checked) (s := Rows.OpenSpec.upto Rows.fnExactOpenRunsSpec) (k := Rows.uptoSmall) rfl own started (by kernel_rfl) Try.func3
    (OpenSpec.witness (enc := enc) (C := Try.checked) (s := Rows.OpenSpec.upto Rows.fnExactOpenRunsSpec) (k := Rows.uptoSmall) rfl false ⟨#[], #[.slice none 0 0], []⟩ 8 (by kernel_rfl) (by kernel_rfl) (by kernel_rfl)
      (x := ([.nil], [], [])) (by kernel_rfl) rfl (by kernel_rfl)) ?_
  intro W base args ds gs before hval hW _ hk _
  exact contract H enc W base args ds gs before hval hW hk
theorem over : Rows.fnExactOpenRunsUptoRow.holds Try.pinned (Rows.OpenSpec.upto Rows.fnExactOpenRunsSpec) :=
  OpenClaim.holds_of_cond 3 Try.f3 rfl rfl rfl rfl rfl rfl rfl ⟨rfl, rfl, rfl, rfl, rfl⟩ rfl rfl rfl rfl rfl (by kernel_rfl) Try.func3 (by kernel_rfl)
    (of_decide_eq_true (by kernel_rfl)) (by unfold Func.isWrapper; first | (rw [if_pos (by decide +kernel)]; kernel_rfl) | (rw [if_neg (by decide +kernel)]; exact ⟨rfl, rfl⟩))
    (fun os started H enc _ F => lifted os started H enc F)
theorem holds : Rows.FnExactOpenRunsUptoSaid := over
end Go.Proofs.Ytaajchikfgbecaa.fnExactOpenRuns
