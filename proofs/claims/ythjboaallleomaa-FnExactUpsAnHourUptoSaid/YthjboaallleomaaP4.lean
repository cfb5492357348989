/-
  The law 'FnExactUpsAnHour' returns true for every input whose bulk is at most 1048576.
-/
import Derived.Test.YthjboaallleomaaY3
import Derived.Test.YthjboaallleomaaAo3
namespace Go.Proofs.Ythjboaallleomaa.fnExactUpsAnHour
open Go.ChangeShapes Go.WideShapes Go.ChangeAt Go.RowKit

theorem run (xs : List Dat) (hx : Hass [.sl shRow] xs) : Spec Try.prog 6 (xs.map Dat.av) [] fun c h => c = .v (.bool true) ∧ h = [] := by
    obtain ⟨x, rfl, h1⟩ := has1 hx
    obtain ⟨rs, hle, hl, hr⟩ := asList row0 (e := shRow) (enc := DayRow.enc) (ok := fun r => r.reason.size ≤ 1048576) (fun x h => asRowCells h) h1
    refine Spec.le (lawUpsAnHour_spec rs hr hl) ?_
    exact ⟨hle, trivial⟩

set_option maxRecDepth 100000 in
theorem contract (H : Type) (enc : TypeId × Value → H) (W : World) (base : Nat) (args : Array Value) (ds gs : List (DataW H)) (before : List MemPlace)
    (hval : ∀ (j : Nat) t v, Try.f6.params[j]? = some t → args[j]? = some v → Value.okWide Try.prog W .any base t v)
    (hW : DataW.Whole enc Try.prog Try.f6.params.toList Rows.fnExactUpsAnHourSpec.vars false W args.toList ds gs before) (hk : Rows.uptoSmall H (ds ++ gs) = true) :
    Calls Try.prog 6 args W fun e W' => ∃ v, e = .returned v ∧ Rows.fnExactUpsAnHourSpec.post enc Try.prog Try.f6 false true false false W args v W' := by
  refine law_upto (shs := [.sl shRow]) rfl Trylaid (by kernel_rfl) rfl Try.underlying4 (fun ds hl => ?_) (by kernel_rfl) (fun xs hx _ => run xs hx) W base args ds gs before hval hW (of_decide_eq_true hk)
  match ds, hl with
  | [d0], _ => rfl
set_option maxRecDepth 100000 in
theorem lifted (os : Os) (started : os.Started) (H : Type) (enc : TypeId × Value → H) (F : Stop.Interp) :
    ReturnsInHanded {} Try.checked os 6 .any ((Rows.OpenSpec.upto Rows.fnExactUpsAnHourSpec).pre6 enc Try.prog Try.f6 Rows.fnExactUpsAnHourUptoRow.domain false) (((Rows.OpenSpec.upto Rows.fnExactUpsAnHourSpec).at F).post enc Try.prog Try.f6 false true false false) := by
  refine returnsInHanded_of_cond (C := Try.checked) (s := Rows.OpenSpec.upto Rows.fnExactUpsAnHourSpec) (k := Rows.uptoSmall) rfl Tryown started (by kernel_rfl) Try.func6
    (OpenSpec.witness (enc := enc) (C := Try.checked) (s := Rows.OpenSpec.upto Rows.fnExactUpsAnHourSpec) (k := Rows.uptoSmall) rfl false ⟨#[], #[.slice none 0 0], []⟩ 8 (by kernel_rfl) (by kernel_rfl) (by kernel_rfl)
      (x := ([.nil], [], [])) (by kernel_rfl) rfl (by kernel_rfl)) ?_
  intro W base args ds gs before hval hW _ hk _
  exact contract H enc W base args ds gs before hval hW hk
theorem over : Rows.fnExactUpsAnHourUptoRow.holds Try.pinned (Rows.OpenSpec.upto Rows.fnExactUpsAnHourSpec) :=
  OpenClaim.holds_of_cond 6 Try.f6 rfl rfl rfl rfl rfl rfl rfl ⟨rfl, rfl, rfl, rfl, rfl⟩ rfl rfl rfl rfl rfl (by kernel_rfl) Try.func6 (by kernel_rfl)
    (of_decide_eq_true (by kernel_rfl)) (by unfold Func.isWrapper; first | (rw [if_pos (by decide +kernel)]; kernel_rfl) | (rw [if_neg (by decide +kernel)]; exact ⟨rfl, rfl⟩))
    (fun os started H enc _ F => lifted os started H enc F)
theorem holds : Rows.FnExactUpsAnHourUptoSaid := over
end Go.Proofs.Ythjboaallleomaa.fnExactUpsAnHour
