import Derived.Test.YthjboaallleomaaW4
namespace Go.Proofs.Ythjboaallleomaa
open Go.ChangeShapes Go.WideShapes Go.ChangeAt Go.RowKit
theorem Tryown : ownKnob Try.prog.godebug = none := by kernel_rfl
theorem Trylaid : laidOutB Try.prog = true := by kernel_rfl
def shRow : Sh := .st [.int .i64, .int .i64, .int .i64, .int .i64, .int .i64, .str]
theorem asRow {x : Dat} (h : Has shRow x) : ∃ r : DayRow, x.av = .agg r.enc ∧ r.reason.size ≤ 1048576 := by
  cases h with | st _ _ h => ?_
  cases h with | cons _ _ _ _ h1 h => ?_
  cases h1; cases h with | cons _ _ _ _ h1 h => ?_
  cases h1; cases h with | cons _ _ _ _ h1 h => ?_
  cases h1; cases h with | cons _ _ _ _ h1 h => ?_
  cases h1; cases h with | cons _ _ _ _ h1 h => ?_
  cases h1; cases h with | cons _ _ _ _ h1 h => ?_
  cases h1 with | str s hs => ?_
  cases h
  exact ⟨⟨_, _, _, _, _, s⟩, rfl, hs⟩
set_option maxRecDepth 100000 in
theorem lawIsDayRow_contract (H : Type) (enc : TypeId × Value → H) (W : World) (base : Nat) (args : Array Value) (ds gs : List (DataW H)) (before : List MemPlace)
    (hval : ∀ (j : Nat) t v, Try.f3.params[j]? = some t → args[j]? = some v → Value.okWide Try.prog W .any base t v)
    (hW : DataW.Whole enc Try.prog Try.f3.params.toList Rows.fnExactIsDayRowSpec.vars false W args.toList ds gs before) (hk : Rows.uptoSmall H (ds ++ gs) = true) :
    Calls Try.prog 3 args W fun e W' => ∃ v, e = .returned v ∧ Rows.fnExactIsDayRowSpec.post enc Try.prog Try.f3 false true false false W args v W' := by
  refine law_upto (shs := [shRow]) rfl Trylaid (by kernel_rfl) rfl Try.underlying4 (fun ds hl => ?_) (by kernel_rfl) (fun xs hx _ => ?_) W base args ds gs before hval hW (of_decide_eq_true hk)
  · match ds, hl with
    | [d], _ => rfl
  · cases hx with | cons _ _ x _ h1 h => ?_
    cases h
    obtain ⟨r, e, hs⟩ := asRow h1
    rw [show [x].map Dat.av = [.agg r.enc] by rw [← e]; rfl]
    exact lawIsDayRow_spec r hs
set_option maxRecDepth 100000 in
theorem lawIsDayRow_lifted (os : Os) (started : os.Started) (H : Type) (enc : TypeId × Value → H) (F : Stop.Interp) :
    ReturnsInHanded {} Try.checked os 3 .any ((Rows.OpenSpec.upto Rows.fnExactIsDayRowSpec).pre6 enc Try.prog Try.f3 Rows.fnExactIsDayRowUptoRow.domain false) (((Rows.OpenSpec.upto Rows.fnExactIsDayRowSpec).at F).post enc Try.prog Try.f3 false true false false) := by
  refine returnsInHanded_of_cond (C := Try.checked) (s := Rows.OpenSpec.upto Rows.fnExactIsDayRowSpec) (k := Rows.uptoSmall) rfl Tryown started (by kernel_rfl) Try.func3
    (OpenSpec.witness (enc := enc) (C := Try.checked) (s := Rows.OpenSpec.upto Rows.fnExactIsDayRowSpec) (k := Rows.uptoSmall) rfl false ⟨#[], #[.agg #[.int .i64 0, .int .i64 0, .int .i64 0, .int .i64 0, .int .i64 0, .string ⟨#[]⟩]], []⟩ 8 (by kernel_rfl) (by kernel_rfl) (by kernel_rfl)
      (x := ([.agg [.lit (.int .i64 0), .lit (.int .i64 0), .lit (.int .i64 0), .lit (.int .i64 0), .lit (.int .i64 0), .lit (.string [])]], [], [])) (by kernel_rfl) rfl (by kernel_rfl)) ?_
  intro W base args ds gs before hval hW _ hk _
  exact lawIsDayRow_contract H enc W base args ds gs before hval hW hk
theorem lawIsDayRow_over : Rows.fnExactIsDayRowUptoRow.holds Try.pinned (Rows.OpenSpec.upto Rows.fnExactIsDayRowSpec) :=
  OpenClaim.holds_of_cond 3 Try.f3 rfl rfl rfl rfl rfl rfl rfl ⟨rfl, rfl, rfl, rfl, rfl⟩ rfl rfl rfl rfl rfl (by kernel_rfl) Try.func3 (by kernel_rfl)
    (of_decide_eq_true (by kernel_rfl)) (by unfold Func.isWrapper; first | (rw [if_pos (by decide +kernel)]; kernel_rfl) | (rw [if_neg (by decide +kernel)]; exact ⟨rfl, rfl⟩))
    (fun os started H enc _ F => lawIsDayRow_lifted os started H enc F)
theorem lawIsDayRow_holds : Rows.FnExactIsDayRowUptoSaid := lawIsDayRow_over
end Go.Proofs.Ythjboaallleomaa
