/-
  The law 'FnExactQuickestGo' returns true for every input whose bulk is at most 1048576, where the listed package-level variables read as the program lays them; and its card.
-/
import Derived.Test.YteckiilljhdkpaaDoorM34b
import Derived.Test.YteckiilljhdkpaaDoorX2
import Derived.Test.YteckiilljhdkpaaDoorO2
import Derived.Test.YteckiilljhdkpaaDoorCards
import Derived.Test.YteckiilljhdkpaaDoorTie
import Derived.Deep.DeepHandedRow
import Derived.Lib.LaidTab
namespace Go.Proofs.YteckiilljhdkpaaDoor.fnExactQuickestGo
open Go.ChangeShapes Go.WideShapes Go.ChangeAt Go.RowKit

theorem own : ownKnob Tryd.prog.godebug = none := by kernel_rfl
theorem laid : laidOutB Tryd.prog = true := by kernel_rfl
theorem run (xs : Ty.dens [ty_Platform]) (hx : Ty.fits [ty_Platform] xs) : Spec Tryd.prog 9 (Ty.avs [ty_Platform] xs) [] (.bl true) [] :=
  laws_FnExactQuickestGo.spec xs.1 true (law_FnExactQuickestGo xs.1 hx.1)

set_option maxRecDepth 100000 in
theorem contract (H : Type) (enc : TypeId × Value → H) (W : World) (base : Nat) (args : Array Value) (ds gs : List (DataW H)) (before : List MemPlace)
    (hval : ∀ (j : Nat) t v, Tryd.f9.params[j]? = some t → args[j]? = some v → Value.okWide Tryd.prog W .any base t v)
    (hW : DataW.Whole enc Tryd.prog Tryd.f9.params.toList Rows.fnExactQuickestGoSpec.vars false W args.toList ds gs before) (hk : Rows.uptoSmall H (ds ++ gs) = true)
    (hL : laidMet Tryd.prog Rows.fnExactQuickestGoUptoRow.laid W) (hsh : W.ShapedOpen Tryd.prog) :
    Calls Tryd.prog 9 args W fun e W' => ∃ v, e = .returned v ∧ Rows.fnExactQuickestGoSpec.post enc Tryd.prog Tryd.f9 false true false false W args v W' := by
  have hLw := facts hL hsh (.head _)
  refine law_upto_v (shs := [ty_Platform]) (by kernel_rfl) laid (by kernel_rfl) rfl Tryd.underlying4 (fun ds gs hl hg => ?_) (by kernel_rfl) run W base args ds gs before hval hW (of_decide_eq_true hk) GBx (facts_lt hLw) hLw
  match ds, hl, gs, hg with
  | [d0], _, [g0], _ => rfl

/-- A world for the witness: the settled one, with what the initialisers lay. -/
noncomputable def laidWorld (os : Os) : World :=
  { World.holding Tryd.prog os ⟨#[], #[], []⟩ with heap := ((World.holding Tryd.prog os ⟨#[], #[], []⟩).heap.modify 0 fun
      | .cells _ t frozen => .cells #[.string ⟨#[99, 111, 109, 101]⟩, .string ⟨#[111, 112, 101, 110]⟩, .string ⟨#[115, 104, 117, 116]⟩, .string ⟨#[101, 110, 116, 101, 114]⟩, .string ⟨#[108, 101, 97, 118, 101]⟩, .string ⟨#[97, 114, 114, 105, 118, 101]⟩, .string ⟨#[108, 101, 118, 101, 108]⟩, .string ⟨#[103, 111]⟩] t frozen
      | o => o) }
theorem laid_met (os : Os) : laidMet Tryd.prog Rows.fnExactQuickestGoUptoRow.laid ((laidWorld os).forCall (fun _ _ => 0) ⟨#[], #[.agg #[.int .i64 0, .int .i64 0, .int .i64 0, .int .i64 0, .bool false, .int .i64 0]], []⟩).memory :=
  laidMet_of_run' 8 (by kernel_rfl) (by kernel_rfl)
theorem reads (os : Os) {H : Type} (enc : TypeId × Value → H) : ∃ places, DataW.whole enc Tryd.prog ((laidWorld os).forCall (fun _ _ => 0) ⟨#[], #[.agg #[.int .i64 0, .int .i64 0, .int .i64 0, .int .i64 0, .bool false, .int .i64 0]], []⟩).memory Tryd.f9.params.toList Rows.fnExactQuickestGoSpec.vars false #[Value.agg #[.int .i64 0, .int .i64 0, .int .i64 0, .int .i64 0, .bool false, .int .i64 0]].toList 8 = some ([.agg [.lit (.int .i64 0), .lit (.int .i64 0), .lit (.int .i64 0), .lit (.int .i64 0), .lit (.bool false), .lit (.int .i64 0)]], [Rows.laid_loop_example_g00935_impl_boardKinds], places) :=
  ⟨(MemPlace.row ⟨0, 0, none⟩ 8 ++ []), by kernel_rfl⟩
set_option maxRecDepth 100000 in
theorem lifted (os : Os) (started : os.Started) (H : Type) (enc : TypeId × Value → H) (F : Stop.Interp) :
    ReturnsInHanded {} Tryd.checked os 9 .any ((Rows.OpenSpec.upto Rows.fnExactQuickestGoSpec).preRow enc Tryd.prog Tryd.f9 Rows.fnExactQuickestGoUptoRow.domain false Rows.fnExactQuickestGoUptoRow.laid) (((Rows.OpenSpec.upto Rows.fnExactQuickestGoSpec).at F).post enc Tryd.prog Tryd.f9 false true false false) := by
  obtain ⟨places, hx⟩ := reads os enc
  refine returnsInHanded_of_row (C := Tryd.checked) (s := Rows.OpenSpec.upto Rows.fnExactQuickestGoSpec) own started (by kernel_rfl) Tryd.func9
    (witness_row_at (enc := enc) (C := Tryd.checked) false (laidWorld os) #[.agg #[.int .i64 0, .int .i64 0, .int .i64 0, .int .i64 0, .bool false, .int .i64 0]] rfl (by kernel_rfl) (by kernel_rfl) (by kernel_rfl)
      (OpenSpec.preRow_of_cond 8 hx (by kernel_rfl) (fun k hk => by cases hk; kernel_rfl) (by kernel_rfl) (laid_met os))) ?_
  intro W base args ds gs before hval hW _ hcond _ hL hsh _
  exact contract H enc W base args ds gs before hval hW (hcond _ rfl) hL hsh
theorem saidUpto : Rows.FnExactQuickestGoUptoSaid :=
  OpenClaim.holds_of_cond 9 Tryd.f9 rfl rfl rfl rfl rfl rfl rfl ⟨rfl, rfl, rfl, rfl, rfl⟩ rfl rfl rfl rfl rfl (by kernel_rfl) Tryd.func9 (by kernel_rfl)
    (of_decide_eq_true (by kernel_rfl)) (by unfold Func.isWrapper; first | (rw [if_pos (by decide +kernel)]; kernel_rfl) | (rw [if_neg (by decide +kernel)]; exact ⟨rfl, rfl⟩))
    (fun os started H enc _ F => by rw [OpenClaim.pre_eq_preRow]; exact lifted os started H enc F)
theorem stands : (Tryd.f9.params.toList.all fun t => !Tryd.prog.wantsStandIn t) = true := by kernel_rfl
theorem card : Rows.FnExactQuickestGoUptoCardSaid :=
  Claim7.holds_tied_plain_at .later [] _ _ _ _ saidUpto (fun _ h => by cases h) (by kernel_rfl) (fun _ h => by cases h) fnExactQuickestGoUpto_row_tie rfl ⟨rfl, rfl⟩ (by kernel_rfl) rfl
    (fun f fn hf hfn => by
      have e : some 9 = some f := by rw [← hf]; kernel_rfl
      obtain rfl := Option.some.inj e
      obtain rfl : fn = Tryd.f9 := (Option.some.inj (Tryd.func9.symm.trans hfn)).symm
      refine ⟨by kernel_rfl, fun j t ht => ?_⟩
      have := List.all_eq_true.1 stands t (Array.mem_toList_iff.2 (Array.mem_of_getElem? ht))
      exact (show Tryd.prog.wantsStandIn t = false by simpa using this)) (by kernel_rfl)
end Go.Proofs.YteckiilljhdkpaaDoor.fnExactQuickestGo
