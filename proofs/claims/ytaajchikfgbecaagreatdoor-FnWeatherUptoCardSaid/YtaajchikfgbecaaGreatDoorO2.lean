/-
  Rows whose specification lists variables: what lies in them reads as it did.
-/
import Derived.Test.YtaajchikfgbecaaGreatDoorO1
import Derived.OpenVars
namespace Go.Proofs.YtaajchikfgbecaaGreatDoor
open Go.ChangeShapes Go.WideShapes Go.ChangeAt Go.RowKit

theorem bulk_append {H : Type} : ∀ (a b : List (DataW H)), Rows.uptoBulkAll (a ++ b) = Rows.uptoBulkAll a + Rows.uptoBulkAll b
  | [], b => by simp [Rows.uptoBulkAll]
  | d :: a, b => by
    rw [List.cons_append]
    simp only [Rows.uptoBulkAll]
    rw [bulk_append a b]; omega
section
variable {H : Type} {enc : TypeId × Value → H} {P : Program}
theorem trodVars_length {w : World} {sp : Nat → Bool} : ∀ {ns : List String} {gs : List (DataW H)} {ps : List MemPlace}, DataW.TrodVars enc P w sp ns gs ps → gs.length = ns.length
  | [], [], _, _ => rfl
  | [], _ :: _, _, h => h.elim
  | _ :: _, [], _, h => h.elim
  | _ :: ns, _ :: gs, _, h => by
    obtain ⟨_, _, _, _, _, q, _, _, _, _, hs, _⟩ := h
    simp [trodVars_length hs]
theorem post_of_true_v {fn : Func} {s : ChangeSpec} {W W' : World} {args : Array Value} {ds gs : List (DataW H)} {before : List MemPlace} {tb : TypeId} (hW : DataW.Whole enc P fn.params.toList s.vars false W args.toList ds gs before)
    (hv : varsRowed P s.vars = true) (hl : laidOutB P = true) (hrr : (fn.params.toList.all fun t => P.readableRec t && decide (t < P.types.size)) = true) (hrt : fn.resultTypes = #[tb]) (hub : P.underlying tb = some .bool)
    (hfn : s.fn H (ds ++ gs) = { results := [.lit (.bool true)], args := ds, vars := gs }) (hk : Below W.heap.size W W') : s.post enc P fn false true false false W args (.bool true) W' := by
  have hlt := hW.lt
  have hW' := hW
  obtain ⟨p, q, hA, hV, rfl, hfz, hnd⟩ := hW
  refine ⟨ds, gs, p ++ q, [], p, q, hW', ?_, ?_, ?_, hk.frame _, fun h => by cases h⟩
  · rw [hfn, hrt]
    exact trodAll_mk1 (shut_bool hub true)
  · rw [hfn]
    exact trodAll_stays hl hk hrr hA (fun x hx => hlt x (by simp [hx]))
  · rw [hfn]
    exact hk.trodVars hl hv hV
theorem law_upto_v {f : FuncId} {fn : Func} {s : ChangeSpec} {shs : List Ty} {tb : TypeId} (hv : varsRowed P s.vars = true) (hl : laidOutB P = true) (hrr : (fn.params.toList.all fun t => P.readableRec t && decide (t < P.types.size)) = true) (hrt : fn.resultTypes = #[tb])
    (hub : P.underlying tb = some .bool) (hfn : ∀ ds gs : List (DataW H), ds.length = fn.params.toList.length → gs.length = s.vars.length → s.fn H (ds ++ gs) = { results := [.lit (.bool true)], args := ds, vars := gs }) (hsh : tyTop P shs fn.params.toList = true)
    (hspec : ∀ xs : Ty.dens shs, Ty.fits shs xs → Spec P f (Ty.avs shs xs) [] (.bl true) [])
    (W : World) (base : Nat) (args : Array Value) (ds gs : List (DataW H)) (before : List MemPlace) (hval : ∀ (j : Nat) t v, fn.params[j]? = some t → args[j]? = some v → Value.okWide P W .any base t v)
    (hW : DataW.Whole enc P fn.params.toList s.vars false W args.toList ds gs before) (hb : Rows.uptoBulkAll (ds ++ gs) ≤ 1048576)
    (GB : Nat → Prop) (hGB : ∀ b, GB b → b < W.heap.size) (hLw : Lw GB W) :
    Calls P f args W fun e W' => ∃ v, e = .returned v ∧ s.post enc P fn false true false false W args v W' := by
  have hW' := hW
  obtain ⟨p, q, hA, hV, rfl, hfz, hnd⟩ := hW
  have hgl := trodVars_length hV
  rw [bulk_append] at hb
  obtain ⟨xs, h1, h3, h4, h5⟩ := open_all hsh (fun j t v e1 e2 => hval j t v (by simpa using e1) (by simpa using e2)) hA (by omega)
  refine (hspec xs h1 W GB (fun _ => ⟨0, 0, 0, .bool false, noSub⟩) (fun _ => True) args hLw (fun b hb => ⟨hGB b hb, fun ⟨id, lb, e, _⟩ => by simp at e, trivial⟩) ?_ (by rw [avs_length, ← h3]; simp) ?_).mono ?_
  · exact ⟨fun i j li lj e => by simp at e, fun id lb e => by simp at e, fun id lb e => by simp at e⟩
  · intro i c x e1 e2
    exact .imm _ _ ((h5 i c x e1 (by simpa using e2)).mono fun b hb => ⟨⟨.inl trivial, hb, fun id lb e => by simp at e⟩, rfl⟩)
  · rintro e W1 ⟨x, V', rfl, hk, _, _, _, hr⟩
    have := b_inv (c := .bl true) rfl hr
    subst this
    refine ⟨_, rfl, post_of_true_v hW' hv hl hrr hrt hub (hfn ds gs h4 hgl) ?_⟩
    exact ⟨hk.os, hk.tape, hk.output, hk.size, fun k hk' => hk.block k hk' fun hm => by simp [blkOf] at hm⟩
end
end Go.Proofs.YtaajchikfgbecaaGreatDoor
