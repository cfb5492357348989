/-
  FROM A CONTRACT TO A LAW: whatever the shapes of the arguments.
-/
import Derived.Test.YthjboaallleomaaAo1
namespace Go.Proofs.Ythjboaallleomaa
open Go.ChangeShapes Go.WideShapes Go.ChangeAt Go.RowKit

def Dat.av : Dat → AV
  | .int k n => .v (.int k n)
  | .bool b => .v (.bool b)
  | .str s => .v (.string s)
  | .st l => .agg (Dat.cellss l)
  | .sl sz l => .tree sz l.length (fun i => (Dat.rows l).getD i [])
def shTop (P : Program) : List Sh → List TypeId → Bool
  | [], [] => true
  | s :: ss, t :: ts => shOk P s t && shTop P ss ts
  | _, _ => false

section
variable {H : Type} {enc : TypeId × Value → H} {P : Program}
theorem cells1 {w : World} {c : AV} {x y : Value} (hx : x.cells.toList = [y]) (hxy : x = y) (h : Cs w [c] x.cells.toList) : Rt w (fun b => b < w.heap.size) c x := by
  rw [hx] at h; rw [hxy]; exact (h.2 0 c y rfl rfl).2

theorem open_top {W : World} {base : Nat} {spare : Nat → Bool} {held : Bool} {r : Reach} {sh : Sh} {t : TypeId} {v : Value} {d : DataW H} {ps : List MemPlace} (hok : shOk P sh t = true) (hval : Value.okWide P W r base t v)
    (h : DataW.Trod enc P W 0 spare held t v d ps) (hb : Rows.uptoBulk d ≤ 1048576) : ∃ x : Dat, Has sh x ∧ x.bulk ≤ Rows.uptoBulk d ∧ Rt W (fun b => b < W.heap.size) x.av v := by
  obtain ⟨n, hn⟩ := h
  obtain ⟨x, h1, h2, h3⟩ := opens (by decide) n sh t _ d ps hok hn hb
  refine ⟨x, h1, h2, ?_⟩
  cases h1 with
  | int k m hm =>
    unfold shOk at hok; split at hok
    · rename_i k' hu
      obtain ⟨m', rfl⟩ := okWide_int hu hval
      exact cells1 rfl rfl h3
    · cases hok
  | bool b =>
    unfold shOk at hok; split at hok
    · rename_i hu
      obtain ⟨m', rfl⟩ := okWide_bool hu hval
      exact cells1 rfl rfl h3
    · cases hok
  | str b =>
    unfold shOk at hok; split at hok
    · rename_i hu
      obtain ⟨m', rfl⟩ := okWide_string hu hval
      exact cells1 rfl rfl h3
    · cases hok
  | sl e l h1 hl =>
    unfold shOk at hok; split at hok
    · rename_i hu
      obtain ⟨a, len, cap, rfl⟩ := okWide_slice hu hval
      exact cells1 rfl rfl h3
    · cases hok
  | st ss l h1 =>
    unfold shOk at hok; split at hok
    · rename_i hu
      obtain ⟨cs, rfl, _⟩ := okWide_struct hu hval
      simp only [Dat.cells] at h3
      have h4 : (Value.agg cs).cells.toList = cs.toList := rfl
      rw [h4] at h3
      refine .agg _ cs (by rw [h3.1]; simp) fun i c x e1 e2 => (h3.2 i c x e1 (by simpa using e2)).2
    · cases hok

theorem open_all {W : World} {base : Nat} {spare : Nat → Bool} {held : Bool} {r : Reach} : ∀ {ss : List Sh} {ts : List TypeId} {vs : List Value} {ds : List (DataW H)} {ps : List MemPlace}, shTop P ss ts = true →
    (∀ (j : Nat) t v, ts[j]? = some t → vs[j]? = some v → Value.okWide P W r base t v) → DataW.TrodAll enc P W 0 spare held ts vs ds ps → Rows.uptoBulkAll ds ≤ 1048576 →
    ∃ xs : List Dat, Hass ss xs ∧ Dat.bulks xs ≤ Rows.uptoBulkAll ds ∧ vs.length = xs.length ∧ ds.length = ts.length ∧ ∀ (i : Nat) (x : Dat) (v : Value), xs[i]? = some x → vs[i]? = some v → Rt W (fun b => b < W.heap.size) x.av v
  | [], [], vs, ds, ps, _, _, h, _ => by
    obtain ⟨rfl, rfl, rfl⟩ := trodAll_nil h
    exact ⟨[], .nil, by simp [Dat.bulks], rfl, rfl, by simp⟩
  | s :: ss, t :: ts, vs, ds, ps, hok, hval, h, hb => by
    obtain ⟨v, vs, d, ds, p, q, rfl, rfl, rfl, h0, h1⟩ := trodAll_cons h
    simp only [shTop, Bool.and_eq_true] at hok
    simp only [Rows.uptoBulkAll] at hb
    obtain ⟨x, g1, g2, g3⟩ := open_top hok.1 (hval 0 t v rfl rfl) h0 (by omega)
    obtain ⟨xs, k1, k2, k3, k4, k5⟩ := open_all hok.2 (fun j t v e1 e2 => hval (j + 1) t v (by simpa using e1) (by simpa using e2)) h1 (by omega)
    refine ⟨x :: xs, .cons _ _ _ _ g1 k1, by simp only [Dat.bulks, Rows.uptoBulkAll]; omega, by simp [k3], by simp [k4], fun i y u e1 e2 => ?_⟩
    cases i with
    | zero => simp at e1 e2; subst e1 e2; exact g3
    | succ i => exact k5 i y u (by simpa using e1) (by simpa using e2)
  | [], _ :: _, _, _, _, hok, _, _, _ => by simp [shTop] at hok
  | _ :: _, [], _, _, _, hok, _, _, _ => by simp [shTop] at hok

theorem trodAll_stays (hl : laidOutB P = true) {W W' : World} (hb : Below W.heap.size W W') : ∀ {ts : List TypeId} {vs : List Value} {ds : List (DataW H)} {ps : List MemPlace},
    (ts.all fun t => P.readableRec t && decide (t < P.types.size)) = true → DataW.TrodAll enc P W 0 (fun _ => true) true ts vs ds ps → (∀ x ∈ ps, x.block < W.heap.size) → DataW.TrodAll enc P W' 0 (fun b => decide (b < W.heap.size)) true ts vs ds ps
  | [], vs, ds, ps, _, h, _ => by
    obtain ⟨rfl, rfl, rfl⟩ := trodAll_nil h
    rfl
  | t :: ts, vs, ds, ps, ht, h, hlt => by
    obtain ⟨v, vs, d, ds, p, q, rfl, rfl, rfl, h0, h1⟩ := trodAll_cons h
    simp only [List.all_cons, Bool.and_eq_true, decide_eq_true_eq] at ht
    exact ⟨p, q, Below.trod hl ht.1.1 ht.1.2 h0 hb (fun x hx => hlt x (by simp [hx])), trodAll_stays hl hb ht.2 h1 (fun x hx => hlt x (by simp [hx])), rfl⟩

theorem post_of_true {fn : Func} {s : ChangeSpec} {W W' : World} {args : Array Value} {ds gs : List (DataW H)} {before : List MemPlace} {tb : TypeId} (hW : DataW.Whole enc P fn.params.toList s.vars false W args.toList ds gs before)
    (hvs : s.vars = []) (hl : laidOutB P = true) (hrr : (fn.params.toList.all fun t => P.readableRec t && decide (t < P.types.size)) = true) (hrt : fn.resultTypes = #[tb]) (hub : P.underlying tb = some .bool)
    (hfn : s.fn H (ds ++ gs) = { results := [.lit (.bool true)], args := ds }) (hk : Below W.heap.size W W') : s.post enc P fn false true false false W args (.bool true) W' := by
  have hlt := hW.lt
  have hW' := hW
  obtain ⟨p, q, hA, hV, rfl, hfz, hnd⟩ := hW
  rw [hvs] at hV
  obtain ⟨rfl, rfl⟩ := trodVars_none hV
  refine ⟨ds, [], p ++ [], [], p, [], hW', ?_, ?_, ?_, hk.frame _, fun h => by cases h⟩
  · rw [hfn, hrt]
    exact trodAll_mk1 (shut_bool hub true)
  · rw [hfn]
    exact trodAll_stays hl hk hrr hA (fun x hx => hlt x (by simp [hx]))
  · rw [hfn, hvs]; rfl

theorem law_upto {f : FuncId} {fn : Func} {s : ChangeSpec} {shs : List Sh} {tb : TypeId} (hvs : s.vars = []) (hl : laidOutB P = true) (hrr : (fn.params.toList.all fun t => P.readableRec t && decide (t < P.types.size)) = true) (hrt : fn.resultTypes = #[tb])
    (hub : P.underlying tb = some .bool) (hfn : ∀ ds : List (DataW H), ds.length = fn.params.toList.length → s.fn H (ds ++ []) = { results := [.lit (.bool true)], args := ds }) (hsh : shTop P shs fn.params.toList = true)
    (hspec : ∀ xs : List Dat, Hass shs xs → Dat.bulks xs ≤ 1048576 → Spec P f (xs.map Dat.av) [] fun c h => c = .v (.bool true) ∧ h = [])
    (W : World) (base : Nat) (args : Array Value) (ds gs : List (DataW H)) (before : List MemPlace) (hval : ∀ (j : Nat) t v, fn.params[j]? = some t → args[j]? = some v → Value.okWide P W .any base t v)
    (hW : DataW.Whole enc P fn.params.toList s.vars false W args.toList ds gs before) (hb : Rows.uptoBulkAll (ds ++ gs) ≤ 1048576) :
    Calls P f args W fun e W' => ∃ v, e = .returned v ∧ s.post enc P fn false true false false W args v W' := by
  have hW' := hW
  obtain ⟨p, q, hA, hV, rfl, hfz, hnd⟩ := hW
  rw [hvs] at hV
  obtain ⟨rfl, rfl⟩ := trodVars_none hV
  rw [List.append_nil] at hb
  obtain ⟨xs, h1, h2, h3, h4, h5⟩ := open_all hsh (fun j t v e1 e2 => hval j t v (by simpa using e1) (by simpa using e2)) hA hb
  refine (hspec xs h1 (by omega) W (fun _ => ⟨0, 0, .bool false⟩) (fun _ => True) args ?_ (by rw [List.length_map, ← h3]; simp) ?_).mono ?_
  · exact ⟨fun i j li lj e => by simp at e, fun id lb e => by simp at e, fun id lb e => by simp at e⟩
  · intro i c x e1 e2
    rw [List.getElem?_map] at e1
    obtain ⟨y, e3, rfl⟩ := Option.map_eq_some_iff.1 e1
    exact .imm _ _ ((h5 i y x e3 (by simpa using e2)).mono fun b hb => ⟨⟨.inl trivial, hb, fun id lb e => by simp at e⟩, rfl⟩)
  · rintro e W1 ⟨c, x, V', h', rfl, ⟨rfl, rfl⟩, hk, _, _, _, hr⟩
    have := hr.v_inv
    subst this
    refine ⟨_, rfl, post_of_true hW' hvs hl hrr hrt hub (hfn ds h4) ?_⟩
    exact ⟨hk.os, hk.tape, hk.output, hk.size, fun k hk' => hk.block k hk' fun hm => by simp [blkOf] at hm⟩
end
end Go.Proofs.Ythjboaallleomaa
