/-
  What a row's listed variables and the shape of its first world give.
-/
import Derived.Test.YteckiilljhdkpaaDoorX1
import Derived.Lib.LaidTab
import Derived.Deep.Strs
import Derived.Test.YteckiilljhdkpaaDoorRows
import Derived.LaidLaws
namespace Go.Proofs.YteckiilljhdkpaaDoor
open Go.RowKit

theorem laidVars_get {P : Program} {w : World} : ∀ {l : List (String × DataW Unit)} {ps : List MemPlace}, DataW.LaidVars P w l ps → ∀ {n : String} {d : DataW Unit}, (n, d) ∈ l →
    ∃ g t cs fuel p, P.globalNamed n = some g ∧ (P.globals[g]?).map (·.type) = some t ∧ w.var? P n = some cs ∧ DataW.trod (fun _ => ()) P w 0 (fun _ => true) false fuel t cs.toList = some (d, p)
  | [], _, _, _, _, hm => by simp at hm
  | (n', d') :: r, ps, h, n, d, hm => by
    obtain ⟨g, t, cs, fuel, p, q, h1, h2, h3, h4, h5, _⟩ := h
    rcases List.mem_cons.1 hm with e | e
    · cases e; exact ⟨g, t, cs, fuel, p, h1, h2, h3, h4⟩
    · exact laidVars_get h5 e
theorem var_heap {P : Program} {w : World} {n : String} {g : Nat} {cs : Array Value} (hg : P.globalNamed n = some g) (h : w.var? P n = some cs) : ∃ t fr, w.heap[g]? = some (.cells cs t fr) := by
  unfold World.var? at h
  rw [hg, Option.bind_some] at h
  split at h
  · rename_i cs' t fr e
    cases h
    exact ⟨t, fr, e⟩
  · cases h
theorem cells_of_strs {H : Type} {enc : TypeId × Value → H} {P : Program} {w : World} {base : Nat} {sp : Nat → Bool} {held : Bool} {fuel : Nat} {t e : TypeId} {n : Nat} {cs : List Value} {zs : List (List UInt8)} {p : List MemPlace}
    (ht : P.underlying t = some (.array n e)) (he : P.underlying e = some .string) (hce : P.cellsOf e = 1) (hct : P.cellsOf t = n)
    (h : DataW.trod enc P w base sp held fuel t cs = some (.agg (zs.map fun z => .lit (.string z)), p)) : cs = zs.map fun z => Value.string ⟨z.toArray⟩ := by
  cases fuel with
  | zero => simp [DataW.trod] at h
  | succ fuel =>
    simp only [DataW.trod, ht, hce, hct, Nat.mul_one] at h
    split at h
    · rename_i hl
      obtain ⟨xs, hm, hx⟩ := Option.map_eq_some_iff.1 h
      have hxs : xs.map (·.1) = zs.map fun z => (DataW.lit (.string z) : DataW H) := by
        have := congrArg Prod.fst hx
        simpa using this
      have hxl : xs.length = n := by simpa using Lib.mapM_length hm
      have hzl : zs.length = n := by
        have := congrArg List.length hxs
        simp at this
        omega
      apply List.ext_getElem?
      intro i
      by_cases hi : i < n
      · obtain ⟨b, hb, hf⟩ := Lib.mapM_at hm i i (by simp [hi])
        obtain ⟨z, hc, rfl, _⟩ := DataW.trod_string he hf
        have h1 : cs[i]? = some (.string z) := by
          have := congrArg (·[0]?) hc
          simpa [List.getElem?_take, List.getElem?_drop] using this
        have h2 : (xs.map (·.1))[i]? = some (DataW.lit (.string z.data.toList) : DataW H) := by simp [hb]
        rw [hxs] at h2
        simp only [List.getElem?_map, Option.map_eq_some_iff, DataW.lit.injEq, Lit.string.injEq] at h2
        obtain ⟨z', hz', e3⟩ := h2
        rw [h1, List.getElem?_map, hz', Option.map_some, e3]
      · rw [List.getElem?_eq_none (by omega), List.getElem?_eq_none (by simp; omega)]
    · cases h
def kindBs : List (List UInt8) := [[99, 111, 109, 101], [111, 112, 101, 110], [115, 104, 117, 116], [101, 110, 116, 101, 114], [108, 101, 97, 118, 101], [97, 114, 114, 105, 118, 101], [108, 101, 118, 101, 108], [103, 111]]
/-- What lies for good. -/
def GBx (b : Nat) : Prop := b = 0 ∨ b = 1
theorem facts {l : List (String × DataW Unit)} {W : World} (hL : laidMet Tryd.prog l W) (_hsh : W.ShapedOpen Tryd.prog) {n1 n2 : String} (hm1 : (n1, Rows.laid_internal_strconv_uint64pow10) ∈ l) (hm2 : (n2, Rows.laid_loop_example_g00935_impl_boardKinds) ∈ l)
    (hn1 : Tryd.prog.globalNamed n1 = some 1 := by kernel_rfl) (hn2 : Tryd.prog.globalNamed n2 = some 0 := by kernel_rfl) : Lw GBx W := by
  obtain ⟨ps, hv, _⟩ := hL
  constructor
  · obtain ⟨g, t, cs, fuel, p, h1, h2, h3, h4⟩ := laidVars_get hv hm2
    obtain rfl := Option.some.inj (hn2.symm.trans h1)
    have ht : (Tryd.prog.globals[0]?).map (·.type) = some 94 := by kernel_rfl
    obtain rfl := Option.some.inj (ht.symm.trans h2)
    have hc := cells_of_strs (zs := kindBs) (n := 8) Tryd.underlying94 Tryd.underlying9 (by kernel_rfl) (by kernel_rfl) h4
    obtain ⟨t, fr, hh⟩ := var_heap hn2 h3
    refine ⟨.inl rfl, t, fr, ?_⟩
    rw [hh]
    have : cs = kindVs.toArray := by
      obtain ⟨cs⟩ := cs
      exact congrArg Array.mk hc
    rw [this]
  · obtain ⟨g, t, cs, fuel, p, h1, h2, h3, h4⟩ := laidVars_get hv hm1
    obtain rfl := Option.some.inj (hn1.symm.trans h1)
    have ht : (Tryd.prog.globals[1]?).map (·.type) = some 127 := by kernel_rfl
    obtain rfl := Option.some.inj (ht.symm.trans h2)
    have hc := Lib.cells_of_tab (k := .u64) (zs := Lib.pow10Tab) (n := 20) Tryd.underlying127 Tryd.underlying100 (by kernel_rfl) (by kernel_rfl) h4
    obtain ⟨t, fr, hh⟩ := var_heap hn1 h3
    refine ⟨.inr rfl, t, fr, ?_⟩
    rw [hh, ← hc]
theorem facts_lt {W : World} (h : Lw GBx W) : ∀ b, GBx b → b < W.heap.size := by
  obtain ⟨⟨_, t, fr, h1⟩, _, t2, fr2, h2⟩ := h
  rintro b (rfl | rfl)
  · exact (Array.getElem?_eq_some_iff.1 h1).1
  · exact (Array.getElem?_eq_some_iff.1 h2).1
end Go.Proofs.YteckiilljhdkpaaDoor
