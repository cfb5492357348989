/-
  What a row's listed variables and the shape of its first world give.
-/
import Derived.Test.YtbjhcjhkmppocaaDoorX1
import Derived.Test.YtbjhcjhkmppocaaDoorRows
import Derived.LaidLaws
import Derived.Lib.LaidTab
import Derived.Deep.Strs
namespace Go.Proofs.YtbjhcjhkmppocaaDoor
open Go.RowKit

theorem laidVars_get {P : Program} {w : World} : ∀ {l : List (String × DataW Unit)} {ps : List MemPlace}, DataW.LaidVars P w l ps → ∀ {n : String} {d : DataW Unit}, (n, d) ∈ l →
    ∃ g t cs fuel p, P.globalNamed n = some g ∧ (P.globals[g]?).map (·.type) = some t ∧ w.var? P n = some cs ∧ DataW.trod (fun _ => ()) P w 0 (fun _ => true) false fuel t cs.toList = some (d, p)
  | [], _, _, _, _, hm => by simp at hm
  | (n', d') :: r, ps, h, n, d, hm => by
    obtain ⟨g, t, cs, fuel, p, q, h1, h2, h3, h4, h5, _⟩ := h
    rcases List.mem_cons.1 hm with e | e
    · cases e; exact ⟨g, t, cs, fuel, p, h1, h2, h3, h4⟩
    · exact laidVars_get h5 e
theorem var_heap {P : Program} {w : World} {n : String} {g : Nat} {cs : Array Value} (hg : P.globalNamed n = some g) (h : w.var? P n = some cs) : ∃ t fr, w.heap[g]? = some (.cells cs t fr) := by
  unfold World.var? at h
  rw [hg, Option.bind_some] at h
  split at h
  · rename_i cs' t fr e
    cases h
    exact ⟨t, fr, e⟩
  · cases h
theorem cells_of_strs {H : Type} {enc : TypeId × Value → H} {P : Program} {w : World} {base : Nat} {sp : Nat → Bool} {held : Bool} {fuel : Nat} {t e : TypeId} {n : Nat} {cs : List Value} {zs : List (List UInt8)} {p : List MemPlace}
    (ht : P.underlying t = some (.array n e)) (he : P.underlying e = some .string) (hce : P.cellsOf e = 1) (hct : P.cellsOf t = n)
    (h : DataW.trod enc P w base sp held fuel t cs = some (.agg (zs.map fun z => .lit (.string z)), p)) : cs = zs.map fun z => Value.string ⟨z.toArray⟩ := by
  cases fuel with
  | zero => simp [DataW.trod] at h
  | succ fuel =>
    simp only [DataW.trod, ht, hce, hct, Nat.mul_one] at h
    split at h
    · rename_i hl
      obtain ⟨xs, hm, hx⟩ := Option.map_eq_some_iff.1 h
      have hxs : xs.map (·.1) = zs.map fun z => (DataW.lit (.string z) : DataW H) := by
        have := congrArg Prod.fst hx
        simpa using this
      have hxl : xs.length = n := by simpa using Lib.mapM_length hm
      have hzl : zs.length = n := by
        have := congrArg List.length hxs
        simp at this
        omega
      apply List.ext_getElem?
      intro i
      by_cases hi : i < n
      · obtain ⟨b, hb, hf⟩ := Lib.mapM_at hm i i (by simp [hi])
        obtain ⟨z, hc, rfl, _⟩ := DataW.trod_string he hf
        have h1 : cs[i]? = some (.string z) := by
          have := congrArg (·[0]?) hc
          simpa [List.getElem?_take, List.getElem?_drop] using this
        have h2 : (xs.map (·.1))[i]? = some (DataW.lit (.string z.data.toList) : DataW H) := by simp [hb]
        rw [hxs] at h2
        simp only [List.getElem?_map, Option.map_eq_some_iff, DataW.lit.injEq, Lit.string.injEq] at h2
        obtain ⟨z', hz', e3⟩ := h2
        rw [h1, List.getElem?_map, hz', Option.map_some, e3]
      · rw [List.getElem?_eq_none (by omega), List.getElem?_eq_none (by simp; omega)]
    · cases h
def bsL0 : List (List UInt8) := [[111, 112, 101, 110], [99, 108, 111, 115, 105, 110, 103], [115, 104, 117, 116], [111, 112, 101, 110, 105, 110, 103], [108, 111, 99, 107, 101, 100]]
def bsL1 : List (List UInt8) := [[115, 116, 97, 116, 105, 111, 110], [101, 110, 116, 114, 121], [114, 111, 112, 101], [101, 120, 105, 116]]
/-- What lies for good. -/
def GBx (b : Nat) : Prop := b = 2 ∨ b = 5 ∨ b = 3 ∨ b = 0 ∨ b = 1
theorem facts {l : List (String × DataW Unit)} {W : World} (hL : laidMet Tryd.prog l W) (hsh : W.ShapedOpen Tryd.prog) {n : String} (hm : (n, Rows.laid_internal_strconv_uint64pow10) ∈ l) {n2 : String} (hm2 : (n2, Rows.laid_strconv_ErrSyntax) ∈ l) {m0 : String} (hm_0 : (m0, Rows.laid_loop_example_g00935_impl_gripNames) ∈ l) {m1 : String} (hm_1 : (m1, Rows.laid_loop_example_g00935_impl_zoneNames) ∈ l)
    (hn : Tryd.prog.globalNamed n = some 5 := by kernel_rfl) (hn2 : Tryd.prog.globalNamed n2 = some 3 := by kernel_rfl) (hn_0 : Tryd.prog.globalNamed m0 = some 0 := by kernel_rfl) (hn_1 : Tryd.prog.globalNamed m1 = some 1 := by kernel_rfl) : Lw GBx W := by
  obtain ⟨ps, hv, _⟩ := hL
  obtain ⟨g, t, cs, fuel, p, h1, h2, h3, h4⟩ := laidVars_get hv hm
  obtain rfl := Option.some.inj (hn.symm.trans h1)
  have ht : (Tryd.prog.globals[5]?).map (·.type) = some 105 := by kernel_rfl
  obtain rfl := Option.some.inj (ht.symm.trans h2)
  have hc := Lib.cells_of_tab (k := .u64) (zs := Lib.pow10Tab) (n := 20) Tryd.underlying105 Tryd.underlying43 (by kernel_rfl) (by kernel_rfl) h4
  obtain ⟨t, fr, hh⟩ := var_heap hn h3
  obtain ⟨m, hm⟩ := Tryd.laysM145.s1_3 W hsh
  obtain ⟨g2, t2, cs2, fuel2, p2, k1, k2, k3, k4⟩ := laidVars_get hv hm2
  obtain rfl := Option.some.inj (hn2.symm.trans k1)
  have ht2 : (Tryd.prog.globals[3]?).map (·.type) = some 72 := by kernel_rfl
  obtain rfl := Option.some.inj (ht2.symm.trans k2)
  obtain ⟨_, u, v, hcs, _⟩ := iface_of_trod Tryd.underlying72 k4
  obtain ⟨t3, fr3, hh3⟩ := var_heap hn2 k3
  have hcell : W.cell? ⟨3, 0, none⟩ = some (.iface u v) := by
    have e : cs2 = #[.iface u v] := by rw [← Array.toArray_toList (xs := cs2), hcs]
    subst e
    simp [World.cell?, hh3]
  obtain ⟨g_0, t_0, cs_0, fuel_0, p_0, x1_0, x2_0, x3_0, x4_0⟩ := laidVars_get hv hm_0
  obtain rfl := Option.some.inj (hn_0.symm.trans x1_0)
  have ht_0 : (Tryd.prog.globals[0]?).map (·.type) = some 54 := by kernel_rfl
  obtain rfl := Option.some.inj (ht_0.symm.trans x2_0)
  have hc_0 := cells_of_strs (zs := bsL0) (n := 5) Tryd.underlying54 Tryd.underlying9 (by kernel_rfl) (by kernel_rfl) x4_0
  obtain ⟨u_0, fr_0, hh_0⟩ := var_heap hn_0 x3_0
  have e_0 : cs_0 = arr0.toArray := by
    obtain ⟨cs_0⟩ := cs_0
    exact congrArg Array.mk hc_0
  rw [e_0] at hh_0
  obtain ⟨g_1, t_1, cs_1, fuel_1, p_1, x1_1, x2_1, x3_1, x4_1⟩ := laidVars_get hv hm_1
  obtain rfl := Option.some.inj (hn_1.symm.trans x1_1)
  have ht_1 : (Tryd.prog.globals[1]?).map (·.type) = some 55 := by kernel_rfl
  obtain rfl := Option.some.inj (ht_1.symm.trans x2_1)
  have hc_1 := cells_of_strs (zs := bsL1) (n := 4) Tryd.underlying55 Tryd.underlying9 (by kernel_rfl) (by kernel_rfl) x4_1
  obtain ⟨u_1, fr_1, hh_1⟩ := var_heap hn_1 x3_1
  have e_1 : cs_1 = arr1.toArray := by
    obtain ⟨cs_1⟩ := cs_1
    exact congrArg Array.mk hc_1
  rw [e_1] at hh_1
  refine ⟨⟨⟨.inl rfl, ⟨.inr (.inr (.inl rfl)), ⟨.inr (.inr (.inr (.inl rfl))), u_0, fr_0, hh_0⟩, .inr (.inr (.inr (.inr (rfl)))), u_1, fr_1, hh_1⟩, u, v, hcell⟩, m, hm⟩, .inr (.inl rfl), t, fr, ?_⟩
  rw [hh, ← hc]
theorem facts_lt {W : World} (h : Lw GBx W) : ∀ b, GBx b → b < W.heap.size := by
  obtain ⟨⟨⟨_, ⟨_, ⟨_, w0, y0, z0⟩, _, w1, y1, z1⟩, te, pe, h6⟩, m, h1⟩, _, t, fr, h2⟩ := h
  have key : ∀ (b : Nat) (x : Value), W.cell? ⟨b, 0, none⟩ = some x → b < W.heap.size := fun b x h1 => by
    rcases Nat.lt_or_ge b W.heap.size with h | h
    · exact h
    · exfalso
      unfold World.cell? at h1
      rw [Array.getElem?_eq_none h] at h1
      simp at h1
  rintro b (rfl | rfl | rfl | rfl | rfl)
  · exact key _ _ h1
  · exact (Array.getElem?_eq_some_iff.1 h2).1
  · exact key _ _ h6
  · exact (Array.getElem?_eq_some_iff.1 z0).1
  · exact (Array.getElem?_eq_some_iff.1 z1).1
end Go.Proofs.YtbjhcjhkmppocaaDoor
