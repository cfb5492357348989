/-
  What a row's listed variables and the shape of its first world give.
-/
import Derived.Test.YtaajchikfgbecaaGreatDoorX1
import Derived.Test.YtaajchikfgbecaaGreatDoorRows
import Derived.LaidLaws
import Derived.Lib.LaidTab
import Derived.Deep.Strs
namespace Go.Proofs.YtaajchikfgbecaaGreatDoor
open Go.RowKit

theorem laidVars_get {P : Program} {w : World} : ∀ {l : List (String × DataW Unit)} {ps : List MemPlace}, DataW.LaidVars P w l ps → ∀ {n : String} {d : DataW Unit}, (n, d) ∈ l →
    ∃ g t cs fuel p, P.globalNamed n = some g ∧ (P.globals[g]?).map (·.type) = some t ∧ w.var? P n = some cs ∧ DataW.trod (fun _ => ()) P w 0 (fun _ => true) false fuel t cs.toList = some (d, p)
  | [], _, _, _, _, hm => by simp at hm
  | (n', d') :: r, ps, h, n, d, hm => by
    obtain ⟨g, t, cs, fuel, p, q, h1, h2, h3, h4, h5, _⟩ := h
    rcases List.mem_cons.1 hm with e | e
    · cases e; exact ⟨g, t, cs, fuel, p, h1, h2, h3, h4⟩
    · exact laidVars_get h5 e
theorem var_heap {P : Program} {w : World} {n : String} {g : Nat} {cs : Array Value} (hg : P.globalNamed n = some g) (h : w.var? P n = some cs) : ∃ t fr, w.heap[g]? = some (.cells cs t fr) := by
  unfold World.var? at h
  rw [hg, Option.bind_some] at h
  split at h
  · rename_i cs' t fr e
    cases h
    exact ⟨t, fr, e⟩
  · cases h
/-- What lies for good. -/
def GBx (b : Nat) : Prop := b = 1 ∨ b = 6 ∨ b = 4 ∨ b = 0
theorem facts {l : List (String × DataW Unit)} {W : World} (hL : laidMet Tryz.prog l W) (hsh : W.ShapedOpen Tryz.prog) {n : String} (hm : (n, Rows.laid_internal_strconv_uint64pow10) ∈ l) {n2 : String} (hm2 : (n2, Rows.laid_strconv_ErrSyntax) ∈ l) {m0 : String} (hm_0 : (m0, Rows.laid_loop_example_g00935_impl_sines) ∈ l)
    (hn : Tryz.prog.globalNamed n = some 6 := by kernel_rfl) (hn2 : Tryz.prog.globalNamed n2 = some 4 := by kernel_rfl) (hn_0 : Tryz.prog.globalNamed m0 = some 0 := by kernel_rfl) : Lw GBx W := by
  obtain ⟨ps, hv, _⟩ := hL
  obtain ⟨g, t, cs, fuel, p, h1, h2, h3, h4⟩ := laidVars_get hv hm
  obtain rfl := Option.some.inj (hn.symm.trans h1)
  have ht : (Tryz.prog.globals[6]?).map (·.type) = some 125 := by kernel_rfl
  obtain rfl := Option.some.inj (ht.symm.trans h2)
  have hc := Lib.cells_of_tab (k := .u64) (zs := Lib.pow10Tab) (n := 20) Tryz.underlying125 Tryz.underlying52 (by kernel_rfl) (by kernel_rfl) h4
  obtain ⟨t, fr, hh⟩ := var_heap hn h3
  obtain ⟨m, hm⟩ := Tryz.laysM145.s1_3 W hsh
  obtain ⟨g2, t2, cs2, fuel2, p2, k1, k2, k3, k4⟩ := laidVars_get hv hm2
  obtain rfl := Option.some.inj (hn2.symm.trans k1)
  have ht2 : (Tryz.prog.globals[4]?).map (·.type) = some 70 := by kernel_rfl
  obtain rfl := Option.some.inj (ht2.symm.trans k2)
  obtain ⟨_, u, v, hcs, _⟩ := iface_of_trod Tryz.underlying70 k4
  obtain ⟨t3, fr3, hh3⟩ := var_heap hn2 k3
  have hcell : W.cell? ⟨4, 0, none⟩ = some (.iface u v) := by
    have e : cs2 = #[.iface u v] := by rw [← Array.toArray_toList (xs := cs2), hcs]
    subst e
    simp [World.cell?, hh3]
  obtain ⟨g_0, t_0, cs_0, fuel_0, p_0, x1_0, x2_0, x3_0, x4_0⟩ := laidVars_get hv hm_0
  obtain rfl := Option.some.inj (hn_0.symm.trans x1_0)
  have ht_0 : (Tryz.prog.globals[0]?).map (·.type) = some 62 := by kernel_rfl
  obtain rfl := Option.some.inj (ht_0.symm.trans x2_0)
  have hc_0 := Lib.cells_of_tab (k := .i64) (zs := [0, 500, 866, 1000]) (n := 4) Tryz.underlying62 Tryz.underlying3 (by kernel_rfl) (by kernel_rfl) x4_0
  obtain ⟨u_0, fr_0, hh_0⟩ := var_heap hn_0 x3_0
  have e_0 : cs_0 = arr0.toArray := by
    obtain ⟨cs_0⟩ := cs_0
    exact congrArg Array.mk hc_0
  rw [e_0] at hh_0
  refine ⟨⟨⟨.inl rfl, ⟨.inr (.inr (.inl rfl)), .inr (.inr (.inr (rfl))), u_0, fr_0, hh_0⟩, u, v, hcell⟩, m, hm⟩, .inr (.inl rfl), t, fr, ?_⟩
  rw [hh, ← hc]
theorem facts_lt {W : World} (h : Lw GBx W) : ∀ b, GBx b → b < W.heap.size := by
  obtain ⟨⟨⟨_, ⟨_, _, w0, y0, z0⟩, te, pe, h6⟩, m, h1⟩, _, t, fr, h2⟩ := h
  have key : ∀ (b : Nat) (x : Value), W.cell? ⟨b, 0, none⟩ = some x → b < W.heap.size := fun b x h1 => by
    rcases Nat.lt_or_ge b W.heap.size with h | h
    · exact h
    · exfalso
      unfold World.cell? at h1
      rw [Array.getElem?_eq_none h] at h1
      simp at h1
  rintro b (rfl | rfl | rfl | rfl)
  · exact key _ _ h1
  · exact (Array.getElem?_eq_some_iff.1 h2).1
  · exact key _ _ h6
  · exact (Array.getElem?_eq_some_iff.1 z0).1
end Go.Proofs.YtaajchikfgbecaaGreatDoor
