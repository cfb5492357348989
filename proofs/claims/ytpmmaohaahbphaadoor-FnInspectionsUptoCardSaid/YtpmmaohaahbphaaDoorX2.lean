/-
  What a row's listed variables and the shape of its first world give.
-/
import Derived.Test.YtpmmaohaahbphaaDoorX1
import Derived.Test.YtpmmaohaahbphaaDoorRows
import Derived.LaidLaws
import Derived.Lib.LaidTab
namespace Go.Proofs.YtpmmaohaahbphaaDoor
open Go.RowKit

theorem laidVars_get {P : Program} {w : World} : ∀ {l : List (String × DataW Unit)} {ps : List MemPlace}, DataW.LaidVars P w l ps → ∀ {n : String} {d : DataW Unit}, (n, d) ∈ l →
    ∃ g t cs fuel p, P.globalNamed n = some g ∧ (P.globals[g]?).map (·.type) = some t ∧ w.var? P n = some cs ∧ DataW.trod (fun _ => ()) P w 0 (fun _ => true) false fuel t cs.toList = some (d, p)
  | [], _, _, _, _, hm => by simp at hm
  | (n', d') :: r, ps, h, n, d, hm => by
    obtain ⟨g, t, cs, fuel, p, q, h1, h2, h3, h4, h5, _⟩ := h
    rcases List.mem_cons.1 hm with e | e
    · cases e; exact ⟨g, t, cs, fuel, p, h1, h2, h3, h4⟩
    · exact laidVars_get h5 e
theorem var_heap {P : Program} {w : World} {n : String} {g : Nat} {cs : Array Value} (hg : P.globalNamed n = some g) (h : w.var? P n = some cs) : ∃ t fr, w.heap[g]? = some (.cells cs t fr) := by
  unfold World.var? at h
  rw [hg, Option.bind_some] at h
  split at h
  · rename_i cs' t fr e
    cases h
    exact ⟨t, fr, e⟩
  · cases h
/-- What lies for good. -/
def GBx (b : Nat) : Prop := b = 0
theorem facts {l : List (String × DataW Unit)} {W : World} (hL : laidMet Tryd.prog l W) (_hsh : W.ShapedOpen Tryd.prog) {n : String} (hm : (n, Rows.laid_internal_strconv_uint64pow10) ∈ l)
    (hn : Tryd.prog.globalNamed n = some 0 := by kernel_rfl) : Lw GBx W := by
  obtain ⟨ps, hv, _⟩ := hL
  obtain ⟨g, t, cs, fuel, p, h1, h2, h3, h4⟩ := laidVars_get hv hm
  obtain rfl := Option.some.inj (hn.symm.trans h1)
  have ht : (Tryd.prog.globals[0]?).map (·.type) = some 102 := by kernel_rfl
  obtain rfl := Option.some.inj (ht.symm.trans h2)
  have hc := Lib.cells_of_tab (k := .u64) (zs := Lib.pow10Tab) (n := 20) Tryd.underlying102 Tryd.underlying47 (by kernel_rfl) (by kernel_rfl) h4
  obtain ⟨t, fr, hh⟩ := var_heap hn h3
  refine ⟨trivial, rfl, t, fr, ?_⟩
  rw [hh, ← hc]
theorem facts_lt {W : World} (h : Lw GBx W) : ∀ b, GBx b → b < W.heap.size := by
  obtain ⟨_, _, t, fr, h2⟩ := h
  rintro b rfl
  exact (Array.getElem?_eq_some_iff.1 h2).1
end Go.Proofs.YtpmmaohaahbphaaDoor
