/-
  OPENING: an argument's reading, whatever its shape, as an abstract value.
-/
import Derived.Test.YthjboaallleomaaRows
import Derived.Test.YthjboaallleomaaAe10
import Derived.WalkKit
import Derived.ProofKit
import Derived.OpenShut
import Derived.JoinedCond
import Derived.Deep.Slices
namespace Go.Proofs.Ythjboaallleomaa
open Go.ChangeShapes Go.WideShapes Go.ChangeAt Go.RowKit

inductive Sh where
  | int (k : IntKind)
  | bool
  | str
  | st (fs : List Sh)
  | sl (e : Sh)
mutual
def Sh.n : Sh → Nat
  | .st fs => Sh.ns fs
  | _ => 1
def Sh.ns : List Sh → Nat
  | [] => 0
  | s :: r => s.n + Sh.ns r
end
mutual
def shOk (P : Program) : Sh → TypeId → Bool
  | .int k, t => match P.underlying t with | some (.int k') => decide (k' = k) | _ => false
  | .bool, t => match P.underlying t with | some .bool => true | _ => false
  | .str, t => match P.underlying t with | some .string => true | _ => false
  | .st ss, t => match P.underlying t with | some (.struct fs) => shsOk P ss fs.toList 0 && decide (P.cellsOf t = Sh.ns ss) | _ => false
  | .sl e, t => match P.underlying t with | some (.slice u) => shOk P e u && decide (P.cellsOf u = e.n) && decide (0 < e.n) | _ => false
def shsOk (P : Program) : List Sh → List Field → Nat → Bool
  | [], [], _ => true
  | s :: ss, f :: fs, o => decide (f.offset = o) && decide (P.cellsOf f.type = s.n) && shOk P s f.type && shsOk P ss fs (o + s.n)
  | _, _, _ => false
end
inductive Dat where
  | int (k : IntKind) (n : Int)
  | bool (b : Bool)
  | str (s : ByteArray)
  | st (l : List Dat)
  | sl (sz : Nat) (l : List Dat)
mutual
def Dat.cells : Dat → List AV
  | .int k n => [.v (.int k n)]
  | .bool b => [.v (.bool b)]
  | .str s => [.v (.string s)]
  | .st l => Dat.cellss l
  | .sl sz l => [.tree sz l.length (fun i => (Dat.rows l).getD i [])]
def Dat.cellss : List Dat → List AV
  | [] => []
  | d :: r => d.cells ++ Dat.cellss r
def Dat.rows : List Dat → List (List AV)
  | [] => []
  | d :: r => d.cells :: Dat.rows r
end
mutual
def Dat.bulk : Dat → Nat
  | .str s => s.size + 1
  | .st l => Dat.bulks l + 1
  | .sl _ l => Dat.bulks l + 1
  | _ => 1
def Dat.bulks : List Dat → Nat
  | [] => 0
  | d :: r => d.bulk + Dat.bulks r
end
mutual
inductive Has : Sh → Dat → Prop where
  | int (k n) (h : k.min ≤ n ∧ n ≤ k.max) : Has (.int k) (.int k n)
  | bool (b) : Has .bool (.bool b)
  | str (s) (h : s.size ≤ 1048576) : Has .str (.str s)
  | st (ss l) (h : Hass ss l) : Has (.st ss) (.st l)
  | sl (e l) (h : HasA e l) (hl : l.length ≤ 1048576) : Has (.sl e) (.sl e.n l)
inductive Hass : List Sh → List Dat → Prop where
  | nil : Hass [] []
  | cons (s ss d l) (h1 : Has s d) (h2 : Hass ss l) : Hass (s :: ss) (d :: l)
inductive HasA : Sh → List Dat → Prop where
  | nil (e) : HasA e []
  | cons (e d l) (h1 : Has e d) (h2 : HasA e l) : HasA e (d :: l)
end
/-- Cells as abstract ones. -/
def Cs (w : World) (l : List AV) (cs : List Value) : Prop := l.length = cs.length ∧ ∀ (i : Nat) (c : AV) (x : Value), l[i]? = some c → cs[i]? = some x → x.oneCell' = true ∧ Rt w (fun b => b < w.heap.size) c x
theorem Cs.append {w : World} {l l' : List AV} {cs cs' : List Value} (h : Cs w l cs) (h' : Cs w l' cs') : Cs w (l ++ l') (cs ++ cs') := by
  refine ⟨by simp [h.1, h'.1], fun i c x h1 h2 => ?_⟩
  by_cases hi : i < l.length
  · rw [List.getElem?_append_left hi] at h1
    rw [List.getElem?_append_left (by rw [← h.1]; exact hi)] at h2
    exact h.2 i c x h1 h2
  · rw [List.getElem?_append_right (by omega)] at h1
    rw [List.getElem?_append_right (by rw [← h.1]; omega), ← h.1] at h2
    exact h'.2 _ c x h1 h2
theorem Cs.one {w : World} {c : AV} {x : Value} (hx : x.oneCell' = true) (h : Rt w (fun b => b < w.heap.size) c x) : Cs w [c] [x] := by
  refine ⟨rfl, fun i c' x' h1 h2 => ?_⟩
  cases i with
  | zero => simp at h1 h2; subst h1 h2; exact ⟨hx, h⟩
  | succ i => simp at h1
theorem Cs.nil {w : World} : Cs w [] [] := ⟨rfl, fun i c x h1 => by simp at h1⟩
theorem rows_get : ∀ (l : List Dat) (i : Nat), (Dat.rows l)[i]? = (l[i]?).map Dat.cells
  | [], i => by simp [Dat.rows]
  | d :: r, 0 => by simp [Dat.rows]
  | d :: r, i + 1 => by simp [Dat.rows, rows_get r i]

section
variable {H : Type} {enc : TypeId × Value → H} {P : Program} {w : World} {spare : Nat → Bool} {held : Bool}
theorem bulk_part {d : DataW H} : ∀ {l : List (DataW H)}, d ∈ l → Rows.uptoBulk d ≤ Rows.uptoBulkAll l
  | x :: r, h => by
    simp only [Rows.uptoBulkAll]
    rcases List.mem_cons.1 h with e | e
    · subst e; omega
    · have := bulk_part e; omega
theorem bulk_pos (d : DataW H) : 1 ≤ Rows.uptoBulk d := by
  cases d with
  | lit l => cases l <;> simp [Rows.uptoBulk]
  | _ => simp [Rows.uptoBulk]
theorem bulk_len : ∀ (l : List (DataW H)), l.length ≤ Rows.uptoBulkAll l
  | [] => by simp
  | x :: r => by have := bulk_pos x; have := bulk_len r; simp only [Rows.uptoBulkAll, List.length_cons]; omega

def OpensAt (enc : TypeId × Value → H) (P : Program) (w : World) (spare : Nat → Bool) (held : Bool) (n : Nat) : Prop :=
  ∀ (sh : Sh) (t : TypeId) (cs : List Value) (d : DataW H) (ps : List MemPlace), shOk P sh t = true → DataW.trod enc P w 0 spare held n t cs = some (d, ps) → Rows.uptoBulk d ≤ 1048576 →
    ∃ x : Dat, Has sh x ∧ x.bulk ≤ Rows.uptoBulk d ∧ Cs w x.cells cs
theorem opens_fields {n : Nat} (ih : OpensAt enc P w spare held n) : ∀ (ss : List Sh) (fs : List Field) (o : Nat) (cs : List Value) (xs : List (DataW H × List MemPlace)), shsOk P ss fs o = true → cs.length = Sh.ns ss →
    xs.length = fs.length → (∀ (i : Nat) (f : Field), fs[i]? = some f → DataW.trod enc P w 0 spare held n f.type ((cs.drop (f.offset - o)).take (P.cellsOf f.type)) = xs[i]?) → Rows.uptoBulkAll (xs.map (·.1)) ≤ 1048576 →
    ∃ l : List Dat, Hass ss l ∧ Dat.bulks l ≤ Rows.uptoBulkAll (xs.map (·.1)) ∧ Cs w (Dat.cellss l) cs
  | [], [], o, cs, xs, _, hl, hx, _, _ => by
    have : cs = [] := by simpa [Sh.ns] using hl
    subst this
    exact ⟨[], .nil, by simp [Dat.bulks], by simpa [Dat.cellss] using Cs.nil⟩
  | s :: ss, f :: fs, o, cs, x :: xs, hok, hl, hx, hf, hb => by
    simp only [shsOk, Bool.and_eq_true, decide_eq_true_eq] at hok
    obtain ⟨⟨⟨ho, hc⟩, hs⟩, hss⟩ := hok
    simp only [Sh.ns] at hl
    simp only [List.map_cons, Rows.uptoBulkAll] at hb ⊢
    have h0 := hf 0 f rfl
    rw [ho, hc, Nat.sub_self, List.drop_zero] at h0
    obtain ⟨d, h1, h2, h3⟩ := ih s f.type (cs.take s.n) x.1 x.2 hs h0 (by omega)
    obtain ⟨l, g1, g2, g3⟩ := opens_fields ih ss fs (o + s.n) (cs.drop s.n) xs hss (by rw [List.length_drop]; omega) (by simpa using hx) (fun i g hg => by
      have h4 := hf (i + 1) g (by simpa using hg)
      have h5 : o + s.n ≤ g.offset := shs_off hss i g hg
      rw [List.drop_drop, show s.n + (g.offset - (o + s.n)) = g.offset - o by omega]
      simpa using h4) (by omega)
    refine ⟨d :: l, .cons _ _ _ _ h1 g1, by simp only [Dat.bulks]; omega, ?_⟩
    simp only [Dat.cellss]
    have := h3.append g3
    rwa [List.take_append_drop] at this
  | [], _ :: _, o, cs, xs, hok, _, _, _, _ => by simp [shsOk] at hok
  | _ :: _, [], o, cs, xs, hok, _, _, _, _ => by simp [shsOk] at hok
  | _ :: _, _ :: _, o, cs, [], _, _, hx, _, _ => by simp at hx
where
  shs_off {P : Program} : ∀ {ss : List Sh} {fs : List Field} {o : Nat}, shsOk P ss fs o = true → ∀ (i : Nat) (f : Field), fs[i]? = some f → o ≤ f.offset
  | _, [], o, _, i, f, h => by simp at h
  | [], _ :: _, o, hok, i, f, h => by simp [shsOk] at hok
  | s :: ss, g :: fs, o, hok, i, f, h => by
    simp only [shsOk, Bool.and_eq_true, decide_eq_true_eq] at hok
    cases i with
    | zero => simp at h; subst h; omega
    | succ i => have := shs_off hok.2 i f (by simpa using h); omega

theorem Has.all {e : Sh} : ∀ {l : List Dat}, (∀ d ∈ l, Has e d) → HasA e l
  | [], _ => .nil e
  | d :: r, h => .cons e d r (h d (by simp)) (Has.all fun x hx => h x (by simp [hx]))

theorem opens (hbig : 1048576 ≤ bigLen) : ∀ n, OpensAt enc P w spare held n
  | 0, _, _, _, _, _, _, h, _ => by simp [DataW.trod] at h
  | n + 1, .int k, t, cs, d, ps, hok, h, hb => by
    unfold shOk at hok; split at hok
    · rename_i k' hu
      obtain rfl := of_decide_eq_true hok
      obtain ⟨m, rfl, hx, hw⟩ := DataW.trod_int hu h
      cases hx
      refine ⟨.int k' m, .int _ _ ?_, by simp [Dat.bulk, Rows.uptoBulk], by simpa [Dat.cells] using Cs.one rfl (.v _)⟩
      simpa [Lit.wf] using hw
    · cases hok
  | n + 1, .bool, t, cs, d, ps, hok, h, hb => by
    unfold shOk at hok; split at hok
    · rename_i hu
      obtain ⟨m, rfl, hx⟩ := DataW.trod_bool hu h
      cases hx
      exact ⟨.bool m, .bool _, by simp [Dat.bulk, Rows.uptoBulk], by simpa [Dat.cells] using Cs.one rfl (.v _)⟩
    · cases hok
  | n + 1, .str, t, cs, d, ps, hok, h, hb => by
    unfold shOk at hok; split at hok
    · rename_i hu
      obtain ⟨s, rfl, hx, hw⟩ := DataW.trod_string hu h
      cases hx
      have h1 : Rows.uptoBulk (DataW.lit (H := H) (.string s.data.toList)) = s.size + 1 := by simp only [Rows.uptoBulk]; rw [Array.length_toList]; rfl
      rw [h1] at hb
      exact ⟨.str s, .str _ (by omega), by rw [h1]; simp [Dat.bulk], by simpa [Dat.cells] using Cs.one rfl (.v _)⟩
    · cases hok
  | n + 1, .st ss, t, cs, d, ps, hok, h, hb => by
    unfold shOk at hok; split at hok
    · rename_i fs hu
      simp only [Bool.and_eq_true, decide_eq_true_eq] at hok
      obtain ⟨xs, n', hn, hx, hl, hxl, hf⟩ := DataW.trod_struct hu h
      cases hn
      simp only [Prod.mk.injEq] at hx
      obtain ⟨rfl, rfl⟩ := hx
      simp only [Rows.uptoBulk] at hb
      obtain ⟨l, h1, h2, h3⟩ := opens_fields (opens hbig n) ss fs.toList 0 cs xs hok.1 (by rw [hl]; exact hok.2) (by simpa using hxl) (fun i f hi => by rw [Nat.sub_zero]; exact hf i f (by simpa using hi)) (by omega)
      exact ⟨.st l, .st _ _ h1, by simp only [Dat.bulk, Rows.uptoBulk]; omega, by simpa [Dat.cells] using h3⟩
    · cases hok
  | n + 1, .sl e, t, cs, d, ps, hok, h, hb => by
    unfold shOk at hok; split at hok
    · rename_i u hu
      simp only [Bool.and_eq_true, decide_eq_true_eq] at hok
      obtain ⟨⟨hok, hc⟩, hpos⟩ := hok
      rcases DataW.trod_slice hu h with ⟨rfl, hx⟩ | ⟨a, len, cap, elems, rest, n', hn, rfl, hx, _, hlc, hm, hlen, hel, _, _⟩
      · cases hx
        refine ⟨.sl e.n [], .sl _ _ (.nil e) (by simp), by simp [Dat.bulk, Dat.bulks, Rows.uptoBulk], ?_⟩
        simp only [Dat.cells]
        exact Cs.one rfl (.tree _ _ _ _ _ 0 0 (fun _ _ => .bool false) (by simp) (by simp) (by simp) (by simp) (by simp) (by simp) (by simp))
      · cases hn
        simp only [Prod.mk.injEq] at hx
        obtain ⟨rfl, rfl⟩ := hx
        simp only [Rows.uptoBulk] at hb
        have hlb : len ≤ 1048576 := by
          have := bulk_len (elems.map (·.1)); rw [List.length_map, hlen] at this; omega
        have hone : ∀ i : Nat, i < len → ∃ (x : Dat) (cs' : List Value), Has e x ∧ (∀ y, elems[i]? = some y → x.bulk ≤ Rows.uptoBulk y.1) ∧ w.cells? 0 (a.add (i * e.n)) e.n = some cs' ∧ Cs w x.cells cs' := by
          intro i hi
          have h1 := hel i hi
          obtain ⟨y, hy⟩ : ∃ y, elems[i]? = some y := ⟨elems[i]'(by omega), List.getElem?_eq_getElem _⟩
          rw [hy, hc] at h1
          obtain ⟨cs', h2, h3⟩ := Option.bind_eq_some_iff.1 h1
          have hy' : y.1 ∈ elems.map (·.1) := List.mem_map.2 ⟨y, List.mem_of_getElem? hy, rfl⟩
          have := bulk_part hy'
          obtain ⟨x, g1, g2, g3⟩ := opens hbig n e u cs' y.1 y.2 hok h3 (by omega)
          exact ⟨x, cs', g1, fun y' e' => by rw [hy] at e'; cases e'; exact g2, h2, g3⟩
        classical
        let X : Nat → Dat := fun i => if hi : i < len then (hone i hi).choose else .bool false
        have hX : ∀ i, i < len → ∃ cs' : List Value, Has e (X i) ∧ (∀ y, elems[i]? = some y → (X i).bulk ≤ Rows.uptoBulk y.1) ∧ w.cells? 0 (a.add (i * e.n)) e.n = some cs' ∧ Cs w (X i).cells cs' := fun i hi => by
          have := (hone i hi).choose_spec
          simpa only [X, dif_pos hi] using this
        let Y : Nat → List Value := fun i => if hi : i < len then (hX i hi).choose else []
        have hY : ∀ i, i < len → Has e (X i) ∧ (∀ y, elems[i]? = some y → (X i).bulk ≤ Rows.uptoBulk y.1) ∧ w.cells? 0 (a.add (i * e.n)) e.n = some (Y i) ∧ Cs w (X i).cells (Y i) := fun i hi => by
          have := (hX i hi).choose_spec
          simpa only [Y, dif_pos hi] using this
        have hrow : ∀ i, (Dat.rows ((List.range len).map X))[i]? = if i < len then some (X i).cells else none := fun i => by
          rw [rows_get, List.getElem?_map]
          by_cases hi : i < len
          · rw [List.getElem?_range hi, if_pos hi]; rfl
          · rw [List.getElem?_eq_none (by simpa using hi), if_neg hi]; rfl
        have hspot : 0 < len → a.spot = none := fun hl0 => by
          obtain ⟨_, _, h2, _⟩ := hY 0 hl0
          obtain ⟨_, _, h3⟩ := World.cells?_some h2
          have h4 := h3 0 hpos
          obtain ⟨_, hlen3, _⟩ := World.cells?_some h2
          rw [List.getElem?_eq_getElem (by omega)] at h4
          unfold World.cell? at h4
          have h5 : (a.add (0 * e.n)).add 0 = a := by simp [Addr.add]
          rw [h5] at h4
          split at h4
          · split at h4
            · cases h4
            · rename_i hs; simpa using hs
          · cases h4
        have hcell : ∀ k j c, k < len → (X k).cells[j]? = some c → ∃ x, (Y k)[j]? = some x ∧ w.cell? ⟨a.block, a.off + k * e.n + j, none⟩ = some x ∧ x.oneCell' = true ∧ Rt w (fun b => b < w.heap.size) c x := fun k j c hk hj => by
          obtain ⟨_, _, h2, h3⟩ := hY k hk
          obtain ⟨_, hl3, h4⟩ := World.cells?_some h2
          have hj2 : j < e.n := by rw [← hl3, ← h3.1]; exact (List.getElem?_eq_some_iff.1 hj).1
          have h5 := h4 j hj2
          have hs := hspot (by omega)
          obtain ⟨bl, off, sp⟩ := a
          simp only at hs
          subst hs
          have h6 : ((⟨bl, off, none⟩ : Addr).add (k * e.n)).add j = ⟨bl, off + k * e.n + j, none⟩ := by
            unfold Addr.add; split <;> split <;> simp_all
          rw [h6] at h5
          have h7 : (Y k)[j]? = some ((Y k)[j]'(by omega)) := List.getElem?_eq_getElem (by omega)
          rw [h7] at h5
          exact ⟨_, h7, h5, h3.2 j c _ hj h7⟩
        refine ⟨.sl e.n ((List.range len).map X), .sl _ _ (Has.all fun d hd => ?_) (by simpa using hlb), ?_, ?_⟩
        · obtain ⟨i, hi, rfl⟩ := List.mem_map.1 hd
          exact (hY i (List.mem_range.1 hi)).1
        · simp only [Dat.bulk, Rows.uptoBulk]
          have : Dat.bulks ((List.range len).map X) ≤ Rows.uptoBulkAll (elems.map (·.1)) := by
            refine bulks_le (by simp [hlen]) fun i x y hx hy => ?_
            rw [List.getElem?_map] at hx
            by_cases hi : i < len
            · rw [List.getElem?_range hi] at hx; cases hx
              rw [List.getElem?_map] at hy
              obtain ⟨z, hz, rfl⟩ := Option.map_eq_some_iff.1 hy
              exact (hY i hi).2.1 z hz
            · rw [List.getElem?_eq_none (by simpa using hi)] at hx; cases hx
          omega
        · simp only [Dat.cells]
          rw [show ((List.range len).map X).length = len by simp]
          refine Cs.one rfl (.tree _ _ _ _ _ a.block a.off (fun k j => ((Y k)[j]?).getD (.bool false)) ?_ ?_ hm ?_ ?_ ?_ ?_)
          · omega
          · exact hlc
          · intro hl0
            refine ⟨?_, ?_⟩
            · have := hspot hl0
              obtain ⟨bl, off, sp⟩ := a
              simp only at this; subst this; rfl
            · obtain ⟨_, _, h2, h3⟩ := hY 0 hl0
              have hl4 := (World.cells?_some h2).2.1
              have hc0 : (X 0).cells[0]? = some ((X 0).cells[0]'(by rw [h3.1]; omega)) := List.getElem?_eq_getElem _
              obtain ⟨_, _, h5, _⟩ := hcell 0 0 _ hl0 hc0
              unfold World.cell? at h5
              split at h5
              · rename_i hh; exact (Array.getElem?_eq_some_iff.1 hh).1
              · cases h5
          · intro k hk
            rw [List.getD_eq_getElem?_getD, hrow, if_pos hk]
            obtain ⟨_, _, h2, h3⟩ := hY k hk
            exact h3.1.trans (World.cells?_some h2).2.1
          · intro k j c hk hj
            rw [List.getD_eq_getElem?_getD, hrow, if_pos hk] at hj
            obtain ⟨x, h1, h2, h3, _⟩ := hcell k j c hk hj
            simp only [h1]
            exact ⟨h2, h3⟩
          · intro k j c hk hj
            rw [List.getD_eq_getElem?_getD, hrow, if_pos hk] at hj
            obtain ⟨x, h1, _, _, h4⟩ := hcell k j c hk hj
            simp only [h1]
            exact h4
    · cases hok
where
  bulks_le : ∀ {l : List Dat} {m : List (DataW H)}, l.length = m.length → (∀ (i : Nat) (x : Dat) (y : DataW H), l[i]? = some x → m[i]? = some y → x.bulk ≤ Rows.uptoBulk y) → Dat.bulks l ≤ Rows.uptoBulkAll m
  | [], [], _, _ => by simp [Dat.bulks, Rows.uptoBulkAll]
  | x :: l, y :: m, hl, h => by
    have h1 := h 0 x y rfl rfl
    have h2 := bulks_le (l := l) (m := m) (by simpa using hl) fun i a b e1 e2 => h (i + 1) a b (by simpa using e1) (by simpa using e2)
    simp only [Dat.bulks, Rows.uptoBulkAll]; omega
  | [], _ :: _, hl, _ => by simp at hl
  | _ :: _, [], hl, _ => by simp at hl
end
end Go.Proofs.Ythjboaallleomaa
