/-
  OPENING: an argument's reading, whatever its type, az data.
-/
import Derived.Test.YtpmmaohaahbphaaDoorRows
import Derived.Test.YtpmmaohaahbphaaDoorB12
import Derived.WalkKit
import Derived.ProofKit
import Derived.OpenShut
import Derived.JoinedCond
import Derived.Deep.Slices
namespace Go.Proofs.YtpmmaohaahbphaaDoor
open Go.ChangeShapes Go.WideShapes Go.ChangeAt Go.RowKit

mutual
def tyOk (P : Program) : Ty → TypeId → Bool
  | .int k, t => match P.underlying t with | some (.int k') => decide (k' = k) | _ => false
  | .bool, t => match P.underlying t with | some .bool => true | _ => false
  | .str, t => match P.underlying t with | some .string => true | _ => false
  | .st ss, t => match P.underlying t with | some (.struct fs) => tysOk P ss fs.toList 0 && decide (P.cellsOf t = Ty.ns ss) | _ => false
  | .sl e, t => match P.underlying t with | some (.slice u) => tyOk P e u && decide (P.cellsOf u = e.n) && decide (0 < e.n) | _ => false
def tysOk (P : Program) : List Ty → List Field → Nat → Bool
  | [], [], _ => true
  | s :: ss, f :: fs, o => decide (f.offset = o) && decide (P.cellsOf f.type = s.n) && tyOk P s f.type && tysOk P ss fs (o + s.n)
  | _, _, _ => false
end
mutual
/-- Data of the type's range, and small. -/
def Ty.fit : (t : Ty) → t.den → Prop
  | .int k, (n : Int) => k.min ≤ n ∧ n ≤ k.max
  | .bool, _ => True
  | .str, s => ByteArray.size s ≤ 1048576
  | .st fs, x => Ty.fits fs x
  | .sl e, (xs : List e.den) => xs.length ≤ 1048576 ∧ ∀ x ∈ xs, Ty.fit e x
def Ty.fits : (ts : List Ty) → Ty.dens ts → Prop
  | [], _ => True
  | t :: ts, x => Ty.fit t x.1 ∧ Ty.fits ts x.2
end
/-- Cells as abstract ones. -/
def Cs (w : World) (l : List AV) (cs : List Value) : Prop := l.length = cs.length ∧ ∀ (i : Nat) (c : AV) (x : Value), l[i]? = some c → cs[i]? = some x → x.oneCell' = true ∧ Rt w (fun b => b < w.heap.size) c x
theorem Cs.append {w : World} {l l' : List AV} {cs cs' : List Value} (h : Cs w l cs) (h' : Cs w l' cs') : Cs w (l ++ l') (cs ++ cs') := by
  refine ⟨by simp [h.1, h'.1], fun i c x h1 h2 => ?_⟩
  by_cases hi : i < l.length
  · rw [List.getElem?_append_left hi] at h1
    rw [List.getElem?_append_left (by rw [← h.1]; exact hi)] at h2
    exact h.2 i c x h1 h2
  · rw [List.getElem?_append_right (by omega)] at h1
    rw [List.getElem?_append_right (by rw [← h.1]; omega), ← h.1] at h2
    exact h'.2 _ c x h1 h2
theorem Cs.one {w : World} {c : AV} {x : Value} (hx : x.oneCell' = true) (h : Rt w (fun b => b < w.heap.size) c x) : Cs w [c] [x] := by
  refine ⟨rfl, fun i c' x' h1 h2 => ?_⟩
  cases i with
  | zero => simp at h1 h2; subst h1 h2; exact ⟨hx, h⟩
  | succ i => simp at h1
theorem Cs.nil {w : World} : Cs w [] [] := ⟨rfl, fun i c x h1 => by simp at h1⟩

section
variable {H : Type} {enc : TypeId × Value → H} {P : Program} {w : World} {spare : Nat → Bool} {held : Bool}
theorem bulk_part {d : DataW H} : ∀ {l : List (DataW H)}, d ∈ l → Rows.uptoBulk d ≤ Rows.uptoBulkAll l
  | x :: r, h => by
    simp only [Rows.uptoBulkAll]
    rcases List.mem_cons.1 h with e | e
    · subst e; omega
    · have := bulk_part e; omega
theorem bulk_pos (d : DataW H) : 1 ≤ Rows.uptoBulk d := by
  cases d with
  | lit l => cases l <;> simp [Rows.uptoBulk]
  | _ => simp [Rows.uptoBulk]
theorem bulk_len : ∀ (l : List (DataW H)), l.length ≤ Rows.uptoBulkAll l
  | [] => by simp
  | x :: r => by have := bulk_pos x; have := bulk_len r; simp only [Rows.uptoBulkAll, List.length_cons]; omega

def OpensAt (enc : TypeId × Value → H) (P : Program) (w : World) (spare : Nat → Bool) (held : Bool) (n : Nat) : Prop :=
  ∀ (sh : Ty) (t : TypeId) (cs : List Value) (d : DataW H) (ps : List MemPlace), tyOk P sh t = true → DataW.trod enc P w 0 spare held n t cs = some (d, ps) → Rows.uptoBulk d ≤ 1048576 →
    ∃ x : sh.den, sh.fit x ∧ Cs w (sh.enc x) cs
theorem opens_fields {n : Nat} (ih : OpensAt enc P w spare held n) : ∀ (ss : List Ty) (fs : List Field) (o : Nat) (cs : List Value) (xs : List (DataW H × List MemPlace)), tysOk P ss fs o = true → cs.length = Ty.ns ss →
    xs.length = fs.length → (∀ (i : Nat) (f : Field), fs[i]? = some f → DataW.trod enc P w 0 spare held n f.type ((cs.drop (f.offset - o)).take (P.cellsOf f.type)) = xs[i]?) → Rows.uptoBulkAll (xs.map (·.1)) ≤ 1048576 →
    ∃ l : Ty.dens ss, Ty.fits ss l ∧ Cs w (Ty.encs ss l) cs
  | [], [], o, cs, xs, _, hl, hx, _, _ => by
    have : cs = [] := by simpa [Ty.ns] using hl
    subst this
    exact ⟨(), by simp [Ty.fits], by simpa [Ty.encs] using Cs.nil⟩
  | s :: ss, f :: fs, o, cs, x :: xs, hok, hl, hx, hf, hb => by
    simp only [tysOk, Bool.and_eq_true, decide_eq_true_eq] at hok
    obtain ⟨⟨⟨ho, hc⟩, hs⟩, hss⟩ := hok
    simp only [Ty.ns] at hl
    simp only [List.map_cons, Rows.uptoBulkAll] at hb
    have h0 := hf 0 f rfl
    rw [ho, hc, Nat.sub_self, List.drop_zero] at h0
    obtain ⟨d, h1, h3⟩ := ih s f.type (cs.take s.n) x.1 x.2 hs h0 (by omega)
    obtain ⟨l, g1, g3⟩ := opens_fields ih ss fs (o + s.n) (cs.drop s.n) xs hss (by rw [List.length_drop]; omega) (by simpa using hx) (fun i g hg => by
      have h4 := hf (i + 1) g (by simpa using hg)
      have h5 : o + s.n ≤ g.offset := shs_off hss i g hg
      rw [List.drop_drop, show s.n + (g.offset - (o + s.n)) = g.offset - o by omega]
      simpa using h4) (by omega)
    refine ⟨(d, l), ⟨h1, g1⟩, ?_⟩
    have := h3.append g3
    rw [List.take_append_drop] at this
    exact this
  | [], _ :: _, o, cs, xs, hok, _, _, _, _ => by simp [tysOk] at hok
  | _ :: _, [], o, cs, xs, hok, _, _, _, _ => by simp [tysOk] at hok
  | _ :: _, _ :: _, o, cs, [], _, _, hx, _, _ => by simp at hx
where
  shs_off {P : Program} : ∀ {ss : List Ty} {fs : List Field} {o : Nat}, tysOk P ss fs o = true → ∀ (i : Nat) (f : Field), fs[i]? = some f → o ≤ f.offset
  | _, [], o, _, i, f, h => by simp at h
  | [], _ :: _, o, hok, i, f, h => by simp [tysOk] at hok
  | s :: ss, g :: fs, o, hok, i, f, h => by
    simp only [tysOk, Bool.and_eq_true, decide_eq_true_eq] at hok
    cases i with
    | zero => simp at h; subst h; omega
    | succ i => have := shs_off hok.2 i f (by simpa using h); omega

theorem opens (hbig : 1048576 ≤ bigLen) : ∀ n, OpensAt enc P w spare held n
  | 0, _, _, _, _, _, _, h, _ => by simp [DataW.trod] at h
  | n + 1, .int k, t, cs, d, ps, hok, h, hb => by
    unfold tyOk at hok; split at hok
    · rename_i k' hu
      obtain rfl := of_decide_eq_true hok
      obtain ⟨m, rfl, hx, hw⟩ := DataW.trod_int hu h
      cases hx
      refine ⟨m, ?_, Cs.one rfl (.v _)⟩
      show k'.min ≤ m ∧ m ≤ k'.max
      simpa [Lit.wf] using hw
    · cases hok
  | n + 1, .bool, t, cs, d, ps, hok, h, hb => by
    unfold tyOk at hok; split at hok
    · rename_i hu
      obtain ⟨m, rfl, hx⟩ := DataW.trod_bool hu h
      cases hx
      exact ⟨m, trivial, Cs.one rfl (.bl _)⟩
    · cases hok
  | n + 1, .str, t, cs, d, ps, hok, h, hb => by
    unfold tyOk at hok; split at hok
    · rename_i hu
      obtain ⟨s, rfl, hx, hw⟩ := DataW.trod_string hu h
      cases hx
      have h1 : Rows.uptoBulk (DataW.lit (H := H) (.string s.data.toList)) = s.size + 1 := by simp only [Rows.uptoBulk]; rw [Array.length_toList]; rfl
      rw [h1] at hb
      refine ⟨s, ?_, Cs.one rfl (.v _)⟩
      show s.size ≤ 1048576
      omega
    · cases hok
  | n + 1, .st ss, t, cs, d, ps, hok, h, hb => by
    unfold tyOk at hok; split at hok
    · rename_i fs hu
      simp only [Bool.and_eq_true, decide_eq_true_eq] at hok
      obtain ⟨xs, n', hn, hx, hl, hxl, hf⟩ := DataW.trod_struct hu h
      cases hn
      simp only [Prod.mk.injEq] at hx
      obtain ⟨rfl, rfl⟩ := hx
      simp only [Rows.uptoBulk] at hb
      obtain ⟨l, h1, h3⟩ := opens_fields (opens hbig n) ss fs.toList 0 cs xs hok.1 (by rw [hl]; exact hok.2) (by simpa using hxl) (fun i f hi => by rw [Nat.sub_zero]; exact hf i f (by simpa using hi)) (by omega)
      exact ⟨l, h1, h3⟩
    · cases hok
  | n + 1, .sl e, t, cs, d, ps, hok, h, hb => by
    unfold tyOk at hok; split at hok
    · rename_i u hu
      simp only [Bool.and_eq_true, decide_eq_true_eq] at hok
      obtain ⟨⟨hok, hc⟩, hpos⟩ := hok
      rcases DataW.trod_slice hu h with ⟨rfl, hx⟩ | ⟨a, len, cap, elems, rest, n', hn, rfl, hx, _, hlc, hm, hlen, hel, _, _⟩
      · cases hx
        refine ⟨([] : List e.den), ⟨by simp, by simp⟩, ?_⟩
        refine Cs.one rfl (.tree e [] none 0 0 0 0 (fun _ _ => .bool false) rfl (by simp) (by simp) (by simp) (by simp) (by simp) (by simp))
      · cases hn
        simp only [Prod.mk.injEq] at hx
        obtain ⟨rfl, rfl⟩ := hx
        simp only [Rows.uptoBulk] at hb
        have hlb : len ≤ 1048576 := by
          have := bulk_len (elems.map (·.1)); rw [List.length_map, hlen] at this; omega
        have hone : ∀ i : Nat, i < len → ∃ (x : e.den) (cs' : List Value), e.fit x ∧ w.cells? 0 (a.add (i * e.n)) e.n = some cs' ∧ Cs w (e.enc x) cs' := by
          intro i hi
          have h1 := hel i hi
          obtain ⟨y, hy⟩ : ∃ y, elems[i]? = some y := ⟨elems[i]'(by omega), List.getElem?_eq_getElem _⟩
          rw [hy, hc] at h1
          obtain ⟨cs', h2, h3⟩ := Option.bind_eq_some_iff.1 h1
          have hy' : y.1 ∈ elems.map (·.1) := List.mem_map.2 ⟨y, List.mem_of_getElem? hy, rfl⟩
          have := bulk_part hy'
          obtain ⟨x, g1, g3⟩ := opens hbig n e u cs' y.1 y.2 hok h3 (by omega)
          exact ⟨x, cs', g1, h2, g3⟩
        classical
        let X : Nat → e.den := fun i => if hi : i < len then (hone i hi).choose else e.dflt
        have hX : ∀ i, i < len → ∃ cs' : List Value, e.fit (X i) ∧ w.cells? 0 (a.add (i * e.n)) e.n = some cs' ∧ Cs w (e.enc (X i)) cs' := fun i hi => by
          have := (hone i hi).choose_spec
          simpa only [X, dif_pos hi] using this
        let Y : Nat → List Value := fun i => if hi : i < len then (hX i hi).choose else []
        have hY : ∀ i, i < len → e.fit (X i) ∧ w.cells? 0 (a.add (i * e.n)) e.n = some (Y i) ∧ Cs w (e.enc (X i)) (Y i) := fun i hi => by
          have := (hX i hi).choose_spec
          simpa only [Y, dif_pos hi] using this
        have hln : ((List.range len).map X).length = len := by simp
        have hrow : ∀ k, k < len → rowT e ((List.range len).map X) k = e.enc (X k) := fun k hk => by
          simp [rowT, List.getD_eq_getElem?_getD, hk]
        have hspot : 0 < len → a.spot = none := fun hl0 => by
          obtain ⟨_, h2, _⟩ := hY 0 hl0
          obtain ⟨_, _, h3⟩ := World.cells?_some h2
          have h4 := h3 0 hpos
          obtain ⟨_, hlen3, _⟩ := World.cells?_some h2
          rw [List.getElem?_eq_getElem (by omega)] at h4
          unfold World.cell? at h4
          have h5 : (a.add (0 * e.n)).add 0 = a := by simp [Addr.add]
          rw [h5] at h4
          split at h4
          · split at h4
            · cases h4
            · rename_i hs; simpa using hs
          · cases h4
        have hcell : ∀ k j c, k < len → (e.enc (X k))[j]? = some c → ∃ x, (Y k)[j]? = some x ∧ w.cell? ⟨a.block, a.off + k * e.n + j, none⟩ = some x ∧ x.oneCell' = true ∧ Rt w (fun b => b < w.heap.size) c x := fun k j c hk hj => by
          obtain ⟨_, h2, h3⟩ := hY k hk
          obtain ⟨_, hl3, h4⟩ := World.cells?_some h2
          have hj2 : j < e.n := by rw [← hl3, ← h3.1]; exact (List.getElem?_eq_some_iff.1 hj).1
          have h5 := h4 j hj2
          have hs := hspot (by omega)
          obtain ⟨bl, off, sp⟩ := a
          simp only at hs
          subst hs
          have h6 : ((⟨bl, off, none⟩ : Addr).add (k * e.n)).add j = ⟨bl, off + k * e.n + j, none⟩ := by
            unfold Addr.add; split <;> split <;> simp_all
          rw [h6] at h5
          have h7 : (Y k)[j]? = some ((Y k)[j]'(by omega)) := List.getElem?_eq_getElem (by omega)
          rw [h7] at h5
          exact ⟨_, h7, h5, h3.2 j c _ hj h7⟩
        refine ⟨(List.range len).map X, ⟨by rw [hln]; exact hlb, fun x hx => ?_⟩, ?_⟩
        · obtain ⟨i, hi, rfl⟩ := List.mem_map.1 hx
          exact (hY i (List.mem_range.1 hi)).1
        · refine Cs.one rfl (.tree e _ (some a) len cap a.block a.off (fun k j => ((Y k)[j]?).getD (.bool false)) hln.symm (by rw [hln]; omega) (by rw [hln]; exact hlc) hm ?_ ?_ ?_)
          · intro hl0
            rw [hln] at hl0
            refine ⟨?_, ?_⟩
            · have := hspot hl0
              obtain ⟨bl, off, sp⟩ := a
              simp only at this; subst this; rfl
            · obtain ⟨_, h2, h3⟩ := hY 0 hl0
              have hl4 := (World.cells?_some h2).2.1
              have hc0 : (e.enc (X 0))[0]? = some ((e.enc (X 0))[0]'(by rw [h3.1]; omega)) := List.getElem?_eq_getElem _
              obtain ⟨_, _, h5, _⟩ := hcell 0 0 _ hl0 hc0
              unfold World.cell? at h5
              split at h5
              · rename_i hh; exact (Array.getElem?_eq_some_iff.1 hh).1
              · cases h5
          · intro k j c hk hj
            rw [hln] at hk
            rw [hrow k hk] at hj
            obtain ⟨x, h1, h2, h3, _⟩ := hcell k j c hk hj
            simp only [h1]
            exact ⟨h2, h3⟩
          · intro k j c hk hj
            rw [hln] at hk
            rw [hrow k hk] at hj
            obtain ⟨x, h1, _, _, h4⟩ := hcell k j c hk hj
            simp only [h1]
            exact h4
    · cases hok
end
/-- A value of the type. -/
def Ty.av (t : Ty) (x : t.den) : AV :=
  match t, x with
  | .int k, n => .v (.int k n)
  | .bool, b => .bl b
  | .str, s => .v (.string s)
  | .st fs, x => .agg (Ty.encs fs x)
  | .sl e, xs => .tree e xs
def Ty.avs : (ts : List Ty) → Ty.dens ts → List AV
  | [], _ => []
  | t :: ts, x => t.av x.1 :: Ty.avs ts x.2
theorem avs_length : ∀ (ts : List Ty) (x : Ty.dens ts), (Ty.avs ts x).length = ts.length
  | [], _ => rfl
  | t :: ts, x => by simp [Ty.avs, avs_length ts]
def tyTop (P : Program) : List Ty → List TypeId → Bool
  | [], [] => true
  | s :: ss, t :: ts => tyOk P s t && tyTop P ss ts
  | _, _ => false

section
variable {H : Type} {enc : TypeId × Value → H} {P : Program}
theorem cells1 {w : World} {c : AV} {x y : Value} (hx : x.cells.toList = [y]) (hxy : x = y) (h : Cs w [c] x.cells.toList) : Rt w (fun b => b < w.heap.size) c x := by
  rw [hx] at h; rw [hxy]; exact (h.2 0 c y rfl rfl).2

theorem open_top {W : World} {base : Nat} {spare : Nat → Bool} {held : Bool} {r : Reach} {sh : Ty} {t : TypeId} {v : Value} {d : DataW H} {ps : List MemPlace} (hok : tyOk P sh t = true) (hval : Value.okWide P W r base t v)
    (h : DataW.Trod enc P W 0 spare held t v d ps) (hb : Rows.uptoBulk d ≤ 1048576) : ∃ x : sh.den, sh.fit x ∧ Rt W (fun b => b < W.heap.size) (sh.av x) v := by
  obtain ⟨n, hn⟩ := h
  obtain ⟨x, h1, h3⟩ := opens (by decide) n sh t _ d ps hok hn hb
  refine ⟨x, h1, ?_⟩
  cases sh with
  | int k =>
    unfold tyOk at hok; split at hok
    · rename_i k' hu
      obtain ⟨m', rfl⟩ := okWide_int hu hval
      exact cells1 rfl rfl h3
    · cases hok
  | bool =>
    unfold tyOk at hok; split at hok
    · rename_i hu
      obtain ⟨m', rfl⟩ := okWide_bool hu hval
      exact cells1 rfl rfl h3
    · cases hok
  | str =>
    unfold tyOk at hok; split at hok
    · rename_i hu
      obtain ⟨m', rfl⟩ := okWide_string hu hval
      exact cells1 rfl rfl h3
    · cases hok
  | sl e =>
    unfold tyOk at hok; split at hok
    · rename_i hu
      obtain ⟨a, len, cap, rfl⟩ := okWide_slice hu hval
      exact cells1 rfl rfl h3
    · cases hok
  | st ss =>
    unfold tyOk at hok; split at hok
    · rename_i hu
      obtain ⟨cs, rfl, _⟩ := okWide_struct hu hval
      have h4 : (Value.agg cs).cells.toList = cs.toList := rfl
      rw [h4] at h3
      refine .agg _ cs (by rw [← Array.length_toList]; exact h3.1.symm) fun i c x e1 e2 => (h3.2 i c x e1 (by simpa using e2)).2
    · cases hok

theorem open_all {W : World} {base : Nat} {spare : Nat → Bool} {held : Bool} {r : Reach} : ∀ {ss : List Ty} {ts : List TypeId} {vs : List Value} {ds : List (DataW H)} {ps : List MemPlace}, tyTop P ss ts = true →
    (∀ (j : Nat) t v, ts[j]? = some t → vs[j]? = some v → Value.okWide P W r base t v) → DataW.TrodAll enc P W 0 spare held ts vs ds ps → Rows.uptoBulkAll ds ≤ 1048576 →
    ∃ xs : Ty.dens ss, Ty.fits ss xs ∧ vs.length = ss.length ∧ ds.length = ts.length ∧ ∀ (i : Nat) (c : AV) (v : Value), (Ty.avs ss xs)[i]? = some c → vs[i]? = some v → Rt W (fun b => b < W.heap.size) c v
  | [], [], vs, ds, ps, _, _, h, _ => by
    obtain ⟨rfl, rfl, rfl⟩ := trodAll_nil h
    exact ⟨(), trivial, rfl, rfl, by simp [Ty.avs]⟩
  | s :: ss, t :: ts, vs, ds, ps, hok, hval, h, hb => by
    obtain ⟨v, vs, d, ds, p, q, rfl, rfl, rfl, h0, h1⟩ := trodAll_cons h
    simp only [tyTop, Bool.and_eq_true] at hok
    simp only [Rows.uptoBulkAll] at hb
    obtain ⟨x, g1, g3⟩ := open_top hok.1 (hval 0 t v rfl rfl) h0 (by omega)
    obtain ⟨xs, k1, k3, k4, k5⟩ := open_all hok.2 (fun j t v e1 e2 => hval (j + 1) t v (by simpa using e1) (by simpa using e2)) h1 (by omega)
    refine ⟨(x, xs), ⟨g1, k1⟩, by simp [k3], by simp [k4], fun i y u e1 e2 => ?_⟩
    cases i with
    | zero => simp [Ty.avs] at e1 e2; subst e1 e2; exact g3
    | succ i => exact k5 i y u (by simpa [Ty.avs] using e1) (by simpa using e2)
  | [], _ :: _, _, _, _, hok, _, _, _ => by simp [tyTop] at hok
  | _ :: _, [], _, _, _, hok, _, _, _ => by simp [tyTop] at hok

theorem trodAll_stays (hl : laidOutB P = true) {W W' : World} (hb : Below W.heap.size W W') : ∀ {ts : List TypeId} {vs : List Value} {ds : List (DataW H)} {ps : List MemPlace},
    (ts.all fun t => P.readableRec t && decide (t < P.types.size)) = true → DataW.TrodAll enc P W 0 (fun _ => true) true ts vs ds ps → (∀ x ∈ ps, x.block < W.heap.size) → DataW.TrodAll enc P W' 0 (fun b => decide (b < W.heap.size)) true ts vs ds ps
  | [], vs, ds, ps, _, h, _ => by
    obtain ⟨rfl, rfl, rfl⟩ := trodAll_nil h
    rfl
  | t :: ts, vs, ds, ps, ht, h, hlt => by
    obtain ⟨v, vs, d, ds, p, q, rfl, rfl, rfl, h0, h1⟩ := trodAll_cons h
    simp only [List.all_cons, Bool.and_eq_true, decide_eq_true_eq] at ht
    exact ⟨p, q, Below.trod hl ht.1.1 ht.1.2 h0 hb (fun x hx => hlt x (by simp [hx])), trodAll_stays hl hb ht.2 h1 (fun x hx => hlt x (by simp [hx])), rfl⟩

theorem post_of_true {fn : Func} {s : ChangeSpec} {W W' : World} {args : Array Value} {ds gs : List (DataW H)} {before : List MemPlace} {tb : TypeId} (hW : DataW.Whole enc P fn.params.toList s.vars false W args.toList ds gs before)
    (hvs : s.vars = []) (hl : laidOutB P = true) (hrr : (fn.params.toList.all fun t => P.readableRec t && decide (t < P.types.size)) = true) (hrt : fn.resultTypes = #[tb]) (hub : P.underlying tb = some .bool)
    (hfn : s.fn H (ds ++ gs) = { results := [.lit (.bool true)], args := ds }) (hk : Below W.heap.size W W') : s.post enc P fn false true false false W args (.bool true) W' := by
  have hlt := hW.lt
  have hW' := hW
  obtain ⟨p, q, hA, hV, rfl, hfz, hnd⟩ := hW
  rw [hvs] at hV
  obtain ⟨rfl, rfl⟩ := trodVars_none hV
  refine ⟨ds, [], p ++ [], [], p, [], hW', ?_, ?_, ?_, hk.frame _, fun h => by cases h⟩
  · rw [hfn, hrt]
    exact trodAll_mk1 (shut_bool hub true)
  · rw [hfn]
    exact trodAll_stays hl hk hrr hA (fun x hx => hlt x (by simp [hx]))
  · rw [hfn, hvs]; rfl


theorem law_upto {f : FuncId} {fn : Func} {s : ChangeSpec} {shs : List Ty} {tb : TypeId} (hvs : s.vars = []) (hl : laidOutB P = true) (hrr : (fn.params.toList.all fun t => P.readableRec t && decide (t < P.types.size)) = true) (hrt : fn.resultTypes = #[tb])
    (hub : P.underlying tb = some .bool) (hfn : ∀ ds : List (DataW H), ds.length = fn.params.toList.length → s.fn H (ds ++ []) = { results := [.lit (.bool true)], args := ds }) (hsh : tyTop P shs fn.params.toList = true)
    (hspec : ∀ xs : Ty.dens shs, Ty.fits shs xs → Spec P f (Ty.avs shs xs) [] (.bl true) [])
    (W : World) (base : Nat) (args : Array Value) (ds gs : List (DataW H)) (before : List MemPlace) (hval : ∀ (j : Nat) t v, fn.params[j]? = some t → args[j]? = some v → Value.okWide P W .any base t v)
    (hW : DataW.Whole enc P fn.params.toList s.vars false W args.toList ds gs before) (hb : Rows.uptoBulkAll (ds ++ gs) ≤ 1048576)
    (GB : Nat → Prop) (hGB : ∀ b, GB b → b < W.heap.size) (hLw : Lw GB W) :
    Calls P f args W fun e W' => ∃ v, e = .returned v ∧ s.post enc P fn false true false false W args v W' := by
  have hW' := hW
  obtain ⟨p, q, hA, hV, rfl, hfz, hnd⟩ := hW
  rw [hvs] at hV
  obtain ⟨rfl, rfl⟩ := trodVars_none hV
  rw [List.append_nil] at hb
  obtain ⟨xs, h1, h3, h4, h5⟩ := open_all hsh (fun j t v e1 e2 => hval j t v (by simpa using e1) (by simpa using e2)) hA hb
  refine (hspec xs h1 W GB (fun _ => ⟨0, 0, 0, .bool false, noSub⟩) (fun _ => True) args hLw (fun b hb => ⟨hGB b hb, fun ⟨id, lb, e, _⟩ => by simp at e, trivial⟩) ?_ (by rw [avs_length, ← h3]; simp) ?_).mono ?_
  · exact ⟨fun i j li lj e => by simp at e, fun id lb e => by simp at e, fun id lb e => by simp at e⟩
  · intro i c x e1 e2
    exact .imm _ _ ((h5 i c x e1 (by simpa using e2)).mono fun b hb => ⟨⟨.inl trivial, hb, fun id lb e => by simp at e⟩, rfl⟩)
  · rintro e W1 ⟨x, V', rfl, hk, _, _, _, hr⟩
    have := b_inv (c := .bl true) rfl hr
    subst this
    refine ⟨_, rfl, post_of_true hW' hvs hl hrr hrt hub (hfn ds h4) ?_⟩
    exact ⟨hk.os, hk.tape, hk.output, hk.size, fun k hk' => hk.block k hk' fun hm => by simp [blkOf] at hm⟩
end
end Go.Proofs.YtpmmaohaahbphaaDoor
