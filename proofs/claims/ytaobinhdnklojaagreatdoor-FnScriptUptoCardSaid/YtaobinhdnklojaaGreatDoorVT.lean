/-
  Plain laws, carried over from texts of other seats.
-/
import Derived.Test.YtaobinhdnklojaaGreatDoorRows
import Derived.Test.YtaobinhdnklojaaGreatDoorX0
import Derived.WalkKit
import Derived.ProofKit
import Derived.OpenShut
import Derived.JoinedCond
import Derived.Deep.Slices
import Derived.Test.YtaobinhdnklojaaGreatDoorC803
import Derived.Test.YtaobinhdnklojaaGreatDoorE846
namespace Go.Proofs.YtaobinhdnklojaaGreatDoor
open Go.ChangeShapes Go.WideShapes Go.ChangeAt Go.RowKit

mutual
def tyOk (P : Program) : Ty → TypeId → Bool
 | .int k, t => match P.underlying t with | some (.int k') => decide (k' = k) | _ => false
 | .bool, t => match P.underlying t with | some .bool => true | _ => false
 | .str, t => match P.underlying t with | some .string => true | _ => false
 | .st ss, t => match P.underlying t with | some (.struct fs) => tysOk P ss fs.toList 0 && decide (P.cellsOf t = Ty.ns ss) | _ => false
 | .sl e, t => match P.underlying t with | some (.slice u) => tyOk P e u && decide (P.cellsOf u = e.n) && decide (0 < e.n) | _ => false
def tysOk (P : Program) : List Ty → List Field → Nat → Bool
 | [], [], _ => true
 | s :: ss, f :: fs, o => decide (f.offset = o) && decide (P.cellsOf f.type = s.n) && tyOk P s f.type && tysOk P ss fs (o + s.n)
 | _, _, _ => false
end
mutual
def Ty.fit : (t : Ty) → t.den → Prop
 | .int k, (n : Int) => k.min ≤ n ∧ n ≤ k.max
 | .bool, _ => True
 | .str, s => ByteArray.size s ≤ 1048576
 | .st fs, x => Ty.fits fs x
 | .sl e, (xs : List e.den) => xs.length ≤ 1048576 ∧ ∀ x ∈ xs, Ty.fit e x
def Ty.fits : (ts : List Ty) → Ty.dens ts → Prop
 | [], _ => True
 | t :: ts, x => Ty.fit t x.1 ∧ Ty.fits ts x.2
end
def Cs (w : World) (l : List AV) (cs : List Value) : Prop := l.length = cs.length ∧ ∀ (i : Nat) (c : AV) (x : Value), l[i]? = some c → cs[i]? = some x → x.oneCell' = true ∧ Rt w (fun b => b < w.heap.size) c x
theorem Cs.append {w : World} {l l' : List AV} {cs cs' : List Value} (h : Cs w l cs) (h' : Cs w l' cs') : Cs w (l ++ l') (cs ++ cs') := by
 refine ⟨by simp [h.1, h'.1], fun i c x h1 h2 => ?_⟩
 by_cases hi : i < l.length
 ·rw [List.getElem?_append_left hi] at h1
  rw [List.getElem?_append_left (by rw [← h.1]; exact hi)] at h2
  exact h.2 i c x h1 h2
 ·rw [List.getElem?_append_right (by omega)] at h1
  rw [List.getElem?_append_right (by rw [← h.1]; omega), ← h.1] at h2
  exact h'.2 _ c x h1 h2
theorem Cs.one {w : World} {c : AV} {x : Value} (hx : x.oneCell' = true) (h : Rt w (fun b => b < w.heap.size) c x) : Cs w [c] [x] := by
 refine ⟨rfl, fun i c' x' h1 h2 => ?_⟩
 cases i with
 | zero => simp at h1 h2; subst h1 h2; exact ⟨hx, h⟩
 | succ i => simp at h1
theorem Cs.nil {w : World} : Cs w [] [] := ⟨rfl, fun i c x h1 => by simp at h1⟩

section
variable {H : Type} {enc : TypeId × Value → H} {P : Program} {w : World} {spare : Nat → Bool} {held : Bool}
theorem bulk_part {d : DataW H} : ∀ {l : List (DataW H)}, d ∈ l → Rows.uptoBulk d ≤ Rows.uptoBulkAll l
 | x :: r, h => by
   simp only [Rows.uptoBulkAll]
   rcases List.mem_cons.1 h with e | e
   ·subst e; omega
   ·have := bulk_part e; omega
theorem bulk_pos (d : DataW H) : 1 ≤ Rows.uptoBulk d := by
 cases d with
 | lit l => cases l <;> simp [Rows.uptoBulk]
 | _ => simp [Rows.uptoBulk]
theorem bulk_len : ∀ (l : List (DataW H)), l.length ≤ Rows.uptoBulkAll l
 | [] => by simp
 | x :: r => by have := bulk_pos x; have := bulk_len r; simp only [Rows.uptoBulkAll, List.length_cons]; omega

def OpensAt (enc : TypeId × Value → H) (P : Program) (w : World) (spare : Nat → Bool) (held : Bool) (n : Nat) : Prop :=
 ∀ (sh : Ty) (t : TypeId) (cs : List Value) (d : DataW H) (ps : List MemPlace), tyOk P sh t = true → DataW.trod enc P w 0 spare held n t cs = some (d, ps) → Rows.uptoBulk d ≤ 1048576 →
   ∃ x : sh.den, sh.fit x ∧ Cs w (sh.enc x) cs
theorem of1 {n : Nat} (ih : OpensAt enc P w spare held n) : ∀ (ss : List Ty) (fs : List Field) (o : Nat) (cs : List Value) (xs : List (DataW H × List MemPlace)), tysOk P ss fs o = true → cs.length = Ty.ns ss →
  xs.length = fs.length → (∀ (i : Nat) (f : Field), fs[i]? = some f → DataW.trod enc P w 0 spare held n f.type ((cs.drop (f.offset - o)).take (P.cellsOf f.type)) = xs[i]?) → Rows.uptoBulkAll (xs.map (·.1)) ≤ 1048576 →
  ∃ l : Ty.dens ss, Ty.fits ss l ∧ Cs w (Ty.encs ss l) cs
 | [], [], o, cs, xs, _, hl, hx, _, _ => by
   have : cs = [] := by simpa [Ty.ns] using hl
   subst this
   exact ⟨(), by simp [Ty.fits], by simpa [Ty.encs] using Cs.nil⟩
 | s :: ss, f :: fs, o, cs, x :: xs, hok, hl, hx, hf, hb => by
   simp only [tysOk, Bool.and_eq_true, decide_eq_true_eq] at hok
   obtain ⟨⟨⟨ho, hc⟩, hs⟩, hss⟩ := hok
   simp only [Ty.ns] at hl
   simp only [List.map_cons, Rows.uptoBulkAll] at hb
   have h0 := hf 0 f rfl
   rw [ho, hc, Nat.sub_self, List.drop_zero] at h0
   obtain ⟨d, h1, h3⟩ := ih s f.type (cs.take s.n) x.1 x.2 hs h0 (by omega)
   obtain ⟨l, g1, g3⟩ := of1 ih ss fs (o + s.n) (cs.drop s.n) xs hss (by rw [List.length_drop]; omega) (by simpa using hx) (fun i g hg => by
    have h4 := hf (i + 1) g (by simpa using hg)
    have h5 : o + s.n ≤ g.offset := shs_off hss i g hg
    rw [List.drop_drop, show s.n + (g.offset - (o + s.n)) = g.offset - o by omega]
    simpa using h4) (by omega)
   refine ⟨(d, l), ⟨h1, g1⟩, ?_⟩
   have := h3.append g3
   rw [List.take_append_drop] at this
   exact this
 | [], _ :: _, o, cs, xs, hok, _, _, _, _ => by simp [tysOk] at hok
 | _ :: _, [], o, cs, xs, hok, _, _, _, _ => by simp [tysOk] at hok
 | _ :: _, _ :: _, o, cs, [], _, _, hx, _, _ => by simp at hx
where
 shs_off {P : Program} : ∀ {ss : List Ty} {fs : List Field} {o : Nat}, tysOk P ss fs o = true → ∀ (i : Nat) (f : Field), fs[i]? = some f → o ≤ f.offset
 | _, [], o, _, i, f, h => by simp at h
 | [], _ :: _, o, hok, i, f, h => by simp [tysOk] at hok
 | s :: ss, g :: fs, o, hok, i, f, h => by
   simp only [tysOk, Bool.and_eq_true, decide_eq_true_eq] at hok
   cases i with
   | zero => simp at h; subst h; omega
   | succ i => have := shs_off hok.2 i f (by simpa using h); omega

theorem opens (hbig : 1048576 ≤ bL) : ∀ n, OpensAt enc P w spare held n
 | 0, _, _, _, _, _, _, h, _ => by simp [DataW.trod] at h
 | n + 1, .int k, t, cs, d, ps, hok, h, hb => by
   unfold tyOk at hok; split at hok
   ·rename_i k' hu
    obtain rfl := of_decide_eq_true hok
    obtain ⟨m, rfl, hx, hw⟩ := DataW.trod_int hu h
    cases hx
    refine ⟨m, ?_, Cs.one rfl (.v _)⟩
    show k'.min ≤ m ∧ m ≤ k'.max
    simpa [Lit.wf] using hw
   ·cases hok
 | n + 1, .bool, t, cs, d, ps, hok, h, hb => by
   unfold tyOk at hok; split at hok
   ·rename_i hu
    obtain ⟨m, rfl, hx⟩ := DataW.trod_bool hu h
    cases hx
    exact ⟨m, trivial, Cs.one rfl (.bl _)⟩
   ·cases hok
 | n + 1, .str, t, cs, d, ps, hok, h, hb => by
   unfold tyOk at hok; split at hok
   ·rename_i hu
    obtain ⟨s, rfl, hx, hw⟩ := DataW.trod_string hu h
    cases hx
    have h1 : Rows.uptoBulk (DataW.lit (H := H) (.string s.data.toList)) = s.size + 1 := by simp only [Rows.uptoBulk]; rw [Array.length_toList]; rfl
    rw [h1] at hb
    refine ⟨s, ?_, Cs.one rfl (.v _)⟩
    show s.size ≤ 1048576
    omega
   ·cases hok
 | n + 1, .st ss, t, cs, d, ps, hok, h, hb => by
   unfold tyOk at hok; split at hok
   ·rename_i fs hu
    simp only [Bool.and_eq_true, decide_eq_true_eq] at hok
    obtain ⟨xs, n', hn, hx, hl, hxl, hf⟩ := DataW.trod_struct hu h
    cases hn
    simp only [Prod.mk.injEq] at hx
    obtain ⟨rfl, rfl⟩ := hx
    simp only [Rows.uptoBulk] at hb
    obtain ⟨l, h1, h3⟩ := of1 (opens hbig n) ss fs.toList 0 cs xs hok.1 (by rw [hl]; exact hok.2) (by simpa using hxl) (fun i f hi => by rw [Nat.sub_zero]; exact hf i f (by simpa using hi)) (by omega)
    exact ⟨l, h1, h3⟩
   ·cases hok
 | n + 1, .sl e, t, cs, d, ps, hok, h, hb => by
   unfold tyOk at hok; split at hok
   ·rename_i u hu
    simp only [Bool.and_eq_true, decide_eq_true_eq] at hok
    obtain ⟨⟨hok, hc⟩, hpos⟩ := hok
    rcases DataW.trod_slice hu h with ⟨rfl, hx⟩ | ⟨a, len, cap, elems, rest, n', hn, rfl, hx, _, hlc, hm, hlen, hel, _, _⟩
    ·cases hx
     refine ⟨([] : List e.den), ⟨by simp, by simp⟩, ?_⟩
     refine Cs.one rfl (.tree e [] none 0 0 0 0 (fun _ _ => .bool false) rfl (by simp) (by simp) (by simp) (by simp) (by simp) (by simp))
    ·cases hn
     simp only [Prod.mk.injEq] at hx
     obtain ⟨rfl, rfl⟩ := hx
     simp only [Rows.uptoBulk] at hb
     have hlb : len ≤ 1048576 := by
      have := bulk_len (elems.map (·.1)); rw [List.length_map, hlen] at this; omega
     have hone : ∀ i : Nat, i < len → ∃ (x : e.den) (cs' : List Value), e.fit x ∧ w.cells? 0 (a.add (i * e.n)) e.n = some cs' ∧ Cs w (e.enc x) cs' := by
      intro i hi
      have h1 := hel i hi
      obtain ⟨y, hy⟩ : ∃ y, elems[i]? = some y := ⟨elems[i]'(by omega), List.getElem?_eq_getElem _⟩
      rw [hy, hc] at h1
      obtain ⟨cs', h2, h3⟩ := Option.bind_eq_some_iff.1 h1
      have hy' : y.1 ∈ elems.map (·.1) := List.mem_map.2 ⟨y, List.mem_of_getElem? hy, rfl⟩
      have := bulk_part hy'
      obtain ⟨x, g1, g3⟩ := opens hbig n e u cs' y.1 y.2 hok h3 (by omega)
      exact ⟨x, cs', g1, h2, g3⟩
     classical
     let X : Nat → e.den := fun i => if hi : i < len then (hone i hi).choose else e.dflt
     have hX : ∀ i, i < len → ∃ cs' : List Value, e.fit (X i) ∧ w.cells? 0 (a.add (i * e.n)) e.n = some cs' ∧ Cs w (e.enc (X i)) cs' := fun i hi => by
      have := (hone i hi).choose_spec
      simpa only [X, dif_pos hi] using this
     let Y : Nat → List Value := fun i => if hi : i < len then (hX i hi).choose else []
     have hY : ∀ i, i < len → e.fit (X i) ∧ w.cells? 0 (a.add (i * e.n)) e.n = some (Y i) ∧ Cs w (e.enc (X i)) (Y i) := fun i hi => by
      have := (hX i hi).choose_spec
      simpa only [Y, dif_pos hi] using this
     have hln : ((List.range len).map X).length = len := by simp
     have hrow : ∀ k, k < len → rowT e ((List.range len).map X) k = e.enc (X k) := fun k hk => by
      simp [rowT, List.getD_eq_getElem?_getD, hk]
     have hspot : 0 < len → a.spot = none := fun hl0 => by
      obtain ⟨_, h2, _⟩ := hY 0 hl0
      obtain ⟨_, _, h3⟩ := World.cells?_some h2
      have h4 := h3 0 hpos
      obtain ⟨_, hlen3, _⟩ := World.cells?_some h2
      rw [List.getElem?_eq_getElem (by omega)] at h4
      unfold World.cell? at h4
      have h5 : (a.add (0 * e.n)).add 0 = a := by simp [Addr.add]
      rw [h5] at h4
      split at h4
      ·split at h4
       ·cases h4
       ·rename_i hs; simpa using hs
      ·cases h4
     have hcell : ∀ k j c, k < len → (e.enc (X k))[j]? = some c → ∃ x, (Y k)[j]? = some x ∧ w.cell? ⟨a.block, a.off + k * e.n + j, none⟩ = some x ∧ x.oneCell' = true ∧ Rt w (fun b => b < w.heap.size) c x := fun k j c hk hj => by
      obtain ⟨_, h2, h3⟩ := hY k hk
      obtain ⟨_, hl3, h4⟩ := World.cells?_some h2
      have hj2 : j < e.n := by rw [← hl3, ← h3.1]; exact (List.getElem?_eq_some_iff.1 hj).1
      have h5 := h4 j hj2
      have hs := hspot (by omega)
      obtain ⟨bl, off, sp⟩ := a
      simp only at hs
      subst hs
      have h6 : ((⟨bl, off, none⟩ : Addr).add (k * e.n)).add j = ⟨bl, off + k * e.n + j, none⟩ := by
       unfold Addr.add; split <;> split <;> simp_all
      rw [h6] at h5
      have h7 : (Y k)[j]? = some ((Y k)[j]'(by omega)) := List.getElem?_eq_getElem (by omega)
      rw [h7] at h5
      exact ⟨_, h7, h5, h3.2 j c _ hj h7⟩
     refine ⟨(List.range len).map X, ⟨by rw [hln]; exact hlb, fun x hx => ?_⟩, ?_⟩
     ·obtain ⟨i, hi, rfl⟩ := List.mem_map.1 hx
      exact (hY i (List.mem_range.1 hi)).1
     ·refine Cs.one rfl (.tree e _ (some a) len cap a.block a.off (fun k j => ((Y k)[j]?).getD (.bool false)) hln.symm (by rw [hln]; omega) (by rw [hln]; exact hlc) hm ?_ ?_ ?_)
      ·intro hl0
       rw [hln] at hl0
       refine ⟨?_, ?_⟩
       ·have := hspot hl0
        obtain ⟨bl, off, sp⟩ := a
        simp only at this; subst this; rfl
       ·obtain ⟨_, h2, h3⟩ := hY 0 hl0
        have hl4 := (World.cells?_some h2).2.1
        have hc0 : (e.enc (X 0))[0]? = some ((e.enc (X 0))[0]'(by rw [h3.1]; omega)) := List.getElem?_eq_getElem _
        obtain ⟨_, _, h5, _⟩ := hcell 0 0 _ hl0 hc0
        unfold World.cell? at h5
        split at h5
        ·rename_i hh; exact (Array.getElem?_eq_some_iff.1 hh).1
        ·cases h5
      ·intro k j c hk hj
       rw [hln] at hk
       rw [hrow k hk] at hj
       obtain ⟨x, h1, h2, h3, _⟩ := hcell k j c hk hj
       simp only [h1]
       exact ⟨h2, h3⟩
      ·intro k j c hk hj
       rw [hln] at hk
       rw [hrow k hk] at hj
       obtain ⟨x, h1, _, _, h4⟩ := hcell k j c hk hj
       simp only [h1]
       exact h4
   ·cases hok
end
def Ty.av (t : Ty) (x : t.den) : AV :=
 match t, x with
 | .int k, n => .v (.int k n)
 | .bool, b => .bl b
 | .str, s => .v (.string s)
 | .st fs, x => .agg (Ty.encs fs x)
 | .sl e, xs => .tree e xs
def Ty.avs : (ts : List Ty) → Ty.dens ts → List AV
 | [], _ => []
 | t :: ts, x => t.av x.1 :: Ty.avs ts x.2
theorem avs_length : ∀ (ts : List Ty) (x : Ty.dens ts), (Ty.avs ts x).length = ts.length
 | [], _ => rfl
 | t :: ts, x => by simp [Ty.avs, avs_length ts]
def tyTop (P : Program) : List Ty → List TypeId → Bool
 | [], [] => true
 | s :: ss, t :: ts => tyOk P s t && tyTop P ss ts
 | _, _ => false

section
variable {H : Type} {enc : TypeId × Value → H} {P : Program}
theorem cells1 {w : World} {c : AV} {x y : Value} (hx : x.cells.toList = [y]) (hxy : x = y) (h : Cs w [c] x.cells.toList) : Rt w (fun b => b < w.heap.size) c x := by
 rw [hx] at h; rw [hxy]; exact (h.2 0 c y rfl rfl).2

theorem open_top {W : World} {base : Nat} {spare : Nat → Bool} {held : Bool} {r : Reach} {sh : Ty} {t : TypeId} {v : Value} {d : DataW H} {ps : List MemPlace} (hok : tyOk P sh t = true) (hval : Value.okWide P W r base t v)
  (h : DataW.Trod enc P W 0 spare held t v d ps) (hb : Rows.uptoBulk d ≤ 1048576) : ∃ x : sh.den, sh.fit x ∧ Rt W (fun b => b < W.heap.size) (sh.av x) v := by
 obtain ⟨n, hn⟩ := h
 obtain ⟨x, h1, h3⟩ := opens (by decide) n sh t _ d ps hok hn hb
 refine ⟨x, h1, ?_⟩
 cases sh with
 | int k =>
   unfold tyOk at hok; split at hok
   ·rename_i k' hu
    obtain ⟨m', rfl⟩ := okWide_int hu hval
    exact cells1 rfl rfl h3
   ·cases hok
 | bool =>
   unfold tyOk at hok; split at hok
   ·rename_i hu
    obtain ⟨m', rfl⟩ := okWide_bool hu hval
    exact cells1 rfl rfl h3
   ·cases hok
 | str =>
   unfold tyOk at hok; split at hok
   ·rename_i hu
    obtain ⟨m', rfl⟩ := okWide_string hu hval
    exact cells1 rfl rfl h3
   ·cases hok
 | sl e =>
   unfold tyOk at hok; split at hok
   ·rename_i hu
    obtain ⟨a, len, cap, rfl⟩ := okWide_slice hu hval
    exact cells1 rfl rfl h3
   ·cases hok
 | st ss =>
   unfold tyOk at hok; split at hok
   ·rename_i hu
    obtain ⟨cs, rfl, _⟩ := okWide_struct hu hval
    have h4 : (Value.agg cs).cells.toList = cs.toList := rfl
    rw [h4] at h3
    refine .agg _ cs (by rw [← Array.length_toList]; exact h3.1.symm) fun i c x e1 e2 => (h3.2 i c x e1 (by simpa using e2)).2
   ·cases hok

theorem open_all {W : World} {base : Nat} {spare : Nat → Bool} {held : Bool} {r : Reach} : ∀ {ss : List Ty} {ts : List TypeId} {vs : List Value} {ds : List (DataW H)} {ps : List MemPlace}, tyTop P ss ts = true →
  (∀ (j : Nat) t v, ts[j]? = some t → vs[j]? = some v → Value.okWide P W r base t v) → DataW.TrodAll enc P W 0 spare held ts vs ds ps → Rows.uptoBulkAll ds ≤ 1048576 →
  ∃ xs : Ty.dens ss, Ty.fits ss xs ∧ vs.length = ss.length ∧ ds.length = ts.length ∧ ∀ (i : Nat) (c : AV) (v : Value), (Ty.avs ss xs)[i]? = some c → vs[i]? = some v → Rt W (fun b => b < W.heap.size) c v
 | [], [], vs, ds, ps, _, _, h, _ => by
   obtain ⟨rfl, rfl, rfl⟩ := trodAll_nil h
   exact ⟨(), trivial, rfl, rfl, by simp [Ty.avs]⟩
 | s :: ss, t :: ts, vs, ds, ps, hok, hval, h, hb => by
   obtain ⟨v, vs, d, ds, p, q, rfl, rfl, rfl, h0, h1⟩ := trodAll_cons h
   simp only [tyTop, Bool.and_eq_true] at hok
   simp only [Rows.uptoBulkAll] at hb
   obtain ⟨x, g1, g3⟩ := open_top hok.1 (hval 0 t v rfl rfl) h0 (by omega)
   obtain ⟨xs, k1, k3, k4, k5⟩ := open_all hok.2 (fun j t v e1 e2 => hval (j + 1) t v (by simpa using e1) (by simpa using e2)) h1 (by omega)
   refine ⟨(x, xs), ⟨g1, k1⟩, by simp [k3], by simp [k4], fun i y u e1 e2 => ?_⟩
   cases i with
   | zero => simp [Ty.avs] at e1 e2; subst e1 e2; exact g3
   | succ i => exact k5 i y u (by simpa [Ty.avs] using e1) (by simpa using e2)
 | [], _ :: _, _, _, _, hok, _, _, _ => by simp [tyTop] at hok
 | _ :: _, [], _, _, _, hok, _, _, _ => by simp [tyTop] at hok

theorem tAs (hl : laidOutB P = true) {W W' : World} (hb : Below W.heap.size W W') : ∀ {ts : List TypeId} {vs : List Value} {ds : List (DataW H)} {ps : List MemPlace},
  (ts.all fun t => P.readableRec t && decide (t < P.types.size)) = true → DataW.TrodAll enc P W 0 (fun _ => true) true ts vs ds ps → (∀ x ∈ ps, x.block < W.heap.size) → DataW.TrodAll enc P W' 0 (fun b => decide (b < W.heap.size)) true ts vs ds ps
 | [], vs, ds, ps, _, h, _ => by
   obtain ⟨rfl, rfl, rfl⟩ := trodAll_nil h
   rfl
 | t :: ts, vs, ds, ps, ht, h, hlt => by
   obtain ⟨v, vs, d, ds, p, q, rfl, rfl, rfl, h0, h1⟩ := trodAll_cons h
   simp only [List.all_cons, Bool.and_eq_true, decide_eq_true_eq] at ht
   exact ⟨p, q, Below.trod hl ht.1.1 ht.1.2 h0 hb (fun x hx => hlt x (by simp [hx])), tAs hl hb ht.2 h1 (fun x hx => hlt x (by simp [hx])), rfl⟩

theorem post_of_true {fn : Func} {s : ChangeSpec} {W W' : World} {args : Array Value} {ds gs : List (DataW H)} {before : List MemPlace} {tb : TypeId} (hW : DataW.Whole enc P fn.params.toList s.vars false W args.toList ds gs before)
  (hvs : s.vars = []) (hl : laidOutB P = true) (hrr : (fn.params.toList.all fun t => P.readableRec t && decide (t < P.types.size)) = true) (hrt : fn.resultTypes = #[tb]) (hub : P.underlying tb = some .bool)
  (hfn : s.fn H (ds ++ gs) = { results := [.lit (.bool true)], args := ds }) (hk : Below W.heap.size W W') : s.post enc P fn false true false false W args (.bool true) W' := by
 have hlt := hW.lt
 have hW' := hW
 obtain ⟨p, q, hA, hV, rfl, hfz, hnd⟩ := hW
 rw [hvs] at hV
 obtain ⟨rfl, rfl⟩ := trodVars_none hV
 refine ⟨ds, [], p ++ [], [], p, [], hW', ?_, ?_, ?_, hk.frame _, fun h => by cases h⟩
 ·rw [hfn, hrt]
  exact trodAll_mk1 (shut_bool hub true)
 ·rw [hfn]
  exact tAs hl hk hrr hA (fun x hx => hlt x (by simp [hx]))
 ·rw [hfn, hvs]; rfl


theorem law_upto {f : FuncId} {fn : Func} {s : ChangeSpec} {shs : List Ty} {tb : TypeId} (hvs : s.vars = []) (hl : laidOutB P = true) (hrr : (fn.params.toList.all fun t => P.readableRec t && decide (t < P.types.size)) = true) (hrt : fn.resultTypes = #[tb])
  (hub : P.underlying tb = some .bool) (hfn : ∀ ds : List (DataW H), ds.length = fn.params.toList.length → s.fn H (ds ++ []) = { results := [.lit (.bool true)], args := ds }) (hsh : tyTop P shs fn.params.toList = true)
  (hspec : ∀ xs : Ty.dens shs, Ty.fits shs xs → Spec P f (Ty.avs shs xs) [] (.bl true) [])
  (W : World) (base : Nat) (args : Array Value) (ds gs : List (DataW H)) (before : List MemPlace) (hval : ∀ (j : Nat) t v, fn.params[j]? = some t → args[j]? = some v → Value.okWide P W .any base t v)
  (hW : DataW.Whole enc P fn.params.toList s.vars false W args.toList ds gs before) (hb : Rows.uptoBulkAll (ds ++ gs) ≤ 1048576)
  (GB : Nat → Prop) (hGB : ∀ b, GB b → b < W.heap.size) (hLw : Lw GB W) :
  Calls P f args W fun e W' => ∃ v, e = .returned v ∧ s.post enc P fn false true false false W args v W' := by
 have hW' := hW
 obtain ⟨p, q, hA, hV, rfl, hfz, hnd⟩ := hW
 rw [hvs] at hV
 obtain ⟨rfl, rfl⟩ := trodVars_none hV
 rw [List.append_nil] at hb
 obtain ⟨xs, h1, h3, h4, h5⟩ := open_all hsh (fun j t v e1 e2 => hval j t v (by simpa using e1) (by simpa using e2)) hA hb
 refine (hspec xs h1 W GB (fun _ => ⟨0, 0, 0, .bool false⟩) (fun _ => True) args hLw (fun b hb => ⟨hGB b hb, fun ⟨id, lb, e, _⟩ => by simp at e, trivial⟩) ?_ (by rw [avs_length, ← h3]; simp) ?_).mono ?_
 ·exact ⟨fun i j li lj e => by simp at e, fun id lb e => by simp at e, fun id lb e => by simp at e⟩
 ·intro i c x e1 e2
  exact .imm _ _ ((h5 i c x e1 (by simpa using e2)).mono fun b hb => ⟨⟨.inl trivial, hb, fun id lb e => by simp at e⟩, rfl⟩)
 ·rintro e W1 ⟨x, V', rfl, hk, _, _, _, hr⟩
  have := b_inv (c := .bl true) rfl hr
  subst this
  refine ⟨_, rfl, post_of_true hW' hvs hl hrr hrt hub (hfn ds h4) ?_⟩
  exact ⟨hk.os, hk.tape, hk.output, hk.size, fun k hk' => hk.block k hk' fun hm => by simp [blkOf] at hm⟩
end
end Go.Proofs.YtaobinhdnklojaaGreatDoor
namespace Go.Proofs.YtaobinhdnklojaaGreatDoor
open Go.RowKit

theorem dv (d : Nat) (h : d < 10) : Lib.digitVal (UInt8.ofNat (48 + d)) = some d := by
 unfold Lib.digitVal
 rw [UInt8.toNat_ofNat', Nat.mod_eq_of_lt (by omega), if_pos (by omega)]
 congr 1; omega
theorem dFa (b : UInt8) : ∀ (l : List UInt8) (acc : Nat), Lib.decFrom acc (l ++ [b]) = (Lib.decFrom acc l).bind fun m => (Lib.digitVal b).map fun d => m * 10 + d
 | [], acc => by
   show (match Lib.digitVal b with | some d => Lib.decFrom (acc * 10 + d) [] | none => none) = (some acc).bind fun m => (Lib.digitVal b).map fun d => m * 10 + d
   cases Lib.digitVal b <;> rfl
 | c :: l, acc => by
   show (match Lib.digitVal c with | some d => Lib.decFrom (acc * 10 + d) (l ++ [b]) | none => none) = (match Lib.digitVal c with | some d => Lib.decFrom (acc * 10 + d) l | none => none).bind _
   cases Lib.digitVal c with
   | none => rfl
   | some d => exact dFa b l _
theorem dFd (n : Nat) : Lib.decFrom 0 (Lib.decDigits n) = some n := by
 induction n using Nat.strongRecOn with
 | ind n ih =>
   unfold Lib.decDigits
   split
   ·rename_i h
    show (match Lib.digitVal (UInt8.ofNat (48 + n)) with | some d => Lib.decFrom (0 * 10 + d) [] | none => none) = some n
    rw [dv n h]
    show some (0 * 10 + n) = some n
    congr 1; omega
   ·rename_i h
    rw [dFa, ih (n / 10) (by omega), Option.bind_some, dv _ (Nat.mod_lt _ (by omega)), Option.map_some]
    congr 1; omega
theorem dec_cons (n : Nat) : ∃ b r, Lib.decDigits n = b :: r ∧ 48 ≤ b.toNat ∧ b.toNat ≤ 57 := by
 cases h : Lib.decDigits n with
 | nil => have := dl2 n; rw [h] at this; simp at this
 | cons b r => exact ⟨b, r, rfl, dec_mem n b (by rw [h]; simp)⟩
theorem decNat_dec (n : Nat) : Lib.decNat (Lib.decDigits n) = some n := by
 obtain ⟨b, r, h, _⟩ := dec_cons n
 have h2 := dFd n
 unfold Lib.decNat
 rw [h] at h2 ⊢
 exact h2
theorem atoi_itoa (n : Int) : Lib.atoi (Lib.itoa n) = some n := by
 unfold Lib.itoa
 split
 ·rename_i h
  show Lib.atoi (45 :: Lib.decDigits n.natAbs) = _
  unfold Lib.atoi
  dsimp only
  rw [if_pos (show ((45 : UInt8) == 45) = true from rfl), decNat_dec, Option.map_some]
  congr 1; omega
 ·rename_i h
  obtain ⟨b, r, e, h1, h2⟩ := dec_cons n.toNat
  have h3 := decNat_dec n.toNat
  rw [e] at h3 ⊢
  have n45 : (b == 45) = false := by
   rw [beq_eq_false_iff_ne]; rintro rfl
   have : (45 : UInt8).toNat = 45 := rfl
   omega
  have n43 : (b == 43) = false := by
   rw [beq_eq_false_iff_ne]; rintro rfl
   have : (43 : UInt8).toNat = 43 := rfl
   omega
  unfold Lib.atoi
  dsimp only
  rw [if_neg (show ¬ ((b == 45) = true) by rw [n45]; simp), if_neg (show ¬ ((b == 43) = true) by rw [n43]; simp), h3, Option.map_some]
  congr 1; omega
theorem il (n : Int) (h : -999999 ≤ n ∧ n ≤ 999999) : (Lib.itoa n).length ≤ 7 ∧ 1 ≤ (Lib.itoa n).length := by
 unfold Lib.itoa
 split
 ·have := dl1 5 n.natAbs (by have : (10 : Nat) ^ (5 + 1) = 1000000 := by decide
                             omega)
  have := dl2 n.natAbs
  simp; omega
 ·have := dl1 5 n.toNat (by have : (10 : Nat) ^ (5 + 1) = 1000000 := by decide
                            omega)
  have := dl2 n.toNat
  omega
theorem parseI_itoa (n : Int) (h : -999999 ≤ n ∧ n ≤ 999999) : pI (bs (Lib.itoa n)) = (n, true) := by
 unfold pI
 rw [if_pos (by rw [bs1]; exact (il n h).1), lb1, atoi_itoa]
 dsimp only
 rw [if_pos ⟨h, rfl⟩]
theorem parseI_cases (l : List UInt8) : (∃ n : Int, (-999999 ≤ n ∧ n ≤ 999999) ∧ l = Lib.itoa n ∧ pI (bs l) = (n, true)) ∨ (pI (bs l) = (0, false) ∧ ∀ n : Int, -999999 ≤ n ∧ n ≤ 999999 → l ≠ Lib.itoa n) := by
 by_cases h : ∃ n : Int, (-999999 ≤ n ∧ n ≤ 999999) ∧ l = Lib.itoa n
 ·obtain ⟨n, hn, rfl⟩ := h
  exact .inl ⟨n, hn, rfl, parseI_itoa n hn⟩
 ·refine .inr ⟨?_, fun n hn e => h ⟨n, hn, e⟩⟩
  unfold pI
  split
  ·split
   ·rename_i n e
    rw [if_neg]
    rintro ⟨hn, e2⟩
    exact h ⟨n, hn, (bi.1 e2).symm⟩
   ·rfl
  ·rfl

theorem spl_app (c : UInt8) (a r : List UInt8) (h : c ∉ a) : spl c (a ++ c :: r) = a :: spl c r := by
 induction a with
 | nil => conv => lhs; unfold spl; 
          simp
 | cons b a ih =>
   simp only [List.mem_cons, not_or] at h
   have ih := ih h.2
   conv => lhs; rw [List.cons_append]; unfold spl
   rw [if_neg (fun e => h.1 e.symm), ih]
theorem spl_not (c : UInt8) (l : List UInt8) (h : c ∉ l) : spl c l = [l] := by
 induction l with
 | nil => rfl
 | cons b l ih =>
   simp only [List.mem_cons, not_or] at h
   have ih := ih h.2
   unfold spl
   rw [if_neg (fun e => h.1 e.symm), ih]
theorem splitK_spl (c : UInt8) : ∀ (k : Nat) (l : List UInt8), l.count c = k → Lib.splitK [c] 0 k l = spl c l
 | 0, l, h => by
   rw [spl_not c l (List.count_eq_zero.1 h)]; rfl
 | k + 1, l, h => by
   have hm : c ∈ l := List.count_pos_iff.1 (by omega)
   obtain ⟨r, e⟩ := bs4 c l hm
   have hi := io1 c l
   rw [if_pos hm] at hi
   have hcr : r.count c = k := by
    have h0 : (bef c l).count c = 0 := List.count_eq_zero.2 (bn c l)
    rw [e, List.count_append, List.count_cons_self, h0] at h
    omega
   have ih := splitK_spl c k r hcr
   unfold Lib.splitK
   rw [hi, if_neg (by simp)]
   have hd : l.drop (((bef c l).length : Int).toNat + [c].length) = r := by
    conv => lhs; rw [e]
    rw [ba1 c _ _ (bn c l), Int.toNat_natCast, ← List.drop_drop, List.drop_left]; rfl
   rw [hd, ih, Int.toNat_natCast, Nat.add_zero, bef_take]
   conv => rhs; rw [e]
   rw [spl_app c _ _ (bn c l)]
theorem map_bs (xs : List ByteArray) (ys : List (List UInt8)) (h : xs.map (·.data.toList) = ys) : xs = ys.map bs := by
 subst h
 rw [List.map_map]
 conv => lhs; rw [← List.map_id xs]
 exact List.map_congr_left fun x _ => (bs_list x).symm
theorem sBe (c : UInt8) (l : List UInt8) : splitB (bs l) (bs [c]) = (spl c l).map bs := by
 refine map_bs _ _ ?_
 unfold splitB
 rw [Lib.splitB_data, lb1, lb1]
 have e : Lib.countB (bs l) (bs [c]) = l.count c := by
  have h1 := Lib.count_one c l
  have h2 : Lib.countB (bs l) (bs [c]) = Lib.count l [c] := by
   show Lib.count (bs l).data.toList (bs [c]).data.toList = _
   rw [lb1, lb1]
  rw [h2, h1]
 rw [e]
 exact splitK_spl c _ l rfl
end Go.Proofs.YtaobinhdnklojaaGreatDoor
namespace Go.Proofs.YtaobinhdnklojaaGreatDoor
open Go.RowKit

theorem lIe (a lo hi : Int) : slI a lo hi = some (decide (lo ≤ a ∧ a ≤ hi)) := by
 unfold slI
 by_cases h : lo ≤ a
 ·rw [cd1 h]; simp [h]
 ·rw [cd h]; simp [h]
theorem we (a lo hi : Int) : iw a lo hi = some (decide (lo ≤ a ∧ a ≤ hi)) := by
 unfold iw
 by_cases h : lo ≤ a
 ·rw [cd1 h]; simp [h]
 ·rw [cd h]; simp [h]

theorem digs_get (d : Nat) (h : d < 10) : bsub (ByteArray.mk #[48, 49, 50, 51, 52, 53, 54, 55, 56, 57]) (d : Int) (w64 ((d : Int) + 1)) = bs [UInt8.ofNat (48 + d)] := by
 have : w64 ((d : Int) + 1) = ((d + 1 : Nat) : Int) := wn (by omega)
 rw [this, show (ByteArray.mk #[48, 49, 50, 51, 52, 53, 54, 55, 56, 57]) = bs [48, 49, 50, 51, 52, 53, 54, 55, 56, 57] from rfl, bb]
 have hd : d = 0 ∨ d = 1 ∨ d = 2 ∨ d = 3 ∨ d = 4 ∨ d = 5 ∨ d = 6 ∨ d = 7 ∨ d = 8 ∨ d = 9 := by omega
 rcases hd with rfl | rfl | rfl | rfl | rfl | rfl | rfl | rfl | rfl | rfl <;> rfl
theorem lNfe : ∀ (k n : Nat), n < 10 ^ k → n < 1000000000000000000 → slNf (k + 1) (n : Int) = some (bs (Lib.decDigits n))
 | 0, n, h, _ => by
   obtain rfl : n = 0 := by simpa using h
   rw [slNf1, cd (by omega), cd1 (by omega), gp1 ⟨by omega, by decide, by decide⟩]
   have := digs_get 0 (by omega)
   rw [show ((0 : Nat) : Int) = (0 : Int) from rfl] at this ⊢
   rw [this]
   unfold Lib.decDigits
   rw [dif_pos (by omega)]
 | k + 1, n, h, h18 => by
   rw [slNf1, cd (by omega)]
   by_cases h10 : n < 10
   ·have e : w64 ((n : Int) + 1) = ((n + 1 : Nat) : Int) := wn (by omega)
    have hs : (ByteArray.mk #[48, 49, 50, 51, 52, 53, 54, 55, 56, 57]).size = 10 := rfl
    rw [cd1 (by omega), gp1 ⟨by omega, by rw [e]; omega, by rw [e, hs]; omega⟩, digs_get n h10]
    unfold Lib.decDigits
    rw [dif_pos h10]
   ·have hq : n / 10 < 10 ^ k := by
     rw [Nat.div_lt_iff_lt_mul (by omega)]
     rw [Nat.pow_succ] at h; exact h
    have ih := lNfe k (n / 10) hq (by omega)
    have e1 : w64 (Int.tdiv (n : Int) 10) = ((n / 10 : Nat) : Int) := by
     rw [show Int.tdiv (n : Int) 10 = ((n / 10 : Nat) : Int) from by rw [show (10 : Int) = ((10 : Nat) : Int) from rfl, ← Int.ofNat_tdiv]]
     rw [wi (by omega) (by omega)]
    have e2 : Int.tmod (n : Int) 10 = ((n % 10 : Nat) : Int) := by rw [show (10 : Int) = ((10 : Nat) : Int) from rfl, ← Int.ofNat_tmod]
    have hlen : (Lib.decDigits (n / 10)).length ≤ 19 := dl1 18 (n / 10) (by omega)
    have hs : (ByteArray.mk #[48, 49, 50, 51, 52, 53, 54, 55, 56, 57]).size = 10 := rfl
    have e3 : w64 (((n % 10 : Nat) : Int) + 1) = ((n % 10 + 1 : Nat) : Int) := wn (by omega)
    rw [cd (by omega), gp1 (by omega), e1, ih, Option.bind_some]
    simp only [e2]
    have hm : n % 10 < 10 := Nat.mod_lt _ (by omega)
    rw [gp1 (by omega), gp1 (by omega), gp1 ⟨by omega, by rw [e3]; omega, by rw [e3, hs]; omega⟩, digs_get (n % 10) hm, gp1 (by rw [bs1, bs1]; simp; omega), ba]
    conv => rhs; unfold Lib.decDigits
    rw [dif_neg h10]
theorem lNe (n : Nat) (h : n < 1000000000000000000) : slN (n : Int) = some (bs (Lib.decDigits n)) := by
 unfold slN
 have := lNfe 63 n (Nat.lt_of_lt_of_le h (by decide)) h
 exact this
theorem ie (n : Nat) (h : n < 1000000000000000000) : strconv_Itoa (n : Int) = some (bs (Lib.decDigits n)) := by
 unfold strconv_Itoa
 rw [gp1 (by omega)]
 have : itoaB (n : Int) = bs (Lib.decDigits n) := by
  unfold itoaB Lib.itoa
  rw [if_neg (by omega), Int.toNat_natCast]
 rw [this]

theorem sum_step (h : Int) (b : UInt8) (h0 : 0 ≤ h) (h1 : h < 999979) : Int.tmod (w64 ((w64 ((w64 ((41 : Int) * h)) + (w64 (b.toNat : Int)))) + (1 : Int))) (999979 : Int) = (41 * h + b.toNat + 1) % 999979 := by
 have hb := b.toNat_lt
 rw [wi (x := 41 * h) (by omega) (by omega), wi (x := (b.toNat : Int)) (by omega) (by omega), wi (x := 41 * h + b.toNat) (by omega) (by omega), wi (by omega) (by omega)]
 exact Int.tmod_eq_emod_of_nonneg (by omega)
theorem l1Sum_eq (l : List UInt8) (hl : l.length ≤ 4611686018427387000) : slS7 (bs l) = some (sumF 7 l) := by
 unfold slS7
 have H : iter (fun s => slSl4 (bs l) s.1 s.2) ((7 : Int), (0 : Int)) = some (sumF 7 l) :=
  if1 l.length (fun k => (sumF 7 (l.take k), (k : Int))) (fun k hk => by
   show slSl4 (bs l) (sumF 7 (l.take k)) (k : Int) = _
   have hr := sFr (l.take k) 7 (by omega) (by omega)
   unfold slSl4
   rw [cd1 (by rw [bs1]; omega), gp1 (by rw [bs1]; omega), gp1 (by omega), wn (by omega), bAb, Int.toNat_natCast, gDe _ _ _ hk, sum_step _ _ hr.1 hr.2, ← sFs, ← List.take_succ_eq_append_getElem hk]) (by
   show slSl4 (bs l) (sumF 7 (l.take l.length)) (l.length : Int) = _
   unfold slSl4
   rw [cd (by rw [bs1]; omega), List.take_length]) rfl
 rw [H]; rfl
theorem checksum_eq (l : List UInt8) (hl : l.length ≤ 4611686018427387000) : ic (bs l) = some (sumF 7 l) := by
 unfold ic
 have H : iter (fun s => icl (bs l) s.1 s.2) ((7 : Int), (0 : Int)) = some (sumF 7 l) :=
  if1 l.length (fun k => (sumF 7 (l.take k), (k : Int))) (fun k hk => by
   show icl (bs l) (sumF 7 (l.take k)) (k : Int) = _
   have hr := sFr (l.take k) 7 (by omega) (by omega)
   unfold icl
   rw [cd1 (by rw [bs1]; omega), gp1 (by rw [bs1]; omega), gp1 (by omega), wn (by omega), bAb, Int.toNat_natCast, gDe _ _ _ hk, sum_step _ _ hr.1 hr.2, ← sFs, ← List.take_succ_eq_append_getElem hk]) (by
   show icl (bs l) (sumF 7 (l.take l.length)) (l.length : Int) = _
   unfold icl
   rw [cd (by rw [bs1]; omega), List.take_length]) rfl
 rw [H]; rfl
def sumN (t : List UInt8) : Nat := (sumF 7 t).toNat
theorem sumN_eq (t : List UInt8) : sumF 7 t = (sumN t : Int) ∧ sumN t < 999979 := by
 have := sFr t 7 (by omega) (by omega)
 unfold sumN
 omega
def sealL (t : List UInt8) : List UInt8 := t ++ [35] ++ Lib.decDigits (sumN t)
theorem sLl1 (t : List UInt8) : t.length + 2 ≤ (sealL t).length ∧ (sealL t).length ≤ t.length + 7 := by
 have h1 := dl2 (sumN t)
 have h2 := dl1 5 (sumN t) (by have := (sumN_eq t).2; omega)
 simp only [sealL, List.length_append, List.length_cons, List.length_nil]
 omega
theorem sealL_bef (t : List UInt8) (h : (35 : UInt8) ∉ t) : bef 35 (sealL t) = t := by
 unfold sealL
 rw [List.append_assoc]
 exact ba1 35 t _ h
theorem l1Seal_eq (t : List UInt8) (h : t.length ≤ 4611686018427387000) : slS6 (bs t) = some (bs (sealL t)) := by
 obtain ⟨e, hlt⟩ := sumN_eq t
 have h2 := dl1 5 (sumN t) (by omega)
 unfold slS6
 rw [show (ByteArray.mk #[35]) = bs [35] from rfl, gp1 (by rw [bs1, bs1]; simp; omega), l1Sum_eq t h, Option.bind_some, e, lNe _ (by omega), Option.bind_some, ba, gp1 (by rw [bs1, bs1]; simp; omega), ba]
 rfl
theorem append_eq (t : List UInt8) (h : t.length < 4294967281) : iAC (bs t) = some (if t.length ≤ 4000 ∧ (35 : UInt8) ∉ t ∧ (sealL t).length ≤ 4000 then (bs (sealL t), true) else (bs [], false)) := by
 obtain ⟨e, hlt⟩ := sumN_eq t
 have h2 := dl1 5 (sumN t) (by omega)
 unfold iAC
 rw [show (ByteArray.mk #[35]) = bs [35] from rfl, show (ByteArray.mk #[]) = bs [] from rfl, bs1]
 by_cases h1 : t.length ≤ 4000
 ·rw [cd (by omega)]
  unfold strings_Contains
  rw [gp1 (by rw [bs1]; exact h), Option.bind_some, lb1, lb1, contains_one]
  by_cases h3 : (35 : UInt8) ∈ t
  ·rw [cd1 h3, if_neg (fun hh => hh.2.1 h3)]
  ·rw [cd h3, gp1 (by rw [bs1]; simp; omega), checksum_eq t (by omega), Option.bind_some, e, ie _ (by omega), Option.bind_some, ba, gp1 (by rw [bs1, bs1]; simp; omega), ba, bs1]
   by_cases h4 : (sealL t).length ≤ 4000
   ·rw [cd (by unfold sealL at h4; omega), if_pos ⟨h1, h3, h4⟩]
    rfl
   ·rw [cd1 (by unfold sealL at h4; omega), if_neg (fun hh => h4 hh.2.2)]
 ·rw [cd1 (by omega), if_neg (fun hh => h1 hh.1)]
theorem verify_eq (l : List UInt8) (h : l.length < 4294967281) : iVC (bs l) = some (if (bef 35 l).length ≤ 4000 ∧ (sealL (bef 35 l)).length ≤ 4000 ∧ sealL (bef 35 l) = l then (bs (bef 35 l), true) else (bs [], false)) := by
 unfold iVC strings_Cut
 rw [show (ByteArray.mk #[35]) = bs [35] from rfl, show (ByteArray.mk #[]) = bs [] from rfl, gp1 (by rw [bs1]; exact h), Option.bind_some]
 have e1 : cutA (bs l) (bs [35]) = bs (bef 35 l) := by unfold cutA; rw [lb1, lb1, cut_eq]
 simp only [e1]
 have hle := bl1 35 l
 rw [append_eq _ (by omega), Option.bind_some]
 by_cases hc : (bef 35 l).length ≤ 4000 ∧ (sealL (bef 35 l)).length ≤ 4000
 ·rw [if_pos ⟨hc.1, bn 35 l, hc.2⟩]
  simp only [Bool.not_true, cond_false]
  by_cases he : sealL (bef 35 l) = l
  ·rw [cn (bi.2 he), if_pos ⟨hc.1, hc.2, he⟩]
  ·rw [cn1 (fun h => he (bi.1 h)), if_neg (fun hh => he hh.2.2)]
 ·rw [if_neg (fun hh => hc ⟨hh.1, hh.2.2⟩), if_neg (fun hh => hc ⟨hh.1, hh.2.1⟩)]
  rfl

def plainB (no : List UInt8) (l : List UInt8) : Bool := l.all fun b => decide (32 ≤ b.toNat) && decide (b.toNat ≤ 126) && !no.contains b
def goodB (c r : List UInt8) : Bool := decide (1 ≤ c.length ∧ c.length ≤ 160) && (decide (r.length ≤ 200) && (plainB [35, 64] c && plainB [35] r))
theorem printB_iff (l : List UInt8) : (l.all fun b => decide (32 ≤ b.toNat) && decide (b.toNat ≤ 126)) = true ↔ ∀ b ∈ l, 32 ≤ b.toNat ∧ b.toNat ≤ 126 := by
 rw [List.all_eq_true]; simp
theorem isPlain_eq (no l : List UInt8) (hl : l.length ≤ 1000000000) (hn : no.length ≤ 1000) (hna : asciiB (bs no) = true) : iiP (bs l) (bs no) = some (plainB no l) := by
 unfold iiP
 have H : iter (fun s => iiPl (bs l) s) (0 : Int) = some (if l.all (fun b => decide (32 ≤ b.toNat) && decide (b.toNat ≤ 126)) then (Sum.inr () : Unit ⊕ Unit) else Sum.inl ()) :=
  iter_all l (fun b => decide (32 ≤ b.toNat) && decide (b.toNat ≤ 126)) 0 (fun k => (k : Int)) (fun k hk => by
   show iiPl (bs l) (k : Int) = _
   unfold iiPl
   rw [cd1 (by rw [bs1]; omega), gp1 (by rw [bs1]; omega), bAb, Int.toNat_natCast, wn (by omega)]
   generalize l.getD k 0 = x
   by_cases h1 : (x.toNat : Int) < 32
   ·rw [cd1 h1]
    have : ¬ 32 ≤ x.toNat := by omega
    simp [this]
   ·rw [cd h1, gp1 (by rw [bs1]; omega)]
    have e1 : 32 ≤ x.toNat := by omega
    by_cases h2 : (126 : Int) < (x.toNat : Int)
    ·rw [cd1 h2]
     have : ¬ x.toNat ≤ 126 := by omega
     simp [this]
    ·rw [cd h2]
     have e2 : x.toNat ≤ 126 := by omega
     simp [e1, e2]) (by
   show iiPl (bs l) (l.length : Int) = _
   unfold iiPl
   rw [cd (by rw [bs1]; omega)]) rfl
 rw [H, Option.bind_some]
 cases hp : l.all (fun b => decide (32 ≤ b.toNat) && decide (b.toNat ≤ 126)) with
 | false =>
   have : plainB no l = false := by
    cases hq : plainB no l with
    | false => rfl
    | true =>
      exfalso
      have : (l.all fun b => decide (32 ≤ b.toNat) && decide (b.toNat ≤ 126)) = true := by
       rw [List.all_eq_true]
       intro b hb
       have := List.all_eq_true.1 hq b hb
       rw [Bool.and_eq_true] at this
       exact this.1
      rw [hp] at this; cases this
   rw [this]; rfl
 | true =>
   have ha : asciiB (bs l) = true := by
    unfold asciiB
    rw [lb1, List.all_eq_true]
    intro b hb
    have := (printB_iff l).1 hp b hb
    simp; omega
   rw [if_pos rfl, Sum.elim_inr]
   unfold sCA
   rw [gp1 ⟨by rw [bs1]; omega, by rw [bs1]; omega, ha, hna⟩, Option.bind_some]
   refine congrArg some ?_
   unfold anyOf
   rw [lb1, lb1, cAi]
   rw [Bool.eq_iff_iff]
   unfold plainB
   have hpm := (printB_iff l).1 hp
   simp only [Bool.not_eq_true', List.any_eq_false, List.all_eq_true, Bool.and_eq_true, decide_eq_true_eq]
   constructor
   ·intro h b hb
    exact ⟨hpm b hb, by simpa using h b hb⟩
   ·intro h b hb
    have := (h b hb).2
    simpa using this
theorem iVe (c r : List UInt8) (hc : c.length ≤ 1000000000) (hr : r.length ≤ 1000000000) : iIVR (bs c, bs r, ()) = some (goodB c r) := by
 unfold iIVR
 simp only [we, Option.bind_some, bs1]
 rw [show (ByteArray.mk #[35, 64]) = bs [35, 64] from rfl, show (ByteArray.mk #[35]) = bs [35] from rfl]
 unfold goodB
 by_cases h1 : 1 ≤ c.length ∧ c.length ≤ 160
 ·rw [cd1 (by omega), decide_eq_true h1, Bool.true_and]
  by_cases h2 : r.length ≤ 200
  ·rw [cd1 (by omega), decide_eq_true h2, Bool.true_and, isPlain_eq _ c hc (by simp) rfl, Option.bind_some]
   cases plainB [35, 64] c with
   | false => rfl
   | true => rw [isPlain_eq _ r hr (by simp) rfl]; rfl
  ·rw [cd (by omega), decide_eq_false h2]; rfl
 ·rw [cd (by omega), decide_eq_false h1]; rfl
theorem lPe (l : List UInt8) (m : Nat) (hl : l.length ≤ 1000000000) : slP1 (bs l) (m : Int) = some (plainB [35] l && decide (l.length ≤ m)) := by
 unfold slP1
 have H : iter (fun s => slPl (bs l) s) (0 : Int) = some (if l.all (fun b => decide (32 ≤ b.toNat) && decide (b.toNat ≤ 126) && ![(35 : UInt8)].contains b) then (Sum.inr () : Unit ⊕ Unit) else Sum.inl ()) :=
  iter_all l (fun b => decide (32 ≤ b.toNat) && decide (b.toNat ≤ 126) && ![(35 : UInt8)].contains b) 0 (fun k => (k : Int)) (fun k hk => by
   show slPl (bs l) (k : Int) = _
   unfold slPl
   rw [cd1 (by rw [bs1]; omega), gp1 (by rw [bs1]; omega), bAb, Int.toNat_natCast, wn (by omega)]
   generalize l.getD k 0 = x
   have hb := x.toNat_lt
   rw [wi (by omega) (by omega), lIe, Option.bind_some]
   by_cases h1 : (32 : Int) ≤ (x.toNat : Int) ∧ (x.toNat : Int) ≤ 126
   ·rw [cn h1, gp1 (by rw [bs1]; omega)]
    have e1 : 32 ≤ x.toNat := by omega
    have e2 : x.toNat ≤ 126 := by omega
    by_cases h2 : (x.toNat : Int) = 35
    ·rw [cd1 h2]
     have e3 : x = 35 := UInt8.toNat_inj.1 (by show _ = 35; omega)
     rw [e3]; rfl
    ·rw [cd h2]
     have e3 : x ≠ 35 := fun e => h2 (by rw [e]; rfl)
     simp [e1, e2, e3]
   ·rw [cn1 h1]
    by_cases e1 : 32 ≤ x.toNat
    ·have e2 : ¬ x.toNat ≤ 126 := by omega
     simp [e2]
    ·simp [e1]) (by
   show slPl (bs l) (l.length : Int) = _
   unfold slPl
   rw [cd (by rw [bs1]; omega)]) rfl
 rw [H, Option.bind_some]
 change _ = some ((l.all (fun b => decide (32 ≤ b.toNat) && decide (b.toNat ≤ 126) && ![(35 : UInt8)].contains b)) && _)
 cases (l.all (fun b => decide (32 ≤ b.toNat) && decide (b.toNat ≤ 126) && ![(35 : UInt8)].contains b)) with
 | false => rfl
 | true =>
   rw [if_pos rfl, Sum.elim_inr, bs1, Bool.true_and]
   refine congrArg some ?_
   rw [Bool.eq_iff_iff]; simp
theorem stands_eq (l : List UInt8) (c : UInt8) (hl : l.length ≤ 1000000000) : slS2 (bs l) (c.toNat : Int) = some (decide (c ∈ l)) := by
 unfold slS2
 obtain ⟨r, e, hr⟩ := ie1 (f := fun s => slSl2 (bs l) (c.toNat : Int) s) (miss := (Sum.inr () : Unit ⊕ Unit)) l.length (fun k => decide (l.getD k 0 = c)) (fun _ => Sum.inl ()) (fun k => (k : Int)) (fun k hk => by
   show slSl2 (bs l) (c.toNat : Int) (k : Int) = _
   unfold slSl2
   rw [cd1 (by rw [bs1]; omega), gp1 (by rw [bs1]; omega), wn (by omega), bAb, Int.toNat_natCast]
   by_cases he : l.getD k 0 = c
   ·rw [cd1 (by rw [he]), decide_eq_true he]; rfl
   ·rw [cd (fun h => he (UInt8.toNat_inj.1 (by omega))), decide_eq_false he]; rfl) (by
   show slSl2 (bs l) (c.toNat : Int) (l.length : Int) = _
   unfold slSl2
   rw [cd (by rw [bs1]; omega)]) (s := (0 : Int)) rfl
 rw [e, Option.bind_some]
 rcases hr with ⟨k, hk, hp, _, rfl⟩ | ⟨hn, rfl⟩
 ·have : c ∈ l := by
   have := of_decide_eq_true hp
   rw [gDe _ _ _ hk] at this
   rw [← this]; exact List.getElem_mem hk
  rw [decide_eq_true this]; rfl
 ·have : c ∉ l := fun hm => by
   obtain ⟨i, hi, he⟩ := List.getElem_of_mem hm
   have := hn i hi
   rw [gDe _ _ _ hi] at this
   exact absurd he (of_decide_eq_false this)
  rw [decide_eq_false this]; rfl
theorem plain_two (l : List UInt8) : plainB [35, 64] l = (plainB [35] l && !decide ((64 : UInt8) ∈ l)) := by
 rw [Bool.eq_iff_iff]
 unfold plainB
 simp only [List.all_eq_true, Bool.and_eq_true, Bool.not_eq_true', decide_eq_true_eq, decide_eq_false_iff_not]
 constructor
 ·intro h
  refine ⟨fun b hb => ⟨(h b hb).1, ?_⟩, fun hm => ?_⟩
  ·have := (h b hb).2
   simp at this ⊢; exact this.1
  ·have := (h 64 hm).2
   simp at this
 ·rintro ⟨h1, h2⟩ b hb
  refine ⟨(h1 b hb).1, ?_⟩
  have := (h1 b hb).2
  simp at this ⊢
  exact ⟨this, fun e => h2 (e ▸ hb)⟩
theorem good_eq (c r : List UInt8) (hc : c.length ≤ 1000000000) (hr : r.length ≤ 1000000000) : slG2 (bs c, bs r, ()) = some (goodB c r) := by
 unfold slG2
 rw [show (ByteArray.mk #[]) = bs [] from rfl]
 simp only [show ((160 : Int)) = ((160 : Nat) : Int) from rfl, show ((200 : Int)) = ((200 : Nat) : Int) from rfl, show ((64 : Int)) = (((64 : UInt8).toNat : Nat) : Int) from rfl, lPe c _ hc, lPe r _ hr, stands_eq c 64 hc, Option.bind_some]
 unfold goodB
 rw [plain_two]
 by_cases h0 : c = []
 ·rw [cn (bi.2 h0)]
  subst h0; rfl
 ·rw [cn1 (fun h => h0 (bi.1 h))]
  have hpos : 1 ≤ c.length := List.length_pos_iff.2 h0
  by_cases h1 : c.length ≤ 160
  ·have e1 : decide (1 ≤ c.length ∧ c.length ≤ 160) = true := decide_eq_true ⟨hpos, h1⟩
   rw [e1, decide_eq_true h1]
   cases plainB [35] c <;> cases plainB [35] r <;> by_cases h2 : (64 : UInt8) ∈ c <;> by_cases h3 : r.length ≤ 200 <;> simp [h2, h3]
  ·have e1 : decide (1 ≤ c.length ∧ c.length ≤ 160) = false := decide_eq_false (fun h => h1 h.2)
   rw [e1, decide_eq_false h1]; simp
theorem gBo {c r : List UInt8} (h : goodB c r = true) : 1 ≤ c.length ∧ c.length ≤ 160 ∧ r.length ≤ 200 ∧ (35 : UInt8) ∉ c ∧ (35 : UInt8) ∉ r ∧ (64 : UInt8) ∉ c ∧ (10 : UInt8) ∉ c ∧ (10 : UInt8) ∉ r := by
 unfold goodB at h
 simp only [Bool.and_eq_true, decide_eq_true_eq] at h
 obtain ⟨⟨h1, h2⟩, h3, h4, h5⟩ := h
 unfold plainB at h4 h5
 rw [List.all_eq_true] at h4 h5
 refine ⟨h1, h2, h3, fun hm => ?_, fun hm => ?_, fun hm => ?_, fun hm => ?_, fun hm => ?_⟩
 ·have := h4 _ hm; simp at this
 ·have := h5 _ hm; simp at this
 ·have := h4 _ hm; simp at this
 ·have := h4 _ hm; simp at this
 ·have := h5 _ hm; simp at this
def textL (k : Nat) (c r : List UInt8) : List UInt8 := Lib.decDigits k ++ [32] ++ c ++ [64] ++ r
def lineL (k : Nat) (c r : List UInt8) : List UInt8 := sealL (textL k c r) ++ [10]
theorem tLl (k : Nat) (c r : List UInt8) (hk : k < 1000000) : (textL k c r).length ≤ c.length + r.length + 8 ∧ c.length + r.length + 3 ≤ (textL k c r).length := by
 have h1 := dl1 5 k (by omega)
 have h2 := dl2 k
 simp only [textL, List.length_append, List.length_cons, List.length_nil]
 omega
theorem textL_no (k : Nat) {c r : List UInt8} (h : goodB c r = true) : (35 : UInt8) ∉ textL k c r := by
 obtain ⟨_, _, _, h1, h2, _⟩ := gBo h
 simp only [textL, List.mem_append, List.mem_singleton, not_or]
 refine ⟨⟨⟨⟨fun hm => ?_, by decide⟩, h1⟩, by decide⟩, h2⟩
 have := dec_mem k _ hm
 revert this; decide
theorem lLe1 (k : Nat) (c r : List UInt8) (hk : k < 1000000) (hc : c.length ≤ 1000000000) (hr : r.length ≤ 1000000000) : slL2 (k : Int) (bs c, bs r, ()) = some (bs (lineL k c r)) := by
 have h1 := dl1 5 k (by omega)
 have h2 := tLl k c r hk
 have h3 := sLl1 (textL k c r)
 unfold slL2
 rw [lNe k (by omega), Option.bind_some]
 simp only [show (ByteArray.mk #[32]) = bs [32] from rfl, show (ByteArray.mk #[64]) = bs [64] from rfl, show (ByteArray.mk #[10]) = bs [10] from rfl, ba, bs1, List.length_append, List.length_cons, List.length_nil]
 rw [gp1 (by omega), gp1 (by omega), gp1 (by omega), gp1 (by omega)]
 have e : Lib.decDigits k ++ [32] ++ c ++ [64] ++ r = textL k c r := rfl
 rw [e, l1Seal_eq _ (by omega), Option.bind_some]
 simp only [bs1, ba]
 rw [gp1 (by omega)]
 rfl
theorem encode_eq (k : Nat) (c r : List UInt8) (hk : k < 1000) (hg : goodB c r = true) : ieR (k : Int) (bs c, bs r, ()) = some (bs (lineL k c r)) := by
 obtain ⟨g1, g2, g3, _⟩ := gBo hg
 have h1 := dl1 5 k (by omega)
 have h2 := tLl k c r (by omega)
 have h3 := sLl1 (textL k c r)
 unfold ieR
 rw [ie k (by omega), Option.bind_some]
 simp only [show (ByteArray.mk #[32]) = bs [32] from rfl, show (ByteArray.mk #[64]) = bs [64] from rfl, show (ByteArray.mk #[10]) = bs [10] from rfl, ba, bs1, List.length_append, List.length_cons, List.length_nil]
 rw [gp1 (by omega), gp1 (by omega), gp1 (by omega), gp1 (by omega)]
 have e : Lib.decDigits k ++ [32] ++ c ++ [64] ++ r = textL k c r := rfl
 rw [e, append_eq _ (by omega), if_pos ⟨by omega, textL_no k hg, by omega⟩, Option.bind_some]
 simp only [bs1, ba]
 rw [gp1 (by omega)]
 rfl
def preL (k : Nat) : List UInt8 := Lib.decDigits k ++ [32]
def decL (k : Nat) (l : List UInt8) : Option (List UInt8 × List UInt8) :=
 if sealL (bef 35 l) = l ∧ (bef 35 l).take (preL k).length = preL k ∧ (64 : UInt8) ∈ (bef 35 l).drop (preL k).length then
  if goodB (bef 64 ((bef 35 l).drop (preL k).length)) (((bef 35 l).drop (preL k).length).drop ((bef 64 ((bef 35 l).drop (preL k).length)).length + 1)) = true then
   some (bef 64 ((bef 35 l).drop (preL k).length), ((bef 35 l).drop (preL k).length).drop ((bef 64 ((bef 35 l).drop (preL k).length)).length + 1)) else none
 else none
theorem split64 (x : List UInt8) (h : (64 : UInt8) ∈ x) : x = bef 64 x ++ [64] ++ x.drop ((bef 64 x).length + 1) := by
 obtain ⟨r, e⟩ := bs4 64 x h
 have h2 : x.drop ((bef 64 x).length + 1) = r := by
  conv => lhs; rw [e]
  rw [ba1 64 _ _ (bn 64 x)]
  simp
 rw [h2]
 conv => lhs; rw [e]
 simp
theorem dLs {k : Nat} {l c r : List UInt8} (h : decL k l = some (c, r)) : goodB c r = true ∧ l ++ [10] = lineL k c r ∧ bef 35 l = textL k c r := by
 unfold decL at h
 split at h
 ·rename_i h1
  split at h
  ·rename_i h2
   simp only [Option.some.injEq, Prod.mk.injEq] at h
   obtain ⟨rfl, rfl⟩ := h
   have e : bef 35 l = textL k (bef 64 ((bef 35 l).drop (preL k).length)) (((bef 35 l).drop (preL k).length).drop ((bef 64 ((bef 35 l).drop (preL k).length)).length + 1)) := by
    have e1 := split64 _ h1.2.2
    have e2 : bef 35 l = preL k ++ (bef 35 l).drop (preL k).length := by
     conv => lhs; rw [← List.take_append_drop (preL k).length (bef 35 l)]
     rw [h1.2.1]
    conv => lhs; rw [e2]
    conv => lhs; rw [e1]
    simp [textL, preL]
   refine ⟨h2, ?_, e⟩
   unfold lineL
   rw [← e, h1.1]
  ·cases h
 ·cases h
theorem dLl {k : Nat} {l c r : List UInt8} (hk : k < 1000) (h : decL k l = some (c, r)) : l.length ≤ 399 ∧ (textL k c r).length ≤ 380 := by
 obtain ⟨hg, e, e2⟩ := dLs h
 obtain ⟨g1, g2, g3, _⟩ := gBo hg
 have h2 := tLl k c r (by omega)
 have h3 := sLl1 (textL k c r)
 have := congrArg List.length e
 simp only [lineL, List.length_append, List.length_cons, List.length_nil] at this
 omega
theorem cutP_eq (t p : List UInt8) (_ : t.length ≤ 4000000000) (hp : p.length ≤ 4000000000) : sCP (bs t) (bs p) = some (if t.take p.length = p then (bs (t.drop p.length), true) else (bs t, false)) := by
 unfold sCP isCP isHP
 simp only [bs1]
 by_cases h : p.length ≤ t.length
 ·rw [cd1 (by omega), gp1 (by omega), bb]
  simp only [Option.bind_some]
  have e0 : (t.drop (0 : Int).toNat).take ((p.length : Int).toNat - (0 : Int).toNat) = t.take p.length := by simp
  rw [e0]
  by_cases h2 : t.take p.length = p
  ·rw [decide_eq_true (bi.2 h2), if_pos h2]
   simp only [Bool.not_true, cond_false]
   rw [gp1 (by omega), bb]
   have e1 : (t.drop (p.length : Int).toNat).take ((t.length : Int).toNat - (p.length : Int).toNat) = t.drop p.length := by rw [Int.toNat_natCast, Int.toNat_natCast, List.take_of_length_le (by simp)]
   rw [e1]; rfl
  ·rw [decide_eq_false (fun h => h2 (bi.1 h)), if_neg h2]; rfl
 ·rw [cd (by omega), if_neg (fun h2 => by
   have := congrArg List.length h2
   simp at this; omega)]
  rfl
theorem decode_eq (k : Nat) (l : List UInt8) (hk : k < 1000) (hl : l.length ≤ 1000000000) : ∃ e b, idR (k : Int) (bs l) = some (e, b) ∧ b = (decL k l).isSome ∧ ∀ c r, decL k l = some (c, r) → e = (bs c, bs r, ()) := by
 have hle := bl1 35 l
 have h1 := dl1 5 k (by omega)
 have hpl : (preL k).length ≤ 7 := by simp [preL]; omega
 unfold idR
 rw [verify_eq l (by omega), Option.bind_some, ie k (by omega), Option.bind_some]
 simp only [show (ByteArray.mk #[32]) = bs [32] from rfl, show (ByteArray.mk #[64]) = bs [64] from rfl, ba, bs1]
 rw [gp1 (by simp; omega)]
 have hsl := sLl1 (bef 35 l)
 by_cases hv : (bef 35 l).length ≤ 4000 ∧ (sealL (bef 35 l)).length ≤ 4000 ∧ sealL (bef 35 l) = l
 ·rw [if_pos hv]
  simp only []
  rw [show Lib.decDigits k ++ [32] = preL k from rfl, cutP_eq _ _ (by omega) (by omega), Option.bind_some]
  by_cases hp : (bef 35 l).take (preL k).length = preL k
  ·rw [if_pos hp]
   simp only []
   unfold strings_Cut
   have hdl : ((bef 35 l).drop (preL k).length).length ≤ (bef 35 l).length := by simp
   rw [gp1 (by rw [bs1]; omega), Option.bind_some]
   have ca : cutA (bs ((bef 35 l).drop (preL k).length)) (bs [64]) = bs (bef 64 ((bef 35 l).drop (preL k).length)) := by unfold cutA; rw [lb1, lb1, cut_eq]
   have cb : cutB (bs ((bef 35 l).drop (preL k).length)) (bs [64]) = bs (if (64 : UInt8) ∈ ((bef 35 l).drop (preL k).length) then ((bef 35 l).drop (preL k).length).drop ((bef 64 ((bef 35 l).drop (preL k).length)).length + 1) else []) := by unfold cutB; rw [lb1, lb1, cut_eq]
   have cf : cutF (bs ((bef 35 l).drop (preL k).length)) (bs [64]) = decide ((64 : UInt8) ∈ ((bef 35 l).drop (preL k).length)) := by unfold cutF; rw [lb1, lb1, cut_eq]
   simp only [ca, cb, cf, cond_true]
   by_cases hm : (64 : UInt8) ∈ (bef 35 l).drop (preL k).length
   ·have b1 := bl1 64 ((bef 35 l).drop (preL k).length)
    rw [cd1 hm, if_pos hm, iVe _ _ (by omega) (by simp; omega), Option.bind_some]
    refine ⟨_, _, rfl, ?_, ?_⟩
    ·unfold decL
     rw [if_pos ⟨hv.2.2, hp, hm⟩]
     split
     ·rename_i hg; rw [hg]; rfl
     ·rename_i hg; rw [Bool.not_eq_true] at hg; rw [hg]; rfl
    ·intro c r hd
     unfold decL at hd
     rw [if_pos ⟨hv.2.2, hp, hm⟩] at hd
     split at hd
     ·simp only [Option.some.injEq, Prod.mk.injEq] at hd
      obtain ⟨rfl, rfl⟩ := hd; rfl
     ·cases hd
   ·rw [cd hm]
    have hn : decL k l = none := by unfold decL; rw [if_neg (fun h => hm h.2.2)]
    exact ⟨_, _, rfl, by rw [hn]; rfl, fun c r h => by rw [hn] at h; cases h⟩
  ·rw [if_neg hp]
   have hn : decL k l = none := by unfold decL; rw [if_neg (fun h => hp h.2.1)]
   simp only [cond_true, cond_false]
   unfold strings_Cut
   rw [gp1 (by rw [bs1]; omega), Option.bind_some]
   exact ⟨_, _, rfl, by rw [hn]; rfl, fun c r h => by rw [hn] at h; cases h⟩
 ·rw [if_neg hv]
  have hn : decL k l = none := by
   cases hd : decL k l with
   | none => rfl
   | some p =>
     exfalso
     obtain ⟨c, r⟩ := p
     obtain ⟨d1, d2⟩ := dLl hk hd
     have d3 := (dLs hd).2.2
     have hs : sealL (bef 35 l) = l := by
      unfold decL at hd
      split at hd
      ·rename_i h1; exact h1.1
      ·cases hd
     exact hv ⟨by rw [d3]; omega, by rw [hs]; omega, hs⟩
  simp only [cond_false]
  rw [cutP_eq [] _ (by simp) (by simp; omega), Option.bind_some]
  unfold strings_Cut
  by_cases h0 : ([] : List UInt8).take (Lib.decDigits k ++ [32]).length = Lib.decDigits k ++ [32]
  ·exfalso
   have := congrArg List.length h0
   simp at this
  ·rw [if_neg h0]
   simp only []
   rw [gp1 (by rw [bs1]; simp), Option.bind_some]
   exact ⟨_, _, rfl, by rw [hn]; rfl, fun c r h => by rw [hn] at h; cases h⟩
theorem se (l : List UInt8) (c : UInt8) (hl : l.length ≤ 1000000000) : slS (bs l) (c.toNat : Int) = some ((spl c l).map bs) := by
 unfold slS
 have key : ∀ (d i from' : Nat) (out : List ByteArray), i + d = l.length → from' ≤ i → out.length ≤ i → (∃ o : List (List UInt8), out = o.map bs ∧ spl c l = o ++ preF ((l.drop from').take (i - from')) (spl c (l.drop i))) →
   ∃ (f' : Nat) (o : List (List UInt8)), iter (fun s => slSl (bs l) (c.toNat : Int) s.1 s.2.1 s.2.2) ((from' : Int), (i : Int), out) = some ((f' : Int), o.map bs) ∧ f' ≤ l.length ∧ o.length ≤ l.length ∧ spl c l = o ++ [l.drop f'] := by
  intro d
  induction d with
  | zero =>
    rintro i from' out hi hf ho ⟨o, rfl, e⟩
    refine ⟨from', o, io ?_, by omega, by simp at ho; omega, ?_⟩
    ·show slSl (bs l) (c.toNat : Int) (from' : Int) (i : Int) _ = _
     unfold slSl
     rw [cd (by rw [bs1]; omega)]
    ·rw [e, show l.drop i = [] from List.drop_eq_nil_of_le (by omega), preF_nil]
     congr 2
     rw [List.take_of_length_le (by simp; omega)]
  | succ d ih =>
    rintro i from' out hi hf ho ⟨o, rfl, e⟩
    have hil : i < l.length := by omega
    have hdrop : l.drop i = l[i] :: l.drop (i + 1) := List.drop_eq_getElem_cons hil
    have htake : (l.drop from').take (i + 1 - from') = (l.drop from').take (i - from') ++ [l[i]] := by
     rw [show i + 1 - from' = (i - from') + 1 by omega, List.take_succ_eq_append_getElem (by simp; omega)]
     simp [show from' + (i - from') = i by omega]
    by_cases hc : l[i] = c
    ·obtain ⟨f', o', h1, h2, h3, h4⟩ := ih (i + 1) (i + 1) ((o ++ [(l.drop from').take (i - from')]).map bs) (by omega) (by omega) (by simp at ho ⊢; omega) ⟨_, rfl, by
      rw [e, hdrop, hc, preF_hit]
      simp [preF_zero]⟩
     refine ⟨f', o', (ig ?_).trans h1, h2, h3, h4⟩
     show slSl (bs l) (c.toNat : Int) (from' : Int) (i : Int) _ = _
     unfold slSl
     simp only [List.length_map] at ho
     rw [cd1 (by rw [bs1]; omega), gp1 (by rw [bs1]; omega), bAb, Int.toNat_natCast, gDe _ _ _ hil, hc, cd1 rfl, gp1 (by rw [bs1]; omega), gp1 (by simp; omega), wn (by omega), bb]
     simp
    ·obtain ⟨f', o', h1, h2, h3, h4⟩ := ih (i + 1) from' (o.map bs) (by omega) (by omega) (by simp at ho ⊢; omega) ⟨o, rfl, by
      rw [e, hdrop, preF_snoc c _ _ _ hc, htake]⟩
     refine ⟨f', o', (ig ?_).trans h1, h2, h3, h4⟩
     show slSl (bs l) (c.toNat : Int) (from' : Int) (i : Int) _ = _
     unfold slSl
     rw [cd1 (by rw [bs1]; omega), gp1 (by rw [bs1]; omega), bAb, Int.toNat_natCast, gDe _ _ _ hil, cd (fun h => hc (UInt8.toNat_inj.1 (by omega))), wn (by omega)]
 obtain ⟨f', o, h1, h2, h3, h4⟩ := key l.length 0 0 [] (by omega) (by omega) (by simp) ⟨[], rfl, by simp [preF_zero]⟩
 rw [show ((0 : Nat) : Int) = (0 : Int) from rfl] at h1
 rw [h1, Option.bind_some]
 simp only [bs1, bb]
 rw [gp1 (by omega), gp1 (by simp; omega), h4, List.map_append, Int.toNat_natCast, Int.toNat_natCast, List.take_of_length_le (by simp)]
 rfl
theorem read_eq (k : Nat) (l : List UInt8) (hk : k < 1000) (hl : l.length ≤ 1000000000) : ∃ e b, slR2 (bs l) (k : Int) = some (e, b) ∧ b = (decL k l).isSome ∧ ∀ c r, decL k l = some (c, r) → e = (bs c, bs r, ()) := by
 have hle := bl1 35 l
 have h1 := dl1 5 k (by omega)
 have hpl : (preL k).length ≤ 7 := by simp [preL]; omega
 unfold slR2
 rw [lNe k (by omega), Option.bind_some]
 simp only [show (ByteArray.mk #[32]) = bs [32] from rfl, show (ByteArray.mk #[10]) = bs [10] from rfl, show (ByteArray.mk #[]) = bs [] from rfl, ba, bs1]
 rw [gp1 (by simp; omega), show ((35 : Int)) = (((35 : UInt8).toNat : Nat) : Int) from rfl, se l 35 hl, Option.bind_some, show Lib.decDigits k ++ [32] = preL k from rfl]
 have hne : 0 < ((spl 35 l).map bs).length := by
  rw [List.length_map]; exact List.length_pos_iff.2 (sn 35 l)
 have hg0 : ((spl 35 l).map bs).getD ((0 : Int).toNat) (bs []) = bs (bef 35 l) := by
  have := sh1 35 l []
  rw [← this]
  rw [show ((0 : Int).toNat) = 0 from rfl]
  simp [List.getD_eq_getElem?_getD]
 rw [gp1 (by omega), hg0, bs1]
 by_cases hlen : (bef 35 l).length < (preL k).length
 ·rw [cd1 (by omega)]
  have hn : decL k l = none := by
   unfold decL
   rw [if_neg (fun h => by
    have := congrArg List.length h.2.1
    simp at this; omega)]
  exact ⟨_, _, rfl, by rw [hn]; rfl, fun c r h => by rw [hn] at h; cases h⟩
 rw [cd (by omega), gp1 (by omega), bb]
 have e0 : ((bef 35 l).drop (0 : Int).toNat).take (((preL k).length : Int).toNat - (0 : Int).toNat) = (bef 35 l).take (preL k).length := by simp
 rw [e0]
 by_cases hp : (bef 35 l).take (preL k).length = preL k
 case neg =>
  rw [cn1 (fun h => hp (bi.1 h))]
  have hn : decL k l = none := by unfold decL; rw [if_neg (fun h => hp h.2.1)]
  exact ⟨_, _, rfl, by rw [hn]; rfl, fun c r h => by rw [hn] at h; cases h⟩
 rw [cn (bi.2 hp), gp1 (by omega), bb]
 have e1 : ((bef 35 l).drop ((preL k).length : Int).toNat).take (((bef 35 l).length : Int).toNat - ((preL k).length : Int).toNat) = (bef 35 l).drop (preL k).length := by rw [Int.toNat_natCast, Int.toNat_natCast, List.take_of_length_le (by simp)]
 rw [e1]
 have hdl : ((bef 35 l).drop (preL k).length).length ≤ (bef 35 l).length := by simp
 generalize hx : (bef 35 l).drop (preL k).length = x at *
 rw [show ((64 : Int)) = (((64 : UInt8).toNat : Nat) : Int) from rfl, se x 64 (by omega), Option.bind_some]
 have hne2 : 0 < ((spl 64 x).map bs).length := by
  rw [List.length_map]; exact List.length_pos_iff.2 (sn 64 x)
 have hg1 : ((spl 64 x).map bs).getD ((0 : Int).toNat) (bs []) = bs (bef 64 x) := by
  have := sh1 64 x []
  rw [← this]
  rw [show ((0 : Int).toNat) = 0 from rfl]
  simp [List.getD_eq_getElem?_getD]
 have b1 := bl1 64 x
 rw [gp1 (by omega), hg1, bs1, bs1]
 by_cases hm : (64 : UInt8) ∈ x
 ·have b2 := bef_lt 64 x hm
  have ew : w64 (((bef 64 x).length : Int) + 1) = (((bef 64 x).length + 1 : Nat) : Int) := wn (by omega)
  rw [cd (by omega), ew, gp1 (by omega), bb]
  have e2 : (x.drop (((bef 64 x).length + 1 : Nat) : Int).toNat).take ((x.length : Int).toNat - (((bef 64 x).length + 1 : Nat) : Int).toNat) = x.drop ((bef 64 x).length + 1) := by
   rw [Int.toNat_natCast, Int.toNat_natCast, List.take_of_length_le (by simp)]
  rw [e2]
  have b3 : (x.drop ((bef 64 x).length + 1)).length ≤ x.length := by simp
  rw [good_eq _ _ (by omega) (by omega), Option.bind_some]
  cases hg : goodB (bef 64 x) (x.drop ((bef 64 x).length + 1)) with
  | false =>
    have hn : decL k l = none := by
     unfold decL
     rw [hx]
     split
     ·rw [if_neg (by rw [hg]; exact Bool.false_ne_true)]
     ·rfl
    exact ⟨_, _, rfl, by rw [hn]; rfl, fun c r h => by rw [hn] at h; cases h⟩
  | true =>
    rw [cond_true, lLe1 k _ _ (by omega) (by omega) (by omega), Option.bind_some, gp1 (by simp; omega)]
    have e3 : textL k (bef 64 x) (x.drop ((bef 64 x).length + 1)) = bef 35 l := by
     have q1 := split64 x hm
     have q2 : bef 35 l = preL k ++ x := by
      rw [← hx]
      conv => lhs; rw [← List.take_append_drop (preL k).length (bef 35 l)]
      rw [hp]
     rw [q2]
     conv => rhs; rw [q1]
     simp [textL, preL]
    have hiff : (bs (lineL k (bef 64 x) (x.drop ((bef 64 x).length + 1))) = bs (l ++ [10])) ↔ sealL (bef 35 l) = l := by
     rw [bi]
     unfold lineL
     rw [e3]
     exact ⟨fun h => List.append_cancel_right h, fun h => by rw [h]⟩
    have hd : decL k l = if sealL (bef 35 l) = l then some (bef 64 x, x.drop ((bef 64 x).length + 1)) else none := by
     unfold decL
     rw [hx]
     by_cases hs : sealL (bef 35 l) = l
     ·rw [if_pos ⟨hs, hp, hm⟩, if_pos hg, if_pos hs]
     ·rw [if_neg (fun h => hs h.1), if_neg hs]
    by_cases hs : sealL (bef 35 l) = l
    ·refine ⟨_, _, rfl, ?_, fun c r h => ?_⟩
     ·rw [hd, if_pos hs, decide_eq_true (hiff.2 hs)]; rfl
     ·rw [hd, if_pos hs] at h
      simp only [Option.some.injEq, Prod.mk.injEq] at h
      obtain ⟨rfl, rfl⟩ := h; rfl
    ·refine ⟨_, _, rfl, ?_, fun c r h => ?_⟩
     ·rw [hd, if_neg hs, decide_eq_false (fun h => hs (hiff.1 h))]; rfl
     ·rw [hd, if_neg hs] at h; cases h
 ·rw [cd1 (by rw [bef_all 64 x hm])]
  have hn : decL k l = none := by
   unfold decL
   rw [hx, if_neg (fun h => hm h.2.2)]
  exact ⟨_, _, rfl, by rw [hn]; rfl, fun c r h => by rw [hn] at h; cases h⟩
abbrev Rc : Type := List UInt8 × List UInt8 × Nat
def par : Nat → Nat → List UInt8 → List Rc
 | 0, _, _ => []
 | f + 1, k, l =>
   if (10 : UInt8) ∈ l then
    match decL k (bef 10 l) with
    | some (c, r) => (c, r, (bef 10 l).length + 1) :: par f (k + 1) (l.drop ((bef 10 l).length + 1))
    | none => []
   else []
def recOf (x : Rc) : LR := (bs x.1, bs x.2.1, ())
def eO (p : Nat) : List Rc → List Nat
 | [] => []
 | x :: xs => (p + x.2.2) :: eO (p + x.2.2) xs
def tot : List Rc → Nat
 | [] => 0
 | x :: xs => x.2.2 + tot xs
theorem pl : ∀ (f k : Nat) (l : List UInt8), (par f k l).length ≤ f
 | 0, _, _ => by simp [par]
 | f + 1, k, l => by
   unfold par
   split
   ·split
    ·have := pl f (k + 1) (l.drop ((bef 10 l).length + 1)); simp; omega
    ·simp
   ·simp
theorem tot_le : ∀ (f k : Nat) (l : List UInt8), tot (par f k l) ≤ l.length
 | 0, _, l => by simp [par, tot]
 | f + 1, k, l => by
   unfold par
   split
   ·rename_i hm
    have h1 := bef_lt 10 l hm
    split
    ·have := tot_le f (k + 1) (l.drop ((bef 10 l).length + 1))
     simp only [tot, List.length_drop] at this ⊢
     omega
    ·simp [tot]
   ·simp [tot]
theorem ts2 : ∀ (f k : Nat) (l : List UInt8), k + f ≤ 500 → tot (par f k l) ≤ f * 400
 | 0, _, l, _ => by simp [par, tot]
 | f + 1, k, l, h => by
   unfold par
   split
   ·split
    ·rename_i c r hd
     have h1 := dLl (by omega) hd
     have := ts2 f (k + 1) (l.drop ((bef 10 l).length + 1)) (by omega)
     simp only [tot]
     omega
    ·simp [tot]
   ·simp [tot]
theorem eOl1 : ∀ (xs : List Rc) (p : Nat), (p :: eO p xs).getD xs.length 0 = p + tot xs
 | [], p => by simp [tot, eO]
 | x :: xs, p => by
   have := eOl1 xs (p + x.2.2)
   simp only [eO, tot, List.length_cons]
   rw [List.getD_cons_succ, this]
   omega
theorem getD_mapZ (l : List Nat) (k : Nat) : (l.map fun n : Nat => (n : Int)).getD k 0 = ((l.getD k 0 : Nat) : Int) := by
 simp only [List.getD_eq_getElem?_getD, List.getElem?_map]
 cases l[k]? <;> rfl
theorem eOl : ∀ (xs : List Rc) (p : Nat), (eO p xs).length = xs.length
 | [], _ => rfl
 | x :: xs, p => by simp [eO, eOl xs]

theorem impl_loop (s : List UInt8) (hs : s.length ≤ 100000000) : ∀ (f k p : Nat) (recs : List LR) (ends : List Int), recs.length = k → k + f = 60 → p ≤ s.length → ends.length = k + 1 →
  iter (fun q => irRl (bs s) q.1 q.2.1 q.2.2) ((p : Int), recs, ends) = some (recs ++ (par f k (s.drop p)).map recOf, ends ++ (eO p (par f k (s.drop p))).map (fun n : Nat => (n : Int)))
 | 0, k, p, recs, ends, hk, hf, hp, he => by
   refine io ?_
   show irRl (bs s) (p : Int) recs ends = _
   unfold irRl
   rw [cd (by omega)]
   simp [par, eO]
 | f + 1, k, p, recs, ends, hk, hf, hp, he => by
   have hdl : (s.drop p).length = s.length - p := by simp
   have hb := bl1 10 (s.drop p)
   obtain ⟨e, b, h1, h2, h3⟩ := decode_eq k (bef 10 (s.drop p)) (by omega) (by omega)
   have hstep : irRl (bs s) (p : Int) recs ends = if (10 : UInt8) ∈ s.drop p ∧ b = true then some (.go (((p + ((bef 10 (s.drop p)).length + 1) : Nat) : Int), recs ++ [(e.1, e.2.1, ())], ends ++ [((p + ((bef 10 (s.drop p)).length + 1) : Nat) : Int)])) else some (.out (recs, ends)) := by
    unfold irRl strings_Cut
    rw [show (ByteArray.mk #[10]) = bs [10] from rfl, cd1 (by omega), bs1, gp1 (by omega), bb]
    have e0 : (s.drop (p : Int).toNat).take ((s.length : Int).toNat - (p : Int).toNat) = s.drop p := by rw [Int.toNat_natCast, Int.toNat_natCast, List.take_of_length_le (by simp)]
    have ca : cutA (bs (s.drop p)) (bs [10]) = bs (bef 10 (s.drop p)) := by unfold cutA; rw [lb1, lb1, cut_eq]
    have cf : cutF (bs (s.drop p)) (bs [10]) = decide ((10 : UInt8) ∈ s.drop p) := by unfold cutF; rw [lb1, lb1, cut_eq]
    rw [e0, gp1 (by rw [bs1]; omega), Option.bind_some]
    simp only [ca, cf, hk, h1, Option.bind_some, bs1]
    have w1 : w64 (((bef 10 (s.drop p)).length : Int) + 1) = (((bef 10 (s.drop p)).length + 1 : Nat) : Int) := wn (by omega)
    have w2 : w64 ((p : Int) + (((bef 10 (s.drop p)).length + 1 : Nat) : Int)) = ((p + ((bef 10 (s.drop p)).length + 1) : Nat) : Int) := by rw [wi (by omega) (by omega)]; omega
    rw [w1, w2]
    by_cases hm : (10 : UInt8) ∈ s.drop p
    ·rw [cn hm]
     cases b with
     | true => rw [Bool.not_true, cond_false, if_pos ⟨hm, rfl⟩, gp1 (by simp; omega), gp1 (by simp; omega)]
     | false => rw [Bool.not_false, cond_true, if_neg (fun h => by cases h.2)]
    ·rw [cn1 hm, if_neg (fun h => hm h.1)]
   by_cases hm : (10 : UInt8) ∈ s.drop p
   ·cases hd : decL k (bef 10 (s.drop p)) with
    | none =>
      have hb : b = false := by rw [h2, hd]; rfl
      have e0 : par (f + 1) k (s.drop p) = [] := by unfold par; rw [if_pos hm, hd]
      rw [e0]
      rw [if_neg (fun h => by rw [hb] at h; cases h.2)] at hstep
      rw [io hstep]
      simp [eO]
    | some cr =>
      obtain ⟨c, r⟩ := cr
      have hb : b = true := by rw [h2, hd]; rfl
      have he' : e = (bs c, bs r, ()) := h3 c r hd
      have e0 : par (f + 1) k (s.drop p) = (c, r, (bef 10 (s.drop p)).length + 1) :: par f (k + 1) ((s.drop p).drop ((bef 10 (s.drop p)).length + 1)) := by
       conv => lhs; unfold par
       rw [if_pos hm, hd]
      rw [if_pos ⟨hm, hb⟩] at hstep
      have hlt := bef_lt 10 (s.drop p) hm
      have ih := impl_loop s hs f (k + 1) (p + ((bef 10 (s.drop p)).length + 1)) (recs ++ [(e.1, e.2.1, ())]) (ends ++ [((p + ((bef 10 (s.drop p)).length + 1) : Nat) : Int)]) (by simp [hk]) (by omega) (by omega) (by simp [he])
      rw [ig hstep, ih, e0, List.drop_drop]
      subst he'
      simp [eO, recOf, Nat.add_comm]
   ·have e0 : par (f + 1) k (s.drop p) = [] := by unfold par; rw [if_neg hm]
    rw [e0]
    rw [if_neg (fun h => hm h.1)] at hstep
    rw [io hstep]
    simp [eO]
theorem spec_loop (s : List UInt8) (hs : s.length ≤ 100000000) : ∀ (f k p : Nat) (recs : List LR), recs.length = k → k + f = 60 → p ≤ s.length →
  iter (fun q => slOl1 (bs s) q.1 q.2) ((p : Int), recs) = some (((p + tot (par f k (s.drop p)) : Nat) : Int), recs ++ (par f k (s.drop p)).map recOf)
 | 0, k, p, recs, hk, hf, hp => by
   refine io ?_
   show slOl1 (bs s) (p : Int) recs = _
   unfold slOl1
   rw [bs1]
   by_cases h0 : (p : Int) < s.length
   ·rw [cd1 h0, cd (by omega)]; simp [par, tot]
   ·rw [cd h0]; simp [par, tot]
 | f + 1, k, p, recs, hk, hf, hp => by
   by_cases h0 : p < s.length
   case neg =>
    have e0 : s.drop p = [] := List.drop_eq_nil_of_le (by omega)
    rw [e0]
    have e1 : par (f + 1) k [] = [] := by unfold par; rw [if_neg (by simp)]
    rw [e1]
    refine io ?_
    show slOl1 (bs s) (p : Int) recs = _
    unfold slOl1
    rw [bs1, cd (by omega)]
    simp [tot]
   have hdl : (s.drop p).length = s.length - p := by simp
   have hb := bl1 10 (s.drop p)
   obtain ⟨e, b, h1, h2, h3⟩ := read_eq k (bef 10 (s.drop p)) (by omega) (by omega)
   have hstep : slOl1 (bs s) (p : Int) recs = if (10 : UInt8) ∈ s.drop p ∧ b = true then some (.go (((p + ((bef 10 (s.drop p)).length + 1) : Nat) : Int), recs ++ [(e.1, e.2.1, ())])) else some (.out ((p : Int), recs)) := by
    unfold slOl1
    rw [show (ByteArray.mk #[]) = bs [] from rfl, bs1, cd1 (by omega), cd1 (by omega), gp1 (by omega), bb]
    have e0 : (s.drop (p : Int).toNat).take ((s.length : Int).toNat - (p : Int).toNat) = s.drop p := by rw [Int.toNat_natCast, Int.toNat_natCast, List.take_of_length_le (by simp)]
    rw [e0, show ((10 : Int)) = (((10 : UInt8).toNat : Nat) : Int) from rfl, se (s.drop p) 10 (by omega), Option.bind_some]
    have hne : 0 < ((spl 10 (s.drop p)).map bs).length := by
     rw [List.length_map]; exact List.length_pos_iff.2 (sn 10 _)
    have hg0 : ((spl 10 (s.drop p)).map bs).getD ((0 : Int).toNat) (bs []) = bs (bef 10 (s.drop p)) := by
     have := sh1 10 (s.drop p) []
     rw [← this]
     rw [show ((0 : Int).toNat) = 0 from rfl]
     simp [List.getD_eq_getElem?_getD]
    have h2iff := spl_two 10 (s.drop p)
    rw [gp1 (by omega), hg0, hk, h1, Option.bind_some]
    have w1 : w64 ((p : Int) + ((bef 10 (s.drop p)).length : Int)) = ((p + (bef 10 (s.drop p)).length : Nat) : Int) := by rw [wi (by omega) (by omega)]; omega
    have w2 : w64 (((p + (bef 10 (s.drop p)).length : Nat) : Int) + 1) = ((p + ((bef 10 (s.drop p)).length + 1) : Nat) : Int) := by rw [wn (by omega)]; omega
    simp only [bs1]
    rw [w1, w2]
    by_cases hm : (10 : UInt8) ∈ s.drop p
    ·have hl2 := h2iff.2 hm
     rw [cd (by simp; omega)]
     cases b with
     | true => rw [Bool.not_true, cond_false, if_pos ⟨hm, rfl⟩, gp1 (by simp; omega), gp1 (by omega)]
     | false => rw [Bool.not_false, cond_true, if_neg (fun h => by cases h.2)]
    ·have hl2 : ¬ 2 ≤ (spl 10 (s.drop p)).length := fun h => hm (h2iff.1 h)
     rw [cd1 (by simp; omega), if_neg (fun h => hm h.1)]
   by_cases hm : (10 : UInt8) ∈ s.drop p
   ·cases hd : decL k (bef 10 (s.drop p)) with
    | none =>
      have hb : b = false := by rw [h2, hd]; rfl
      have e0 : par (f + 1) k (s.drop p) = [] := by unfold par; rw [if_pos hm, hd]
      rw [e0]
      rw [if_neg (fun h => by rw [hb] at h; cases h.2)] at hstep
      rw [io hstep]
      simp [tot]
    | some cr =>
      obtain ⟨c, r⟩ := cr
      have hb : b = true := by rw [h2, hd]; rfl
      have he' : e = (bs c, bs r, ()) := h3 c r hd
      have e0 : par (f + 1) k (s.drop p) = (c, r, (bef 10 (s.drop p)).length + 1) :: par f (k + 1) ((s.drop p).drop ((bef 10 (s.drop p)).length + 1)) := by
       conv => lhs; unfold par
       rw [if_pos hm, hd]
      rw [if_pos ⟨hm, hb⟩] at hstep
      have hlt := bef_lt 10 (s.drop p) hm
      have ih := spec_loop s hs f (k + 1) (p + ((bef 10 (s.drop p)).length + 1)) (recs ++ [(e.1, e.2.1, ())]) (by simp [hk]) (by omega) (by omega)
      rw [ig hstep, ih, e0, List.drop_drop]
      subst he'
      simp [tot, recOf, Nat.add_comm, Nat.add_assoc]
   ·have e0 : par (f + 1) k (s.drop p) = [] := by unfold par; rw [if_neg hm]
    rw [e0]
    rw [if_neg (fun h => hm h.1)] at hstep
    rw [io hstep]
    simp [tot]
abbrev rsOf (s : List UInt8) : List Rc := par 60 0 s
theorem rRe (s : List UInt8) (hs : s.length ≤ 100000000) : irR (bs s) = some ((rsOf s).map recOf, (0 : Int) :: (eO 0 (rsOf s)).map (fun n : Nat => (n : Int))) := by
 have := impl_loop s hs 60 0 0 [] [(0 : Int)] rfl rfl (by omega) (by simp)
 unfold irR
 rw [show ((0 : Nat) : Int) = (0 : Int) from rfl] at this
 rw [this]
 simp
theorem open_eq (s : List UInt8) (hs : s.length ≤ 100000000) : slO1 (bs s) = some ((rsOf s).map recOf, ((tot (rsOf s) : Nat) : Int)) := by
 have := spec_loop s hs 60 0 0 [] rfl rfl (by omega)
 unfold slO1
 rw [show ((0 : Nat) : Int) = (0 : Int) from rfl] at this
 rw [this]
 simp

theorem eOs1 : ∀ (xs : List Rc) (p q : Nat), eO (p + q) xs = (eO q xs).map (p + ·)
 | [], _, _ => rfl
 | x :: xs, p, q => by
   have := eOs1 xs p (q + x.2.2)
   simp only [eO, List.map_cons]
   rw [Nat.add_assoc, this]
theorem endsOf_ge : ∀ (xs : List Rc) (p n : Nat), n ∈ eO p xs → p ≤ n
 | [], _, _, h => by simp [eO] at h
 | x :: xs, p, n, h => by
   simp only [eO, List.mem_cons] at h
   rcases h with rfl | h
   ·omega
   ·have := endsOf_ge xs _ _ h; omega
theorem bam {c : UInt8} (D P : List UInt8) (h : c ∈ D) : bef c (D ++ P) = bef c D := by
 obtain ⟨r, e⟩ := bs4 c D h
 have : D ++ P = bef c D ++ c :: (r ++ P) := by
  conv => lhs; rw [e]
  simp
 rw [this, ba1 c _ _ (bn c D)]
theorem bef_app_not {c : UInt8} (D P : List UInt8) (h : c ∉ D) : D.length ≤ (bef c (D ++ P)).length := by
 induction D with
 | nil => simp
 | cons b D ih =>
   simp only [List.mem_cons, not_or] at h
   rw [List.cons_append]
   unfold bef
   rw [if_neg (fun e => h.1 e.symm)]
   have := ih h.2
   simp; omega
theorem di : ∀ (f k : Nat) (D P : List UInt8), D.length ∈ 0 :: eO 0 (par f k (D ++ P)) ↔ tot (par f k D) = D.length
 | 0, k, D, P => by
   simp only [par, eO, tot, List.mem_singleton]
   omega
 | f + 1, k, D, P => by
   by_cases h0 : D = []
   ·subst h0
    have : par (f + 1) k [] = [] := by unfold par; rw [if_neg (by simp)]
    rw [this]
    simp [tot]
   have hpos : 0 < D.length := List.length_pos_iff.2 h0
   by_cases hm : (10 : UInt8) ∈ D
   ·have hb := bam D P hm
    have hm2 : (10 : UInt8) ∈ D ++ P := List.mem_append_left _ hm
    have hlt := bef_lt 10 D hm
    cases hd : decL k (bef 10 D) with
    | none =>
      have e1 : par (f + 1) k D = [] := by unfold par; rw [if_pos hm, hd]
      have e2 : par (f + 1) k (D ++ P) = [] := by unfold par; rw [if_pos hm2, hb, hd]
      rw [e1, e2]
      simp only [eO, tot, List.mem_singleton]; omega
    | some cr =>
      obtain ⟨c, r⟩ := cr
      have e1 : par (f + 1) k D = (c, r, (bef 10 D).length + 1) :: par f (k + 1) (D.drop ((bef 10 D).length + 1)) := by
       conv => lhs; unfold par
       rw [if_pos hm, hd]
      have e2 : par (f + 1) k (D ++ P) = (c, r, (bef 10 D).length + 1) :: par f (k + 1) (D.drop ((bef 10 D).length + 1) ++ P) := by
       conv => lhs; unfold par
       rw [if_pos hm2, hb, hd]
       simp only []
       rw [List.drop_append_of_le_length (show (bef 10 D).length + 1 ≤ D.length by omega)]
      have ih := di f (k + 1) (D.drop ((bef 10 D).length + 1)) P
      rw [e1, e2]
      simp only [eO, tot, Nat.zero_add, List.mem_cons, List.length_drop] at ih ⊢
      rw [show ((bef 10 D).length + 1) = ((bef 10 D).length + 1) + 0 by omega, eOs1]
      simp only [Nat.add_zero, List.mem_map]
      constructor
      ·intro h
       have : D.length - ((bef 10 D).length + 1) = 0 ∨ D.length - ((bef 10 D).length + 1) ∈ eO 0 (par f (k + 1) (D.drop ((bef 10 D).length + 1) ++ P)) := by
        rcases h with h | h | ⟨a, ha, h⟩
        ·omega
        ·left; omega
        ·right
         rw [show D.length - ((bef 10 D).length + 1) = a by omega]; exact ha
       have := ih.1 this
       omega
      ·intro h
       have := ih.2 (by omega)
       rcases this with h2 | h2
       ·right; left; omega
       ·right; right
        exact ⟨_, h2, by omega⟩
   ·have e1 : par (f + 1) k D = [] := by unfold par; rw [if_neg hm]
    rw [e1]
    constructor
    ·intro h
     exfalso
     simp only [List.mem_cons] at h
     rcases h with h | h
     ·omega
     ·unfold par at h
      split at h
      ·split at h
       ·simp only [eO, List.mem_cons, Nat.zero_add] at h
        have hb := bef_app_not D P hm
        rcases h with h | h
        ·omega
        ·have := endsOf_ge _ _ _ h; omega
       ·simp [eO] at h
      ·simp [eO] at h
    ·intro h
     simp [tot] at h; omega

def okLog (D P : List UInt8) (n : Int) : Bool := decide (tot (rsOf (D ++ P)) = D.length + P.length ∧ n = ((rsOf (D ++ P)).length : Int) ∧ tot (rsOf D) = D.length)
theorem durable_loop (a0 : Log) (D : List UInt8) (hD : a0.1 = bs D) (b : Bool) (recs : List LR) (ends : List Nat) (he : ends.length ≤ 1000) :
  iter (fun s => iLrl a0 s.1 s.2.1 s.2.2.1 s.2.2.2.1 s.2.2.2.2.1 s.2.2.2.2.2) (b, false, ((ends.map fun n : Nat => (n : Int)).length : Int), (0 : Int), recs, ends.map fun n : Nat => (n : Int)) = some (b, decide (D.length ∈ ends), recs) := by
 have H : iter (fun s => iLrl a0 s.1 s.2.1 s.2.2.1 s.2.2.2.1 s.2.2.2.2.1 s.2.2.2.2.2) (b, false, ((ends.map fun n : Nat => (n : Int)).length : Int), (0 : Int), recs, ends.map fun n : Nat => (n : Int)) = some (b, decide (D.length ∈ ends.take ends.length), recs) :=
  if1 ends.length (fun k => (b, decide (D.length ∈ ends.take k), ((ends.map fun n : Nat => (n : Int)).length : Int), (k : Int), recs, ends.map fun n : Nat => (n : Int))) (fun k hk => by
   show iLrl a0 b (decide (D.length ∈ ends.take k)) ((ends.map fun n : Nat => (n : Int)).length : Int) (k : Int) recs (ends.map fun n : Nat => (n : Int)) = _
   unfold iLrl
   rw [cd1 (by simp; omega), gp1 (by simp; omega), wn (by omega), hD, bs1, Int.toNat_natCast]
   have hg : (ends.map fun n : Nat => (n : Int)).getD k 0 = (ends[k] : Int) := by simp [hk]
   rw [hg, List.take_succ_eq_append_getElem hk]
   by_cases h : D.length ∈ ends.take k
   ·rw [cd1 h]
    rw [decide_eq_true (show D.length ∈ ends.take k ++ [ends[k]] from List.mem_append_left _ h)]
   ·rw [cd h]
    have : decide ((ends[k] : Int) = (D.length : Int)) = decide (D.length ∈ ends.take k ++ [ends[k]]) := by
     rw [Bool.eq_iff_iff, decide_eq_true_eq, decide_eq_true_eq, List.mem_append, List.mem_singleton]
     constructor
     ·intro h2; right; omega
     ·rintro (h2 | h2)
      ·exact absurd h2 h
      ·omega
    rw [this]) (by
   show iLrl a0 b (decide (D.length ∈ ends.take ends.length)) ((ends.map fun n : Nat => (n : Int)).length : Int) (ends.length : Int) recs (ends.map fun n : Nat => (n : Int)) = _
   unfold iLrl
   rw [cd (by simp)]) rfl
 rw [H, List.take_length]
theorem re (D P : List UInt8) (n : Int) (hD : D.length ≤ 10000000) (hP : P.length ≤ 10000000) : iLr (bs D, bs P, n, ()) = some ((rsOf (D ++ P)).map recOf, okLog D P n) := by
 have hle : (rsOf (D ++ P)).length ≤ 60 := pl 60 0 (D ++ P)
 have htl : tot (rsOf (D ++ P)) ≤ (D ++ P).length := tot_le 60 0 (D ++ P)
 simp only [List.length_append] at htl
 unfold iLr
 simp only [ba, bs1]
 rw [gp1 (by omega), rRe (D ++ P) (by simp; omega), Option.bind_some]
 simp only []
 have hel : ((0 : Int) :: (eO 0 (rsOf (D ++ P))).map (fun n : Nat => (n : Int))).length = (rsOf (D ++ P)).length + 1 := by simp [eOl]
 have hew : w64 ((((0 : Int) :: (eO 0 (rsOf (D ++ P))).map (fun n : Nat => (n : Int))).length : Int) - 1) = (((rsOf (D ++ P)).length : Nat) : Int) := by rw [hel, wi (by omega) (by omega)]; omega
 have hlast : ((0 : Int) :: (eO 0 (rsOf (D ++ P))).map (fun n : Nat => (n : Int))).getD (rsOf (D ++ P)).length 0 = ((tot (rsOf (D ++ P)) : Nat) : Int) := by
  have := eOl1 (rsOf (D ++ P)) 0
  rw [Nat.zero_add] at this
  rw [← this, ← getD_mapZ]
  rfl
 rw [hew, gp1 (by rw [hel]; omega), Int.toNat_natCast, hlast]
 have dl := fun (b : Bool) => durable_loop (bs D, bs P, n, ()) D rfl b ((rsOf (D ++ P)).map recOf) (0 :: eO 0 (rsOf (D ++ P))) (by simp [eOl]; omega)
 simp only [List.map_cons, show ((0 : Nat) : Int) = (0 : Int) from rfl] at dl
 have hdur : decide (D.length ∈ 0 :: eO 0 (rsOf (D ++ P))) = decide (tot (rsOf D) = D.length) := by
  rw [Bool.eq_iff_iff, decide_eq_true_eq, decide_eq_true_eq]
  exact di 60 0 D P
 by_cases h1 : tot (rsOf (D ++ P)) = D.length + P.length
 ·rw [cd1 (by simp; omega), Option.bind_some]
  simp only [dl, Option.bind_some, hdur, List.length_map]
  by_cases h2 : n = ((rsOf (D ++ P)).length : Int)
  ·rw [cd1 h2]
   refine congrArg some (congrArg (Prod.mk _) ?_)
   unfold okLog
   rw [Bool.eq_iff_iff, decide_eq_true_eq, decide_eq_true_eq]
   exact ⟨fun h => ⟨h1, h2, h⟩, fun h => h.2.2⟩
  ·rw [cd h2]
   refine congrArg some (congrArg (Prod.mk _) ?_)
   unfold okLog
   symm
   rw [decide_eq_false_iff_not]
   exact fun h => h2 h.2.1
 ·rw [cd (by simp; omega), Option.bind_some]
  simp only [dl, Option.bind_some, cond_false]
  refine congrArg some (congrArg (Prod.mk _) ?_)
  unfold okLog
  symm
  rw [decide_eq_false_iff_not]
  exact fun h => h1 h.1
theorem log_eq (D P : List UInt8) (n : Int) (hD : D.length ≤ 10000000) (hP : P.length ≤ 10000000) : slL (bs D, bs P, n, ()) = some (okLog D P n) := by
 have hsm : tot (rsOf (D ++ P)) ≤ 60 * 400 := ts2 60 0 (D ++ P) (by omega)
 have htl : tot (rsOf (D ++ P)) ≤ (D ++ P).length := tot_le 60 0 (D ++ P)
 have htd : tot (rsOf D) ≤ D.length := tot_le 60 0 D
 simp only [List.length_append] at htl
 unfold slL
 simp only [ba, bs1]
 rw [wi (x := (D.length : Int) + (P.length : Int)) (by omega) (by omega)]
 by_cases h0 : (30000 : Int) < (D.length : Int) + (P.length : Int)
 ·rw [cd1 h0]
  refine congrArg some ?_
  unfold okLog
  symm
  rw [decide_eq_false_iff_not]
  exact fun h => by have := h.1; omega
 ·rw [cd h0, gp1 (by omega), open_eq (D ++ P) (by simp; omega), Option.bind_some, open_eq D (by omega), Option.bind_some]
  simp only [List.length_map]
  unfold okLog
  by_cases h1 : tot (rsOf (D ++ P)) = D.length + P.length
  ·rw [cd1 (by omega)]
   by_cases h2 : tot (rsOf D) = D.length
   ·rw [cd1 (by omega)]
    refine congrArg some ?_
    rw [Bool.eq_iff_iff, decide_eq_true_eq, decide_eq_true_eq]
    exact ⟨fun h => ⟨h1, h.symm, h2⟩, fun h => h.2.1.symm⟩
   ·rw [cd (by omega)]
    refine congrArg some ?_
    symm
    rw [decide_eq_false_iff_not]
    exact fun h => h2 h.2.2
  ·rw [cd (by omega)]
   refine congrArg some ?_
   symm
   rw [decide_eq_false_iff_not]
   exact fun h => h1 h.1
theorem oLc {D P : List UInt8} {n : Int} (h : okLog D P n = true) : 0 ≤ n ∧ n ≤ 60 := by
 have h := of_decide_eq_true h
 have : (rsOf (D ++ P)).length ≤ 60 := pl 60 0 (D ++ P)
 omega
theorem ba_app_size (a b : ByteArray) : (a ++ b).size = a.size + b.size := by
 obtain ⟨x, rfl⟩ := bs_ex a
 obtain ⟨y, rfl⟩ := bs_ex b
 rw [ba, bs1, bs1, bs1, List.length_append]
theorem decL_line (k : Nat) (c r : List UInt8) (hg : goodB c r = true) : decL k (sealL (textL k c r)) = some (c, r) := by
 obtain ⟨_, _, _, h35c, _, h64, _, _⟩ := gBo hg
 have hb : bef 35 (sealL (textL k c r)) = textL k c r := sealL_bef _ (textL_no k hg)
 have ht : textL k c r = preL k ++ (c ++ 64 :: r) := by simp [textL, preL]
 have hd : (textL k c r).drop (preL k).length = c ++ 64 :: r := by rw [ht, List.drop_left]
 have hc : bef 64 (c ++ 64 :: r) = c := ba1 64 c r h64
 have hr : (c ++ 64 :: r).drop (c.length + 1) = r := by
  rw [← List.drop_drop, List.drop_left]; rfl
 unfold decL
 rw [hb, hd, hc, hr, if_pos ⟨rfl, by rw [ht, List.take_left], by simp⟩, if_pos hg]
theorem dec_no10 (k : Nat) : (10 : UInt8) ∉ Lib.decDigits k := fun h => by
 have := dec_mem k 10 h
 simp at this
theorem seal_no10 (k : Nat) (c r : List UInt8) (hg : goodB c r = true) : (10 : UInt8) ∉ sealL (textL k c r) := by
 obtain ⟨_, _, _, _, _, _, hc, hr⟩ := gBo hg
 have h1 := dec_no10 k
 have h2 := dec_no10 (sumN (textL k c r))
 generalize sumN (textL k c r) = q at *
 unfold sealL textL
 generalize sumN (Lib.decDigits k ++ [32] ++ c ++ [64] ++ r) = q' at *
 have h3 := dec_no10 q'
 simp [h1, h3, hc, hr]
theorem par_line (f k : Nat) (c r : List UInt8) (hg : goodB c r = true) : par (f + 1) k (lineL k c r) = [(c, r, (lineL k c r).length)] := by
 have h10 := seal_no10 k c r hg
 have hb : bef 10 (lineL k c r) = sealL (textL k c r) := ba1 10 _ [] h10
 have hl : (lineL k c r).length = (sealL (textL k c r)).length + 1 := by simp [lineL]
 have hp : par f (k + 1) [] = [] := by cases f <;> simp [par]
 unfold par
 rw [if_pos (by simp [lineL]), hb, decL_line k c r hg]
 dsimp only
 rw [List.drop_of_length_le (by omega), hp, hl]
theorem par_more : ∀ (f k : Nat) (s : List UInt8) (c r : List UInt8), tot (par f k s) = s.length → (par f k s).length < f → goodB c r = true →
  par f k (s ++ lineL (k + (par f k s).length) c r) = par f k s ++ [(c, r, (lineL (k + (par f k s).length) c r).length)]
 | 0, k, s, c, r, _, h, _ => by simp at h
 | f + 1, k, s, c, r, ht, hn, hg => by
   by_cases hs : s = []
   ·subst hs
    have hp : par (f + 1) k [] = [] := by simp [par]
    rw [hp]
    simp only [List.nil_append, List.length_nil, Nat.add_zero]
    exact par_line f k c r hg
   ·have hpos : 0 < s.length := List.length_pos_iff.2 hs
    have h0 : par (f + 1) k s ≠ [] := fun e => by rw [e] at ht; simp [tot] at ht; omega
    by_cases hm : (10 : UInt8) ∈ s
    ·cases hd : decL k (bef 10 s) with
     | none =>
       have h1 : par (f + 1) k s = [] := by unfold par; rw [if_pos hm, hd]
       exact absurd h1 h0
     | some x =>
       obtain ⟨c', r'⟩ := x
       have h1 : par (f + 1) k s = (c', r', (bef 10 s).length + 1) :: par f (k + 1) (s.drop ((bef 10 s).length + 1)) := by
        conv => lhs; unfold par
        rw [if_pos hm, hd]
       rw [h1] at ht hn ⊢
       have hlt := bef_lt 10 s hm
       have htl : tot (par f (k + 1) (s.drop ((bef 10 s).length + 1))) = (s.drop ((bef 10 s).length + 1)).length := by
        simp only [tot] at ht; rw [List.length_drop]; omega
       have hnl : (par f (k + 1) (s.drop ((bef 10 s).length + 1))).length < f := by
        simp only [List.length_cons] at hn; omega
       have ih := par_more f (k + 1) (s.drop ((bef 10 s).length + 1)) c r htl hnl hg
       have hk : k + ((c', r', (bef 10 s).length + 1) :: par f (k + 1) (s.drop ((bef 10 s).length + 1))).length = k + 1 + (par f (k + 1) (s.drop ((bef 10 s).length + 1))).length := by simp; omega
       rw [hk]
       generalize hL : lineL (k + 1 + (par f (k + 1) (s.drop ((bef 10 s).length + 1))).length) c r = L at ih ⊢
       have hb : bef 10 (s ++ L) = bef 10 s := bam s L hm
       conv => lhs; unfold par
       rw [if_pos (List.mem_append_left _ hm), hb, hd]
       dsimp only
       rw [List.drop_append_of_le_length (by omega), ih]
       rfl
    ·have h1 : par (f + 1) k s = [] := by unfold par; rw [if_neg hm]
     exact absurd h1 h0
theorem tot_app : ∀ (xs ys : List Rc), tot (xs ++ ys) = tot xs + tot ys
 | [], ys => by simp [tot]
 | x :: xs, ys => by simp only [List.cons_append, tot, tot_app xs ys]; omega
theorem oLo {D P : List UInt8} {n : Int} (h : okLog D P n = true) : tot (rsOf (D ++ P)) = (D ++ P).length ∧ n = ((rsOf (D ++ P)).length : Int) ∧ tot (rsOf D) = D.length := by
 obtain ⟨h1, h2, h3⟩ := of_decide_eq_true h
 exact ⟨by rw [List.length_append]; exact h1, h2, h3⟩
theorem more_ok {D P c r : List UInt8} {n : Nat} (h : okLog D P (n : Int) = true) (hn : n ≠ 60) (hg : goodB c r = true) :
  rsOf (D ++ (P ++ lineL n c r)) = rsOf (D ++ P) ++ [(c, r, (lineL n c r).length)] ∧ okLog D (P ++ lineL n c r) ((n + 1 : Nat) : Int) = true := by
 obtain ⟨h1, h2, h3⟩ := oLo h
 have hle : (rsOf (D ++ P)).length ≤ 60 := pl 60 0 (D ++ P)
 have hn' : n = (rsOf (D ++ P)).length := by omega
 have key := par_more 60 0 (D ++ P) c r h1 (show (rsOf (D ++ P)).length < 60 by omega) hg
 have key : rsOf (D ++ P ++ lineL (0 + (rsOf (D ++ P)).length) c r) = rsOf (D ++ P) ++ [(c, r, (lineL (0 + (rsOf (D ++ P)).length) c r).length)] := key
 rw [Nat.zero_add, ← hn', List.append_assoc] at key
 refine ⟨key, decide_eq_true ⟨?_, ?_, h3⟩⟩
 ·rw [key, tot_app, h1]
  simp only [tot, List.length_append]; omega
 ·rw [key, List.length_append, ← hn']; rfl
theorem ve (D P : List UInt8) (n : Int) (hD : D.length ≤ 10000000) (hP : P.length ≤ 10000000) : iIVL (bs D, bs P, n, ()) = some (okLog D P n) := by
 unfold iIVL
 simp only [re D P n hD hP, Option.bind_some]
theorem append_both (D P c r : List UInt8) (n : Int) (hD : D.length ≤ 1048576) (hP : P.length ≤ 1048576) (hc : c.length ≤ 1048576) (hr : r.length ≤ 1048576) :
  ∃ P' m k, sAR (bs D, bs P, n, ()) (bs c, bs r, ()) = some ((bs D, bs P', m, ()), k) ∧ iAR (bs D, bs P, n, ()) (bs c, bs r, ()) = some ((bs D, bs P', m, ()), k) ∧
    P'.length ≤ P.length + c.length + r.length + 16 ∧ (k ≠ 0 → P' = P ∧ m = n) ∧
    (k = 0 → ∃ q : Nat, n = (q : Int) ∧ okLog D P n = true ∧ q ≠ 60 ∧ goodB c r = true ∧ P' = P ++ lineL q c r ∧ m = ((q + 1 : Nat) : Int)) := by
 have e2 := ve D P n (by omega) (by omega)
 unfold sAR iAR
 simp only [e2, log_eq D P n (by omega) (by omega), Option.bind_some, good_eq c r (by omega) (by omega), iVe c r (by omega) (by omega)]
 cases hv : okLog D P n with
 | false => exact ⟨P, n, 1, rfl, rfl, by omega, fun _ => ⟨rfl, rfl⟩, fun h => by cases h⟩
 | true =>
   cases hg : goodB c r with
   | false => exact ⟨P, n, 1, rfl, rfl, by omega, fun _ => ⟨rfl, rfl⟩, fun h => by cases h⟩
   | true =>
     simp only [Bool.not_true, cond_false]
     by_cases h60 : n = 60
     ·rw [cd1 h60, cd1 h60]; exact ⟨P, n, 2, rfl, rfl, by omega, fun _ => ⟨rfl, rfl⟩, fun h => by cases h⟩
     ·have hn := oLc hv
      obtain ⟨k, rfl⟩ : ∃ k : Nat, n = k := ⟨n.toNat, by omega⟩
      have h1 := tLl k c r (by omega)
      have h2 := sLl1 (textL k c r)
      have h3 : (lineL k c r).length = (sealL (textL k c r)).length + 1 := by simp [lineL]
      rw [cd h60, cd h60, lLe1 k c r (by omega) (by omega) (by omega), encode_eq k c r (by omega) hg]
      simp only [Option.bind_some, bs1, ba]
      rw [gp1 (by omega), wn (by omega)]
      exact ⟨P ++ lineL k c r, _, 0, rfl, rfl, by rw [List.length_append]; omega, fun h => absurd rfl h, fun _ => ⟨k, rfl, trivial, by omega, trivial, rfl, rfl⟩⟩
end Go.Proofs.YtaobinhdnklojaaGreatDoor
