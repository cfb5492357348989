/-
  The abstract evaluator, part 7: stores, composite literals, make, append.
-/
import Derived.Test.YtpmmaohaahbphaaDoorB6
namespace Go.Proofs.YtpmmaohaahbphaaDoor
open Go.RowKit

def splice (r : List AV) (off : Nat) (cs : List AV) : List AV := r.take off ++ (cs ++ r.drop (off + cs.length))
theorem splice_length {r : List AV} {off : Nat} {cs : List AV} (h : off + cs.length ≤ r.length) : (splice r off cs).length = r.length := by
  simp [splice]; omega
theorem splice_get {r : List AV} {off : Nat} {cs : List AV} (h : off + cs.length ≤ r.length) (j : Nat) : (splice r off cs)[j]? = if off ≤ j ∧ j < off + cs.length then cs[j - off]? else r[j]? := by
  unfold splice
  by_cases h1 : j < off
  · rw [List.getElem?_append_left (by simp; omega), List.getElem?_take, if_pos h1, if_neg (by omega)]
  · rw [List.getElem?_append_right (by simp; omega)]
    have e : j - (r.take off).length = j - off := by simp; omega
    rw [e]
    by_cases h2 : j < off + cs.length
    · rw [List.getElem?_append_left (by omega), if_pos (by omega)]
    · rw [List.getElem?_append_right (by omega), List.getElem?_drop, if_neg (by omega)]
      congr 1; omega

def updR (rows : Nat → List AV) (row : Nat) (r : List AV) : Nat → List AV := fun k => if k = row then r else rows k

theorem R.imp {w S V N c c' x} (h : R w S V N c x) (hi : c.isImm = true) (hc : c.imp c') : Rt w S c' x := hc _ _ _ (h.toImm hi)

theorem run_storeCells_fr (P : Program) (g o : Nat) (t : TypeId) (fr : Nat × Nat) {b : Bool} : ∀ (vs : List Value) (i : Nat) (cur : Array Value) (w : World), w.heap[g]? = some (.cells cur t fr) → FrOk b cur.size fr → o + i + vs.length ≤ cur.size → (∀ v ∈ vs, v.oneCell' = true) →
    (storeCells ⟨g, o, none⟩ vs i).run P w = .ok () (w.setRow g (cur.toList.take (o + i) ++ vs ++ cur.toList.drop (o + i + vs.length)).toArray)
  | [], i, cur, w, hg, _, _, _ => by
    simp only [storeCells, List.append_nil, List.length_nil, Nat.add_zero, List.take_append_drop, Array.toArray_toList]
    rw [setRow_self w g cur t fr hg]
    rfl
  | v :: rest, i, cur, w, hg, hf, hl, h1 => by
    have hi : o + i < cur.size := by simp at hl; omega
    have hadd : (⟨g, o, none⟩ : Addr).add i = ⟨g, o + i, none⟩ := by unfold Addr.add; split <;> simp_all
    have hcell : w.cell? ⟨g, o + i, none⟩ = some cur[o + i] := by simp [World.cell?, hg, hi]
    have hfro : w.frozen? ⟨g, o + i, none⟩ = false := by
      obtain ⟨lo, hi2⟩ := fr
      rcases hf with hf | ⟨_, hf⟩
      · cases hf; simp [World.frozen?, hg]
      · have hf : cur.size ≤ lo := hf
        simp [World.frozen?, hg]
        omega
    have hst : (store ((⟨g, o, none⟩ : Addr).add i) v).run P w = .ok () (w.setRow g (cur.setIfInBounds (o + i) v)) := by
      rw [hadd, run_store P w _ v _ (h1 v (by simp)), hcell]
      simp [hfro, setCell_eq_setRow w g (o + i) cur t fr v hg]
    have ih := run_storeCells_fr P g o t fr rest (i + 1) (cur.setIfInBounds (o + i) v) (w.setRow g (cur.setIfInBounds (o + i) v)) (setRow_heap w g cur _ t _ hg) (by simpa using hf) (by simp at hl ⊢; omega) (fun x hx => h1 x (by simp [hx]))
    simp only [storeCells, Sem.run_bind, hst, Result.andThen_ok, ih, setRow_setRow]
    congr 3
    have e := list_seg_step cur.toList (o + i) v rest (by simp at hl ⊢; omega)
    simpa [Array.toList_setIfInBounds, Nat.add_assoc] using e

section
variable {P : Program} {M : Nat → List Bool} {o : Oper} {st : St} {K : AV → St → Prop} {T : Nat → Option TI}

/-- Cells are stored in a row of an own block. -/
theorem SRV.storeAt {C : Ctx} {V a w} (h : SRV C V st a w) {id row off : Nat} {lb lb' : LB} (hlb : st.h[id]? = some (some lb)) (hrow : row < lb.len) {cs : List AV} {ys : List Value} (hl : ys.length = cs.length) (hle : off + cs.length ≤ lb.sz)
    (hr : ∀ (i : Nat) (c : AV) (y : Value), cs[i]? = some c → ys[i]? = some y → R w (Stb C.A w st.h V) V st.h.length c y) (h1 : ∀ y ∈ ys, y.oneCell' = true)
    (e1 : lb'.ty = lb.ty) (e2 : lb'.sz = lb.sz) (e3 : lb'.len = lb.len) (e4 : lb'.kd = lb.kd)
    (hrows : ∀ (k j : Nat) (c' : AV), k < lb.len → (lb'.rows k)[j]? = some c' → ∃ c, (updR lb.rows row (splice (lb.rows row) off cs) k)[j]? = some c ∧ (c' = c ∨ (c.imp c' ∧ (lb.isArr = true ∨ c.isImm = true))))
    (himm : lb.isArr = true → cs.all AV.isImm = true) (hp : lb.plain = true) :
    ∃ (cur : Array Value) (fr : Nat × Nat), w.heap[(V id).blk]? = some (.cells cur lb.ty fr) ∧ FrOk lb.mk cur.size fr ∧ row * lb.sz + off + ys.length ≤ cur.size ∧
      SRV C V ⟨st.s, st.h.set id (some lb')⟩ a (w.setRow (V id).blk (cur.toList.take (row * lb.sz + off) ++ ys ++ cur.toList.drop (row * lb.sz + off + ys.length)).toArray) := by
  obtain ⟨cur, hcur⟩ := h.hr.blk id _ hlb
  have hrl : (lb.rows row).length = lb.sz := lb.rows_length row
  have hle' : off + cs.length ≤ (lb.rows row).length := by rw [hrl]; exact hle
  obtain ⟨fr, hheap, hfr⟩ := hcur.heap (LB.isMp_plain hp)
  have e5 : lb'.mk = lb.mk := congrArg (fun x => x.2.1) e4
  have hp' : lb'.plain = true := (congrArg (fun x => x.2.2) e4).trans hp
  have e4 : lb'.isArr = lb.isArr := congrArg Prod.fst e4
  have hfit0 : (row + 1) * lb.sz ≤ cur.size := by
    cases hb : lb.isArr
    · rw [hcur.box hb]; exact Nat.mul_le_mul_right _ hrow
    · obtain ⟨cap, _, g2, _, g4, _⟩ := hcur.own hb
      rw [g4]; exact Nat.mul_le_mul_right _ (by omega)
  have hfit : row * lb.sz + off + ys.length ≤ cur.size := by
    have : (row + 1) * lb.sz = row * lb.sz + lb.sz := by rw [Nat.add_mul, Nat.one_mul]
    omega
  refine ⟨cur, fr, hheap, hfr, hfit, ?_⟩
  generalize hnew : (cur.toList.take (row * lb.sz + off) ++ ys ++ cur.toList.drop (row * lb.sz + off + ys.length)).toArray = new
  have hget : ∀ q : Nat, new[q]? = if row * lb.sz + off ≤ q ∧ q < row * lb.sz + off + cs.length then ys[q - (row * lb.sz + off)]? else cur[q]? := fun q => by
    rw [← hnew]
    simp only [List.getElem?_toArray]
    have hlen1 : (cur.toList.take (row * lb.sz + off)).length = row * lb.sz + off := by simp; omega
    by_cases h1 : q < row * lb.sz + off
    · rw [List.append_assoc, List.getElem?_append_left (by omega), List.getElem?_take, if_pos h1, if_neg (by omega)]; simp
    · rw [List.append_assoc, List.getElem?_append_right (by omega), hlen1]
      by_cases h2 : q < row * lb.sz + off + cs.length
      · rw [List.getElem?_append_left (by omega), if_pos (by omega)]
      · rw [List.getElem?_append_right (by omega), List.getElem?_drop, if_neg (by omega), hl]
        simp only [Array.getElem?_toList]
        congr 1; omega
  have hsize : new.size = cur.size := by
    rw [← hnew]
    simp only [List.size_toArray, List.length_append, List.length_take, List.length_drop, Array.length_toList]
    omega
  refine h.write hlb (lb' := lb') (w' := w.setRow (V id).blk new) (cur' := new) rfl rfl rfl (by simp) (fun k hk => setRow_other w _ k new hk) (fun hS => ?_) (by rw [LB.subn_plain hp', LB.subn_plain hp]; exact Nat.le_refl _)
  have hin : ∀ (k j : Nat), j < lb.sz → k ≠ row → ¬ (row * lb.sz + off ≤ k * lb.sz + j ∧ k * lb.sz + j < row * lb.sz + off + cs.length) := fun k j hj hne => by
    rcases Nat.lt_or_gt_of_ne hne with hlt | hgt
    · have : (k + 1) * lb.sz ≤ row * lb.sz := Nat.mul_le_mul_right _ hlt
      rw [Nat.add_mul, Nat.one_mul] at this
      omega
    · have : (row + 1) * lb.sz ≤ k * lb.sz := Nat.mul_le_mul_right _ hgt
      rw [Nat.add_mul, Nat.one_mul] at this
      omega
  have hcell : ∀ (k j : Nat) (c : AV), k < lb.len → (updR lb.rows row (splice (lb.rows row) off cs) k)[j]? = some c → ∃ y, new[k * lb.sz + j]? = some y ∧ y.oneCell' = true ∧ R w (Stb C.A w st.h V) V st.h.length c y ∧
      (lb.isArr = true → Rt w (Stb C.A w st.h V) c y) := fun k j c g1 g2 => by
    unfold updR at g2
    by_cases hk : k = row
    · subst hk
      rw [if_pos rfl, splice_get hle'] at g2
      rw [hget]
      by_cases hb : off ≤ j ∧ j < off + cs.length
      · rw [if_pos hb] at g2
        rw [if_pos (by omega)]
        have hj : j - off < ys.length := by omega
        have e4 : k * lb.sz + j - (k * lb.sz + off) = j - off := by omega
        rw [e4]
        have hy : ys[j - off]? = some ys[j - off] := List.getElem?_eq_getElem hj
        exact ⟨_, hy, h1 _ (List.getElem_mem hj), hr _ c _ g2 hy, fun ha => (hr _ c _ g2 hy).toImm (List.all_eq_true.1 (himm ha) c (List.mem_of_getElem? g2))⟩
      · rw [if_neg hb] at g2
        rw [if_neg (by omega)]
        obtain ⟨y, f1, f2, f3⟩ := hcur.cell k j c hrow g2
        exact ⟨y, f1, f2, f3, fun ha => hcur.still ha k j c y hrow g2 f1⟩
    · rw [if_neg hk] at g2
      have hj : j < lb.sz := by
        rw [← lb.rows_length k]; exact (List.getElem?_eq_some_iff.1 g2).1
      rw [hget, if_neg (hin k j hj hk)]
      obtain ⟨y, f1, f2, f3⟩ := hcur.cell k j c g1 g2
      exact ⟨y, f1, f2, f3, fun ha => hcur.still ha k j c y g1 g2 f1⟩
  refine ⟨hcur.sz.trans e2.symm, hcur.ln.trans e3.symm, fun _ => ⟨fr, by rw [e1]; exact setRow_heap w _ cur new _ _ hheap, by rw [e5, hsize]; exact hfr⟩, fun k j c' g1 g2 => ?_, fun harr k j c' y g1 g2 g3 => ?_, fun harr => ?_, fun harr => ?_, Ex.plain hp'⟩
  · rw [e3] at g1
    obtain ⟨c, f1, f2⟩ := hrows k j c' g1 g2
    obtain ⟨y, k1, k2, k3, k4⟩ := hcell k j c g1 f1
    refine ⟨y, by rw [e2]; exact k1, k2, ?_⟩
    rcases f2 with rfl | ⟨f2, f3⟩
    · exact k3.mono hS (fun _ _ => rfl) (Nat.le_refl _)
    · have : Rt w (Stb C.A w st.h V) c y := by
        rcases f3 with f3 | f3
        · exact k4 f3
        · exact k3.toImm f3
      exact .imm _ _ ((f2 _ _ _ this).mono hS)
  · rw [e3] at g1
    rw [e4] at harr
    obtain ⟨c, f1, f2⟩ := hrows k j c' g1 g2
    obtain ⟨y', k1, k2, k3, k4⟩ := hcell k j c g1 f1
    rw [e2, k1] at g3
    cases g3
    have := k4 harr
    rcases f2 with rfl | ⟨f2, f3⟩
    · exact this.mono hS
    · exact (f2 _ _ _ this).mono hS
  · rw [e4] at harr; rw [hsize, e2, e3]; exact hcur.box harr
  · rw [e4] at harr; rw [hsize, e2, e3]; exact hcur.own harr

def evStoreA (ty : TypeId) (t : Ty) (xs : List t.den) (row : Nat) (x : Option t.den) (id : Nat) (s : Nat → AV) (h : List (Option LB)) (K : AV → St → Prop) : Prop :=
  match x with
  | some x => K (.v (.tuple #[])) ⟨s, h.set id (some (.arr ty t (xs.set row x)))⟩
  | none => False
def evStoreO (size : Nat) (st : St) (id row off : Nat) (o : Option (Option LB)) (cs : Option (List AV)) (K : AV → St → Prop) : Prop :=
  match o, cs with
  | some (some (.box ty cells)), some cs => Nat.beq cs.length size = true ∧ Nat.ble (off + cs.length) cells.length = true ∧ K (.v (.tuple #[])) ⟨st.s, st.h.set id (some (.box ty (splice cells off cs)))⟩
  | some (some (.arr ty t xs)), some cs => match frz st.h cs with
    | (fs, h) => Nat.beq cs.length size = true ∧ Nat.ble (off + cs.length) t.n = true ∧ fs.all AV.isImm = true ∧ evLive h[id]? (evStoreA ty t xs row (t.dec (splice (rowT t xs row) off fs)) id st.s h K)
  | _, _ => False
where evLive (o : Option (Option LB)) (p : Prop) : Prop := match o with
  | some (some (.arr _ _ _)) => p
  | _ => False
/-- .. into a row of an own slice of slices. -/
def evStoreX (ty tyI : TypeId) (t : Ty) (xss : List (List t.den)) (k row : Nat) (x : Option t.den) (id : Nat) (st : St) (K : AV → St → Prop) : Prop :=
  match x with
  | some x => K (.v (.tuple #[])) ⟨st.s, st.h.set id (some (.nst ty tyI t (xss.set k ((xss.getD k []).set row x))))⟩
  | none => False
def evStoreR (size : Nat) (st : St) (id k row off : Nat) (o : Option (Option LB)) (cs : Option (List AV)) (K : AV → St → Prop) : Prop :=
  match o, cs with
  | some (some (.nst ty tyI t xss)), some cs => Nat.beq cs.length size = true ∧ Nat.ble (off + cs.length) t.n = true ∧ cs.all AV.isImm = true ∧ evStoreX ty tyI t xss k row (t.dec (splice (rowT t (xss.getD k []) row) off cs)) id st K
  | _, _ => False
def evStore (i : Option TI) (st : St) (p : AV) (cs : Option (List AV)) (K : AV → St → Prop) : Prop :=
  match i, p with
  | some i, .loc id row off => evStoreO i.size st id row off (st.h[id]?) cs K
  | some i, .rloc id k row off => evStoreR i.size st id k row off (st.h[id]?) cs K
  | _, _ => False

theorem frz_live : ∀ (cs : List AV) (h : List (Option LB)) (id : Nat) (lb : LB), (frz h cs).2[id]? = some (some lb) → h[id]? = some (some lb)
  | [], _, _, _, e => e
  | c :: cs, h, id, lb, e => by
    have ih := frz_live cs
    cases c with
    | own i =>
      simp only [frz] at e
      split at e
      · have := ih _ id lb e
        rw [List.getElem?_set] at this
        by_cases hi : i = id
        · rw [if_pos hi] at this; split at this <;> simp at this
        · rw [if_neg hi] at this; exact this
      · have := ih _ id lb e
        rw [List.getElem?_set] at this
        by_cases hi : i = id
        · rw [if_pos hi] at this; split at this <;> simp at this
        · rw [if_neg hi] at this; exact this
      · exact ih _ id lb e
    | _ => exact ih _ id lb e

theorem SRV.storeRow {C : Ctx} {V a w} (h : SRV C V st a w) {id k row off ty tyI : Nat} {t : Ty} {xss : List (List t.den)} (hlb : st.h[id]? = some (some (.nst ty tyI t xss))) (hk : k < xss.length) (hrow : row < (xss.getD k []).length) {cs : List AV} {ys : List Value} (hl : ys.length = cs.length) (hle : off + cs.length ≤ t.n)
    (hr : ∀ (i : Nat) (c : AV) (y : Value), cs[i]? = some c → ys[i]? = some y → R w (Stb C.A w st.h V) V st.h.length c y) (himm : cs.all AV.isImm = true) (h1 : ∀ y ∈ ys, y.oneCell' = true) {x : t.den} (hd : t.dec (splice (rowT t (xss.getD k []) row) off cs) = some x) :
    ∃ ck : Array Value, w.heap[((V id).subs k).blk]? = some (.cells ck tyI (0, 0)) ∧ row * t.n + off + ys.length ≤ ck.size ∧
      SRV C V ⟨st.s, st.h.set id (some (.nst ty tyI t (xss.set k ((xss.getD k []).set row x))))⟩ a (w.setRow ((V id).subs k).blk (ck.toList.take (row * t.n + off) ++ ys ++ ck.toList.drop (row * t.n + off + ys.length)).toArray) := by
  obtain ⟨cur, hc⟩ := h.hr.blk id _ hlb
  have hn : NstOk w (Stb C.A w st.h V) (V id) tyI t xss cur := hc.ex
  obtain ⟨f1, f2, f3, f4, f5⟩ := hn.ok k hk
  obtain ⟨ck, g1, g2, g3⟩ := hn.row k hk
  obtain ⟨d1, d2⟩ := dec_sound t _ x hd
  have hle' : off + cs.length ≤ (rowT t (xss.getD k []) row).length := by rw [rowT_length]; exact hle
  have hfit : row * t.n + off + ys.length ≤ ck.size := by
    have h2 : (row + 1) * t.n ≤ ((V id).subs k).cap * t.n := Nat.mul_le_mul_right _ (by omega)
    rw [Nat.succ_mul] at h2; omega
  refine ⟨ck, g1, hfit, ?_⟩
  generalize hnew : (ck.toList.take (row * t.n + off) ++ ys ++ ck.toList.drop (row * t.n + off + ys.length)).toArray = new
  have hget : ∀ q : Nat, new[q]? = if row * t.n + off ≤ q ∧ q < row * t.n + off + cs.length then ys[q - (row * t.n + off)]? else ck[q]? := fun q => by
    rw [← hnew]
    simp only [List.getElem?_toArray]
    have hlen1 : (ck.toList.take (row * t.n + off)).length = row * t.n + off := by simp; omega
    by_cases h1 : q < row * t.n + off
    · rw [List.append_assoc, List.getElem?_append_left (by omega), List.getElem?_take, if_pos h1, if_neg (by omega)]; simp
    · rw [List.append_assoc, List.getElem?_append_right (by omega), hlen1]
      by_cases h2 : q < row * t.n + off + cs.length
      · rw [List.getElem?_append_left (by omega), if_pos (by omega)]
      · rw [List.getElem?_append_right (by omega), List.getElem?_drop, if_neg (by omega), hl]
        simp only [Array.getElem?_toList]
        congr 1; omega
  have hsize : new.size = ck.size := by
    rw [← hnew]
    simp only [List.size_toArray, List.length_append, List.length_take, List.length_drop, Array.length_toList]
    omega
  have hset : ∀ i : Nat, (xss.set k ((xss.getD k []).set row x)).getD i [] = if i = k then (xss.getD k []).set row x else xss.getD i [] := fun i => by
    by_cases hi : i = k
    · subst hi; rw [if_pos rfl, List.getD_eq_getElem?_getD, List.getElem?_set_self hk]; rfl
    · rw [if_neg hi, List.getD_eq_getElem?_getD, List.getElem?_set_ne (Ne.symm hi), ← List.getD_eq_getElem?_getD]
  obtain ⟨ap1, _⟩ := hn.apart k hk
  have hother : ∀ q, q ≠ ((V id).subs k).blk → (w.setRow ((V id).subs k).blk new).heap[q]? = w.heap[q]? := fun q hq => setRow_other w _ q new hq
  refine h.writeF hlb (lb' := .nst ty tyI t (xss.set k ((xss.getD k []).set row x))) (cur' := cur) (by simp [LB.subn]) rfl rfl rfl (by simp) (fun q hq => hother q fun e => hq (.inr ⟨k, hk, e.symm⟩)) (fun hS => ?_)
  refine ⟨hc.sz, by simpa [LB.len] using hc.ln, fun _ => ?_, fun k' j c a1 a2 => ?_, fun _ k' j c y a1 a2 a3 => ?_, (fun e => by cases e), fun _ => by simpa [LB.len, LB.sz] using hc.own rfl, ?_⟩
  · obtain ⟨fr, e1, e2⟩ := hc.heap rfl
    exact ⟨fr, (hother _ ap1.symm).trans e1, e2⟩
  · obtain ⟨y, e1, e2, _⟩ := hc.cell k' j c (by simpa [LB.len] using a1) a2
    refine ⟨y, e1, e2, ?_⟩
    cases j with
    | zero => simp [LB.rows] at a2; subst a2; exact .imm _ _ (.any _)
    | succ j => simp [LB.rows] at a2
  · cases j with
    | zero => simp [LB.rows] at a2; subst a2; exact .any _
    | succ j => simp [LB.rows] at a2
  · refine ⟨hn.frh.imp fun ty e => (hother _ ap1.symm).trans e, fun i hi => ?_, fun i hi => hn.at_ i (by simpa using hi), fun i hi => ?_, fun i hi => ?_⟩
    · have := hn.apart i (by simpa using hi)
      exact ⟨this.1, fun i' hi' => this.2 i' (by simpa using hi')⟩
    · rw [hset]
      have := hn.ok i (by simpa using hi)
      split
      · rename_i e; subst e; simpa using this
      · exact this
    · have hi : i < xss.length := by simpa using hi
      rw [hset]
      by_cases hik : i = k
      · subst hik
        rw [if_pos rfl]
        refine ⟨new, setRow_heap w _ ck new _ _ g1, by rw [hsize]; exact g2, fun q j c' a1 a2 => ?_⟩
        have a1 : q < (xss.getD i []).length := by simpa using a1
        by_cases hq : q = row
        · subst hq
          have e1 : rowT t ((xss.getD i []).set q x) q = t.enc x := by
            unfold rowT
            rw [List.getD_eq_getElem?_getD, List.getElem?_set_self hrow]; rfl
          rw [e1] at a2
          have hj : j < (splice (rowT t (xss.getD i []) q) off cs).length := by
            rw [d1, ← enc_length t x]; exact (List.getElem?_eq_some_iff.1 a2).1
          have hc0 := List.getElem?_eq_getElem hj
          generalize (splice (rowT t (xss.getD i []) q) off cs)[j] = c0 at hc0
          have himp := d2 j c0 c' hc0 a2
          rw [splice_get hle'] at hc0
          rw [hget]
          by_cases hb : off ≤ j ∧ j < off + cs.length
          · rw [if_pos hb] at hc0
            rw [if_pos (by omega)]
            have e4 : q * t.n + j - (q * t.n + off) = j - off := by omega
            rw [e4]
            have hjy : j - off < ys.length := by omega
            have hy : ys[j - off]? = some ys[j - off] := List.getElem?_eq_getElem hjy
            exact ⟨_, hy, h1 _ (List.getElem_mem hjy), (himp _ _ _ ((hr _ c0 _ hc0 hy).toImm (List.all_eq_true.1 himm c0 (List.mem_of_getElem? hc0)))).mono hS⟩
          · rw [if_neg hb] at hc0
            rw [if_neg (by omega)]
            obtain ⟨y, k1, k2, k3⟩ := g3 q j c0 hrow hc0
            exact ⟨y, k1, k2, (himp _ _ _ k3).mono hS⟩
        · have e1 : rowT t ((xss.getD i []).set row x) q = rowT t (xss.getD i []) q := by
            unfold rowT
            rw [List.getD_eq_getElem?_getD, List.getElem?_set_ne (Ne.symm hq), ← List.getD_eq_getElem?_getD]
          rw [e1] at a2
          have hj : j < t.n := by rw [← rowT_length t (xss.getD i []) q]; exact (List.getElem?_eq_some_iff.1 a2).1
          have hno : ¬ (row * t.n + off ≤ q * t.n + j ∧ q * t.n + j < row * t.n + off + cs.length) := by
            rcases Nat.lt_or_gt_of_ne hq with hlt | hgt
            · have : (q + 1) * t.n ≤ row * t.n := Nat.mul_le_mul_right _ hlt
              rw [Nat.succ_mul] at this; omega
            · have : (row + 1) * t.n ≤ q * t.n := Nat.mul_le_mul_right _ hgt
              rw [Nat.succ_mul] at this; omega
          rw [hget, if_neg hno]
          obtain ⟨y, k1, k2, k3⟩ := g3 q j c' a1 a2
          exact ⟨y, k1, k2, k3.mono hS⟩
      · rw [if_neg hik]
        obtain ⟨ci, k1, k2, k3⟩ := hn.row i hi
        refine ⟨ci, (hother _ ((hn.apart i hi).2 k hk hik)).trans k1, k2, fun q j c a1 a2 => ?_⟩
        obtain ⟨y, m1, m2, m3⟩ := k3 q j c a1 a2
        exact ⟨y, m1, m2, m3.mono hS⟩

theorem edoes_storeR (hT : TOk P T) (t : TypeId) (p x : Operand) (i : TI) (hi : T t = some i) (id k row off : Nat) (hp : st.ev p = .rloc id k row off) (ho : o.op = .store t p x) (hk : evStoreR i.size st id k row off (st.h[id]?) (memCells st.h (st.ev x)) K) : EDoes P M o st K := by
  unfold evStoreR at hk
  split at hk
  case h_2 => exact hk.elim
  rename_i ty tyI te xss cs hlb hmc
  obtain ⟨hsz, hle, himm, hk⟩ := hk
  have hsz : cs.length = i.size := Nat.eq_of_beq_eq_true hsz
  have hle := Nat.le_of_ble_eq_true hle
  unfold evStoreX at hk
  split at hk
  case h_2 => exact hk.elim
  rename_i x' hdec
  intro C V a w h next Q hn
  obtain ⟨c1, c2, c3⟩ := h.memCells (h.ev x) hmc
  obtain ⟨hid, hkk, hrow, ep⟩ := (hp ▸ h.ev p).rloc_inv
  obtain ⟨_, _, hnk, _, _, _, _, _, _, hln⟩ := h.nst hlb
  have hkk : k < xss.length := by rw [← hln]; exact hkk
  obtain ⟨f1, f2, _⟩ := hnk.ok k hkk
  rw [f2] at hrow
  obtain ⟨ck, e1, e2, e3⟩ := h.storeRow hlb hkk hrow (ys := (a.eval x).cells.toList) (by simpa using c1) hle (fun i c y e1 e2 => c2 i c y e1 (by simpa using e2)) himm c3 hdec
  have hst := run_storeCells_fr P ((V id).subs k).blk (row * te.n + off) tyI (0, 0) (b := false) (a.eval x).cells.toList 0 ck w e1 (.inl rfl) (by simpa using e2) c3
  simp only [Nat.add_zero] at hst
  have hrun : (execOp a.eval o).run P w = .ok .skip (w.setRow ((V id).subs k).blk (ck.toList.take (row * te.n + off) ++ (a.eval x).cells.toList ++ ck.toList.drop (row * te.n + off + (a.eval x).cells.toList.length)).toArray) := by
    simp only [Array.length_toList] at hst
    simp [execOp, ho, ep, Instr.storeAt, Instr.sureAddr, storeVar, (hT t i hi).size, c1, hsz, f1, hst]
  unfold Oper.wp
  rw [hrun]
  exact hn _ _ _ undef _ hk e3 (.imm _ _ (.v _)) fun e => belA_no (by rw [ho]; rfl) (fun _ _ _ e => by rw [ho] at e; cases e) e
theorem edoes_store (hT : TOk P T) (t : TypeId) (p x : Operand) (ho : o.op = .store t p x) (hk : evStore (T t) st (st.ev p) (memCells st.h (st.ev x)) K) : EDoes P M o st K := by
  unfold evStore at hk
  split at hk
  case h_3 => exact hk.elim
  case h_2 =>
    rename_i i id k row off hi hp
    exact edoes_storeR hT t p x i hi id k row off hp ho hk
  rename_i i id row off hi hp
  have fin : ∀ (C : Ctx) (V : Nat → Info) (a : Act) (w : World), SRV C V st a w → ∀ (lb lb' : LB) (h' : List (Option LB)) (cs : List AV), lb.plain = true → memCells st.h (st.ev x) = some cs → SRV C V ⟨st.s, h'⟩ a w → h'[id]? = some (some lb) → (∀ b, Stb C.A w st.h V b → Stb C.A w h' V b) → h'.length = st.h.length → cs.length = i.size →
      ∀ fs : List AV, fs.length = cs.length → off + fs.length ≤ lb.sz → (∀ (i : Nat) (c : AV) (y : Value), fs[i]? = some c → (a.eval x).cells.toList[i]? = some y → R w (Stb C.A w h' V) V h'.length c y) →
      lb'.ty = lb.ty → lb'.sz = lb.sz → lb'.len = lb.len → lb'.kd = lb.kd →
      (∀ (k j : Nat) (c' : AV), k < lb.len → (lb'.rows k)[j]? = some c' → ∃ c, (updR lb.rows row (splice (lb.rows row) off fs) k)[j]? = some c ∧ (c' = c ∨ (c.imp c' ∧ (lb.isArr = true ∨ c.isImm = true)))) →
      (lb.isArr = true → fs.all AV.isImm = true) → ∀ (next : Act → World → Prop) (Q : Exit → Act → World → Prop),
      (∀ V' w', SRV C V' ⟨st.s, h'.set id (some lb')⟩ a w' → next (a.put o.dst undef) w') → o.wp P a w next Q := by
    intro C V a w h lb lb' h' cs hpl hmc hs' hlb hS hlen hsz fs hfl hle hr g1 g2 g3 g4 hrows himm next Q hn
    obtain ⟨c1, c2, c3⟩ := h.memCells (h.ev x) hmc
    obtain ⟨_, hrow, ep⟩ := (hp ▸ h.ev p).loc_inv
    obtain ⟨cur0, hc0⟩ := hs'.hr.blk id _ hlb
    have hy : (a.eval x).cells.toList.length = fs.length := by simpa [hfl] using c1
    obtain ⟨cur, fr, hheap, hfr, hfit, hw⟩ := hs'.storeAt (st := ⟨st.s, h'⟩) hlb (by rw [← hc0.ln]; exact hrow) hy hle hr c3 g1 g2 g3 g4 hrows himm hpl
    have hIsz : (V id).sz = lb.sz := hc0.sz
    have hst := run_storeCells_fr P (V id).blk (row * lb.sz + off) lb.ty fr (a.eval x).cells.toList 0 cur w hheap hfr (by simpa using hfit) c3
    simp only [Nat.add_zero] at hst
    have hrun : (execOp a.eval o).run P w = .ok .skip (w.setRow (V id).blk (cur.toList.take (row * lb.sz + off) ++ (a.eval x).cells.toList ++ cur.toList.drop (row * lb.sz + off + (a.eval x).cells.toList.length)).toArray) := by
      simp only [Array.length_toList] at hst
      simp [execOp, ho, ep, Instr.storeAt, Instr.sureAddr, storeVar, (hT t i hi).size, c1, hsz, hIsz, hst]
    unfold Oper.wp
    rw [hrun]
    exact hn _ _ hw
  unfold evStoreO at hk
  split at hk
  case h_3 => exact hk.elim
  · rename_i ty cells cs hlb hmc
    obtain ⟨hsz, hle, hk⟩ := hk
    have hsz : cs.length = i.size := Nat.eq_of_beq_eq_true hsz
    have hle := Nat.le_of_ble_eq_true hle
    intro C V a w h next Q hn
    obtain ⟨c1, c2, c3⟩ := h.memCells (h.ev x) hmc
    obtain ⟨hid, hrow, ep⟩ := (hp ▸ h.ev p).loc_inv
    obtain ⟨cur0, hc0⟩ := h.hr.blk id _ hlb
    have hrow0 : row = 0 := by have := hc0.ln; simp only [LB.len] at this; omega
    refine fin C V a w h (.box ty cells) (.box ty (splice cells off cs)) st.h cs rfl hmc h hlb (fun b hb => hb) rfl hsz cs rfl hle (fun i c y e1 e2 => c2 i c y e1 (by simpa using e2)) rfl (splice_length hle) rfl rfl (fun k j c' g1 g2 => ⟨c', ?_, .inl rfl⟩) (fun g => by simp [LB.isArr] at g) next Q fun V' w' hs => ?_
    · have : k = row := by simp only [LB.len] at g1; omega
      unfold updR
      rw [if_pos this]; exact g2
    · exact hn _ _ _ undef _ hk hs (.imm _ _ (.v _)) fun e => belA_no (by rw [ho]; rfl) (fun _ _ _ e => by rw [ho] at e; cases e) e
  · rename_i ty te xs cs hlb hmc
    obtain ⟨hsz, hle, himm, hk⟩ := hk
    have hsz : cs.length = i.size := Nat.eq_of_beq_eq_true hsz
    have hle := Nat.le_of_ble_eq_true hle
    unfold evStoreO.evLive at hk
    split at hk
    case h_2 => exact hk.elim
    rename_i ty' te' xs' hlive
    have hlb' := frz_live _ _ _ _ hlive
    rw [hlb] at hlb'
    simp only [Option.some.injEq] at hlb'
    rw [← hlb'] at hlive
    unfold evStoreA at hk
    split at hk
    case h_2 => exact hk.elim
    rename_i x' hdec
    obtain ⟨d1, d2⟩ := dec_sound te _ x' hdec
    intro C V a w h next Q hn
    obtain ⟨c1, c2, c3⟩ := h.memCells (h.ev x) hmc
    obtain ⟨hid, hrow, ep⟩ := (hp ▸ h.ev p).loc_inv
    obtain ⟨cur0, hc0⟩ := h.hr.blk id _ hlb
    have hrow : row < xs.length := by have := hc0.ln; simp only [LB.len] at this; omega
    obtain ⟨f1, f2, f3, f4, f5⟩ := SRV.frz (s := st.s) cs st.h (a.eval x).cells.toList h (by simpa using c1) (fun i c y e1 e2 => c2 i c y e1 (by simpa using e2))
    refine fin C V a w h (.arr ty te xs) (.arr ty te (xs.set row x')) (frz st.h cs).2 cs rfl hmc f1 hlive f4 f3 hsz (frz st.h cs).1 f2 (by rw [f2]; exact hle) (fun i c y e1 e2 => by rw [f3]; exact f5 i c y e1 e2) rfl rfl (by simp [LB.len]) rfl (fun k j c' g1 g2 => ?_) (fun _ => himm) next Q fun V' w' hs => ?_
    · simp only [LB.rows] at g2 ⊢
      unfold updR
      by_cases hk : k = row
      · subst hk
        rw [if_pos rfl]
        have e1 : rowT te (xs.set k x') k = te.enc x' := by simp [rowT, List.getD, hrow]
        rw [e1] at g2
        have hj : j < (splice (rowT te xs k) off (frz st.h cs).1).length := by
          rw [d1, ← enc_length te x']; exact (List.getElem?_eq_some_iff.1 g2).1
        exact ⟨_, List.getElem?_eq_getElem hj, .inr ⟨d2 j _ c' (List.getElem?_eq_getElem hj) g2, .inl rfl⟩⟩
      · rw [if_neg hk]
        have e1 : rowT te (xs.set row x') k = rowT te xs k := by simp [rowT, List.getD, List.getElem?_set, Ne.symm hk]
        rw [e1] at g2
        exact ⟨c', g2, .inl rfl⟩
    · exact hn _ _ _ undef _ hk hs (.imm _ _ (.v _)) fun e => belA_no (by rw [ho]; rfl) (fun _ _ _ e => by rw [ho] at e; cases e) e
end

/-- A list whose spine is worked out once. -/
def forceS {α : Type} : List AV → (List AV → α) → α
  | [], k => k []
  | c :: cs, k => forceS cs fun cs => k (c :: cs)
theorem forceS_eq {α : Type} : ∀ (cs : List AV) (k : List AV → α), forceS cs k = k cs
  | [], _ => rfl
  | c :: cs, k => by rw [forceS, forceS_eq cs]
/-- Cells into places, one part after the other. -/
def fillA (place : Nat → Option (Nat × Nat)) (acc : List AV) : List (Nat × Option (List AV)) → Option (List AV)
  | [] => some acc
  | (i, o) :: rest =>
    match place i, o with
    | some (off, size), some cs =>
      match Nat.beq cs.length size && Nat.ble (off + size) acc.length with
      | true => forceS (splice acc off cs) fun acc => fillA place acc rest
      | false => none
    | _, _ => none
/-- Cells that stand for others. -/
def RelC (Rel : AV → Value → Prop) (l : List AV) (cs : Array Value) : Prop := cs.size = l.length ∧ ∀ (i : Nat) (c : AV) (y : Value), l[i]? = some c → cs[i]? = some y → y.oneCell' = true ∧ Rel c y
theorem fill_rel {Rel : AV → Value → Prop} {place place' : Nat → Option (Nat × Nat)} (hp : ∀ i p, place i = some p → place' i = some p) : ∀ (ps : List (Nat × Option (List AV))) (vs : List (Nat × Value)) (acc res : List AV) (cells : Array Value),
    RelC Rel acc cells → vs.length = ps.length → (∀ (j : Nat) (i i' : Nat) (o : Option (List AV)) (v : Value), ps[j]? = some (i, o) → vs[j]? = some (i', v) → i' = i ∧ ∀ cs, o = some cs → RelC Rel cs v.cells) →
    fillA place acc ps = some res → ∃ r, Instr.fill place' cells vs = some r ∧ RelC Rel res r
  | [], [], acc, res, cells, h, _, _, hf => by
    simp only [fillA, Option.some.injEq] at hf
    subst hf
    exact ⟨cells, rfl, h⟩
  | (i, o) :: ps, (i', v) :: vs, acc, res, cells, h, hl, hv, hf => by
    obtain ⟨rfl, hcs⟩ := hv 0 i i' o v rfl rfl
    unfold fillA at hf
    split at hf
    · rename_i off size cs hpl
      split at hf
      · rename_i hb
        rw [forceS_eq] at hf
        simp only [Bool.and_eq_true] at hb
        have hb1 := Nat.eq_of_beq_eq_true hb.1
        have hb2 := Nat.le_of_ble_eq_true hb.2
        have hc := hcs cs rfl
        have hsz : v.cells.size = size := by rw [hc.1, hb1]
        obtain ⟨g1, g2⟩ := Great.foldl_set off v.cells.toList 0 cells
        have hnew : RelC Rel (splice acc off cs) ((v.cells.toList.zipIdx 0).foldl (fun cs (x : Value × Nat) => cs.setIfInBounds (off + x.2) x.1) cells) := by
          refine ⟨by rw [g1, splice_length (by omega), h.1], fun k c y e1 e2 => ?_⟩
          rw [splice_get (by omega)] at e1
          rw [g2 k] at e2
          simp only [Nat.add_zero, Array.length_toList, hsz] at e2
          by_cases hk : off ≤ k ∧ k < off + cs.length
          · rw [if_pos hk] at e1
            have hk2 : k < cells.size := by rw [h.1]; omega
            rw [if_pos ⟨hk.1, by omega, hk2⟩] at e2
            exact hc.2 (k - off) c y e1 (by simpa using e2)
          · rw [if_neg hk] at e1
            rw [if_neg (by omega)] at e2
            exact h.2 k c y e1 e2
        obtain ⟨r, hr, hrel⟩ := fill_rel hp ps vs _ res _ hnew (by simpa using hl) (fun j i i' o v e1 e2 => hv (j + 1) i i' o v (by simpa using e1) (by simpa using e2)) hf
        refine ⟨r, ?_, hrel⟩
        unfold Instr.fill
        simp only [hp _ _ hpl, hsz]
        rw [if_neg (by rw [h.1]; simp; omega)]
        rw [← hr]
        congr 1
        rw [← Array.foldl_toList, Array.toList_zipIdx]
      · cases hf
    · cases hf
  | [], _ :: _, _, _, _, _, hl, _, _ => by simp at hl
  | _ :: _, [], _, _, _, _, hl, _, _ => by simp at hl

section
variable {P : Program} {o : Oper} {st : St} {T : Nat → Option TI}
def partsA (st : St) (ps : List (Nat × Operand)) : List (Nat × Option (List AV)) := ps.map fun p => (p.1, memCells st.h (st.ev p.2))
def placesA (i : TI) (j : Nat) : Option (Nat × Nat) := match i.offs[j]? with
  | some (o, s, _) => some (o, s)
  | none => none
def evBuildO (o : Option (List AV)) (K : AV → Prop) : Prop := match o with
  | some cs => K (.agg cs)
  | none => False
def placesB (n : Nat) (j : Nat) : Option (Nat × Nat) := some (j * n, n)
/-- An array, element by element. -/
def evBuildA (T : Nat → Option TI) (i : TI) (st : St) (ps : List (Nat × Operand)) (K : AV → Prop) : Prop :=
  match T i.arr.2 with
  | some e => (i.zero.cells.toList.all Value.oneCell') = true ∧ Nat.beq i.arr.1 0 = false ∧ evBuildO (fillA (placesB e.size) (i.zero.cells.toList.map AV.v) (partsA st ps)) K
  | none => False
def evBuild (T : Nat → Option TI) (i : Option TI) (st : St) (ps : List (Nat × Operand)) (K : AV → Prop) : Prop :=
  match i with
  | some i => match i.offs.isEmpty with
    | false => (i.zero.cells.toList.all Value.oneCell') = true ∧ evBuildO (fillA (placesA i) (i.zero.cells.toList.map AV.v) (partsA st ps)) K
    | true => evBuildA T i st ps K
  | none => False
theorem parts_rel {C : Ctx} {V st a w} (h : SRV C V st a w) (ps : List (Nat × Operand)) (j i i' : Nat) (o : Option (List AV)) (v : Value) (e1 : (partsA st ps)[j]? = some (i, o)) (e2 : (ps.map fun x => (x.1, a.eval x.2))[j]? = some (i', v)) :
    i' = i ∧ ∀ cs, o = some cs → RelC (R w (Stb C.A w st.h V) V st.h.length) cs v.cells := by
  unfold partsA at e1
  rw [List.getElem?_map] at e1 e2
  obtain ⟨p, f1, f2⟩ := Option.map_eq_some_iff.1 e1
  rw [f1] at e2
  simp only [Option.map_some, Option.some.injEq, Prod.mk.injEq] at e2 f2
  obtain ⟨rfl, rfl⟩ := e2
  obtain ⟨rfl, f3⟩ := f2
  refine ⟨rfl, fun cs hcs => ?_⟩
  obtain ⟨c1, c2, c3⟩ := h.memCells (h.ev p.2) (f3.trans hcs)
  exact ⟨c1, fun i c y g1 g2 => ⟨c3 y (Array.mem_toList_iff.2 (Array.mem_of_getElem? g2)), c2 i c y g1 g2⟩⟩
theorem zero_rel {Rel : AV → Value → Prop} (hv : ∀ x, Rel (.v x) x) {z : Array Value} (hz : z.toList.all Value.oneCell' = true) : RelC Rel (z.toList.map AV.v) z := by
  refine ⟨by simp, fun i c y e1 e2 => ?_⟩
  simp only [List.getElem?_map, Array.getElem?_toList, e2, Option.map_some, Option.some.injEq] at e1
  subst e1
  exact ⟨List.all_eq_true.1 hz y (Array.mem_toList_iff.2 (Array.mem_of_getElem? e2)), hv y⟩
theorem vdoes_buildA {K : AV → Prop} (hT : TOk P T) (t : TypeId) (ps : Array (Nat × Operand)) (ho : o.op = .build t ps) (i : TI) (hi : T t = some i) (hk : evBuildA T i st ps.toList K) : VDoes P o st K := by
  unfold evBuildA at hk
  split at hk
  case h_2 => exact hk.elim
  rename_i e he
  obtain ⟨hz, hne, hk⟩ := hk
  unfold evBuildO at hk
  split at hk
  case h_2 => exact hk.elim
  rename_i cs hcs
  intro C V a w h
  obtain ⟨ti, hti, hzero, _, _⟩ := (hT t i hi).info
  obtain ⟨te, hte, _, hsize, _⟩ := (hT _ e he).info
  have hu := (hT t i hi).arr hne
  obtain ⟨r, hr, hrel⟩ := fill_rel (place' := fun j => some (j * te.size, te.size)) (Rel := R w (Stb C.A w st.h V) V st.h.length) (fun j p hp => by
    unfold placesB at hp
    rw [hsize]; exact hp) (partsA st ps.toList) (ps.toList.map fun x => (x.1, a.eval x.2)) _ cs i.zero.cells (zero_rel (fun x => .imm _ _ (.v x)) hz) (by simp [partsA]) (fun j i i' o v e1 e2 => parts_rel h _ j i i' o v e1 e2) hcs
  refine ⟨_, .agg r, hk, .agg _ r hrel.1 (fun j c y e1 e2 => (hrel.2 j c y e1 e2).2), fun w' _ => ?_⟩
  have hb : P.built t (ps.toList.map fun x => (x.1, a.eval x.2)) = some r := by
    unfold Program.built
    rw [hti, hu]
    simp only [hzero, hte]
    exact hr
  have hb2 : P.built t (ps.map fun x => (x.1, a.eval x.2)).toList = some r := by simpa using hb
  have := run_build w' t _ r hb2
  simp [execOp, ho, this]
theorem vdoes_build {K : AV → Prop} (hT : TOk P T) (t : TypeId) (ps : Array (Nat × Operand)) (ho : o.op = .build t ps) (hk : evBuild T (T t) st ps.toList K) : VDoes P o st K := by
  unfold evBuild at hk
  split at hk
  · rename_i i hi
    split at hk
    case h_2 => exact vdoes_buildA hT t ps ho i hi hk
    rename_i hagg
    obtain ⟨hz, hk⟩ := hk
    unfold evBuildO at hk
    split at hk
    · rename_i cs hcs
      intro C V a w h
      obtain ⟨ti, hti, hzero, _, _⟩ := (hT t i hi).info
      obtain ⟨fs, hu, hpl⟩ := (hT t i hi).places hagg
      obtain ⟨r, hr, hrel⟩ := fill_rel (place' := fun j => ((i.offs.map fun x => (x.1, x.2.1)).toArray)[j]?) (Rel := R w (Stb C.A w st.h V) V st.h.length) (fun j p hp => by
        unfold placesA at hp
        simp only [List.getElem?_toArray, List.getElem?_map]
        split at hp
        · rename_i e; rw [e]; exact hp
        · cases hp) (partsA st ps.toList) (ps.toList.map fun x => (x.1, a.eval x.2)) _ cs i.zero.cells (zero_rel (fun x => .imm _ _ (.v x)) hz) (by simp [partsA]) (fun j i i' o v e1 e2 => parts_rel h _ j i i' o v e1 e2) hcs
      refine ⟨_, .agg r, hk, .agg _ r hrel.1 (fun j c y e1 e2 => (hrel.2 j c y e1 e2).2), fun w' _ => ?_⟩
      have hb : P.built t (ps.toList.map fun x => (x.1, a.eval x.2)) = some r := by
        unfold Program.built
        rw [hti, hu]
        simp only [hzero, hpl]
        exact hr
      have hb2 : P.built t (ps.map fun x => (x.1, a.eval x.2)).toList = some r := by simpa using hb
      have := run_build w' t _ r hb2
      simp [execOp, ho, this]
    · exact hk.elim
  · exact hk.elim
end
end Go.Proofs.YtpmmaohaahbphaaDoor
