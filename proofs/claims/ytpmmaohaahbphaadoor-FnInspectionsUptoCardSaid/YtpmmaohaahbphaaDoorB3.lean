/-
  The abstract evaluator, part 3: more operations that yield a value and leave the world alone.
-/
import Derived.Test.YtpmmaohaahbphaaDoorB2
import Derived.Laws.Cover1
namespace Go.Proofs.YtpmmaohaahbphaaDoor
open Go.RowKit

section
variable {P : Program} {o : Oper} {st : St} {K : AV → Prop} {T : Nat → Option TI}

theorem R.tree_inv {w S V N t xs y} (h : R w S V N (.tree t xs) y) : Rt w S (.tree t xs) y := by
  cases h with
  | imm _ _ h => exact h
theorem R.tptr_inv {w S V N t xs row off y} (h : R w S V N (.tptr t xs row off) y) : Rt w S (.tptr t xs row off) y := by
  cases h with
  | imm _ _ h => exact h
theorem R.bptr_inv {w S V N cs off y} (h : R w S V N (.bptr cs off) y) : Rt w S (.bptr cs off) y := by
  cases h with
  | imm _ _ h => exact h
theorem R.own_inv {w S V N id y} (h : R w S V N (.own id) y) : y = (V id).val := by
  cases h with
  | imm _ _ h => cases h
  | own _ _ => rfl
theorem R.view_inv {w S V N id lo n y} (h : R w S V N (.view id lo n) y) : id < N ∧ lo + n ≤ (V id).len ∧ y = partV (V id).val (V id).sz lo n := by
  cases h with
  | imm _ _ h => cases h
  | view _ _ _ h1 h2 => exact ⟨h1, h2, rfl⟩
theorem R.loc_inv {w S V N id row off y} (h : R w S V N (.loc id row off) y) : id < N ∧ row < (V id).len ∧ y = .pointer (some ⟨(V id).blk, row * (V id).sz + off, none⟩) := by
  cases h with
  | imm _ _ h => cases h
  | loc _ _ _ h1 h2 => exact ⟨h1, h2, rfl⟩

theorem R.rowv_inv {w S V N id k y} (h : R w S V N (.rowv id k) y) : id < N ∧ k < (V id).len ∧ y = ((V id).subs k).val := by
  cases h with
  | imm _ _ h => cases h
  | rowv _ _ h1 h2 => exact ⟨h1, h2, rfl⟩
theorem R.rloc_inv {w S V N id k row off y} (h : R w S V N (.rloc id k row off) y) : id < N ∧ k < (V id).len ∧ row < ((V id).subs k).len ∧ y = .pointer (some ⟨((V id).subs k).blk, row * ((V id).subs k).sz + off, none⟩) := by
  cases h with
  | imm _ _ h => cases h
  | rloc _ _ _ _ h1 h2 h3 => exact ⟨h1, h2, h3, rfl⟩
theorem LB.isMp_row {lb : LB} {k j : Nat} {c : AV} (h : (lb.rows k)[j]? = some c) : lb.isMp = false := by
  cases lb <;> first | rfl | simp [LB.rows] at h
/-- What is known of an own slice of slices. -/
theorem SRV.nst {C : Ctx} {V st a w} (h : SRV C V st a w) {id ty tyI : Nat} {t : Ty} {xss : List (List t.den)} (e : st.h[id]? = some (some (.nst ty tyI t xss))) :
    ∃ cur cap, NstOk w (Stb C.A w st.h V) (V id) tyI t xss cur ∧ (V id).val = .slice (some ⟨(V id).blk, 0, none⟩) xss.length cap ∧ xss.length ≤ cap ∧ cap ≤ maxLen ∧ cur.size = cap ∧ xss.length ≤ bigLen ∧ (V id).sz = 1 ∧ (V id).len = xss.length := by
  obtain ⟨cur, hc⟩ := h.hr.blk id _ e
  obtain ⟨cap, e1, e2, e3, e4, e5⟩ := hc.own rfl
  exact ⟨cur, cap, hc.ex, e1, e2, e3, by simpa [LB.sz] using e4, e5, hc.sz, hc.ln⟩

/-- A part of an own slice. -/
theorem SRV.part {C : Ctx} {V st a w} (h : SRV C V st a w) {id lo n ty : Nat} {t : Ty} {xs : List t.den} {y : Value} (hlb : st.h[id]? = some (some (.arr ty t xs))) (hr : R w (Stb C.A w st.h V) V st.h.length (.view id lo n) y) :
    lo + n ≤ xs.length ∧ ∃ cap, xs.length ≤ cap ∧ cap ≤ maxLen ∧ y = .slice (some ⟨(V id).blk, if cap = lo then 0 else lo * t.n, none⟩) n (cap - lo) := by
  obtain ⟨_, h1, rfl⟩ := hr.view_inv
  obtain ⟨cur, hc⟩ := h.hr.blk id _ hlb
  obtain ⟨cap, e, h2, h3, _, _⟩ := hc.own rfl
  have e1 := hc.ln
  have e2 := hc.sz
  simp only [LB.len, LB.sz] at e1 e2 e h2
  refine ⟨by omega, cap, h2, h3, ?_⟩
  rw [e, e2]
  simp only [partV]
  by_cases hcl : cap = lo
  · simp [hcl]
  · simp [hcl, Addr.add_lit]

/-- 'len'. -/
def evLenO (o : Option (Option LB)) (n : Option Nat) (K : AV → Prop) : Prop :=
  match o, n with
  | some (some (.arr _ _ xs)), none => K (.v (.int .i64 xs.length))
  | some (some (.arr _ _ _)), some n => K (.v (.int .i64 n))
  | some (some (.nst _ _ _ xss)), none => K (.v (.int .i64 xss.length))
  | _, _ => False
def evLenR (o : Option (Option LB)) (k : Nat) (K : AV → Prop) : Prop :=
  match o with
  | some (some (.nst _ _ _ xss)) => K (.v (.int .i64 (xss.getD k []).length))
  | _ => False
def evLenX (i : TI) (h : List (Option LB)) (x : AV) (K : AV → Prop) : Prop :=
  match x with
  | .v (.string s) => i.str = true ∧ K (.v (.int .i64 s.size))
  | .v (.slice none 0 0) => (i.elem != 0) = true ∧ K (.v (.int .i64 0))
  | .tree _ xs => (i.elem != 0) = true ∧ K (.v (.int .i64 xs.length))
  | .own id => (i.elem != 0) = true ∧ evLenO (h[id]?) none K
  | .view id _ n => (i.elem != 0) = true ∧ evLenO (h[id]?) (some n) K
  | .rowv id k => (i.elem != 0) = true ∧ evLenR (h[id]?) k K
  | _ => False
def evLen (i : Option TI) (h : List (Option LB)) (x : AV) (K : AV → Prop) : Prop :=
  match i with
  | some i => evLenX i h x K
  | none => False

theorem vdoes_len (hT : TOk P T) (x : Operand) (t : TypeId) (ho : o.op = .call { callee := .builtin .len, args := #[x], argTypes := #[t] }) (hk : evLen (T t) st.h (st.ev x) K) : VDoes P o st K := by
  unfold evLen at hk
  split at hk
  · rename_i i hi
    unfold evLenX at hk
    split at hk
    · rename_i s hx
      obtain ⟨hstr, hk⟩ := hk
      exact vdoes_plain _ (fun C V a w h w' => by
        simp [execOp, ho, h.evv hx, resolve, invoke, builtin, Builtin.len_, run_underlying ((hT t i hi).str hstr), goInt]) hk
    · rename_i hx
      obtain ⟨hel, hk⟩ := hk
      exact vdoes_plain _ (fun C V a w h w' => by
        simp [execOp, ho, h.evv hx, resolve, invoke, builtin, Builtin.len_, run_underlying ((hT t i hi).elem (by simpa using hel)), goInt]) hk
    · rename_i te xs hx
      obtain ⟨hel, hk⟩ := hk
      intro C V a w h
      have hr := (hx ▸ h.ev x).tree_inv
      generalize hv : a.eval x = v at hr
      cases hr with
      | tree _ _ ad len cap b o' X hlen hb hc hm ha hx2 hh =>
        subst hlen
        refine ⟨_, _, hk, .imm _ _ (.v _), fun w' _ => ?_⟩
        simp [execOp, ho, hv, resolve, invoke, builtin, Builtin.len_, run_underlying ((hT t i hi).elem (by simpa using hel)), goInt]
    · rename_i id hx
      obtain ⟨hel, hk⟩ := hk
      unfold evLenO at hk
      split at hk
      · rename_i ty te xs hlb hn
        intro C V a w h
        have hr := (hx ▸ h.ev x).own_inv
        obtain ⟨cur, hc⟩ := h.hr.blk id _ hlb
        obtain ⟨cap, e, h1, h2, h3, h4⟩ := hc.own rfl
        refine ⟨_, _, hk, .imm _ _ (.v _), fun w' _ => ?_⟩
        simp [execOp, ho, hr, e, resolve, invoke, builtin, Builtin.len_, run_underlying ((hT t i hi).elem (by simpa using hel)), goInt, LB.len]
      · rename_i hn; cases hn
      · rename_i ty tyI te xss hlb hn
        intro C V a w h
        have hr := (hx ▸ h.ev x).own_inv
        obtain ⟨cur, cap, _, e, _⟩ := h.nst hlb
        refine ⟨_, _, hk, .imm _ _ (.v _), fun w' _ => ?_⟩
        simp [execOp, ho, hr, e, resolve, invoke, builtin, Builtin.len_, run_underlying ((hT t i hi).elem (by simpa using hel)), goInt]
      · exact hk.elim
    · rename_i id lo n hx
      obtain ⟨hel, hk⟩ := hk
      unfold evLenO at hk
      split at hk
      · rename_i hn; cases hn
      · rename_i ty te xs n' hlb hn
        cases hn
        intro C V a w h
        obtain ⟨h1, cap, h2, h3, e⟩ := h.part hlb (hx ▸ h.ev x)
        refine ⟨_, _, hk, .imm _ _ (.v _), fun w' _ => ?_⟩
        simp [execOp, ho, e, resolve, invoke, builtin, Builtin.len_, run_underlying ((hT t i hi).elem (by simpa using hel)), goInt]
      · rename_i hn; cases hn
      · exact hk.elim
    · rename_i id k hx
      obtain ⟨hel, hk⟩ := hk
      unfold evLenR at hk
      split at hk
      · rename_i ty tyI te xss hlb
        intro C V a w h
        obtain ⟨_, hk2, e0⟩ := (hx ▸ h.ev x).rowv_inv
        obtain ⟨cur, cap, hn, _, _, _, _, _, _, hln⟩ := h.nst hlb
        obtain ⟨_, e2, _⟩ := hn.ok k (by rw [← hln]; exact hk2)
        refine ⟨_, _, hk, .imm _ _ (.v _), fun w' _ => ?_⟩
        simp [execOp, ho, e0, RowI.val, e2, resolve, invoke, builtin, Builtin.len_, run_underlying ((hT t i hi).elem (by simpa using hel)), goInt]
      · exact hk.elim
    · exact hk.elim
  · exact hk.elim

theorem R.fn_inv {w S V N f cs y} (h : R w S V N (.fn f cs) y) : ∃ vs : Array Value, y = .func (.func f) #[] vs ∧ vs.size = cs.length ∧ ∀ (i : Nat) (c : AV) (x : Value), cs[i]? = some c → vs[i]? = some x → R w S V N c x := by
  cases h with
  | imm _ _ h =>
    cases h with
    | fn _ _ vs hl h => exact ⟨vs, rfl, hl, fun i c x h1 h2 => .imm _ _ (h i c x h1 h2)⟩
  | fn _ _ vs hl h => exact ⟨vs, rfl, hl, h⟩
theorem R.agg_inv {w S V N cs y} (h : R w S V N (.agg cs) y) : ∃ vs : Array Value, y = .agg vs ∧ vs.size = cs.length ∧ ∀ (i : Nat) (c : AV) (x : Value), cs[i]? = some c → vs[i]? = some x → R w S V N c x := by
  cases h with
  | imm _ _ h =>
    cases h with
    | agg _ vs hl h => exact ⟨vs, rfl, hl, fun i c x h1 h2 => .imm _ _ (h i c x h1 h2)⟩
  | agg _ vs hl h => exact ⟨vs, rfl, hl, h⟩
theorem R.tup_inv {w S V N cs y} (h : R w S V N (.tup cs) y) : ∃ vs : Array Value, y = .tuple vs ∧ vs.size = cs.length ∧ ∀ (i : Nat) (c : AV) (x : Value), cs[i]? = some c → vs[i]? = some x → R w S V N c x := by
  cases h with
  | imm _ _ h =>
    cases h with
    | tup _ vs hl h => exact ⟨vs, rfl, hl, fun i c x h1 h2 => .imm _ _ (h i c x h1 h2)⟩
  | tup _ vs hl h => exact ⟨vs, rfl, hl, h⟩

/-- A plain value, its parts in sight. -/
def AV.ofVal : Value → AV
  | .tuple vs => .tup (vs.toList.map AV.ofV)
  | x => AV.ofV x
theorem R_ofV (w : World) (S : Nat → Prop) (V : Nat → Info) (N : Nat) (x : Value) : R w S V N (AV.ofV x) x := by
  cases x with
  | agg cs => exact .imm _ _ (.agg _ cs (by simp) fun i c x h1 h2 => by
      simp only [List.getElem?_map, Array.getElem?_toList, h2, Option.map_some, Option.some.injEq] at h1
      subst h1; exact .v x)
  | _ => exact .imm _ _ (.v _)
theorem R_ofVal (w : World) (S : Nat → Prop) (V : Nat → Info) (N : Nat) (x : Value) : R w S V N (AV.ofVal x) x := by
  unfold AV.ofVal
  split
  · rename_i vs
    refine .tup _ vs (by simp) fun i c x h1 h2 => ?_
    simp only [List.getElem?_map, Array.getElem?_toList, h2, Option.map_some, Option.some.injEq] at h1
    subst h1; exact R_ofV ..
  · exact R_ofV ..

def evCell (c : Option AV) (K : AV → Prop) : Prop :=
  match c with
  | some c => K c
  | none => False
theorem evCell_sound {c : Option AV} {K : AV → Prop} (h : evCell c K) : ∃ d, c = some d ∧ K d := by
  unfold evCell at h
  split at h
  · exact ⟨_, rfl, h⟩
  · exact h.elim

def evExtract (x : AV) (j : Nat) (K : AV → Prop) : Prop :=
  match x with
  | .tup cs => evCell (cs[j]?) K
  | _ => False
theorem vdoes_extract (x : Operand) (j : Nat) (ho : o.op = .extract x j) (hk : evExtract (st.ev x) j K) : VDoes P o st K := by
  unfold evExtract at hk
  split at hk
  · rename_i cs hx
    obtain ⟨c, hc, hk⟩ := evCell_sound hk
    intro C V a w h
    obtain ⟨vs, e, hl, hr⟩ := (hx ▸ h.ev x).tup_inv
    have hj : j < vs.size := by rw [hl]; exact (List.getElem?_eq_some_iff.1 hc).1
    refine ⟨c, vs[j], hk, hr j c _ hc (by simp [hj]), fun w' _ => ?_⟩
    simp [execOp, ho, e, Instr.extract, hj]
  · exact hk.elim

def offOf (i : Option TI) (f : Nat) : Option (Nat × Nat × Bool) :=
  match i with
  | some i => i.offs[f]?
  | none => none
/-- A field of a struct held as a value. -/
def evField (o : Option (Nat × Nat × Bool)) (x : AV) (K : AV → Prop) : Prop :=
  match o, x with
  | some (o, s, true), .agg cs => Nat.ble (o + s) cs.length = true ∧ K (.agg ((cs.drop o).take s))
  | some (o, _, false), .agg cs => evCell (cs[o]?) K
  | _, _ => False

theorem vdoes_field (hT : TOk P T) (t : TypeId) (x : Operand) (f : Nat) (ho : o.op = .field t x f) (hk : evField (offOf (T t) f) (st.ev x) K) : VDoes P o st K := by
  unfold evField at hk
  split at hk
  · rename_i off s cs hoff hx
    obtain ⟨hle, hk⟩ := hk
    have hle := Nat.le_of_ble_eq_true hle
    unfold offOf at hoff
    split at hoff
    · rename_i i hi
      intro C V a w h
      obtain ⟨vs, e, hl, hr⟩ := (hx ▸ h.ev x).agg_inv
      obtain ⟨fs, fd, hu, hfd, rfl, hsz, hpos, hag⟩ := (hT t i hi).offs f off s _ hoff
      refine ⟨_, .agg (vs.extract fd.offset (fd.offset + s)), hk, .agg _ _ (by simp [hl]; omega) (fun j c y h1 h2 => ?_), fun w' _ => ?_⟩
      · rw [List.getElem?_take] at h1
        split at h1
        · rw [List.getElem?_drop] at h1
          refine hr (fd.offset + j) c y h1 ?_
          rw [Array.getElem?_extract] at h2
          split at h2
          · exact h2
          · cases h2
        · cases h1
      · simp [execOp, ho, e, Instr.field, run_underlying hu, hfd, part, hag, asAgg, hsz]
    · cases hoff
  · rename_i off s cs hoff hx
    unfold offOf at hoff
    split at hoff
    · rename_i i hi
      obtain ⟨c, hc, hk2⟩ := evCell_sound hk
      intro C V a w h
      obtain ⟨vs, e, hl, hr⟩ := (hx ▸ h.ev x).agg_inv
      obtain ⟨fs, fd, hu, hfd, rfl, hsz, hpos, hag⟩ := (hT t i hi).offs f off s _ hoff
      have hj : fd.offset < vs.size := by rw [hl]; exact (List.getElem?_eq_some_iff.1 hc).1
      refine ⟨c, vs[fd.offset], hk2, hr _ c _ hc (by simp [hj]), fun w' _ => ?_⟩
      simp [execOp, ho, e, Instr.field, run_underlying hu, hfd, part, hag, asAgg, hj]
    · cases hoff
  · exact hk.elim


/-- The row of cells that a pointer leads into, and the place in it. -/
def cellsAt (h : List (Option LB)) (p : AV) : Option (List AV × Nat) :=
  match p with
  | .loc id row off => match h[id]? with
    | some (some (.box _ cs)) => some (cs, off)
    | some (some (.arr _ t xs)) => some (rowT t xs row, off)
    | some (some (.nst _ _ _ _)) => some ([.rowv id row], off)
    | _ => none
  | .rloc id k row off => match h[id]? with
    | some (some (.nst _ _ t xss)) => some (rowT t (xss.getD k []) row, off)
    | _ => none
  | .tptr t xs row off => some (rowT t xs row, off)
  | .bptr cs off => some (cs, off)
  | _ => none

theorem SRV.cellsAt {C : Ctx} {V st a w} (h : SRV C V st a w) {p : AV} {x : Value} {r : List AV} {off : Nat} (hp : R w (Stb C.A w st.h V) V st.h.length p x) (hc : cellsAt st.h p = some (r, off)) :
    ∃ (b o : Nat) (X : Nat → Value), x = .pointer (some ⟨b, o + off, none⟩) ∧ b < w.heap.size ∧ ∀ j c, r[j]? = some c → w.cell? ⟨b, o + j, none⟩ = some (X j) ∧ (X j).oneCell' = true ∧ R w (Stb C.A w st.h V) V st.h.length c (X j) := by
  have key : ∀ (id row off : Nat) (lb : LB), st.h[id]? = some (some lb) → R w (Stb C.A w st.h V) V st.h.length (.loc id row off) x →
      ∃ (b o : Nat) (X : Nat → Value), x = .pointer (some ⟨b, o + off, none⟩) ∧ b < w.heap.size ∧ ∀ j c, (lb.rows row)[j]? = some c → w.cell? ⟨b, o + j, none⟩ = some (X j) ∧ (X j).oneCell' = true ∧ R w (Stb C.A w st.h V) V st.h.length c (X j) := by
    intro id row off lb hlb hp
    obtain ⟨_, hrow, rfl⟩ := hp.loc_inv
    obtain ⟨cur, hcur⟩ := h.hr.blk id _ hlb
    refine ⟨(V id).blk, row * (V id).sz, fun j => (cur[row * lb.sz + j]?).getD undef, rfl, h.hr.lt hlb, fun j c hj => ?_⟩
    obtain ⟨y, h1, h2, h3⟩ := hcur.cell row j c (by rw [← hcur.ln]; exact hrow) hj
    have e : (cur[row * lb.sz + j]?).getD undef = y := by rw [h1]; rfl
    rw [cell_of_row _ _ _ _ _ _ (hcur.heap (LB.isMp_row hj)).choose_spec.1, hcur.sz]
    simp only [e]
    exact ⟨h1, h2, h3⟩
  unfold Go.Proofs.YtpmmaohaahbphaaDoor.cellsAt at hc
  split at hc
  · rename_i id row off'
    split at hc
    · rename_i ty cs hlb
      simp only [Option.some.injEq, Prod.mk.injEq] at hc
      obtain ⟨rfl, rfl⟩ := hc
      exact key id row _ _ hlb hp
    · rename_i ty t xs hlb
      simp only [Option.some.injEq, Prod.mk.injEq] at hc
      obtain ⟨rfl, rfl⟩ := hc
      exact key id row _ _ hlb hp
    · rename_i ty tyI t xss hlb
      simp only [Option.some.injEq, Prod.mk.injEq] at hc
      obtain ⟨rfl, rfl⟩ := hc
      obtain ⟨hid, hrow, rfl⟩ := hp.loc_inv
      obtain ⟨cur, cap, hn, _, _, _, _, _, hsz, hln⟩ := h.nst hlb
      refine ⟨(V id).blk, row * (V id).sz, fun _ => ((V id).subs row).val, rfl, h.hr.lt hlb, fun j c hj => ?_⟩
      cases j with
      | zero =>
        simp at hj
        subst hj
        rw [cell_of_row _ _ _ _ _ _ hn.frh.choose_spec, hsz]
        refine ⟨by simpa using hn.at_ row (by rw [← hln]; exact hrow), rfl, .rowv id row hid hrow⟩
      | succ j => simp at hj
    · cases hc
  · rename_i id k row off'
    split at hc
    · rename_i ty tyI t xss hlb
      simp only [Option.some.injEq, Prod.mk.injEq] at hc
      obtain ⟨rfl, rfl⟩ := hc
      obtain ⟨hid, hk, hrow, rfl⟩ := hp.rloc_inv
      obtain ⟨cur, cap, hn, _, _, _, _, _, hsz, hln⟩ := h.nst hlb
      have hk' : k < xss.length := by rw [← hln]; exact hk
      obtain ⟨f1, f2, _⟩ := hn.ok k hk'
      obtain ⟨ck, g1, g2, g3⟩ := hn.row k hk'
      rw [f2] at hrow
      refine ⟨((V id).subs k).blk, row * ((V id).subs k).sz, fun j => (ck[row * t.n + j]?).getD undef, rfl, (Array.getElem?_eq_some_iff.1 g1).1, fun j c hj => ?_⟩
      obtain ⟨y, h1, h2, h3⟩ := g3 row j c hrow hj
      rw [cell_of_row _ _ _ _ _ _ g1, f1]
      simp only [h1, Option.getD_some]
      exact ⟨trivial, h2, .imm _ _ h3⟩
    · cases hc
  · rename_i t xs row' off'
    simp only [Option.some.injEq, Prod.mk.injEq] at hc
    obtain ⟨rfl, rfl⟩ := hc
    cases hp.tptr_inv with
    | tptr _ _ _ _ b o X ha hrow hx hh =>
      refine ⟨b, o + row' * t.n, X row', rfl, ha.2.1, fun j c hj => ?_⟩
      obtain ⟨e1, e2⟩ := hx row' j c hrow hj
      exact ⟨e1, e2, .imm _ _ (hh row' j c hrow hj)⟩
  · rename_i cs off'
    simp only [Option.some.injEq, Prod.mk.injEq] at hc
    obtain ⟨rfl, rfl⟩ := hc
    cases hp.bptr_inv with
    | bptr _ _ b o X ha hx hh =>
      refine ⟨b, o, X, rfl, ha.2.1, fun j c hj => ?_⟩
      obtain ⟨e1, e2⟩ := hx j c hj
      exact ⟨e1, e2, .imm _ _ (hh j c hj)⟩
  · cases hc

def evLoadR (agg : Bool) (size : Nat) (r : List AV) (off : Nat) (K : AV → Prop) : Prop :=
  match agg with
  | true => Nat.ble (off + size) r.length = true ∧ K (.agg ((r.drop off).take size))
  | false => evCell (r[off]?) K
def evLoad (i : Option TI) (c : Option (List AV × Nat)) (K : AV → Prop) : Prop :=
  match i, c with
  | some i, some (r, off) => evLoadR i.agg i.size r off K
  | _, _ => False

theorem cell_below {w w' : World} (hb : Below w.heap.size w w') {a : Addr} {v : Value} (h : w.cell? a = some v) : w'.cell? a = some v := by
  rw [hb.cell (block_lt_of_cell h)]; exact h

theorem vdoes_load (hT : TOk P T) (t : TypeId) (x : Operand) (ho : o.op = .load t x) (hk : evLoad (T t) (cellsAt st.h (st.ev x)) K) : VDoes P o st K := by
  unfold evLoad at hk
  split at hk
  · rename_i i r off hi hc
    intro C V a w h
    obtain ⟨b, o', X, e, hb, hcell⟩ := h.cellsAt (h.ev x) hc
    unfold evLoadR at hk
    split at hk
    · rename_i hg
      obtain ⟨hle, hk⟩ := hk
      have hle := Nat.le_of_ble_eq_true hle
      refine ⟨_, .agg ((List.range i.size).map fun j => X (off + j)).toArray, hk, .agg _ _ (by simp; omega) (fun j c y h1 h2 => ?_), fun w' hbw => ?_⟩
      · rw [List.getElem?_take] at h1
        split at h1
        · rw [List.getElem?_drop] at h1
          rename_i hj
          simp [hj] at h2
          subst h2
          exact (hcell _ c h1).2.2
        · cases h1
      · have hl := run_loadCells (P := P) w' ⟨b, o' + off, none⟩ i.size (fun j => X (off + j)) (fun j hj => by
          have hr : off + j < r.length := by omega
          have := (hcell (off + j) _ (List.getElem?_eq_getElem hr)).1
          rw [Addr.add_lit, Nat.add_assoc]
          exact cell_below hbw this)
        simp [execOp, ho, e, Instr.loadAt, Instr.sureAddr, loadVar, (hT t i hi).agg, hg, (hT t i hi).size, hl]
    · rename_i hg
      obtain ⟨c, hc, hk⟩ := evCell_sound hk
      obtain ⟨h1, h2, h3⟩ := hcell off c hc
      refine ⟨c, X off, hk, h3, fun w' hbw => ?_⟩
      have h4 := cell_below hbw h1
      simp [execOp, ho, e, Instr.loadAt, Instr.sureAddr, loadVar, (hT t i hi).agg, hg, h4]
  · exact hk.elim


def evFieldAddr (o : Option (Nat × Nat × Bool)) (x : AV) (K : AV → Prop) : Prop :=
  match o, x with
  | some (o, _, _), .loc id row off => K (.loc id row (off + o))
  | some (o, _, _), .tptr t xs row off => K (.tptr t xs row (off + o))
  | some (o, _, _), .bptr cs off => K (.bptr cs (off + o))
  | _, _ => False

theorem vdoes_fieldAddrW (hT : TOk P T) (t : TypeId) (x : Operand) (f : Nat) (ho : o.op = .fieldAddr t x f) (hk : evFieldAddr (offOf (T t) f) (st.ev x) K) : VDoesW P o st K := by
  have key : ∀ (off s : Nat) (g : Bool), offOf (T t) f = some (off, s, g) → ∀ (a : Act) (b p : Nat) (w' : World), a.eval x = .pointer (some ⟨b, p, none⟩) → (execOp a.eval o).run P w' = .ok (.value (.pointer (some ⟨b, p + off, none⟩))) w' := by
    intro off s g hoff a b p w' e
    unfold offOf at hoff
    split at hoff
    · rename_i i hi
      obtain ⟨fs, fd, hu, hfd, rfl, hsz, hpos, hag⟩ := (hT t i hi).offs f off s g hoff
      have hne : s ≠ 0 := by omega
      simp [execOp, ho, e, Instr.fieldAt, run_underlying hu, hfd, Instr.sureAddr, fieldPlace, hsz, hne, Addr.add_lit]
    · cases hoff
  unfold evFieldAddr at hk
  split at hk
  · rename_i off s g id row off' hoff hx
    intro C V a w h
    have hr := h.ev x
    rw [hx] at hr
    obtain ⟨h1, h2, e⟩ := hr.loc_inv
    refine ⟨_, _, hk, .loc _ _ _ h1 h2, fun w' => ?_⟩
    simp [key _ _ _ hoff a _ _ w' e, Nat.add_assoc]
  · rename_i off s g te xs row off' hoff hx
    intro C V a w h
    have hr' := (hx ▸ h.ev x).tptr_inv
    generalize hv : a.eval x = v at hr'
    cases hr' with
    | tptr _ _ _ _ b o' X ha hrow hx2 hh =>
      refine ⟨_, _, hk, .imm _ _ (.tptr te xs row (off' + off) b o' X ha hrow hx2 hh), fun w' => ?_⟩
      simp [key _ _ _ hoff a _ _ w' hv, Nat.add_assoc]
  · rename_i off s g cs off' hoff hx
    intro C V a w h
    have hr' := (hx ▸ h.ev x).bptr_inv
    generalize hv : a.eval x = v at hr'
    cases hr' with
    | bptr _ _ b o' X ha hx2 hh =>
      refine ⟨_, _, hk, .imm _ _ (.bptr cs (off' + off) b o' X ha hx2 hh), fun w' => ?_⟩
      simp [key _ _ _ hoff a _ _ w' hv, Nat.add_assoc]
  · exact hk.elim

/-- The type of a slice's elements. -/
def elemT (T : Nat → Option TI) (i : Option TI) : Option TI :=
  match i with
  | some i => match i.elem with
    | 0 => none
    | e + 1 => T (e + 1)
  | none => none
theorem vdoes_fieldAddr (hT : TOk P T) (t : TypeId) (x : Operand) (f : Nat) (ho : o.op = .fieldAddr t x f) (hk : evFieldAddr (offOf (T t) f) (st.ev x) K) : VDoes P o st K := (vdoes_fieldAddrW hT t x f ho hk).to
theorem elemT_sound {i : Option TI} {te : TI} (h : elemT T i = some te) : ∃ ti, i = some ti ∧ ti.elem ≠ 0 ∧ T ti.elem = some te := by
  unfold elemT at h
  split at h
  · rename_i i'
    split at h
    · cases h
    · rename_i e he; exact ⟨i', rfl, by omega, by rw [he]; exact h⟩
  · cases h

def evIdxO (e : Nat) (o : Option (Option LB)) (id lo : Nat) (n : Option Nat) (q : Int) (K : AV → Prop) : Prop :=
  match o, n with
  | some (some (.arr _ t xs)), none => Nat.beq e t.n = true ∧ Ob (0 ≤ q ∧ q < xs.length) ∧ K (.loc id q.toNat 0)
  | some (some (.arr _ t _)), some n => Nat.beq e t.n = true ∧ Ob (0 ≤ q ∧ q < n) ∧ K (.loc id (lo + q.toNat) 0)
  | some (some (.nst _ _ _ xss)), none => Nat.beq e 1 = true ∧ Ob (0 ≤ q ∧ q < xss.length) ∧ K (.loc id q.toNat 0)
  | _, _ => False
def evIdxR (e : Nat) (o : Option (Option LB)) (id k : Nat) (q : Int) (K : AV → Prop) : Prop :=
  match o with
  | some (some (.nst _ _ t xss)) => Nat.beq e t.n = true ∧ Ob (0 ≤ q ∧ q < (xss.getD k []).length) ∧ K (.rloc id k q.toNat 0)
  | _ => False
def evIndexAddr (e : Option TI) (h : List (Option LB)) (x i : AV) (K : AV → Prop) : Prop :=
  match e, x, i with
  | some e, .tree t xs, .v (.int _ q) => Nat.beq e.size t.n = true ∧ Ob (0 ≤ q ∧ q < xs.length) ∧ K (.tptr t xs q.toNat 0)
  | some e, .own id, .v (.int _ q) => evIdxO e.size (h[id]?) id 0 none q K
  | some e, .view id lo n, .v (.int _ q) => evIdxO e.size (h[id]?) id lo (some n) q K
  | some e, .rowv id k, .v (.int _ q) => evIdxR e.size (h[id]?) id k q K
  | some _, .v (.slice none _ _), .v (.int _ q) => Ob (0 ≤ q ∧ q < 0)
  | _, _, _ => False

theorem vdoes_indexAddr (hT : TOk P T) (t : TypeId) (x y : Operand) (ho : o.op = .indexAddr t x y) (hk : evIndexAddr (elemT T (T t)) st.h (st.ev x) (st.ev y) K) : VDoes P o st K := by
  unfold evIndexAddr at hk
  split at hk
  · rename_i te tt xs k m hte hx hy
    obtain ⟨ti, hi, hel, hte⟩ := elemT_sound hte
    have hu := (hT t ti hi).elem hel
    have hs := (hT ti.elem te hte).size
    obtain ⟨hsz, hob, hk⟩ := hk
    have hsz := Nat.eq_of_beq_eq_true hsz
    obtain ⟨h0, hm⟩ := hob.out
    intro C V a w h
    have ey := h.evv hy
    have hr' := (hx ▸ h.ev x).tree_inv
    generalize hv : a.eval x = v at hr'
    cases hr' with
    | tree _ _ ad len cap b o' X hlen hb hc hmx ha hx2 hh =>
      subst hlen
      have hne : 0 < xs.length := by omega
      obtain ⟨rfl, hS⟩ := ha hne
      refine ⟨_, _, hk, .imm _ _ (.tptr tt xs m.toNat 0 b o' X hS (by omega) hx2 hh), fun w' _ => ?_⟩
      simp [execOp, ho, hv, ey, Instr.indexAt, asIntOf, run_underlying hu, h0, hm, hs, hsz, Addr.add_lit]
  · rename_i te id k m hte hx hy
    obtain ⟨ti, hi, hel, hte⟩ := elemT_sound hte
    have hu := (hT t ti hi).elem hel
    have hs := (hT ti.elem te hte).size
    unfold evIdxO at hk
    split at hk
    · rename_i ty tt xs hlb hn
      obtain ⟨hsz, hob, hk⟩ := hk
      have hsz := Nat.eq_of_beq_eq_true hsz
      obtain ⟨h0, hm⟩ := hob.out
      intro C V a w h
      have ey := h.evv hy
      have e := (hx ▸ h.ev x).own_inv
      obtain ⟨cur, hcur⟩ := h.hr.blk id _ hlb
      obtain ⟨cap, e2, h1, h2, h3, h4⟩ := hcur.own rfl
      have hsz' := hcur.sz
      have hln' := hcur.ln
      simp only [LB.sz, LB.len] at hsz' hln' e2
      refine ⟨_, _, hk, .loc _ _ _ (List.getElem?_eq_some_iff.1 hlb).1 (by rw [hln']; omega), fun w' _ => ?_⟩
      simp [execOp, ho, e, e2, ey, Instr.indexAt, asIntOf, run_underlying hu, h0, hm, hs, hsz, hsz', Addr.add_lit]
    · rename_i hn; cases hn
    · rename_i ty tyI tt xss hlb hn
      obtain ⟨hsz, hob, hk⟩ := hk
      have hsz := Nat.eq_of_beq_eq_true hsz
      obtain ⟨h0, hm⟩ := hob.out
      intro C V a w h
      have ey := h.evv hy
      have e := (hx ▸ h.ev x).own_inv
      obtain ⟨cur, cap, _, e2, h1, h2, h3, h4, hsz', hln'⟩ := h.nst hlb
      refine ⟨_, _, hk, .loc _ _ _ (List.getElem?_eq_some_iff.1 hlb).1 (by rw [hln']; omega), fun w' _ => ?_⟩
      simp [execOp, ho, e, e2, ey, Instr.indexAt, asIntOf, run_underlying hu, h0, hm, hs, hsz, hsz', Addr.add_lit]
    · exact hk.elim
  · rename_i te id lo n k m hte hx hy
    obtain ⟨ti, hi, hel, hte⟩ := elemT_sound hte
    have hu := (hT t ti hi).elem hel
    have hs := (hT ti.elem te hte).size
    unfold evIdxO at hk
    split at hk
    · rename_i hn; cases hn
    · rename_i ty tt xs n' hlb hn
      cases hn
      obtain ⟨hsz, hob, hk⟩ := hk
      have hsz := Nat.eq_of_beq_eq_true hsz
      obtain ⟨h0, hm⟩ := hob.out
      intro C V a w h
      have ey := h.evv hy
      obtain ⟨hle, cap, hc1, hc2, e⟩ := h.part hlb (hx ▸ h.ev x)
      obtain ⟨cur, hcur⟩ := h.hr.blk id _ hlb
      have hsz' := hcur.sz
      have hln' := hcur.ln
      simp only [LB.sz, LB.len] at hsz' hln'
      have hne : cap ≠ lo := by omega
      refine ⟨_, _, hk, .loc _ _ _ (List.getElem?_eq_some_iff.1 hlb).1 (by rw [hln']; omega), fun w' _ => ?_⟩
      simp [execOp, ho, e, ey, Instr.indexAt, asIntOf, run_underlying hu, h0, hm, hs, hsz, hsz', Addr.add_lit, hne, Nat.add_mul]
    · rename_i hn; cases hn
    · exact hk.elim
  · rename_i te id kk ki m hte hx hy
    obtain ⟨ti, hi, hel, hte⟩ := elemT_sound hte
    have hu := (hT t ti hi).elem hel
    have hs := (hT ti.elem te hte).size
    unfold evIdxR at hk
    split at hk
    · rename_i ty tyI tt xss hlb
      obtain ⟨hsz, hob, hk⟩ := hk
      have hsz := Nat.eq_of_beq_eq_true hsz
      obtain ⟨h0, hm⟩ := hob.out
      intro C V a w h
      have ey := h.evv hy
      obtain ⟨hid, hk2, e⟩ := (hx ▸ h.ev x).rowv_inv
      obtain ⟨cur, cap, hn, _, _, _, _, _, _, hln'⟩ := h.nst hlb
      obtain ⟨f1, f2, _⟩ := hn.ok kk (by rw [← hln']; exact hk2)
      generalize (xss.getD kk []).length = L at f2 hm
      refine ⟨_, _, hk, .rloc _ _ _ _ hid hk2 (by rw [f2]; omega), fun w' _ => ?_⟩
      simp [execOp, ho, e, RowI.val, f1, f2, ey, Instr.indexAt, asIntOf, run_underlying hu, h0, hm, hs, hsz, Addr.add_lit]
    · exact hk.elim
  · have := hk.out; omega
  · exact hk.elim

/-- A byte of a string, by its place. -/
def bAt (s : ByteArray) (i : Int) : Int := ((s.data.toList.getD i.toNat 0).toNat : Int)
theorem bAt_range (s : ByteArray) (i : Int) : 0 ≤ bAt s i ∧ bAt s i ≤ 255 := by
  unfold bAt
  have := UInt8.toNat_lt (s.data.toList.getD i.toNat 0)
  omega
def strsOf : List AV → Option (List ByteArray)
  | [] => some []
  | .v (.string s) :: cs => match strsOf cs with
    | some l => some (s :: l)
    | none => none
  | _ => none
theorem strsOf_eq : ∀ {cs : List AV} {l : List ByteArray}, strsOf cs = some l → cs = l.map fun s => .v (.string s)
  | [], l, h => by simp only [strsOf, Option.some.injEq] at h; subst h; rfl
  | c :: cs, l, h => by
    unfold strsOf at h
    split at h
    · rename_i e; cases e
    · rename_i s cs' e
      cases e
      split at h
      · rename_i l' e2
        simp only [Option.some.injEq] at h
        subst h
        rw [strsOf_eq e2]; rfl
      · cases h
    · cases h
/-- An element of an array of texts. -/
def evIndexA (T : Nat → Option TI) (i : TI) (cs : List AV) (q : Int) (K : AV → Prop) : Prop :=
  match T i.arr.2, strsOf cs with
  | some e, some l => e.agg = false ∧ Nat.beq e.size 1 = true ∧ Nat.beq cs.length i.arr.1 = true ∧ Nat.beq i.arr.1 0 = false ∧ Ob (0 ≤ q ∧ q < (i.arr.1 : Int)) ∧ K (.v (.string (l.getD q.toNat ⟨#[]⟩)))
  | _, _ => False
def evIndex (T : Nat → Option TI) (i : Option TI) (x j : AV) (K : AV → Prop) : Prop :=
  match i, x, j with
  | some i, .agg cs, .v (.int _ q) => evIndexA T i cs q K
  | some i, .v (.string s), .v (.int _ q) => i.str = true ∧ Ob (0 ≤ q ∧ q < s.size) ∧ K (.v (.int .u8 (bAt s q)))
  | _, _, _ => False
theorem vdoes_index (hT : TOk P T) (t : TypeId) (x y : Operand) (ho : o.op = .index t x y) (hk : evIndex T (T t) (st.ev x) (st.ev y) K) : VDoes P o st K := by
  unfold evIndex at hk
  split at hk
  · rename_i ti cs k q hi hx hy
    unfold evIndexA at hk
    split at hk
    · rename_i e l he hl
      obtain ⟨hag, hsz, hlen, hne, hob, hk⟩ := hk
      obtain ⟨h0, hm⟩ := hob.out
      have hlen := Nat.eq_of_beq_eq_true hlen
      have hcs := strsOf_eq hl
      have hll : l.length = cs.length := by rw [hcs, List.length_map]
      have hlt : q.toNat < l.length := by omega
      intro C V a w h
      obtain ⟨vs, ex, hvl, hr⟩ := (hx ▸ h.ev x).agg_inv
      have hc : cs[q.toNat]? = some (.v (.string l[q.toNat])) := by rw [hcs, List.getElem?_map, List.getElem?_eq_getElem hlt]; rfl
      have hv : vs[q.toNat]? = some vs[q.toNat] := Array.getElem?_eq_getElem (by omega)
      have hv2 := (hr _ _ _ hc hv).v_inv
      have hgd : l.getD q.toNat ⟨#[]⟩ = l[q.toNat] := by simp [List.getD_eq_getElem?_getD, List.getElem?_eq_getElem hlt]
      refine ⟨_, .string (l.getD q.toNat ⟨#[]⟩), hk, .imm _ _ (.v _), fun w' _ => ?_⟩
      rw [hgd]
      have hu := (hT t ti hi).arr hne
      have hs := (hT _ e he).size
      have hg := (hT _ e he).agg
      rw [Nat.eq_of_beq_eq_true hsz] at hs
      rw [hag] at hg
      simp [execOp, ho, ex, h.evv hy, Instr.index, asIntOf, run_underlying hu, h0, hm, hs, part, hg, hv, hv2]
    · exact hk.elim
  · rename_i ti s k m hi hx hy
    obtain ⟨hstr, hob, hk⟩ := hk
    obtain ⟨h0, hm⟩ := hob.out
    refine vdoes_plain _ (fun C V a w h w' => ?_) hk
    have hu := (hT t ti hi).str hstr
    have hlt : m.toNat < s.size := by omega
    have e : s[m.toNat]? = some s[m.toNat] := by simp [hlt]
    have e2 : (s.data.toList.getD m.toNat 0) = s[m.toNat] := by
      have : m.toNat < s.data.toList.length := by simpa using hlt
      simp [List.getD, List.getElem?_eq_getElem this]; rfl
    have e3 : bAt s m = (s[m.toNat].toNat : Int) := by unfold bAt; rw [e2]
    simp [execOp, ho, h.evv hx, h.evv hy, Instr.index, asIntOf, run_underlying hu, h0, e, e3]
  · exact hk.elim

def evPick (c x y : AV) (K : AV → Prop) : Prop :=
  match c with
  | .v (.bool true) => K x
  | .v (.bool false) => K y
  | .bl b => (b = true → K x) ∧ (b = false → K y)
  | _ => False
theorem vdoes_pick' (c x y : Operand) (ho : o.op = .pick c x y) (hk : evPick (st.ev c) (st.ev x) (st.ev y) K) : VDoes P o st K := by
  unfold evPick at hk
  split at hk
  · rename_i hc; exact vdoes_pick c x y true ho hc hk
  · rename_i hc; exact vdoes_pick c x y false ho hc hk
  · rename_i b hc
    intro C V a w h
    have e := b_inv (b := b) (by rw [hc]; rfl) (h.ev c)
    cases b with
    | true => exact ⟨_, a.eval x, hk.1 rfl, h.ev _, fun w' _ => by simp [execOp, ho, e, asBool]⟩
    | false => exact ⟨_, a.eval y, hk.2 rfl, h.ev _, fun w' _ => by simp [execOp, ho, e, asBool]⟩
  · exact hk.elim

def evNil (x : AV) (K : AV → Prop) : Prop :=
  match x with
  | .loc _ _ _ => K x
  | .tptr _ _ _ _ => K x
  | .bptr _ _ => K x
  | .fn _ _ => K x
  | _ => False
theorem vdoes_nil (x : Operand) (ho : o.op = .nilCheck x) (hk : evNil (st.ev x) K) : VDoes P o st K := by
  intro C V a w h
  have hr := h.ev x
  unfold evNil at hk
  split at hk
  · rename_i id row off hx
    obtain ⟨_, _, e⟩ := (hx ▸ hr).loc_inv
    refine ⟨_, a.eval x, hk, hr, fun w' _ => ?_⟩
    simp [execOp, ho, e]
  · rename_i te xs row off hx
    have hr' := (hx ▸ hr).tptr_inv
    refine ⟨_, a.eval x, hk, hr, fun w' _ => ?_⟩
    generalize hv : a.eval x = v at hr'
    cases hr'
    simp [execOp, ho, hv]
  · rename_i cs off hx
    have hr' := (hx ▸ hr).bptr_inv
    refine ⟨_, a.eval x, hk, hr, fun w' _ => ?_⟩
    generalize hv : a.eval x = v at hr'
    cases hr'
    simp [execOp, ho, hv]
  · rename_i f cs hx
    obtain ⟨vs, e, _, _⟩ := (hx ▸ hr).fn_inv
    refine ⟨_, a.eval x, hk, hr, fun w' _ => ?_⟩
    simp [execOp, ho, e]
  · exact hk.elim

theorem vdoes_makeFunc (f : FuncId) (cap : Array Operand) (ho : o.op = .makeFunc (.func f) #[] cap) (hk : K (.fn f (cap.toList.map st.ev))) : VDoes P o st K := by
  intro C V a w h
  refine ⟨_, .func (.func f) #[] (cap.map a.eval), hk, .fn f _ _ (by simp) (fun i c x h1 h2 => ?_), fun w' _ => ?_⟩
  · simp only [List.getElem?_map, Array.getElem?_map] at h1 h2
    obtain ⟨y, e1, rfl⟩ := Option.map_eq_some_iff.1 h1
    obtain ⟨z, e2, rfl⟩ := Option.map_eq_some_iff.1 h2
    have : y = z := by simpa [e2] using e1.symm
    subst this; exact h.ev y
  · simp [execOp, ho, Instr.makeFunc]

/-- A bound of a slice expression. -/
def bnd (c : Option AV) (d : Int) : Option Int :=
  match c with
  | none => some d
  | some (.v (.int _ q)) => some q
  | _ => none
/-- 's[lo:hi]'. -/
def lsub {α : Type} (xs : List α) (l h : Int) : List α := (xs.drop l.toNat).take (h - l).toNat
def bsub (s : ByteArray) (l h : Int) : ByteArray := s.extract l.toNat h.toNat
def evSliceS (s : ByteArray) (lo hi : Option Int) (K : AV → Prop) : Prop :=
  match lo, hi with
  | some l, some h => Ob (0 ≤ l ∧ l ≤ h ∧ h ≤ s.size) ∧ K (.v (.string (bsub s l h)))
  | _, _ => False
def evSliceT (e : Option TI) (t : Ty) (xs : List t.den) (lo hi : Option Int) (K : AV → Prop) : Prop :=
  match e, lo, hi with
  | some e, some l, some h => Nat.beq e.size t.n = true ∧ Ob (0 ≤ l ∧ l ≤ h ∧ h ≤ xs.length) ∧ K (.tree t (lsub xs l h))
  | _, _, _ => False
def evSliceO (e : Option TI) (o : Option (Option LB)) (id : Nat) (lo hi : Option AV) (K : AV → Prop) : Prop :=
  match e, o with
  | some e, some (some (.arr _ t xs)) => match bnd lo 0, bnd hi xs.length with
    | some l, some h => Nat.beq e.size t.n = true ∧ Ob (0 ≤ l ∧ l ≤ h ∧ h ≤ xs.length) ∧ K (.view id l.toNat (h - l).toNat)
    | _, _ => False
  | _, _ => False
def evSlice (T : Nat → Option TI) (i : Option TI) (hp : List (Option LB)) (x : AV) (lo hi : Option AV) (K : AV → Prop) : Prop :=
  match i, x with
  | some i, .v (.string s) => i.str = true ∧ evSliceS s (bnd lo 0) (bnd hi s.size) K
  | i, .tree t xs => evSliceT (elemT T i) t xs (bnd lo 0) (bnd hi xs.length) K
  | i, .own id => evSliceO (elemT T i) (hp[id]?) id lo hi K
  | _, _ => False

/-- A bound that is within. -/
theorem run_sliceBound (k : IntKind) (n : Int) (y : Nat) (code : BoundsCode) (w : World) (h0 : 0 ≤ n) (hy : n ≤ y) : (Instr.sliceBound (.int k n) y code).run P w = .ok n.toNat w := by
  simp [Instr.sliceBound, asIntOf, h0, hy]

def BndIs (a : Act) (o : Option Operand) (d q : Int) : Prop :=
  match o with
  | none => q = d
  | some x => ∃ k, a.eval x = .int k q
theorem run_sliceBounds (isSlice : Bool) (len cap : Nat) (lo hi : Option Operand) (l h : Int) (w : World) (a : Act) (hl : BndIs a lo 0 l) (hh : BndIs a hi len h)
    (h0 : 0 ≤ l) (h1 : l ≤ h) (h2 : h ≤ len) (h3 : len ≤ cap) : (Instr.sliceBounds isSlice len cap (lo.map a.eval) (hi.map a.eval) none).run P w = .ok (l.toNat, h.toNat, cap) w := by
  have hcap : h ≤ (cap : Int) := by omega
  unfold Instr.sliceBounds
  unfold BndIs at hl hh
  cases hi with
  | none =>
    simp only at hh
    subst hh
    cases lo with
    | none => simp only at hl; subst hl; simp
    | some y =>
      obtain ⟨k, e⟩ := hl
      simp [e, run_sliceBound k l len .sliceB w h0 (by omega)]
  | some z =>
    obtain ⟨k', e'⟩ := hh
    have hb := run_sliceBound (P := P) k' h cap (if isSlice = true then .sliceAcap else .sliceAlen) w (by omega) hcap
    cases lo with
    | none => simp only at hl; subst hl; simp [e', hb]
    | some y =>
      obtain ⟨k, e⟩ := hl
      have hb2 := run_sliceBound (P := P) k l h.toNat .sliceB w h0 (by omega)
      simp [e, e', hb, hb2]

theorem bnd_sound {C : Ctx} {V st a w} (hs : SRV C V st a w) {o : Option Operand} {d q : Int} (h : bnd (o.map st.ev) d = some q) : BndIs a o d q := by
  unfold BndIs
  cases o with
  | none => simp [bnd] at h; exact h.symm
  | some x =>
    simp only [bnd, Option.map_some] at h
    split at h
    · rename_i e; cases e
    · rename_i k q' e
      simp only [Option.some.injEq] at h e
      subst h
      exact ⟨k, hs.evv e⟩
    · cases h

theorem vdoes_slice (hT : TOk P T) (t : TypeId) (x : Operand) (lo hi : Option Operand) (ho : o.op = .slice t x lo hi none) (hk : evSlice T (T t) st.h (st.ev x) (lo.map st.ev) (hi.map st.ev) K) : VDoes P o st K := by
  unfold evSlice at hk
  split at hk
  · rename_i i s hi' hx
    obtain ⟨hstr, hk⟩ := hk
    unfold evSliceS at hk
    split at hk
    · rename_i l h hl hh
      obtain ⟨hob, hk⟩ := hk
      obtain ⟨h0, h1, h2⟩ := hob.out
      refine vdoes_plain _ (fun C V a w hs w' => ?_) hk
      have hb := run_sliceBounds (P := P) false s.size s.size lo hi l h w' a (bnd_sound hs hl) (bnd_sound hs hh) h0 h1 h2 (Nat.le_refl _)
      simp [execOp, ho, hs.evv hx, Instr.sliceAt, Instr.slice, run_underlying ((hT t i hi').str hstr), hb, bsub]
    · exact hk.elim
  · rename_i tt xs hx
    unfold evSliceT at hk
    split at hk
    · rename_i te l h hte hl hh
      obtain ⟨ti, hi', hel, hte⟩ := elemT_sound hte
      obtain ⟨hsz, hob, hk⟩ := hk
      have hsz := Nat.eq_of_beq_eq_true hsz
      obtain ⟨h0, h1, h2⟩ := hob.out
      intro C V a w hs
      have hr' := (hx ▸ hs.ev x).tree_inv
      generalize hv : a.eval x = v at hr'
      cases hr' with
      | tree _ _ ad len cap b o' X hlen hb hc hm ha hx2 hh2 =>
        subst hlen
        have hbd := fun w' => run_sliceBounds (P := P) true xs.length cap lo hi l h w' a (bnd_sound hs hl) (bnd_sound hs hh) h0 h1 h2 hc
        have hsize := (hT ti.elem te hte).size
        have hlen : (lsub xs l h).length = (h - l).toNat := by simp [lsub]; omega
        refine ⟨_, .slice (if cap = l.toNat then ad else ad.map (·.add (l.toNat * tt.n))) (h - l).toNat (cap - l.toNat), hk, .imm _ _ ?_, fun w' _ => ?_⟩
        · have hlt : ∀ k, k < (h - l).toNat → l.toNat + k < xs.length := fun k hk => by omega
          have hrow : ∀ k, k < (h - l).toNat → rowT tt (lsub xs l h) k = rowT tt xs (l.toNat + k) := fun k hk => by
            simp only [rowT, lsub, List.getD_eq_getElem?_getD, List.getElem?_take, if_pos hk, List.getElem?_drop]
          refine .tree tt _ _ _ _ b (o' + l.toNat * tt.n) (fun k j => X (l.toNat + k) j) hlen.symm (by omega) (by omega) (by omega) (fun hne => ?_) (fun k j c e1 e2 => ?_) (fun k j c e1 e2 => ?_)
          · obtain ⟨e1, e2⟩ := ha (by omega)
            rw [if_neg (by omega), e1]
            exact ⟨by simp [Addr.add_lit], e2⟩
          · rw [hrow k (by omega)] at e2
            have := hx2 (l.toNat + k) j c (hlt k (by omega)) e2
            rw [show o' + l.toNat * tt.n + k * tt.n + j = o' + (l.toNat + k) * tt.n + j by rw [Nat.add_mul]; omega]
            exact this
          · rw [hrow k (by omega)] at e2
            exact hh2 _ j c (hlt k (by omega)) e2
        · have e9 : h.toNat - l.toNat = (h - l).toNat := by omega
          simp [execOp, ho, hv, Instr.sliceAt, Instr.slice, run_underlying ((hT t ti hi').elem hel), hbd w', hsize, hsz, e9]
    · exact hk.elim
  · rename_i id hx
    unfold evSliceO at hk
    split at hk
    · rename_i te ty tt xs hte hlb
      split at hk
      · rename_i l h hl hh
        obtain ⟨ti, hi', hel, hte⟩ := elemT_sound hte
        obtain ⟨hsz, hob, hk⟩ := hk
        have hsz := Nat.eq_of_beq_eq_true hsz
        obtain ⟨h0, h1, h2⟩ := hob.out
        intro C V a w hs
        have e := (hx ▸ hs.ev x).own_inv
        obtain ⟨cur, hcur⟩ := hs.hr.blk id _ hlb
        obtain ⟨cap, e2, g1, g2, g3, g4⟩ := hcur.own rfl
        have hsz' := hcur.sz
        have hln' := hcur.ln
        simp only [LB.sz, LB.len] at hsz' hln' e2 g1
        have hbd := fun w' => run_sliceBounds (P := P) true xs.length cap lo hi l h w' a (bnd_sound hs hl) (bnd_sound hs hh) h0 h1 h2 g1
        have hsize := (hT ti.elem te hte).size
        refine ⟨_, _, hk, .view id l.toNat (h - l).toNat (List.getElem?_eq_some_iff.1 hlb).1 (by rw [hln']; omega), fun w' _ => ?_⟩
        have e9 : h.toNat - l.toNat = (h - l).toNat := by omega
        simp [execOp, ho, e, e2, Instr.sliceAt, Instr.slice, run_underlying ((hT t ti hi').elem hel), hbd w', hsize, hsz, e9, partV, hsz']
      · exact hk.elim
    · exact hk.elim
  · exact hk.elim

def evMinMax (isMin : Bool) : List AV → (AV → Prop) → Prop
  | [.v (.int k x), .v (.int _ y)], K => K (.v (.int k (if isMin = true then (if y < x then y else x) else (if y > x then y else x))))
  | _, _ => False
theorem vdoes_min (x y : Operand) (ts : Array TypeId) (ho : o.op = .call { callee := .builtin .min, args := #[x, y], argTypes := ts }) (hk : evMinMax true [st.ev x, st.ev y] K) : VDoes P o st K := by
  unfold evMinMax at hk
  split at hk
  · rename_i k p _ q _ he
    simp only [List.cons.injEq, and_true] at he
    obtain ⟨h1, h2⟩ := he
    exact vdoes_plain _ (fun C V a w h w' => by simp [execOp, ho, h.evv h1, h.evv h2, resolve, invoke, builtin, run_min_int2]) hk
  · exact hk.elim
theorem vdoes_max (x y : Operand) (ts : Array TypeId) (ho : o.op = .call { callee := .builtin .max, args := #[x, y], argTypes := ts }) (hk : evMinMax false [st.ev x, st.ev y] K) : VDoes P o st K := by
  unfold evMinMax at hk
  split at hk
  · rename_i k p _ q _ he
    simp only [List.cons.injEq, and_true] at he
    obtain ⟨h1, h2⟩ := he
    exact vdoes_plain _ (fun C V a w h w' => by simp [execOp, ho, h.evv h1, h.evv h2, resolve, invoke, builtin, run_max_int2]) hk
  · exact hk.elim

def evMinMax3 (isMin : Bool) : List AV → (AV → Prop) → Prop
  | [.v (.int k x), .v (.int _ y), .v (.int _ z)], K => K (.v (.int k (if isMin = true then (if z < (if y < x then y else x) then z else (if y < x then y else x)) else (if z > (if y > x then y else x) then z else (if y > x then y else x)))))
  | _, _ => False
theorem vdoes_min3 (x y z : Operand) (ts : Array TypeId) (ho : o.op = .call { callee := .builtin .min, args := #[x, y, z], argTypes := ts }) (hk : evMinMax3 true [st.ev x, st.ev y, st.ev z] K) : VDoes P o st K := by
  unfold evMinMax3 at hk
  split at hk
  · rename_i k p _ q _ r _ he
    simp only [List.cons.injEq, and_true] at he
    obtain ⟨h1, h2, h3⟩ := he
    exact vdoes_plain _ (fun C V a w h w' => by simp [execOp, ho, h.evv h1, h.evv h2, h.evv h3, resolve, invoke, builtin, run_min_int3]) hk
  · exact hk.elim
theorem vdoes_max3 (x y z : Operand) (ts : Array TypeId) (ho : o.op = .call { callee := .builtin .max, args := #[x, y, z], argTypes := ts }) (hk : evMinMax3 false [st.ev x, st.ev y, st.ev z] K) : VDoes P o st K := by
  unfold evMinMax3 at hk
  split at hk
  · rename_i k p _ q _ r _ he
    simp only [List.cons.injEq, and_true] at he
    obtain ⟨h1, h2, h3⟩ := he
    exact vdoes_plain _ (fun C V a w h w' => by simp [execOp, ho, h.evv h1, h.evv h2, h.evv h3, resolve, invoke, builtin, run_max_int3]) hk
  · exact hk.elim

end
end Go.Proofs.YtpmmaohaahbphaaDoor
