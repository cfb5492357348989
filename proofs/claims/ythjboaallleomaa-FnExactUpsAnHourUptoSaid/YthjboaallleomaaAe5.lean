/-
  The abstract evaluator, part 5: operations that make or write memory; calls; more operations on values.
-/
import Derived.Test.YthjboaallleomaaAe4
namespace Go.Proofs.Ythjboaallleomaa
open Go.RowKit

/-- A value that fits one cell of memory. -/
def AV.cellOk (h : List (Option LB)) : AV → Bool
  | .any => false
  | .agg _ => false
  | .tup _ => false
  | .v x => x.oneCell'
  | .own id => match h[id]? with
    | some (some ⟨_, _, _, _, arr⟩) => arr
    | _ => false
  | .tree _ _ _ => true
  | .tptr _ _ _ _ _ => true
  | .loc _ _ _ => true
  | .fn _ _ => true
/-- The cells of a value, each fit for memory. -/
def memCells (h : List (Option LB)) (c : AV) : Option (List AV) :=
  match c with
  | .agg cs => match cs.all (AV.cellOk h) with
    | true => some cs
    | false => none
  | c => match c.cellOk h with
    | true => some [c]
    | false => none

theorem SRV.oneCell {C : Ctx} {V st a w} (h : SRV C V st a w) {c : AV} {x : Value} (hr : R w (Stb C.A w st.h V) V st.h.length c x) (hc : c.cellOk st.h = true) : x.oneCell' = true := by
  cases c with
  | any => simp [AV.cellOk] at hc
  | agg cs => simp [AV.cellOk] at hc
  | tup cs => simp [AV.cellOk] at hc
  | v y => rw [hr.v_inv]; exact hc
  | tree sz len rows => cases hr.tree_inv; rfl
  | tptr sz len rows row off => cases hr.tptr_inv; rfl
  | loc id row off => rw [hr.loc_inv]; rfl
  | own id =>
    rw [hr.own_inv]
    simp only [AV.cellOk] at hc
    split at hc
    · rename_i ty sz len rows arr hlb
      obtain ⟨cur, hcur⟩ := h.hr.blk id _ hlb
      obtain ⟨cap, e, _⟩ := hcur.own hc
      rw [e]; rfl
    · cases hc
  | fn f cs => obtain ⟨vs, rfl, _⟩ := hr.fn_inv; rfl

theorem cells_of_one {x : Value} (h : x.oneCell' = true) : x.cells = #[x] := by
  cases x <;> first | rfl | cases h

theorem SRV.memCells {C : Ctx} {V st a w} (h : SRV C V st a w) {c : AV} {x : Value} {cs : List AV} (hr : R w (Stb C.A w st.h V) V st.h.length c x) (hc : Go.Proofs.Ythjboaallleomaa.memCells st.h c = some cs) :
    x.cells.size = cs.length ∧ (∀ (i : Nat) (c : AV) (y : Value), cs[i]? = some c → x.cells[i]? = some y → R w (Stb C.A w st.h V) V st.h.length c y) ∧ ∀ y ∈ x.cells.toList, y.oneCell' = true := by
  have one : ∀ c : AV, R w (Stb C.A w st.h V) V st.h.length c x → c.cellOk st.h = true → cs = [c] → x.cells.size = cs.length ∧ (∀ (i : Nat) (c : AV) (y : Value), cs[i]? = some c → x.cells[i]? = some y → R w (Stb C.A w st.h V) V st.h.length c y) ∧ ∀ y ∈ x.cells.toList, y.oneCell' = true := by
    rintro c hr hok rfl
    have h1 := h.oneCell hr hok
    rw [cells_of_one h1]
    refine ⟨rfl, fun i c' y e1 e2 => ?_, fun y hy => by simp at hy; subst hy; exact h1⟩
    cases i with
    | zero => simp at e1 e2; subst e1 e2; exact hr
    | succ i => simp at e1
  unfold Go.Proofs.Ythjboaallleomaa.memCells at hc
  split at hc
  · rename_i cs'
    split at hc
    · rename_i hall
      cases hc
      obtain ⟨vs, rfl, hl, hh⟩ := hr.agg_inv
      refine ⟨hl, hh, fun y hy => ?_⟩
      obtain ⟨i, hi, rfl⟩ := List.getElem_of_mem hy
      have hi' : i < cs.length := by rw [← hl]; simpa [Value.cells] using hi
      have hlen : i < vs.size := by rw [hl]; exact hi'
      exact h.oneCell (hh i cs[i] _ (List.getElem?_eq_getElem hi') (by simp [Value.cells, hlen])) (List.all_eq_true.1 hall _ (List.getElem_mem hi'))
    · cases hc
  · split at hc
    · rename_i hok
      cases hc
      exact one _ hr hok rfl
    · cases hc

section
variable {P : Program} {o : Oper} {st : St} {K : AV → St → Prop} {T : Nat → Option TI}

/-- A new variable with these cells. -/
def newLB (t : Nat) (cs : List AV) : LB := ⟨t, cs.length, 1, fun _ => cs, false⟩
theorem SRV.newBox {C : Ctx} {V st a w} (h : SRV C V st a w) (t : TypeId) (cs : List AV) (cur : Array Value) (hl : cur.size = cs.length)
    (hr : ∀ (i : Nat) (c : AV) (y : Value), cs[i]? = some c → cur[i]? = some y → R w (Stb C.A w st.h V) V st.h.length c y) (h1 : ∀ y ∈ cur.toList, y.oneCell' = true) :
    SRV C (updV V st.h.length ⟨w.heap.size, cs.length, undef⟩) ⟨st.s, st.h ++ [some (newLB t cs)]⟩ a (w.alloc (.cells cur t)) ∧
    R (w.alloc (.cells cur t)) (Stb C.A (w.alloc (.cells cur t)) (st.h ++ [some (newLB t cs)]) (updV V st.h.length ⟨w.heap.size, cs.length, undef⟩)) (updV V st.h.length ⟨w.heap.size, cs.length, undef⟩) (st.h ++ [some (newLB t cs)]).length (.loc st.h.length 0 0) (.pointer (some ⟨w.heap.size, 0, none⟩)) := by
  have hs := h.alloc ⟨w.heap.size, cs.length, undef⟩ (newLB t cs) cur rfl (fun S' V' N' hS hV hN => by
    refine ⟨rfl, heap_alloc_new w _, fun k hk => rfl, fun k j c e1 e2 => ?_, fun e => by simp [newLB] at e, fun _ => by simp [hl, newLB], fun e => by simp [newLB] at e⟩
    have hk : k = 0 := by simp only [newLB] at e1; omega
    subst hk
    simp only [newLB] at e2
    have hj : j < cur.size := by rw [hl]; exact (List.getElem?_eq_some_iff.1 e2).1
    refine ⟨cur[j], by simp [hj], h1 _ (by simp), ?_⟩
    refine (hr j c _ e2 (by simp [hj])).mono (fun b hb => ⟨hS b hb, ?_⟩) hV hN
    exact heap_alloc_old w _ hb.2.1)
  refine ⟨hs, ?_⟩
  have := R.loc (w := w.alloc (.cells cur t)) (S := Stb C.A (w.alloc (.cells cur t)) (st.h ++ [some (newLB t cs)]) (updV V st.h.length ⟨w.heap.size, cs.length, undef⟩)) (V := updV V st.h.length ⟨w.heap.size, cs.length, undef⟩) (N := (st.h ++ [some (newLB t cs)]).length) st.h.length 0 0 (by simp)
  simpa [updV] using this

def evBox (st : St) (t : Nat) (cs : Option (List AV)) (K : AV → St → Prop) : Prop :=
  match cs with
  | some cs => K (.loc st.h.length 0 0) ⟨st.s, st.h ++ [some (newLB t cs)]⟩
  | none => False
theorem edoes_box (t : TypeId) (x : Operand) (ho : o.op = .box t x) (hk : evBox st t (memCells st.h (st.ev x)) K) : EDoes P o st K := by
  unfold evBox at hk
  split at hk
  · rename_i cs hc
    intro C V a w h next Q hn
    obtain ⟨h1, h2, h3⟩ := h.memCells (h.ev x) hc
    obtain ⟨g1, g2⟩ := h.newBox t cs (a.eval x).cells h1 h2 h3
    have hrun : (execOp a.eval o).run P w = .ok (.value (.pointer (some ⟨w.heap.size, 0, none⟩))) (w.alloc (.cells (a.eval x).cells t)) := by
      simp [execOp, ho, Instr.box, newVar, newRow]
    unfold Oper.wp
    rw [hrun]
    exact hn _ _ _ _ _ hk g1 g2
  · exact hk.elim

def evAlloc (st : St) (t : Nat) (i : Option TI) (K : AV → St → Prop) : Prop :=
  match i with
  | some i => (i.zero.cells.toList.all Value.oneCell') = true ∧ K (.loc st.h.length 0 0) ⟨st.s, st.h ++ [some (newLB t (i.zero.cells.toList.map AV.v))]⟩
  | none => False
theorem edoes_alloc (hT : TOk P T) (t : TypeId) (ho : o.op = .alloc t) (hk : evAlloc st t (T t) K) : EDoes P o st K := by
  unfold evAlloc at hk
  split at hk
  · rename_i i hi
    obtain ⟨hz, hk⟩ := hk
    intro C V a w h next Q hn
    obtain ⟨g1, g2⟩ := h.newBox t (i.zero.cells.toList.map AV.v) i.zero.cells (by simp) (fun j c y e1 e2 => by
      simp only [List.getElem?_map, Array.getElem?_toList, e2, Option.map_some, Option.some.injEq] at e1
      subst e1; exact .imm _ _ (.v y)) (fun y hy => List.all_eq_true.1 hz y hy)
    have hrun : (execOp a.eval o).run P w = .ok (.value (.pointer (some ⟨w.heap.size, 0, none⟩))) (w.alloc (.cells i.zero.cells t)) := by
      simp [execOp, ho, Instr.alloc, newVar, newRow, (hT t i hi).zero]
    unfold Oper.wp
    rw [hrun]
    exact hn _ _ _ _ _ hk g1 g2
  · exact hk.elim

def splice (r : List AV) (off : Nat) (cs : List AV) : List AV := r.take off ++ (cs ++ r.drop (off + cs.length))
theorem splice_length {r : List AV} {off : Nat} {cs : List AV} (h : off + cs.length ≤ r.length) : (splice r off cs).length = r.length := by
  simp [splice]; omega
theorem splice_get {r : List AV} {off : Nat} {cs : List AV} (h : off + cs.length ≤ r.length) (j : Nat) : (splice r off cs)[j]? = if off ≤ j ∧ j < off + cs.length then cs[j - off]? else r[j]? := by
  unfold splice
  by_cases h1 : j < off
  · rw [List.getElem?_append_left (by simp; omega), List.getElem?_take, if_pos h1, if_neg (by omega)]
  · rw [List.getElem?_append_right (by simp; omega)]
    have e : j - (r.take off).length = j - off := by simp; omega
    rw [e]
    by_cases h2 : j < off + cs.length
    · rw [List.getElem?_append_left (by omega), if_pos (by omega)]
    · rw [List.getElem?_append_right (by omega), List.getElem?_drop, if_neg (by omega)]
      congr 1; omega

def updR (rows : Nat → List AV) (row : Nat) (r : List AV) : Nat → List AV := fun k => if k = row then r else rows k
def immArr (arr : Bool) (cs : List AV) (p : Prop) : Prop :=
  match arr with
  | true => cs.all AV.isImm = true ∧ p
  | false => p
theorem immArr_sound {arr : Bool} {cs : List AV} {p : Prop} (h : immArr arr cs p) : (arr = true → cs.all AV.isImm = true) ∧ p := by
  cases arr
  · exact ⟨fun e => (by cases e), h⟩
  · exact ⟨fun _ => h.1, h.2⟩
def evStoreO (size : Nat) (st : St) (id row off : Nat) (o : Option (Option LB)) (cs : Option (List AV)) (K : AV → St → Prop) : Prop :=
  match o, cs with
  | some (some ⟨ty, sz, len, rows, arr⟩), some cs => inRow arr row len (Nat.beq cs.length size = true ∧ Nat.ble (off + cs.length) sz = true ∧ immArr arr cs (K (.v (.tuple #[])) ⟨st.s, st.h.set id (some ⟨ty, sz, len, updR rows row (splice (rows row) off cs), arr⟩)⟩))
  | _, _ => False
def evStore (i : Option TI) (st : St) (p : AV) (cs : Option (List AV)) (K : AV → St → Prop) : Prop :=
  match i, p with
  | some i, .loc id row off => evStoreO i.size st id row off (st.h[id]?) cs K
  | _, _ => False

theorem edoes_store (hT : TOk P T) (t : TypeId) (p x : Operand) (ho : o.op = .store t p x) (hk : evStore (T t) st (st.ev p) (memCells st.h (st.ev x)) K) : EDoes P o st K := by
  unfold evStore at hk
  split at hk
  case h_2 => exact hk.elim
  rename_i i id row off hi hp
  unfold evStoreO at hk
  split at hk
  case h_2 => exact hk.elim
  rename_i ty sz len rows arr cs hlb hmc
  obtain ⟨hrowlt, hsz, hle, hk⟩ := inRow_sound hk
  have hsz : cs.length = i.size := Nat.eq_of_beq_eq_true hsz
  have hle := Nat.le_of_ble_eq_true hle
  obtain ⟨himm, hk⟩ := immArr_sound hk
  intro C V a w h next Q hn
  obtain ⟨c1, c2, c3⟩ := h.memCells (h.ev x) hmc
  have ep := (hp ▸ h.ev p).loc_inv
  obtain ⟨cur, hcur⟩ := h.hr.blk id _ hlb
  have hrl : (rows row).length = sz := hcur.rows row hrowlt
  have hle : off + cs.length ≤ (rows row).length := by rw [hrl]; exact hle
  have hIsz : (V id).sz = sz := hcur.sz
  have hheap : w.heap[(V id).blk]? = some (.cells cur ty (0, 0)) := hcur.heap
  -- the block is long enough
  have hfit0 : (row + 1) * sz ≤ cur.size := by
    cases hb : arr
    · have e : cur.size = len * sz := hcur.box (by simpa using hb)
      rw [e]; exact Nat.mul_le_mul_right _ hrowlt
    · obtain ⟨cap, _, e2, _, e4, _⟩ := hcur.own (by simpa using hb)
      simp only at e2 e4
      rw [e4]; exact Nat.mul_le_mul_right _ (by omega)
  have hfit : (row * sz + off) + 0 + (a.eval x).cells.toList.length ≤ cur.size := by
    have : (row + 1) * sz = row * sz + sz := by rw [Nat.add_mul, Nat.one_mul]
    simp only [Array.length_toList, c1]
    omega
  have hst := run_storeCells_at P (V id).blk (row * sz + off) ty (a.eval x).cells.toList 0 cur w hheap hfit c3
  generalize hnew : (cur.toList.take (row * sz + off + 0) ++ (a.eval x).cells.toList ++ cur.toList.drop (row * sz + off + 0 + (a.eval x).cells.toList.length)).toArray = new at hst
  have hrun : (execOp a.eval o).run P w = .ok .skip (w.setRow (V id).blk new) := by
    simp [execOp, ho, ep, Instr.storeAt, Instr.sureAddr, storeVar, (hT t i hi).size, c1, hsz, hIsz, hst]
  have hget : ∀ q, new[q]? = if row * sz + off ≤ q ∧ q < row * sz + off + cs.length then (a.eval x).cells[q - (row * sz + off)]? else cur[q]? := fun q => by
    rw [← hnew]
    simp only [Nat.add_zero, List.getElem?_toArray]
    have hlen1 : (cur.toList.take (row * sz + off)).length = row * sz + off := by simp; simp only [Array.length_toList, c1] at hfit; omega
    have hlen2 : (a.eval x).cells.toList.length = cs.length := by simpa using c1
    by_cases h1 : q < row * sz + off
    · rw [List.append_assoc, List.getElem?_append_left (by omega), List.getElem?_take, if_pos h1, if_neg (by omega)]; simp
    · rw [List.append_assoc, List.getElem?_append_right (by omega), hlen1]
      by_cases h2 : q < row * sz + off + cs.length
      · rw [List.getElem?_append_left (by omega), if_pos (by omega)]; simp
      · rw [List.getElem?_append_right (by omega), List.getElem?_drop, if_neg (by omega), hlen2]
        simp only [Array.getElem?_toList]
        congr 1; omega
  have hsize : new.size = cur.size := by
    rw [← hnew]
    have hlen2 : (a.eval x).cells.toList.length = cs.length := by simpa using c1
    simp only [Array.length_toList, c1] at hfit
    simp only [List.size_toArray, List.length_append, List.length_take, List.length_drop, Array.length_toList, c1]
    omega
  have hw := h.write hlb (lb' := ⟨ty, sz, len, updR rows row (splice (rows row) off cs), arr⟩) (w' := w.setRow (V id).blk new) (cur' := new) rfl rfl rfl (by simp) (fun k hk => setRow_other w _ k new hk) (fun hS => by
    have hin : ∀ (k j : Nat), j < sz → k ≠ row → ¬ (row * sz + off ≤ k * sz + j ∧ k * sz + j < row * sz + off + cs.length) := fun k j hj hne => by
      rcases Nat.lt_or_gt_of_ne hne with hlt | hgt
      · have : (k + 1) * sz ≤ row * sz := Nat.mul_le_mul_right _ hlt
        rw [Nat.add_mul, Nat.one_mul] at this
        omega
      · have : (row + 1) * sz ≤ k * sz := Nat.mul_le_mul_right _ hgt
        rw [Nat.add_mul, Nat.one_mul] at this
        omega
    have hcell : ∀ (k j : Nat) (c : AV), k < len → (updR rows row (splice (rows row) off cs) k)[j]? = some c → ∃ y, new[k * sz + j]? = some y ∧ y.oneCell' = true ∧ R w (Stb C.A w st.h V) V st.h.length c y ∧
        (((rows k)[j]? = some c ∧ cur[k * sz + j]? = some y) ∨ c ∈ cs) := fun k j c e1 e2 => by
      unfold updR at e2
      by_cases hk : k = row
      · subst hk
        rw [if_pos rfl, splice_get hle] at e2
        rw [hget]
        by_cases hb : off ≤ j ∧ j < off + cs.length
        · rw [if_pos hb] at e2
          rw [if_pos (by omega)]
          have hj : j - off < (a.eval x).cells.size := by rw [c1]; omega
          have e4 : k * sz + j - (k * sz + off) = j - off := by omega
          rw [e4]
          refine ⟨(a.eval x).cells[j - off], by simp [hj], c3 _ (by simp), c2 _ c _ e2 (by simp [hj]), .inr (List.mem_of_getElem? e2)⟩
        · rw [if_neg hb] at e2
          rw [if_neg (by omega)]
          obtain ⟨y, f1, f2, f3⟩ := hcur.cell k j c hrowlt e2
          exact ⟨y, f1, f2, f3, .inl ⟨e2, f1⟩⟩
      · rw [if_neg hk] at e2
        have hj : j < sz := by
          have e5 : (rows k).length = sz := hcur.rows k e1
          rw [← e5]; exact (List.getElem?_eq_some_iff.1 e2).1
        rw [hget, if_neg (hin k j hj hk)]
        obtain ⟨y, f1, f2, f3⟩ := hcur.cell k j c e1 e2
        exact ⟨y, f1, f2, f3, .inl ⟨e2, f1⟩⟩
    refine ⟨hIsz, setRow_heap w _ cur new _ _ hheap, fun k hk => ?_, fun k j c e1 e2 => ?_, fun harr k j c y e1 e2 e3 => ?_, fun harr => ?_, fun harr => ?_⟩
    · show (updR rows row (splice (rows row) off cs) k).length = sz
      unfold updR
      by_cases hkr : k = row
      · rw [if_pos hkr, splice_length hle]; exact hrl
      · rw [if_neg hkr]; exact hcur.rows k hk
    · obtain ⟨y, f1, f2, f3, _⟩ := hcell k j c e1 e2
      exact ⟨y, f1, f2, f3.mono hS (fun _ _ => rfl) (Nat.le_refl _)⟩
    · obtain ⟨y', f1, f2, f3, f4⟩ := hcell k j c e1 e2
      have ey : y' = y := by rw [f1] at e3; exact Option.some.inj e3
      subst ey
      rcases f4 with ⟨g2, g3⟩ | hmem
      · exact (hcur.still harr k j c y' e1 g2 g3).mono hS
      · exact (f3.toImm (List.all_eq_true.1 (himm harr) c hmem)).mono hS
    · show new.size = len * sz
      rw [hsize]; exact hcur.box harr
    · rw [hsize]; exact hcur.own harr)
  unfold Oper.wp
  rw [hrun]
  exact hn _ _ _ undef _ hk hw (.imm _ _ (.v _))

/-! ### Calls -/
def callwp (P : Program) (st : St) (f : FuncId) (cs : List AV) (K : AV → St → Prop) : Prop :=
  ∃ Q, Spec P f (AV.lendL st.h cs) [] Q ∧ ∀ c h', Q c h' → Met st cs c h' ∧ K (c.ren (st.h.length + ·)) ⟨st.s, st.h ++ h'.map (renLB (st.h.length + ·))⟩
def qcallwp (P : Program) (st : St) (f : FuncId) (cs : List AV) (K : AV → Prop) : Prop :=
  ∃ r, Spec P f (AV.lendL st.h cs) [] (fun c h' => c = .v r ∧ h' = []) ∧ K (.v r)

/-- The callee and its arguments. -/
def St.callee (st : St) (c : Call) : Option (FuncId × List AV) :=
  match c.callee with
  | .value x => match st.ev x with
    | .fn f cap => some (f, c.args.toList.map st.ev ++ cap)
    | _ => none
  | _ => none

/-- A function with a body is entered. -/
def Enters (P : Program) (f : FuncId) : Prop := ∀ args w, (callFunc f args).run P w = .ok (.enter f args) w

theorem SRV.callee {C : Ctx} {V st a w} (h : SRV C V st a w) {c : Call} {f : FuncId} {cs : List AV} (hc : st.callee c = some (f, cs)) (ho : o.op = .call c) (hent : Enters P f) :
    ∃ vs : Array Value, (∀ w', (execOp a.eval o).run P w' = .ok (.enter f vs) w') ∧ vs.size = cs.length ∧ ∀ (i : Nat) (c : AV) (x : Value), cs[i]? = some c → vs[i]? = some x → R w (Stb C.A w st.h V) V st.h.length c x := by
  unfold St.callee at hc
  split at hc
  · rename_i x hx
    split at hc
    · rename_i f' cap hf
      simp only [Option.some.injEq, Prod.mk.injEq] at hc
      obtain ⟨rfl, rfl⟩ := hc
      obtain ⟨vs, e, hl, hr⟩ := (hf ▸ h.ev x).fn_inv
      refine ⟨c.args.map a.eval ++ vs, fun w' => ?_, by simp [hl], fun i c' y h1 h2 => ?_⟩
      · simp [execOp, ho, resolve, hx, e, Deferred.ofValue, invoke, hent _ w']
      · by_cases hi : i < c.args.size
        · rw [List.getElem?_append_left (by simpa using hi)] at h1
          rw [Array.getElem?_append_left (by simpa using hi)] at h2
          simp [hi] at h1 h2
          subst h1 h2; exact h.ev _
        · rw [List.getElem?_append_right (by simp; omega)] at h1
          rw [Array.getElem?_append_right (by simp; omega)] at h2
          simp at h1 h2
          exact hr _ c' y h1 h2
    · cases hc
  · cases hc

theorem edoes_call (c : Call) (f : FuncId) (cs : List AV) (ho : o.op = .call c) (hc : st.callee c = some (f, cs)) (hent : Enters P f) (hk : callwp P st f cs K) : EDoes P o st K := by
  obtain ⟨Q, hs, hq⟩ := hk
  intro C V a w h next Q' hn
  obtain ⟨vs, hrun, hl, hr⟩ := h.callee hc ho hent
  unfold Oper.wp
  rw [hrun w]
  refine (h.call hl hr hs (fun c h' hq' => (hq c h' hq').1)).mono ?_
  rintro e w' ⟨c', x, V', h', rfl, hq', hb, hs', hres⟩
  exact hn _ _ _ _ _ (hq c' h' hq').2 hs' (by simpa using hres)

end
end Go.Proofs.Ythjboaallleomaa
