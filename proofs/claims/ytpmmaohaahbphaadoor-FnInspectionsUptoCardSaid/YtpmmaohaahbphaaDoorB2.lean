/-
  The abstract evaluator, part 2: operations that yield a value and leave the world alone.
-/
import Derived.Test.YtpmmaohaahbphaaDoorB1
namespace Go.Proofs.YtpmmaohaahbphaaDoor
open Go.RowKit

/-- What is told of a type. 'offs': of each field its place, its size, and whether it is a struct or an array itself. -/
structure TI where
  cod : Option Ty
  size : Nat
  bytes : Nat
  agg : Bool
  offs : List (Nat × Nat × Bool)
  elem : Nat
  zero : Value
  kind : Option IntKind
  str : Bool
  arr : Nat × Nat
  mapT : Option (Nat × Nat)

/-- Kinds of plain cells. -/
inductive CK where
  | i (k : IntKind)
  | b
  | s
def CK.fits (k : CK) (x : Value) : Prop :=
  match k with
  | .i k => ∃ n, x = .int k n
  | .b => ∃ b, x = .bool b
  | .s => ∃ s, x = .string s
def CK.fitsL : List CK → List Value → Prop
  | [], [] => True
  | k :: ks, x :: xs => k.fits x ∧ CK.fitsL ks xs
  | _, _ => False
def ckTy : Ty → Option CK
  | .int k => some (.i k)
  | .bool => some .b
  | .str => some .s
  | _ => none
def cksTy : List Ty → Option (List CK)
  | [] => some []
  | t :: ts => match ckTy t with
    | some k => match cksTy ts with
      | some ks => some (k :: ks)
      | none => none
    | none => none
/-- The kinds of a struct's cells, if all are plain. -/
def ckOf (o : Option Ty) : Option (List CK) :=
  match o with
  | some (.st fs) => cksTy fs
  | _ => none
def eqV1 (x y : Value) : Bool :=
  match x, y with
  | .int _ a, .int _ b => decide (a = b)
  | .bool a, .bool b => a == b
  | .string a, .string b => decide (a = b)
  | _, _ => true
def eqVs : List Value → List Value → Bool
  | x :: xs, y :: ys => eqV1 x y && eqVs xs ys
  | _, _ => true
/-- '==' on a struct of plain cells. -/
def EqOk (P : Program) (t : Nat) (ks : List CK) : Prop :=
  P.eqGuardType P.depth t = false ∧ ∀ (xs ys : Array Value), CK.fitsL ks xs.toList → CK.fitsL ks ys.toList → ∀ w, (Op.equalIn 10000 t (.agg xs) (.agg ys)).run P w = .ok (eqVs xs.toList ys.toList) w

/-- A struct of plain cells as a map's key. -/
def KeyOk (P : Program) (t : Nat) (ks : List CK) : Prop :=
  (∃ fs, P.underlying t = some (.struct fs)) ∧ ∀ (b : Bool) (xs : Array Value), CK.fitsL ks xs.toList → ∀ w, (Instr.checkKey b 10000 t (.agg xs)).run P w = .ok () w

structure TIok (P : Program) (t : Nat) (i : TI) : Prop where
  size : ∀ w, (sizeOf t).run P w = .ok i.size w
  agg : ∀ w, (isAgg t).run P w = .ok i.agg w
  zero : ∀ w, (zeroValue t).run P w = .ok i.zero w
  offs : ∀ (f o s : Nat) (g : Bool), i.offs[f]? = some (o, s, g) → ∃ (fs : Array Field) (fd : Field), P.underlying t = some (.struct fs) ∧ fs[f]? = some fd ∧ fd.offset = o ∧ (∀ w, (sizeOf fd.type).run P w = .ok s w) ∧ 0 < s ∧ (∀ w, (isAgg fd.type).run P w = .ok g w)
  elem : i.elem ≠ 0 → P.underlying t = some (.slice i.elem)
  kind : ∀ k, i.kind = some k → P.underlying t = some (.int k)
  str : i.str = true → P.underlying t = some .string
  bool : ∀ b, i.zero = .bool b → P.underlying t = some .bool
  places : i.offs.isEmpty = false → ∃ fs : Array Field, P.underlying t = some (.struct fs) ∧ fs.toList.mapM (fun f => (P.info? f.type).map fun j => (f.offset, j.size)) = some (i.offs.map fun x => (x.1, x.2.1))
  one : i.agg = false → i.size = 1
  info : ∃ ti, P.info? t = some ti ∧ ti.zero = some i.zero ∧ ti.size = i.size ∧ ti.bytes = i.bytes
  eqs : ∀ ks, ckOf i.cod = some ks → EqOk P t ks
  arr : Nat.beq i.arr.1 0 = false → P.underlying t = some (.array i.arr.1 i.arr.2)
  mapT : ∀ k e, i.mapT = some (k, e) → P.underlying t = some (.map k e)
  keys : ∀ ks, ckOf i.cod = some ks → KeyOk P t ks

/-- A condition that is left to whoever evaluates. -/
def Ob (p : Prop) : Prop := p
theorem Ob.out {p : Prop} (h : Ob p) : p := h
theorem Ob.mk {p : Prop} (h : p) : Ob p := h

def TOk (P : Program) (T : Nat → Option TI) : Prop := ∀ t i, T t = some i → TIok P t i

/-- Strings: P.underlying t = some .string is asked where it is wanted. -/
def AV.val? : AV → Option Value
  | .v x => some x
  | _ => none

/-- Operation o yields a value, whatever has been laid besides. -/
def VDoes (P : Program) (o : Oper) (st : St) (K : AV → Prop) : Prop :=
  ∀ C V a w, SRV C V st a w → ∃ c x, K c ∧ R w (Stb C.A w st.h V) V st.h.length c x ∧ ∀ w', Below w.heap.size w w' → (execOp a.eval o).run P w' = .ok (.value x) w'
/-- The same, whatever the world. -/
def VDoesW (P : Program) (o : Oper) (st : St) (K : AV → Prop) : Prop :=
  ∀ C V a w, SRV C V st a w → ∃ c x, K c ∧ R w (Stb C.A w st.h V) V st.h.length c x ∧ ∀ w', (execOp a.eval o).run P w' = .ok (.value x) w'
theorem VDoesW.to {P : Program} {o : Oper} {st : St} {K : AV → Prop} (h : VDoesW P o st K) : VDoes P o st K := fun C V a w hs =>
  let ⟨c, x, h1, h2, h3⟩ := h C V a w hs
  ⟨c, x, h1, h2, fun w' _ => h3 w'⟩

/-- A constant; a constant struct cell by cell. -/
def AV.ofV : Value → AV
  | .agg cs => .agg (cs.toList.map .v)
  | x => .v x
def St.ev (st : St) : Operand → AV
  | .tmp t => st.s t
  | .const x => AV.ofV x
  | .func f => .fn f []
  | .global g => match gval g with
    | some vs => .bptr (vs.map .v) 0
    | none => .any

theorem SRV.ev {C : Ctx} {V st a w} (h : SRV C V st a w) (x : Operand) : R w (Stb C.A w st.h V) V st.h.length (st.ev x) (a.eval x) := by
  cases x with
  | tmp t => exact h.slots t
  | const x =>
    cases x with
    | agg cs => exact .imm _ _ (.agg _ cs (by simp) fun i c x h1 h2 => by
        simp only [List.getElem?_map, Array.getElem?_toList, h2, Option.map_some, Option.some.injEq] at h1
        subst h1; exact .v x)
    | _ => exact .imm _ _ (.v _)
  | func f => exact .imm _ _ (.fn f [] #[] rfl (by simp))
  | global g =>
    show R w _ V st.h.length (match gval g with | some vs => AV.bptr (vs.map .v) 0 | none => AV.any) _
    split
    · rename_i vs e
      obtain ⟨hg, hc⟩ := Lw_gval h.laid e
      have key : ∀ (j : Nat) (c : AV), (vs.map AV.v)[j]? = some c → ∃ x, vs[j]? = some x ∧ c = .v x := fun j c hj => by
        rw [List.getElem?_map] at hj
        cases hx : vs[j]? with
        | none => rw [hx] at hj; cases hj
        | some x => rw [hx] at hj; cases hj; exact ⟨x, rfl, rfl⟩
      refine .imm _ _ (.bptr (vs.map .v) 0 g 0 (fun j => (vs[j]?).getD undef) (h.stbGB hg) (fun j c hj => ?_) (fun j c hj => ?_))
      · obtain ⟨x, e1, rfl⟩ := key j c hj
        rw [Nat.zero_add, e1]
        exact hc j x e1
      · obtain ⟨x, e1, rfl⟩ := key j c hj
        rw [e1]
        exact .v x
    · exact .imm _ _ (.any _)

theorem R.v_inv {w S V N x y} (h : R w S V N (.v x) y) : y = x := by
  cases h with
  | imm _ _ h => cases h; rfl

theorem SRV.evv {C : Ctx} {V st a w} (h : SRV C V st a w) {x : Operand} {v : Value} (e : st.ev x = .v v) : a.eval x = v := R.v_inv (e ▸ h.ev x)

section
variable {P : Program} {o : Oper} {st : St} {K : AV → Prop}

theorem vdoes_same (x : Operand) (ho : o.op = .move x ∨ o.op = .assign x) (hk : K (st.ev x)) : VDoes P o st K := by
  intro C V a w h
  refine ⟨st.ev x, a.eval x, hk, h.ev x, fun w' _ => ?_⟩
  rcases ho with ho | ho <;> simp [execOp, ho]

theorem vdoes_pick (c x y : Operand) (b : Bool) (ho : o.op = .pick c x y) (hc : st.ev c = .v (.bool b)) (hk : K (if b then st.ev x else st.ev y)) : VDoes P o st K := by
  intro C V a w h
  have e := h.evv hc
  refine ⟨_, if b then a.eval x else a.eval y, hk, by cases b <;> exact h.ev _, fun w' _ => ?_⟩
  simp [execOp, ho, e, asBool]

/-- A step on plain values that is the same in every world. -/
theorem vdoes_plain (x : Value) (hrun : ∀ C V a w, SRV C V st a w → ∀ w', (execOp a.eval o).run P w' = .ok (.value x) w') (hk : K (.v x)) : VDoes P o st K :=
  fun C V a w h => ⟨.v x, x, hk, .imm _ _ (.v x), fun w' _ => hrun C V a w h w'⟩


/-- A truth value, decided or not. -/
def AV.b? : AV → Option Bool
  | .bl b => some b
  | .v (.bool b) => some b
  | _ => none
theorem b_inv {c : AV} {b : Bool} (h : c.b? = some b) {w S V N y} (hr : R w S V N c y) : y = .bool b := by
  unfold AV.b? at h
  split at h
  · cases h
    cases hr with
    | imm _ _ h => cases h; rfl
  · cases h; exact hr.v_inv
  · cases h
def isBoolT (i : Option TI) (p : Prop) : Prop :=
  match i with
  | some ⟨_, _, _, _, _, _, .bool _, _, _, _, _⟩ => p
  | _ => False
def evBB (i : Option TI) (op : BinOp) (x y : Option Bool) (K : AV → Prop) : Prop :=
  match op, x, y with
  | .eql, some a, some b => isBoolT i (K (.bl (a == b)))
  | .neq, some a, some b => isBoolT i (K (.bl (!(a == b))))
  | _, _, _ => False
def evBin (i : Option TI) (op : BinOp) (x y : AV) (K : AV → Prop) : Prop :=
  match op, x, y with
  | .add, .v (.int k a), .v (.int k' b) => k = k' ∧ K (.v (.int k (k.wrap (a + b))))
  | .sub, .v (.int k a), .v (.int k' b) => k = k' ∧ K (.v (.int k (k.wrap (a - b))))
  | .mul, .v (.int k a), .v (.int k' b) => k = k' ∧ K (.v (.int k (k.wrap (a * b))))
  | .quo, .v (.int k a), .v (.int k' b) => k = k' ∧ Ob (b ≠ 0) ∧ K (.v (.int k (k.wrap (a.tdiv b))))
  | .rem, .v (.int k a), .v (.int k' b) => k = k' ∧ Ob (b ≠ 0) ∧ K (.v (.int k (a.tmod b)))
  | .lss, .v (.int k a), .v (.int k' b) => k = k' ∧ K (.bl (decide (a < b)))
  | .leq, .v (.int k a), .v (.int k' b) => k = k' ∧ K (.bl (decide (a ≤ b)))
  | .gtr, .v (.int k a), .v (.int k' b) => k = k' ∧ K (.bl (decide (b < a)))
  | .geq, .v (.int k a), .v (.int k' b) => k = k' ∧ K (.bl (decide (b ≤ a)))
  | .eql, .v (.int k a), .v (.int k' b) => k = k' ∧ K (.bl (decide (a = b)))
  | .neq, .v (.int k a), .v (.int k' b) => k = k' ∧ K (.bl (!decide (a = b)))
  | .and, .v (.int k a), .v (.int k' b) => k = k' ∧ K (.v (.int k (k.wrap (BitVec.ofInt k.bits a &&& BitVec.ofInt k.bits b).toNat)))
  | .shr, .v (.int k a), .v (.int _ b) => Ob (0 ≤ b) ∧ K (.v (.int k (a.fdiv (2 ^ min b.toNat k.bits))))
  | .eql, .v (.string a), .v (.string b) => K (.bl (decide (a = b)))
  | .neq, .v (.string a), .v (.string b) => K (.bl (!decide (a = b)))
  | .lss, .v (.string a), .v (.string b) => K (.bl (Op.bytesLess a.toList b.toList))
  | .add, .v (.string a), .v (.string b) => Ob (a.size + b.size ≤ 9223372036854775807) ∧ K (.v (.string (a ++ b)))
  | op, x, y => evBB i op x.b? y.b? K

theorem toList_ne {a b : ByteArray} (h : a ≠ b) : (a.toList == b.toList) = false := by
  rw [beq_eq_false_iff_ne, ByteArray.toList_eq, ByteArray.toList_eq]
  exact fun e => h (ByteArray.ext (Array.toList_inj.mp e))

/-- The guard ahead of '==' lets plain values by. -/
def AV.cmpOk : AV → Bool
  | .v (.int _ _) | .v (.string _) | .v (.bool _) => true
  | _ => false

theorem run_bin {op : BinOp} {t : TypeId} {x y : Operand} {a b r : Value} {w : World} (hg : (eqGuard op t x y a b).run P w = .ok () w) (h : (binOp op t a b).run P w = .ok r w) :
    (do eqGuard op t x y a b; binOp op t a b : Sem Value).run P w = .ok r w := by
  simp [hg, h]

theorem guard_int (op : BinOp) (t : TypeId) (x y : Operand) (k k' : IntKind) (a b : Int) (w : World) : (eqGuard op t x y (.int k a) (.int k' b)).run P w = .ok () w := by
  unfold eqGuard; cases op <;> simp
theorem guard_string (op : BinOp) (t : TypeId) (x y : Operand) (a b : ByteArray) (w : World) : (eqGuard op t x y (.string a) (.string b)).run P w = .ok () w := by
  unfold eqGuard; cases op <;> simp
theorem guard_bool (op : BinOp) (t : TypeId) (x y : Operand) (a b : Bool) (w : World) : (eqGuard op t x y (.bool a) (.bool b)).run P w = .ok () w := by
  unfold eqGuard; cases op <;> simp


theorem vdoes_bl (b : Bool) (hrun : ∀ C V a w, SRV C V st a w → ∀ w', (execOp a.eval o).run P w' = .ok (.value (.bool b)) w') (hk : K (.bl b)) : VDoes P o st K :=
  fun C V a w h => ⟨.bl b, .bool b, hk, .imm _ _ (.bl b), fun w' _ => hrun C V a w h w'⟩
theorem vdoes_bin' {op : BinOp} {t t' : TypeId} {x y : Operand} {p q : Value} (r : Value) (ho : o.op = .binOp op t x y t') (hx : st.ev x = .v p) (hy : st.ev y = .v q)
    (hrun : ∀ w, (do eqGuard op t x y p q; binOp op t p q : Sem Value).run P w = .ok r w) (hk : K (.v r)) : VDoes P o st K :=
  vdoes_plain r (fun C V a w h w' => by
    have e1 := h.evv hx
    have e2 := h.evv hy
    have := hrun w'
    simp only [execOp, ho, e1, e2]
    simp only [Sem.run_bind, this, Result.andThen_ok, Sem.run_pure]) hk
theorem vdoes_binb {op : BinOp} {t t' : TypeId} {x y : Operand} {p q : Value} (r : Bool) (ho : o.op = .binOp op t x y t') (hx : st.ev x = .v p) (hy : st.ev y = .v q)
    (hrun : ∀ w, (do eqGuard op t x y p q; binOp op t p q : Sem Value).run P w = .ok (.bool r) w) (hk : K (.bl r)) : VDoes P o st K :=
  vdoes_bl r (fun C V a w h w' => by
    have e1 := h.evv hx
    have e2 := h.evv hy
    have := hrun w'
    simp only [execOp, ho, e1, e2]
    simp only [Sem.run_bind, this, Result.andThen_ok, Sem.run_pure]) hk

theorem isBoolT_out {T : Nat → Option TI} (hT : TOk P T) {t : Nat} {p : Prop} (h : isBoolT (T t) p) : P.underlying t = some .bool ∧ p := by
  unfold isBoolT at h
  split at h
  · rename_i e; exact ⟨(hT t _ e).bool _ rfl, h⟩
  · exact h.elim
theorem vdoes_bb {T : Nat → Option TI} (hT : TOk P T) (op : BinOp) (t t' : TypeId) (x y : Operand) (ho : o.op = .binOp op t x y t') (hk : evBB (T t) op (st.ev x).b? (st.ev y).b? K) : VDoes P o st K := by
  unfold evBB at hk
  split at hk
  · rename_i a b hx hy
    obtain ⟨hu, hk⟩ := isBoolT_out hT hk
    exact vdoes_bl _ (fun C V ac w h w' => by
      have e1 := b_inv hx (h.ev x)
      have e2 := b_inv hy (h.ev y)
      have e3 := run_bin (P := P) (t := t) (x := x) (y := y) (w := w') (r := .bool (a == b)) (guard_bool .eql t x y a b w') (by simp only [binOp, Sem.run_bind, run_equal_bool w' t a b hu, Result.andThen_ok, Sem.run_pure])
      simp only [execOp, ho, e1, e2]
      simp only [Sem.run_bind, e3, Result.andThen_ok, Sem.run_pure]) hk
  · rename_i a b hx hy
    obtain ⟨hu, hk⟩ := isBoolT_out hT hk
    exact vdoes_bl _ (fun C V ac w h w' => by
      have e1 := b_inv hx (h.ev x)
      have e2 := b_inv hy (h.ev y)
      have e3 := run_bin (P := P) (t := t) (x := x) (y := y) (w := w') (r := .bool (!(a == b))) (guard_bool .neq t x y a b w') (by simp only [binOp, Sem.run_bind, run_equal_bool w' t a b hu, Result.andThen_ok, Sem.run_pure])
      simp only [execOp, ho, e1, e2]
      simp only [Sem.run_bind, e3, Result.andThen_ok, Sem.run_pure]) hk
  · exact hk.elim
theorem str_eq (a b : ByteArray) : (a.toList == b.toList) = decide (a = b) := by
  by_cases c : a = b
  · subst c; simp
  · rw [toList_ne c]; simp [c]
theorem vdoes_bin {T : Nat → Option TI} (hT : TOk P T) (op : BinOp) (t t' : TypeId) (x y : Operand) (ho : o.op = .binOp op t x y t') (hk : evBin (T t) op (st.ev x) (st.ev y) K) : VDoes P o st K := by
  unfold evBin at hk
  split at hk
  case h_1 k a k' b hx hy => obtain ⟨rfl, hk⟩ := hk; exact vdoes_bin' _ ho hx hy (fun w => run_bin (guard_int ..) (by simp [binOp, Op.intArith])) hk
  case h_2 k a k' b hx hy => obtain ⟨rfl, hk⟩ := hk; exact vdoes_bin' _ ho hx hy (fun w => run_bin (guard_int ..) (by simp [binOp, Op.intArith])) hk
  case h_3 k a k' b hx hy => obtain ⟨rfl, hk⟩ := hk; exact vdoes_bin' _ ho hx hy (fun w => run_bin (guard_int ..) (by simp [binOp, Op.intArith])) hk
  case h_4 k a k' b hx hy => obtain ⟨rfl, hb, hk⟩ := hk; exact vdoes_bin' _ ho hx hy (fun w => run_bin (guard_int ..) (by simp [binOp, Op.intDiv, hb.out])) hk
  case h_5 k a k' b hx hy => obtain ⟨rfl, hb, hk⟩ := hk; exact vdoes_bin' _ ho hx hy (fun w => run_bin (guard_int ..) (by simp [binOp, Op.intDiv, hb.out])) hk
  case h_6 k a k' b hx hy => obtain ⟨rfl, hk⟩ := hk; exact vdoes_binb _ ho hx hy (fun w => run_bin (guard_int ..) (by simp [binOp, Op.intCmp])) hk
  case h_7 k a k' b hx hy => obtain ⟨rfl, hk⟩ := hk; exact vdoes_binb _ ho hx hy (fun w => run_bin (guard_int ..) (by simp [binOp, Op.intCmp])) hk
  case h_8 k a k' b hx hy => obtain ⟨rfl, hk⟩ := hk; exact vdoes_binb _ ho hx hy (fun w => run_bin (guard_int ..) (by simp [binOp, Op.intCmp])) hk
  case h_9 k a k' b hx hy => obtain ⟨rfl, hk⟩ := hk; exact vdoes_binb _ ho hx hy (fun w => run_bin (guard_int ..) (by simp [binOp, Op.intCmp])) hk
  case h_10 k a k' b hx hy => obtain ⟨rfl, hk⟩ := hk; exact vdoes_binb _ ho hx hy (fun w => run_bin (guard_int ..) (by simp [binOp, Op.intCmp]; try rfl)) hk
  case h_11 k a k' b hx hy => obtain ⟨rfl, hk⟩ := hk; exact vdoes_binb _ ho hx hy (fun w => run_bin (guard_int ..) (by simp [binOp, Op.intCmp]; try rfl)) hk
  case h_12 k a k' b hx hy => obtain ⟨rfl, hk⟩ := hk; exact vdoes_bin' _ ho hx hy (fun w => run_bin (guard_int ..) (by simp [binOp, Op.intBits])) hk
  case h_13 k a k' b hx hy =>
    obtain ⟨hb, hk⟩ := hk
    exact vdoes_bin' _ ho hx hy (fun w => run_bin (guard_int ..) (by
      have : ¬ b < 0 := by have := hb.out; omega
      simp [binOp, Op.shift, this])) hk
  case h_14 a b hx hy => exact vdoes_binb _ ho hx hy (fun w => run_bin (guard_string ..) (by simp only [binOp, Op.stringOp, str_eq, Sem.run_pure])) hk
  case h_15 a b hx hy => exact vdoes_binb _ ho hx hy (fun w => run_bin (guard_string ..) (by simp only [binOp, Op.stringOp, str_eq, Sem.run_pure])) hk
  case h_16 a b hx hy => exact vdoes_binb _ ho hx hy (fun w => run_bin (guard_string ..) (by simp only [binOp, Op.stringOp, Sem.run_pure])) hk
  case h_17 a b hx hy =>
    obtain ⟨hs, hk⟩ := hk
    have hs := hs.out
    refine vdoes_bin' _ ho hx hy (fun w => run_bin (guard_string ..) ?_) hk
    have : ¬ (((a.size + b.size : Nat) : Int) > IntKind.i64.max) := by
      have : IntKind.i64.max = 9223372036854775807 := by decide
      omega
    simp only [binOp, Op.stringOp, if_neg this, Sem.run_pure]
  case h_18 => exact vdoes_bb hT _ t t' x y ho hk

def evUn (op : UnOp) (x : AV) (K : AV → Prop) : Prop :=
  match op, x with
  | .not, .v (.bool b) => K (.v (.bool !b))
  | .not, .bl b => K (.bl !b)
  | .neg, .v (.int k n) => K (.v (.int k (k.wrap (0 - n))))
  | _, _ => False
theorem vdoes_un (op : UnOp) (t : TypeId) (x : Operand) (ho : o.op = .unOp op t x) (hk : evUn op (st.ev x) K) : VDoes P o st K := by
  unfold evUn at hk
  split at hk
  · rename_i b hx; exact vdoes_plain _ (fun C V a w h w' => by simp [execOp, ho, h.evv hx, Op.unary]) hk
  · rename_i b hx
    exact vdoes_bl _ (fun C V a w h w' => by
      have e1 := b_inv (b := b) (by rw [hx]; rfl) (h.ev x)
      simp [execOp, ho, e1, Op.unary]) hk
  · rename_i k n' hx; exact vdoes_plain _ (fun C V a w h w' => by simp [execOp, ho, h.evv hx, Op.unary, Op.intArith]) hk
  · exact hk.elim

def evConvI (k : Option IntKind) (str : Bool) (x : AV) (K : AV → Prop) : Prop :=
  match k, x with
  | some k, .v (.int _ n) => K (.v (.int k (k.wrap n)))
  | none, .v (.string s) => str = true ∧ K (.v (.string s))
  | _, _ => False
def evConv (src dst : Option TI) (x : AV) (K : AV → Prop) : Prop :=
  match src, dst with
  | some j, some i => (j.kind.isSome || j.str) = true ∧ evConvI i.kind i.str x K
  | _, _ => False

variable {T : Nat → Option TI}
theorem vdoes_conv (hT : TOk P T) (src dst : TypeId) (x : Operand) (ho : o.op = .convert src dst x) (hk : evConv (T src) (T dst) (st.ev x) K) : VDoes P o st K := by
  unfold evConv at hk
  split at hk
  · rename_i j i hj hi
    obtain ⟨hs, hk⟩ := hk
    have hsrc : ∃ d, P.underlying src = some d := by
      rw [Bool.or_eq_true] at hs
      rcases hs with hs | hs
      · obtain ⟨k, hk⟩ := Option.isSome_iff_exists.1 hs; exact ⟨_, (hT src j hj).kind k hk⟩
      · exact ⟨_, (hT src j hj).str hs⟩
    obtain ⟨d, hd⟩ := hsrc
    unfold evConvI at hk
    split at hk
    · rename_i k _ n hkind hx
      exact vdoes_plain _ (fun C V a w h w' => by
        have hu := (hT dst i hi).kind k hkind
        cases d <;> simp [execOp, ho, h.evv hx, convert, run_underlying hd, run_underlying hu, Conv.intToInt]) hk
    · rename_i s' _ hx
      obtain ⟨hstr, hk⟩ := hk
      exact vdoes_plain _ (fun C V a w h w' => by
        have hu := (hT dst i hi).str hstr
        cases d <;> simp [execOp, ho, h.evv hx, convert, run_underlying hd, run_underlying hu]) hk
    · exact hk.elim
  · exact hk.elim


end
end Go.Proofs.YtpmmaohaahbphaaDoor
