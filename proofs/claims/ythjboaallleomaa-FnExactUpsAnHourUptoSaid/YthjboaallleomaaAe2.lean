/-
  The abstract evaluator, part 2: operations that yield a value and leave the world alone.
-/
import Derived.Test.YthjboaallleomaaAe1
namespace Go.Proofs.Ythjboaallleomaa
open Go.RowKit

/-- What is told of a type. 'offs': of each field its place, its size, and whether it is a struct or an array itself. -/
structure TI where
  size : Nat
  bytes : Nat
  agg : Bool
  offs : List (Nat × Nat × Bool)
  elem : Nat
  zero : Value
  kind : Option IntKind
  str : Bool

structure TIok (P : Program) (t : Nat) (i : TI) : Prop where
  size : ∀ w, (sizeOf t).run P w = .ok i.size w
  agg : ∀ w, (isAgg t).run P w = .ok i.agg w
  zero : ∀ w, (zeroValue t).run P w = .ok i.zero w
  offs : ∀ (f o s : Nat) (g : Bool), i.offs[f]? = some (o, s, g) → ∃ (fs : Array Field) (fd : Field), P.underlying t = some (.struct fs) ∧ fs[f]? = some fd ∧ fd.offset = o ∧ (∀ w, (sizeOf fd.type).run P w = .ok s w) ∧ 0 < s ∧ (∀ w, (isAgg fd.type).run P w = .ok g w)
  elem : i.elem ≠ 0 → P.underlying t = some (.slice i.elem)
  kind : ∀ k, i.kind = some k → P.underlying t = some (.int k)
  str : i.str = true → P.underlying t = some .string
  bool : ∀ b, i.zero = .bool b → P.underlying t = some .bool
  places : i.offs.isEmpty = false → ∃ fs : Array Field, P.underlying t = some (.struct fs) ∧ fs.toList.mapM (fun f => (P.info? f.type).map fun j => (f.offset, j.size)) = some (i.offs.map fun x => (x.1, x.2.1))
  one : i.agg = false → i.size = 1
  info : ∃ ti, P.info? t = some ti ∧ ti.zero = some i.zero ∧ ti.size = i.size ∧ ti.bytes = i.bytes

/-- A condition that is left to whoever evaluates. -/
def Ob (p : Prop) : Prop := p
theorem Ob.out {p : Prop} (h : Ob p) : p := h
theorem Ob.mk {p : Prop} (h : p) : Ob p := h

def TOk (P : Program) (T : Nat → Option TI) : Prop := ∀ t i, T t = some i → TIok P t i

/-- Strings: P.underlying t = some .string is asked where it is wanted. -/
def AV.val? : AV → Option Value
  | .v x => some x
  | _ => none

/-- Operation o yields a value, whatever has been laid besides. -/
def VDoes (P : Program) (o : Oper) (st : St) (K : AV → Prop) : Prop :=
  ∀ C V a w, SRV C V st a w → ∃ c x, K c ∧ R w (Stb C.A w st.h V) V st.h.length c x ∧ ∀ w', Below w.heap.size w w' → (execOp a.eval o).run P w' = .ok (.value x) w'

/-- A constant; a constant struct cell by cell. -/
def AV.ofV : Value → AV
  | .agg cs => .agg (cs.toList.map .v)
  | x => .v x
def St.ev (st : St) : Operand → AV
  | .tmp t => st.s t
  | .const x => AV.ofV x
  | .func f => .fn f []
  | .global _ => .any

theorem SRV.ev {C : Ctx} {V st a w} (h : SRV C V st a w) (x : Operand) : R w (Stb C.A w st.h V) V st.h.length (st.ev x) (a.eval x) := by
  cases x with
  | tmp t => exact h.slots t
  | const x =>
    cases x with
    | agg cs => exact .imm _ _ (.agg _ cs (by simp) fun i c x h1 h2 => by
        simp only [List.getElem?_map, Array.getElem?_toList, h2, Option.map_some, Option.some.injEq] at h1
        subst h1; exact .v x)
    | _ => exact .imm _ _ (.v _)
  | func f => exact .imm _ _ (.fn f [] #[] rfl (by simp))
  | global g => exact .imm _ _ (.any _)

theorem R.v_inv {w S V N x y} (h : R w S V N (.v x) y) : y = x := by
  cases h with
  | imm _ _ h => cases h; rfl

theorem SRV.evv {C : Ctx} {V st a w} (h : SRV C V st a w) {x : Operand} {v : Value} (e : st.ev x = .v v) : a.eval x = v := R.v_inv (e ▸ h.ev x)

section
variable {P : Program} {o : Oper} {st : St} {K : AV → Prop}

theorem vdoes_same (x : Operand) (ho : o.op = .move x ∨ o.op = .assign x) (hk : K (st.ev x)) : VDoes P o st K := by
  intro C V a w h
  refine ⟨st.ev x, a.eval x, hk, h.ev x, fun w' _ => ?_⟩
  rcases ho with ho | ho <;> simp [execOp, ho]

theorem vdoes_pick (c x y : Operand) (b : Bool) (ho : o.op = .pick c x y) (hc : st.ev c = .v (.bool b)) (hk : K (if b then st.ev x else st.ev y)) : VDoes P o st K := by
  intro C V a w h
  have e := h.evv hc
  refine ⟨_, if b then a.eval x else a.eval y, hk, by cases b <;> exact h.ev _, fun w' _ => ?_⟩
  simp [execOp, ho, e, asBool]

/-- A step on plain values that is the same in every world. -/
theorem vdoes_plain (x : Value) (hrun : ∀ C V a w, SRV C V st a w → ∀ w', (execOp a.eval o).run P w' = .ok (.value x) w') (hk : K (.v x)) : VDoes P o st K :=
  fun C V a w h => ⟨.v x, x, hk, .imm _ _ (.v x), fun w' _ => hrun C V a w h w'⟩

def boolEq (a b : Bool) (K : Bool → Prop) : Prop :=
  match a, b with
  | true, true => K true
  | false, false => K true
  | true, false => K false
  | false, true => K false
theorem boolEq_out {a b : Bool} {K : Bool → Prop} (h : boolEq a b K) : K (a == b) := by
  cases a <;> cases b <;> exact h
def isBoolT (i : Option TI) (p : Prop) : Prop :=
  match i with
  | some ⟨_, _, _, _, _, .bool _, _, _⟩ => p
  | _ => False
/-- '== nil', of slices. -/
def nilEq (x : AV) (K : Bool → Prop) : Prop :=
  match x with
  | .tree _ len _ => (len = 0 → K true) ∧ K false
  | .own _ => K false
  | .v (.slice none 0 0) => K true
  | _ => False
def evBin (i : Option TI) (op : BinOp) (x y : AV) (K : AV → Prop) : Prop :=
  match op, x, y with
  | .add, .v (.int k a), .v (.int k' b) => k = k' ∧ K (.v (.int k (k.wrap (a + b))))
  | .sub, .v (.int k a), .v (.int k' b) => k = k' ∧ K (.v (.int k (k.wrap (a - b))))
  | .mul, .v (.int k a), .v (.int k' b) => k = k' ∧ K (.v (.int k (k.wrap (a * b))))
  | .quo, .v (.int k a), .v (.int k' b) => k = k' ∧ Ob (b ≠ 0) ∧ K (.v (.int k (k.wrap (a.tdiv b))))
  | .rem, .v (.int k a), .v (.int k' b) => k = k' ∧ Ob (b ≠ 0) ∧ K (.v (.int k (a.tmod b)))
  | .lss, .v (.int k a), .v (.int k' b) => k = k' ∧ (a < b → K (.v (.bool true))) ∧ (b ≤ a → K (.v (.bool false)))
  | .leq, .v (.int k a), .v (.int k' b) => k = k' ∧ (a ≤ b → K (.v (.bool true))) ∧ (b < a → K (.v (.bool false)))
  | .gtr, .v (.int k a), .v (.int k' b) => k = k' ∧ (b < a → K (.v (.bool true))) ∧ (a ≤ b → K (.v (.bool false)))
  | .geq, .v (.int k a), .v (.int k' b) => k = k' ∧ (b ≤ a → K (.v (.bool true))) ∧ (a < b → K (.v (.bool false)))
  | .eql, .v (.int k a), .v (.int k' b) => k = k' ∧ (a = b → K (.v (.bool true))) ∧ (a ≠ b → K (.v (.bool false)))
  | .neq, .v (.int k a), .v (.int k' b) => k = k' ∧ (a ≠ b → K (.v (.bool true))) ∧ (a = b → K (.v (.bool false)))
  | .eql, .v (.string a), .v (.string b) => (a = b → K (.v (.bool true))) ∧ (a ≠ b → K (.v (.bool false)))
  | .neq, .v (.string a), .v (.string b) => (a ≠ b → K (.v (.bool true))) ∧ (a = b → K (.v (.bool false)))
  | .lss, .v (.string a), .v (.string b) => (Op.bytesLess a.toList b.toList = true → K (.v (.bool true))) ∧ (Op.bytesLess a.toList b.toList = false → K (.v (.bool false)))
  | .add, .v (.string a), .v (.string b) => Ob (a.size + b.size ≤ 9223372036854775807) ∧ K (.v (.string (a ++ b)))
  | .eql, .v (.bool a), .v (.bool b) => isBoolT i (boolEq a b fun r => K (.v (.bool r)))
  | .neq, .v (.bool a), .v (.bool b) => isBoolT i (boolEq a b fun r => K (.v (.bool !r)))
  | op, .v p, .v q => ∃ r, Ob (∀ (P : Program) (t : TypeId) (x y : Operand) (w : World), (do eqGuard op t x y p q; binOp op t p q : Sem Value).run P w = .ok r w) ∧ K (.v r)
  | _, _, _ => False


theorem toList_ne {a b : ByteArray} (h : a ≠ b) : (a.toList == b.toList) = false := by
  rw [beq_eq_false_iff_ne, ByteArray.toList_eq, ByteArray.toList_eq]
  exact fun e => h (ByteArray.ext (Array.toList_inj.mp e))

/-- The guard ahead of '==' lets plain values by. -/
def AV.cmpOk : AV → Bool
  | .v (.int _ _) | .v (.string _) | .v (.bool _) => true
  | _ => false

theorem run_bin {op : BinOp} {t : TypeId} {x y : Operand} {a b r : Value} {w : World} (hg : (eqGuard op t x y a b).run P w = .ok () w) (h : (binOp op t a b).run P w = .ok r w) :
    (do eqGuard op t x y a b; binOp op t a b : Sem Value).run P w = .ok r w := by
  simp [hg, h]

theorem guard_int (op : BinOp) (t : TypeId) (x y : Operand) (k k' : IntKind) (a b : Int) (w : World) : (eqGuard op t x y (.int k a) (.int k' b)).run P w = .ok () w := by
  unfold eqGuard; cases op <;> simp
theorem guard_string (op : BinOp) (t : TypeId) (x y : Operand) (a b : ByteArray) (w : World) : (eqGuard op t x y (.string a) (.string b)).run P w = .ok () w := by
  unfold eqGuard; cases op <;> simp
theorem guard_bool (op : BinOp) (t : TypeId) (x y : Operand) (a b : Bool) (w : World) : (eqGuard op t x y (.bool a) (.bool b)).run P w = .ok () w := by
  unfold eqGuard; cases op <;> simp

theorem vdoes_bin' {op : BinOp} {t t' : TypeId} {x y : Operand} {p q : Value} (r : Value) (ho : o.op = .binOp op t x y t') (hx : st.ev x = .v p) (hy : st.ev y = .v q)
    (hrun : ∀ w, (do eqGuard op t x y p q; binOp op t p q : Sem Value).run P w = .ok r w) (hk : K (.v r)) : VDoes P o st K :=
  vdoes_plain r (fun C V a w h w' => by
    have e1 := h.evv hx
    have e2 := h.evv hy
    have := hrun w'
    simp only [execOp, ho, e1, e2]
    simp only [Sem.run_bind, this, Result.andThen_ok, Sem.run_pure]) hk

theorem isBoolT_out {T : Nat → Option TI} (hT : TOk P T) {t : Nat} {p : Prop} (h : isBoolT (T t) p) : P.underlying t = some .bool ∧ p := by
  unfold isBoolT at h
  split at h
  · rename_i e; exact ⟨(hT t _ e).bool _ rfl, h⟩
  · exact h.elim
theorem vdoes_bin {T : Nat → Option TI} (hT : TOk P T) (op : BinOp) (t t' : TypeId) (x y : Operand) (ho : o.op = .binOp op t x y t') (hk : evBin (T t) op (st.ev x) (st.ev y) K) : VDoes P o st K := by
  unfold evBin at hk
  split at hk
  all_goals first
    | exact hk.elim
    | skip
  case h_1 k a k' b hx hy => obtain ⟨rfl, hk⟩ := hk; exact vdoes_bin' _ ho hx hy (fun w => run_bin (guard_int ..) (by simp [binOp, Op.intArith])) hk
  case h_2 k a k' b hx hy => obtain ⟨rfl, hk⟩ := hk; exact vdoes_bin' _ ho hx hy (fun w => run_bin (guard_int ..) (by simp [binOp, Op.intArith])) hk
  case h_3 k a k' b hx hy => obtain ⟨rfl, hk⟩ := hk; exact vdoes_bin' _ ho hx hy (fun w => run_bin (guard_int ..) (by simp [binOp, Op.intArith])) hk
  case h_4 k a k' b hx hy => obtain ⟨rfl, hb, hk⟩ := hk; exact vdoes_bin' _ ho hx hy (fun w => run_bin (guard_int ..) (by simp [binOp, Op.intDiv, hb.out])) hk
  case h_5 k a k' b hx hy => obtain ⟨rfl, hb, hk⟩ := hk; exact vdoes_bin' _ ho hx hy (fun w => run_bin (guard_int ..) (by simp [binOp, Op.intDiv, hb.out])) hk
  case h_6 k a k' b hx hy =>
    obtain ⟨rfl, h1, h2⟩ := hk
    by_cases c : a < b
    · exact vdoes_bin' _ ho hx hy (fun w => run_bin (guard_int ..) (by simp [binOp, Op.intCmp, c])) (h1 c)
    · exact vdoes_bin' _ ho hx hy (fun w => run_bin (guard_int ..) (by simp [binOp, Op.intCmp, c])) (h2 (by omega))
  case h_7 k a k' b hx hy =>
    obtain ⟨rfl, h1, h2⟩ := hk
    by_cases c : a ≤ b
    · exact vdoes_bin' _ ho hx hy (fun w => run_bin (guard_int ..) (by simp [binOp, Op.intCmp, c])) (h1 c)
    · exact vdoes_bin' _ ho hx hy (fun w => run_bin (guard_int ..) (by simp [binOp, Op.intCmp, c])) (h2 (by omega))
  case h_8 k a k' b hx hy =>
    obtain ⟨rfl, h1, h2⟩ := hk
    by_cases c : b < a
    · exact vdoes_bin' _ ho hx hy (fun w => run_bin (guard_int ..) (by simp [binOp, Op.intCmp, c])) (h1 c)
    · exact vdoes_bin' _ ho hx hy (fun w => run_bin (guard_int ..) (by simp [binOp, Op.intCmp, c])) (h2 (by omega))
  case h_9 k a k' b hx hy =>
    obtain ⟨rfl, h1, h2⟩ := hk
    by_cases c : b ≤ a
    · exact vdoes_bin' _ ho hx hy (fun w => run_bin (guard_int ..) (by simp [binOp, Op.intCmp, c])) (h1 c)
    · exact vdoes_bin' _ ho hx hy (fun w => run_bin (guard_int ..) (by simp [binOp, Op.intCmp, c])) (h2 (by omega))
  case h_10 k a k' b hx hy =>
    obtain ⟨rfl, h1, h2⟩ := hk
    by_cases c : a = b
    · exact vdoes_bin' _ ho hx hy (fun w => run_bin (guard_int ..) (by simp [binOp, Op.intCmp, c])) (h1 c)
    · exact vdoes_bin' _ ho hx hy (fun w => run_bin (guard_int ..) (by simp [binOp, Op.intCmp, c])) (h2 c)
  case h_11 k a k' b hx hy =>
    obtain ⟨rfl, h1, h2⟩ := hk
    by_cases c : a = b
    · exact vdoes_bin' _ ho hx hy (fun w => run_bin (guard_int ..) (by simp [binOp, Op.intCmp, c])) (h2 c)
    · exact vdoes_bin' _ ho hx hy (fun w => run_bin (guard_int ..) (by simp [binOp, Op.intCmp, c])) (h1 c)
  case h_12 a b hx hy =>
    by_cases c : a = b
    · exact vdoes_bin' _ ho hx hy (fun w => run_bin (guard_string ..) (by simp [binOp, Op.stringOp, c])) (hk.1 c)
    · exact vdoes_bin' _ ho hx hy (fun w => run_bin (guard_string ..) (by simp only [binOp, Op.stringOp, toList_ne c, Sem.run_pure])) (hk.2 c)
  case h_13 a b hx hy =>
    by_cases c : a = b
    · exact vdoes_bin' _ ho hx hy (fun w => run_bin (guard_string ..) (by simp [binOp, Op.stringOp, c])) (hk.2 c)
    · exact vdoes_bin' _ ho hx hy (fun w => run_bin (guard_string ..) (by simp only [binOp, Op.stringOp, toList_ne c, Sem.run_pure, Bool.not_false])) (hk.1 c)
  case h_14 a b hx hy =>
    cases c : Op.bytesLess a.toList b.toList
    · exact vdoes_bin' _ ho hx hy (fun w => run_bin (guard_string ..) (by simp only [binOp, Op.stringOp, c, Sem.run_pure])) (hk.2 c)
    · exact vdoes_bin' _ ho hx hy (fun w => run_bin (guard_string ..) (by simp only [binOp, Op.stringOp, c, Sem.run_pure])) (hk.1 c)
  case h_15 a b hx hy =>
    obtain ⟨hs, hk⟩ := hk
    have hs := hs.out
    refine vdoes_bin' _ ho hx hy (fun w => run_bin (guard_string ..) ?_) hk
    have : ¬ (((a.size + b.size : Nat) : Int) > IntKind.i64.max) := by
      have : IntKind.i64.max = 9223372036854775807 := by decide
      omega
    simp only [binOp, Op.stringOp, if_neg this, Sem.run_pure]
  case h_16 a b hx hy =>
    obtain ⟨hu, hk⟩ := isBoolT_out hT hk
    have hk := boolEq_out hk
    exact vdoes_bin' _ ho hx hy (fun w => run_bin (guard_bool ..) (by simp only [binOp, Sem.run_bind, run_equal_bool w t a b hu, Result.andThen_ok, Sem.run_pure])) hk
  case h_17 a b hx hy =>
    obtain ⟨hu, hk⟩ := isBoolT_out hT hk
    have hk := boolEq_out hk
    exact vdoes_bin' _ ho hx hy (fun w => run_bin (guard_bool ..) (by simp only [binOp, Sem.run_bind, run_equal_bool w t a b hu, Result.andThen_ok, Sem.run_pure])) hk
  case h_18 p q _ _ _ _ _ _ _ _ _ _ _ _ _ _ _ _ _ hx hy =>
    obtain ⟨r, hr, hk⟩ := hk
    exact vdoes_bin' r ho hx hy (fun w => by have := hr.out P t x y w; exact this) hk


def evUn (op : UnOp) (x : AV) (K : AV → Prop) : Prop :=
  match op, x with
  | .not, .v (.bool b) => K (.v (.bool !b))
  | .neg, .v (.int k n) => K (.v (.int k (k.wrap (0 - n))))
  | _, _ => False
theorem vdoes_un (op : UnOp) (t : TypeId) (x : Operand) (ho : o.op = .unOp op t x) (hk : evUn op (st.ev x) K) : VDoes P o st K := by
  unfold evUn at hk
  split at hk
  · rename_i b hx; exact vdoes_plain _ (fun C V a w h w' => by simp [execOp, ho, h.evv hx, Op.unary]) hk
  · rename_i k n' hx; exact vdoes_plain _ (fun C V a w h w' => by simp [execOp, ho, h.evv hx, Op.unary, Op.intArith]) hk
  · exact hk.elim

def evConvI (k : Option IntKind) (str : Bool) (x : AV) (K : AV → Prop) : Prop :=
  match k, x with
  | some k, .v (.int _ n) => K (.v (.int k (k.wrap n)))
  | none, .v (.string s) => str = true ∧ K (.v (.string s))
  | _, _ => False
def evConv (src dst : Option TI) (x : AV) (K : AV → Prop) : Prop :=
  match src, dst with
  | some j, some i => (j.kind.isSome || j.str) = true ∧ evConvI i.kind i.str x K
  | _, _ => False

variable {T : Nat → Option TI}
theorem vdoes_conv (hT : TOk P T) (src dst : TypeId) (x : Operand) (ho : o.op = .convert src dst x) (hk : evConv (T src) (T dst) (st.ev x) K) : VDoes P o st K := by
  unfold evConv at hk
  split at hk
  · rename_i j i hj hi
    obtain ⟨hs, hk⟩ := hk
    have hsrc : ∃ d, P.underlying src = some d := by
      rw [Bool.or_eq_true] at hs
      rcases hs with hs | hs
      · obtain ⟨k, hk⟩ := Option.isSome_iff_exists.1 hs; exact ⟨_, (hT src j hj).kind k hk⟩
      · exact ⟨_, (hT src j hj).str hs⟩
    obtain ⟨d, hd⟩ := hsrc
    unfold evConvI at hk
    split at hk
    · rename_i k _ n hkind hx
      exact vdoes_plain _ (fun C V a w h w' => by
        have hu := (hT dst i hi).kind k hkind
        cases d <;> simp [execOp, ho, h.evv hx, convert, run_underlying hd, run_underlying hu, Conv.intToInt]) hk
    · rename_i s' _ hx
      obtain ⟨hstr, hk⟩ := hk
      exact vdoes_plain _ (fun C V a w h w' => by
        have hu := (hT dst i hi).str hstr
        cases d <;> simp [execOp, ho, h.evv hx, convert, run_underlying hd, run_underlying hu]) hk
    · exact hk.elim
  · exact hk.elim

theorem R.tree_inv {w S V N sz len rows y} (h : R w S V N (.tree sz len rows) y) : Rt w S (.tree sz len rows) y := by
  cases h with
  | imm _ _ h => exact h

/-- 'len'. -/
def evLenO (o : Option (Option LB)) (K : AV → Prop) : Prop :=
  match o with
  | some (some ⟨_, _, len, _, true⟩) => Ob (len ≤ bigLen) → K (.v (.int .i64 len))
  | _ => False
def evLenX (i : TI) (h : List (Option LB)) (x : AV) (K : AV → Prop) : Prop :=
  match x with
  | .v (.string s) => i.str = true ∧ K (.v (.int .i64 s.size))
  | .v (.slice none 0 0) => (i.elem != 0) = true ∧ K (.v (.int .i64 0))
  | .tree _ len _ => (i.elem != 0) = true ∧ (Ob (len ≤ bigLen) → K (.v (.int .i64 len)))
  | .own id => (i.elem != 0) = true ∧ evLenO (h[id]?) K
  | _ => False
def evLen (i : Option TI) (h : List (Option LB)) (x : AV) (K : AV → Prop) : Prop :=
  match i with
  | some i => evLenX i h x K
  | none => False

theorem R.own_inv {w S V N id y} (h : R w S V N (.own id) y) : y = (V id).val := by
  cases h with
  | imm _ _ h => cases h
  | own _ _ => rfl
theorem R.loc_inv {w S V N id row off y} (h : R w S V N (.loc id row off) y) : y = .pointer (some ⟨(V id).blk, row * (V id).sz + off, none⟩) := by
  cases h with
  | imm _ _ h => cases h
  | loc _ _ _ _ => rfl

theorem vdoes_len (hT : TOk P T) (x : Operand) (t : TypeId) (ho : o.op = .call { callee := .builtin .len, args := #[x], argTypes := #[t] }) (hk : evLen (T t) st.h (st.ev x) K) : VDoes P o st K := by
  unfold evLen at hk
  split at hk
  · rename_i i hi
    unfold evLenX at hk
    split at hk
    · rename_i s hx
      obtain ⟨hstr, hk⟩ := hk
      exact vdoes_plain _ (fun C V a w h w' => by
        simp [execOp, ho, h.evv hx, resolve, invoke, builtin, Builtin.len_, run_underlying ((hT t i hi).str hstr), goInt]) hk
    · rename_i hx
      obtain ⟨hel, hk⟩ := hk
      exact vdoes_plain _ (fun C V a w h w' => by
        simp [execOp, ho, h.evv hx, resolve, invoke, builtin, Builtin.len_, run_underlying ((hT t i hi).elem (by simpa using hel)), goInt]) hk
    · rename_i sz len rows hx
      obtain ⟨hel, hk⟩ := hk
      intro C V a w h
      have hr := (hx ▸ h.ev x).tree_inv
      generalize hv : a.eval x = v at hr
      cases hr with
      | tree _ _ _ ad cap b o' X hb hc hm ha hz hx2 hh =>
        refine ⟨_, _, hk hb, .imm _ _ (.v _), fun w' _ => ?_⟩
        simp [execOp, ho, hv, resolve, invoke, builtin, Builtin.len_, run_underlying ((hT t i hi).elem (by simpa using hel)), goInt]
    · rename_i id hx
      obtain ⟨hel, hk⟩ := hk
      unfold evLenO at hk
      split at hk
      · rename_i ty sz len rows hlb
        intro C V a w h
        have hr := (hx ▸ h.ev x).own_inv
        obtain ⟨cur, hc⟩ := h.hr.blk id _ hlb
        obtain ⟨cap, e, h1, h2, h3, h4⟩ := hc.own rfl
        refine ⟨_, _, hk h4, .imm _ _ (.v _), fun w' _ => ?_⟩
        simp [execOp, ho, hr, e, resolve, invoke, builtin, Builtin.len_, run_underlying ((hT t i hi).elem (by simpa using hel)), goInt]
      · exact hk.elim
    · exact hk.elim
  · exact hk.elim

theorem R.fn_inv {w S V N f cs y} (h : R w S V N (.fn f cs) y) : ∃ vs : Array Value, y = .func (.func f) #[] vs ∧ vs.size = cs.length ∧ ∀ (i : Nat) (c : AV) (x : Value), cs[i]? = some c → vs[i]? = some x → R w S V N c x := by
  cases h with
  | imm _ _ h =>
    cases h with
    | fn _ _ vs hl h => exact ⟨vs, rfl, hl, fun i c x h1 h2 => .imm _ _ (h i c x h1 h2)⟩
  | fn _ _ vs hl h => exact ⟨vs, rfl, hl, h⟩
theorem R.agg_inv {w S V N cs y} (h : R w S V N (.agg cs) y) : ∃ vs : Array Value, y = .agg vs ∧ vs.size = cs.length ∧ ∀ (i : Nat) (c : AV) (x : Value), cs[i]? = some c → vs[i]? = some x → R w S V N c x := by
  cases h with
  | imm _ _ h =>
    cases h with
    | agg _ vs hl h => exact ⟨vs, rfl, hl, fun i c x h1 h2 => .imm _ _ (h i c x h1 h2)⟩
  | agg _ vs hl h => exact ⟨vs, rfl, hl, h⟩
theorem R.tup_inv {w S V N cs y} (h : R w S V N (.tup cs) y) : ∃ vs : Array Value, y = .tuple vs ∧ vs.size = cs.length ∧ ∀ (i : Nat) (c : AV) (x : Value), cs[i]? = some c → vs[i]? = some x → R w S V N c x := by
  cases h with
  | imm _ _ h =>
    cases h with
    | tup _ vs hl h => exact ⟨vs, rfl, hl, fun i c x h1 h2 => .imm _ _ (h i c x h1 h2)⟩
  | tup _ vs hl h => exact ⟨vs, rfl, hl, h⟩

/-- A plain value, its parts in sight. -/
def AV.ofVal : Value → AV
  | .tuple vs => .tup (vs.toList.map AV.ofV)
  | x => AV.ofV x
theorem R_ofV (w : World) (S : Nat → Prop) (V : Nat → Info) (N : Nat) (x : Value) : R w S V N (AV.ofV x) x := by
  cases x with
  | agg cs => exact .imm _ _ (.agg _ cs (by simp) fun i c x h1 h2 => by
      simp only [List.getElem?_map, Array.getElem?_toList, h2, Option.map_some, Option.some.injEq] at h1
      subst h1; exact .v x)
  | _ => exact .imm _ _ (.v _)
theorem R_ofVal (w : World) (S : Nat → Prop) (V : Nat → Info) (N : Nat) (x : Value) : R w S V N (AV.ofVal x) x := by
  unfold AV.ofVal
  split
  · rename_i vs
    refine .tup _ vs (by simp) fun i c x h1 h2 => ?_
    simp only [List.getElem?_map, Array.getElem?_toList, h2, Option.map_some, Option.some.injEq] at h1
    subst h1; exact R_ofV ..
  · exact R_ofV ..
/-- One truth value at a time. -/
def splitX (x : Value) (K : AV → Prop) : Prop :=
  match x with
  | .bool b => (b = true → K (.v (.bool true))) ∧ (b = false → K (.v (.bool false)))
  | .agg cs => K (.agg (cs.toList.map .v))
  | .tuple vs => K (.tup (vs.toList.map AV.ofV))
  | x => K (.v x)
def splitA (c : AV) (K : AV → Prop) : Prop :=
  match c with
  | .v (.bool b) => (b = true → K (.v (.bool true))) ∧ (b = false → K (.v (.bool false)))
  | c => K c
theorem splitX_sound {x : Value} {K : AV → Prop} (h : splitX x K) : K (AV.ofVal x) := by
  unfold splitX at h
  split at h
  · rename_i b; cases b
    · exact h.2 rfl
    · exact h.1 rfl
  · exact h
  · exact h
  · rename_i h1 h2 h3
    cases x <;> first | exact h | exact (h2 _ rfl).elim | exact (h3 _ rfl).elim
theorem splitA_sound {c : AV} {K : AV → Prop} (h : splitA c K) : K c := by
  unfold splitA at h
  split at h
  · rename_i b; cases b
    · exact h.2 rfl
    · exact h.1 rfl
  · exact h
def evCell (c : Option AV) (K : AV → Prop) : Prop :=
  match c with
  | some c => splitA c K
  | none => False
theorem evCell_sound {c : Option AV} {K : AV → Prop} (h : evCell c K) : ∃ d, c = some d ∧ K d := by
  unfold evCell at h
  split at h
  · exact ⟨_, rfl, splitA_sound h⟩
  · exact h.elim

def evExtract (x : AV) (j : Nat) (K : AV → Prop) : Prop :=
  match x with
  | .tup cs => evCell (cs[j]?) K
  | _ => False
theorem vdoes_extract (x : Operand) (j : Nat) (ho : o.op = .extract x j) (hk : evExtract (st.ev x) j K) : VDoes P o st K := by
  unfold evExtract at hk
  split at hk
  · rename_i cs hx
    obtain ⟨c, hc, hk⟩ := evCell_sound hk
    intro C V a w h
    obtain ⟨vs, e, hl, hr⟩ := (hx ▸ h.ev x).tup_inv
    have hj : j < vs.size := by rw [hl]; exact (List.getElem?_eq_some_iff.1 hc).1
    refine ⟨c, vs[j], hk, hr j c _ hc (by simp [hj]), fun w' _ => ?_⟩
    simp [execOp, ho, e, Instr.extract, hj]
  · exact hk.elim

def offOf (i : Option TI) (f : Nat) : Option (Nat × Nat × Bool) :=
  match i with
  | some i => i.offs[f]?
  | none => none
/-- A field of a struct held as a value. -/
def evField (o : Option (Nat × Nat × Bool)) (x : AV) (K : AV → Prop) : Prop :=
  match o, x with
  | some (o, s, true), .agg cs => Nat.ble (o + s) cs.length = true ∧ K (.agg ((cs.drop o).take s))
  | some (o, _, false), .agg cs => evCell (cs[o]?) K
  | _, _ => False

theorem vdoes_field (hT : TOk P T) (t : TypeId) (x : Operand) (f : Nat) (ho : o.op = .field t x f) (hk : evField (offOf (T t) f) (st.ev x) K) : VDoes P o st K := by
  unfold evField at hk
  split at hk
  · rename_i off s cs hoff hx
    obtain ⟨hle, hk⟩ := hk
    have hle := Nat.le_of_ble_eq_true hle
    unfold offOf at hoff
    split at hoff
    · rename_i i hi
      intro C V a w h
      obtain ⟨vs, e, hl, hr⟩ := (hx ▸ h.ev x).agg_inv
      obtain ⟨fs, fd, hu, hfd, rfl, hsz, hpos, hag⟩ := (hT t i hi).offs f off s _ hoff
      refine ⟨_, .agg (vs.extract fd.offset (fd.offset + s)), hk, .agg _ _ (by simp [hl]; omega) (fun j c y h1 h2 => ?_), fun w' _ => ?_⟩
      · rw [List.getElem?_take] at h1
        split at h1
        · rw [List.getElem?_drop] at h1
          refine hr (fd.offset + j) c y h1 ?_
          rw [Array.getElem?_extract] at h2
          split at h2
          · exact h2
          · cases h2
        · cases h1
      · simp [execOp, ho, e, Instr.field, run_underlying hu, hfd, part, hag, asAgg, hsz]
    · cases hoff
  · rename_i off s cs hoff hx
    unfold offOf at hoff
    split at hoff
    · rename_i i hi
      obtain ⟨c, hc, hk2⟩ := evCell_sound hk
      intro C V a w h
      obtain ⟨vs, e, hl, hr⟩ := (hx ▸ h.ev x).agg_inv
      obtain ⟨fs, fd, hu, hfd, rfl, hsz, hpos, hag⟩ := (hT t i hi).offs f off s _ hoff
      have hj : fd.offset < vs.size := by rw [hl]; exact (List.getElem?_eq_some_iff.1 hc).1
      refine ⟨c, vs[fd.offset], hk2, hr _ c _ hc (by simp [hj]), fun w' _ => ?_⟩
      simp [execOp, ho, e, Instr.field, run_underlying hu, hfd, part, hag, asAgg, hj]
    · cases hoff
  · exact hk.elim

/-- The row of cells that a pointer leads into, and the place in it; whether there is such a row. -/
def cellsAt (h : List (Option LB)) (p : AV) : Option (List AV × Nat × Nat × Nat × Bool) :=
  match p with
  | .loc id row off => match h[id]? with
    | some (some ⟨_, _, len, rows, arr⟩) => some (rows row, off, row, len, arr)
    | _ => none
  | .tptr _ len rows row off => some (rows row, off, row, len, true)
  | _ => none
/-- The row is there: by sight where it is row 0 of one. -/
def inRow (arr : Bool) (row len : Nat) (p : Prop) : Prop :=
  match arr with
  | true => Ob (row < len) ∧ p
  | false => match row, len with
    | 0, 1 => p
    | row, len => Ob (row < len) ∧ p
theorem inRow_sound {arr : Bool} {row len : Nat} {p : Prop} (h : inRow arr row len p) : row < len ∧ p := by
  unfold inRow at h
  split at h
  · exact ⟨h.1.out, h.2⟩
  · split at h
    · exact ⟨Nat.zero_lt_one, h⟩
    · exact ⟨h.1.out, h.2⟩

theorem R.tptr_inv {w S V N sz len rows row off y} (h : R w S V N (.tptr sz len rows row off) y) : Rt w S (.tptr sz len rows row off) y := by
  cases h with
  | imm _ _ h => exact h

theorem SRV.cellsAt {C : Ctx} {V st a w} (h : SRV C V st a w) {p : AV} {x : Value} {r : List AV} {off row len : Nat} {arr' : Bool} (hp : R w (Stb C.A w st.h V) V st.h.length p x) (hc : cellsAt st.h p = some (r, off, row, len, arr')) (hrow : row < len) :
    ∃ (b o : Nat) (X : Nat → Value), x = .pointer (some ⟨b, o + off, none⟩) ∧ b < w.heap.size ∧ ∀ j c, r[j]? = some c → w.cell? ⟨b, o + j, none⟩ = some (X j) ∧ (X j).oneCell' = true ∧ R w (Stb C.A w st.h V) V st.h.length c (X j) := by
  unfold Go.Proofs.Ythjboaallleomaa.cellsAt at hc
  split at hc
  · rename_i id row' off'
    split at hc
    · rename_i ty sz len' rows arr hlb
      simp only [Option.some.injEq, Prod.mk.injEq] at hc
      obtain ⟨rfl, rfl, rfl, rfl, rfl⟩ := hc
      obtain ⟨cur, hcur⟩ := h.hr.blk id _ hlb
      refine ⟨(V id).blk, row' * (V id).sz, fun j => (cur[row' * sz + j]?).getD undef, hp.loc_inv, h.hr.lt hlb, fun j c hj => ?_⟩
      obtain ⟨y, h1, h2, h3⟩ := hcur.cell row' j c hrow hj
      have e : (cur[row' * sz + j]?).getD undef = y := by rw [h1]; rfl
      rw [cell_of_row _ _ _ _ _ _ hcur.heap, hcur.sz]
      simp only [e]
      exact ⟨h1, h2, h3⟩
    · cases hc
  · rename_i sz len' rows row' off'
    simp only [Option.some.injEq, Prod.mk.injEq] at hc
    obtain ⟨rfl, rfl, rfl, rfl, rfl⟩ := hc
    cases hp.tptr_inv with
    | tptr _ _ _ _ _ b o X ha hz hx hh =>
      refine ⟨b, o + row' * sz, X row', rfl, ha.2.1, fun j c hj => ?_⟩
      obtain ⟨e1, e2⟩ := hx row' j c hrow hj
      exact ⟨e1, e2, .imm _ _ (hh row' j c hrow hj)⟩
  · cases hc

def evLoadR (agg : Bool) (size : Nat) (r : List AV) (off : Nat) (K : AV → Prop) : Prop :=
  match agg with
  | true => Nat.ble (off + size) r.length = true ∧ K (.agg ((r.drop off).take size))
  | false => evCell (r[off]?) K
def evLoad (i : Option TI) (c : Option (List AV × Nat × Nat × Nat × Bool)) (K : AV → Prop) : Prop :=
  match i, c with
  | some i, some (r, off, row, len, arr) => inRow arr row len (evLoadR i.agg i.size r off K)
  | _, _ => False

theorem cell_below {w w' : World} (hb : Below w.heap.size w w') {a : Addr} {v : Value} (h : w.cell? a = some v) : w'.cell? a = some v := by
  rw [hb.cell (block_lt_of_cell h)]; exact h

theorem vdoes_load (hT : TOk P T) (t : TypeId) (x : Operand) (ho : o.op = .load t x) (hk : evLoad (T t) (cellsAt st.h (st.ev x)) K) : VDoes P o st K := by
  unfold evLoad at hk
  split at hk
  · rename_i i r off row len arr hi hc
    obtain ⟨hrow, hk⟩ := inRow_sound hk
    intro C V a w h
    obtain ⟨b, o', X, e, hb, hcell⟩ := h.cellsAt (h.ev x) hc hrow
    unfold evLoadR at hk
    split at hk
    · rename_i hg
      obtain ⟨hle, hk⟩ := hk
      have hle := Nat.le_of_ble_eq_true hle
      refine ⟨_, .agg ((List.range i.size).map fun j => X (off + j)).toArray, hk, .agg _ _ (by simp; omega) (fun j c y h1 h2 => ?_), fun w' hbw => ?_⟩
      · rw [List.getElem?_take] at h1
        split at h1
        · rw [List.getElem?_drop] at h1
          rename_i hj
          simp [hj] at h2
          subst h2
          exact (hcell _ c h1).2.2
        · cases h1
      · have hl := run_loadCells (P := P) w' ⟨b, o' + off, none⟩ i.size (fun j => X (off + j)) (fun j hj => by
          have hr : off + j < r.length := by omega
          have := (hcell (off + j) _ (List.getElem?_eq_getElem hr)).1
          rw [Addr.add_lit, Nat.add_assoc]
          exact cell_below hbw this)
        simp [execOp, ho, e, Instr.loadAt, Instr.sureAddr, loadVar, (hT t i hi).agg, hg, (hT t i hi).size, hl]
    · rename_i hg
      obtain ⟨c, hc, hk⟩ := evCell_sound hk
      obtain ⟨h1, h2, h3⟩ := hcell off c hc
      refine ⟨c, X off, hk, h3, fun w' hbw => ?_⟩
      have h4 := cell_below hbw h1
      simp [execOp, ho, e, Instr.loadAt, Instr.sureAddr, loadVar, (hT t i hi).agg, hg, h4]
  · exact hk.elim

def evFieldAddr (o : Option (Nat × Nat × Bool)) (x : AV) (K : AV → Prop) : Prop :=
  match o, x with
  | some (o, _, _), .loc id row off => K (.loc id row (off + o))
  | some (o, _, _), .tptr sz len rows row off => K (.tptr sz len rows row (off + o))
  | _, _ => False

theorem vdoes_fieldAddr (hT : TOk P T) (t : TypeId) (x : Operand) (f : Nat) (ho : o.op = .fieldAddr t x f) (hk : evFieldAddr (offOf (T t) f) (st.ev x) K) : VDoes P o st K := by
  unfold evFieldAddr at hk
  split at hk
  · rename_i off s g id row off' hoff hx
    unfold offOf at hoff
    split at hoff
    · rename_i i hi
      obtain ⟨fs, fd, hu, hfd, rfl, hsz, hpos, hag⟩ := (hT t i hi).offs f off s g hoff
      have hne : s ≠ 0 := by omega
      intro C V a w h
      have hr := h.ev x
      rw [hx] at hr
      have e := hr.loc_inv
      generalize hv : a.eval x = v at hr
      cases hr with
      | imm _ _ h => cases h
      | loc _ _ _ hid =>
        refine ⟨_, _, hk, .loc _ _ _ hid, fun w' _ => ?_⟩
        simp [execOp, ho, e, Instr.fieldAt, run_underlying hu, hfd, Instr.sureAddr, fieldPlace, hsz, hne, Addr.add_lit, Nat.add_assoc]
    · cases hoff
  · rename_i off s g sz len rows row off' hoff hx
    unfold offOf at hoff
    split at hoff
    · rename_i i hi
      obtain ⟨fs, fd, hu, hfd, rfl, hsz, hpos, hag⟩ := (hT t i hi).offs f off s g hoff
      have hne : s ≠ 0 := by omega
      intro C V a w h
      have hr' := (hx ▸ h.ev x).tptr_inv
      generalize hv : a.eval x = v at hr'
      cases hr' with
      | tptr _ _ _ _ _ b o' X ha hz hx2 hh =>
        refine ⟨_, _, hk, .imm _ _ (.tptr sz len rows row (off' + fd.offset) b o' X ha hz hx2 hh), fun w' _ => ?_⟩
        simp [execOp, ho, hv, Instr.fieldAt, run_underlying hu, hfd, Instr.sureAddr, fieldPlace, hsz, hne, Addr.add_lit, Nat.add_assoc]
    · cases hoff
  · exact hk.elim

/-- The type of a slice's elements. -/
def elemT (T : Nat → Option TI) (i : Option TI) : Option TI :=
  match i with
  | some i => match i.elem with
    | 0 => none
    | e + 1 => T (e + 1)
  | none => none
theorem elemT_sound {i : Option TI} {te : TI} (h : elemT T i = some te) : ∃ ti, i = some ti ∧ ti.elem ≠ 0 ∧ T ti.elem = some te := by
  unfold elemT at h
  split at h
  · rename_i i'
    split at h
    · cases h
    · rename_i e he; exact ⟨i', rfl, by omega, by rw [he]; exact h⟩
  · cases h
def evIdxO (e : Nat) (o : Option (Option LB)) (id : Nat) (q : Int) (K : AV → Prop) : Prop :=
  match o with
  | some (some ⟨_, sz, len, _, true⟩) => e = sz ∧ Ob (0 ≤ q ∧ q < len) ∧ K (.loc id q.toNat 0)
  | _ => False
def evIndexAddr (e : Option TI) (h : List (Option LB)) (x i : AV) (K : AV → Prop) : Prop :=
  match e, x, i with
  | some e, .tree sz len rows, .v (.int _ q) => e.size = sz ∧ Ob (0 ≤ q ∧ q < len) ∧ K (.tptr sz len rows q.toNat 0)
  | some e, .own id, .v (.int _ q) => evIdxO e.size (h[id]?) id q K
  | _, _, _ => False

theorem vdoes_indexAddr (hT : TOk P T) (t : TypeId) (x y : Operand) (ho : o.op = .indexAddr t x y) (hk : evIndexAddr (elemT T (T t)) st.h (st.ev x) (st.ev y) K) : VDoes P o st K := by
  unfold evIndexAddr at hk
  split at hk
  · rename_i te sz len rows k m hte hx hy
    obtain ⟨ti, hi, hel, hte⟩ := elemT_sound hte
    have hu := (hT t ti hi).elem hel
    have hs := (hT ti.elem te hte).size
    obtain ⟨hsz, hob, hk⟩ := hk
    obtain ⟨h0, hm⟩ := hob.out
    intro C V a w h
    have ey := h.evv hy
    have hr' := (hx ▸ h.ev x).tree_inv
    generalize hv : a.eval x = v at hr'
    cases hr' with
    | tree _ _ _ ad cap b o' X hb hc hmx ha hz hx2 hh =>
      have hne : 0 < len := by omega
      obtain ⟨rfl, hS⟩ := ha hne
      refine ⟨_, _, hk, .imm _ _ (.tptr sz len rows m.toNat 0 b o' X hS hz hx2 hh), fun w' _ => ?_⟩
      simp [execOp, ho, hv, ey, Instr.indexAt, asIntOf, run_underlying hu, h0, hm, hs, hsz, Addr.add_lit]
  · rename_i te id k m hte hx hy
    obtain ⟨ti, hi, hel, hte⟩ := elemT_sound hte
    have hu := (hT t ti hi).elem hel
    have hs := (hT ti.elem te hte).size
    unfold evIdxO at hk
    split at hk
    · rename_i ty sz len rows hlb
      obtain ⟨hsz, hob, hk⟩ := hk
      obtain ⟨h0, hm⟩ := hob.out
      intro C V a w h
      have ey := h.evv hy
      have e := (hx ▸ h.ev x).own_inv
      obtain ⟨cur, hcur⟩ := h.hr.blk id _ hlb
      obtain ⟨cap, e2, h1, h2, h3, h4⟩ := hcur.own rfl
      refine ⟨_, _, hk, .loc _ _ _ (List.getElem?_eq_some_iff.1 hlb).1, fun w' _ => ?_⟩
      have hsz' := hcur.sz
      simp only at hsz' e2
      simp [execOp, ho, e, e2, ey, Instr.indexAt, asIntOf, run_underlying hu, h0, hm, hs, hsz, hsz', Addr.add_lit]
    · exact hk.elim
  · exact hk.elim

/-- A byte of a string, by its place. -/
def bAt (s : ByteArray) (i : Int) : Int := ((s.data.toList.getD i.toNat 0).toNat : Int)
theorem bAt_range (s : ByteArray) (i : Int) : 0 ≤ bAt s i ∧ bAt s i ≤ 255 := by
  unfold bAt
  have := UInt8.toNat_lt (s.data.toList.getD i.toNat 0)
  omega
def evIndex (i : Option TI) (x j : AV) (K : AV → Prop) : Prop :=
  match i, x, j with
  | some i, .v (.string s), .v (.int _ q) => i.str = true ∧ Ob (0 ≤ q ∧ q < s.size) ∧ K (.v (.int .u8 (bAt s q)))
  | _, _, _ => False
theorem vdoes_index (hT : TOk P T) (t : TypeId) (x y : Operand) (ho : o.op = .index t x y) (hk : evIndex (T t) (st.ev x) (st.ev y) K) : VDoes P o st K := by
  unfold evIndex at hk
  split at hk
  · rename_i ti s k m hi hx hy
    obtain ⟨hstr, hob, hk⟩ := hk
    obtain ⟨h0, hm⟩ := hob.out
    refine vdoes_plain _ (fun C V a w h w' => ?_) hk
    have hu := (hT t ti hi).str hstr
    have hlt : m.toNat < s.size := by omega
    have e : s[m.toNat]? = some s[m.toNat] := by simp [hlt]
    have e2 : (s.data.toList.getD m.toNat 0) = s[m.toNat] := by
      have : m.toNat < s.data.toList.length := by simpa using hlt
      simp [List.getD, List.getElem?_eq_getElem this]; rfl
    have e3 : bAt s m = (s[m.toNat].toNat : Int) := by unfold bAt; rw [e2]
    simp [execOp, ho, h.evv hx, h.evv hy, Instr.index, asIntOf, run_underlying hu, h0, e, e3]
  · exact hk.elim

end
end Go.Proofs.Ythjboaallleomaa
