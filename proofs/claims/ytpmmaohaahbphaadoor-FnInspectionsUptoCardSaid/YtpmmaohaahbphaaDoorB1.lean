/-
  The abstract evaluator, part 1: types of data, abstract values, abstract heaps, and how they stand to the model's worlds. No statement of the seat is proved here; nothing is assumed.
-/
import Derived.WalkKit
import Derived.WalkSpells
import Derived.WalkLawsBesides
import Derived.Deep.Quiet
import Derived.Test.YtpmmaohaahbphaaDoorB0
namespace Go.Proofs.YtpmmaohaahbphaaDoor
open Go.RowKit

/-! ### Data -/
inductive Ty where
  | int (k : IntKind)
  | bool
  | str
  | st (fs : List Ty)
  | sl (e : Ty)
mutual
def Ty.den : Ty → Type
  | .int _ => Int
  | .bool => Bool
  | .str => ByteArray
  | .st fs => Ty.dens fs
  | .sl e => List (Ty.den e)
def Ty.dens : List Ty → Type
  | [] => Unit
  | t :: ts => Ty.den t × Ty.dens ts
end
mutual
def Ty.n : Ty → Nat
  | .st fs => Ty.ns fs
  | _ => 1
def Ty.ns : List Ty → Nat
  | [] => 0
  | t :: ts => Ty.n t + Ty.ns ts
end
mutual
def Ty.dflt : (t : Ty) → t.den
  | .int _ => (0 : Int)
  | .bool => false
  | .str => (⟨#[]⟩ : ByteArray)
  | .st fs => Ty.dflts fs
  | .sl _ => []
def Ty.dflts : (ts : List Ty) → Ty.dens ts
  | [] => ()
  | t :: ts => (Ty.dflt t, Ty.dflts ts)
end

/-- Abstract values. 'bl': a truth value that is not decided. 'tree': a slice at rest. 'view': a part of an own slice, to be read. 'bptr': into a variable at rest. 'rowv', 'rloc': a row of an own slice of slices, and into one. -/
inductive AV where
  | any
  | v (x : Value)
  | bl (b : Bool)
  | agg (cs : List AV)
  | tup (cs : List AV)
  | tree (t : Ty) (xs : List t.den)
  | tptr (t : Ty) (xs : List t.den) (row off : Nat)
  | bptr (cs : List AV) (off : Nat)
  | loc (id row off : Nat)
  | own (id : Nat)
  | view (id lo n : Nat)
  | rowv (id k : Nat)
  | rloc (id k row off : Nat)
  | fn (f : FuncId) (cap : List AV)

mutual
def Ty.enc : (t : Ty) → t.den → List AV
  | .int k, n => [.v (.int k n)]
  | .bool, b => [.bl b]
  | .str, s => [.v (.string s)]
  | .st fs, x => Ty.encs fs x
  | .sl e, xs => [.tree e xs]
def Ty.encs : (ts : List Ty) → Ty.dens ts → List AV
  | [], _ => []
  | t :: ts, x => Ty.enc t x.1 ++ Ty.encs ts x.2
end
mutual
theorem enc_length : ∀ (t : Ty) (x : t.den), (t.enc x).length = t.n
  | .int _, _ => rfl
  | .bool, _ => rfl
  | .str, _ => rfl
  | .st fs, x => encs_length fs x
  | .sl _, _ => rfl
theorem encs_length : ∀ (ts : List Ty) (x : Ty.dens ts), (Ty.encs ts x).length = Ty.ns ts
  | [], _ => rfl
  | t :: ts, x => by
    show (Ty.enc t x.1 ++ Ty.encs ts x.2).length = Ty.n t + Ty.ns ts
    rw [List.length_append, enc_length t, encs_length ts]
end
/-- The cells of a row. -/
def rowT (t : Ty) (xs : List t.den) (k : Nat) : List AV := t.enc (xs.getD k t.dflt)
theorem rowT_length (t : Ty) (xs : List t.den) (k : Nat) : (rowT t xs k).length = t.n := enc_length ..

/-- A block of the abstract heap: a variable with its cells; the array behind an own slice; an own set (a map of truth values, all true); an own slice of slices, whose rows are its own too. -/
inductive LB where
  | box (ty : TypeId) (cs : List AV)
  | arr (ty : TypeId) (t : Ty) (xs : List t.den)
  | mp (ty : TypeId) (t : Ty) (ks : List t.den)
  | nst (ty tyI : TypeId) (t : Ty) (xss : List (List t.den))
def LB.ty : LB → TypeId
  | .box ty _ => ty
  | .arr ty _ _ => ty
  | .mp ty _ _ => ty
  | .nst ty _ _ _ => ty
def LB.sz : LB → Nat
  | .box _ cs => cs.length
  | .arr _ t _ => t.n
  | .mp _ _ _ => 0
  | .nst _ _ _ _ => 1
def LB.len : LB → Nat
  | .box _ _ => 1
  | .arr _ _ xs => xs.length
  | .mp _ _ _ => 0
  | .nst _ _ _ xss => xss.length
def LB.rows : LB → Nat → List AV
  | .box _ cs, _ => cs
  | .arr _ t xs, k => rowT t xs k
  | .mp _ _ _, _ => []
  | .nst _ _ _ _, _ => [.any]
def LB.isArr : LB → Bool
  | .box _ _ => false
  | .arr _ _ _ => true
  | .mp _ _ _ => false
  | .nst _ _ _ _ => true
/-- A variable or a plain array. -/
def LB.plain : LB → Bool
  | .box _ _ => true
  | .arr _ _ _ => true
  | .mp _ _ _ => false
  | .nst _ _ _ _ => false
def LB.isMp : LB → Bool
  | .mp _ _ _ => true
  | _ => false
/-- How many blocks besides. -/
def LB.subn : LB → Nat
  | .nst _ _ _ xss => xss.length
  | _ => 0
theorem LB.subn_plain {lb : LB} (h : lb.plain = true) : lb.subn = 0 := by
  cases lb <;> first | rfl | cases h
theorem LB.isMp_plain {lb : LB} (h : lb.plain = true) : lb.isMp = false := by
  cases lb <;> first | rfl | cases h
/-- Bytes that were a text are told apart from others: a row of one byte. -/
def Ty.isMk : Ty → Bool
  | .st [.int .u8] => true
  | _ => false
def LB.mk : LB → Bool
  | .arr _ t _ => t.isMk
  | _ => false
def LB.kd (lb : LB) : Bool × Bool × Bool := (lb.isArr, lb.mk, lb.plain)
/-- The mark of a block: none, or (of bytes that were a text) behind its cells. -/
def FrOk (b : Bool) (n : Nat) (fr : Nat × Nat) : Prop := fr = (0, 0) ∨ (b = true ∧ n ≤ fr.1)
theorem FrOk.no {n : Nat} {fr : Nat × Nat} (h : FrOk false n fr) : fr = (0, 0) := h.resolve_right fun e => by cases e.1
theorem LB.rows_length (lb : LB) (k : Nat) : (lb.rows k).length = lb.sz := by
  cases lb with
  | box ty cs => rfl
  | arr ty t xs => exact rowT_length ..
  | mp ty t ks => rfl
  | nst ty tyI t xss => rfl

/-- Where a row of an own slice of slices lies. -/
structure RowI where
  blk : Nat
  sz : Nat
  len : Nat
  cap : Nat
def RowI.val (s : RowI) : Value := .slice (some ⟨s.blk, 0, none⟩) s.len s.cap
abbrev noSub : Nat → RowI := fun _ => ⟨0, 0, 0, 0⟩
/-- Where an abstract block lies, and (for an own slice) the slice's value. -/
structure Info where
  blk : Nat
  sz : Nat
  len : Nat
  val : Value
  subs : Nat → RowI

abbrev bigLen : Nat := 140737488355328

/-- The blocks that a name stands for. -/
def foot (I : Info) (lb : LB) (b : Nat) : Prop := I.blk = b ∨ ∃ k, k < lb.subn ∧ (I.subs k).blk = b
theorem foot_plain {I : Info} {lb : LB} {b : Nat} (hp : lb.subn = 0) (h : foot I lb b) : I.blk = b := by
  rcases h with h | ⟨k, h, _⟩
  · exact h
  · omega
theorem foot_sub {I : Info} {lb lb' : LB} {b : Nat} (hp : lb'.subn ≤ lb.subn) (h : foot I lb' b) : foot I lb b := by
  rcases h with h | ⟨k, h, e⟩
  · exact .inl h
  · exact .inr ⟨k, by omega, e⟩
/-- A part of a slice. -/
def partV (x : Value) (sz lo n : Nat) : Value :=
  match x with
  | .slice a _ cap => .slice (if cap = lo then a else a.map (·.add (lo * sz))) n (cap - lo)
  | x => x

/-- What lies in memory that nobody writes. -/
inductive Rt (w : World) (S : Nat → Prop) : AV → Value → Prop where
  | any (x) : Rt w S .any x
  | v (x) : Rt w S (.v x) x
  | bl (b) : Rt w S (.bl b) (.bool b)
  | agg (cs : List AV) (vs : Array Value) (hl : vs.size = cs.length) (h : ∀ (i : Nat) (c : AV) (x : Value), cs[i]? = some c → vs[i]? = some x → Rt w S c x) : Rt w S (.agg cs) (.agg vs)
  | tup (cs : List AV) (vs : Array Value) (hl : vs.size = cs.length) (h : ∀ (i : Nat) (c : AV) (x : Value), cs[i]? = some c → vs[i]? = some x → Rt w S c x) : Rt w S (.tup cs) (.tuple vs)
  | tree (t : Ty) (xs : List t.den) (a : Option Addr) (len cap : Nat) (b o : Nat) (X : Nat → Nat → Value) (hlen : len = xs.length) (hb : xs.length ≤ bigLen) (hc : xs.length ≤ cap) (hm : cap ≤ maxLen)
      (ha : 0 < xs.length → a = some ⟨b, o, none⟩ ∧ S b)
      (hx : ∀ (k j : Nat) (c : AV), k < xs.length → (rowT t xs k)[j]? = some c → w.cell? ⟨b, o + k * t.n + j, none⟩ = some (X k j) ∧ (X k j).oneCell' = true)
      (h : ∀ (k j : Nat) (c : AV), k < xs.length → (rowT t xs k)[j]? = some c → Rt w S c (X k j)) : Rt w S (.tree t xs) (.slice a len cap)
  | tptr (t : Ty) (xs : List t.den) (row off : Nat) (b o : Nat) (X : Nat → Nat → Value) (ha : S b) (hrow : row < xs.length)
      (hx : ∀ (k j : Nat) (c : AV), k < xs.length → (rowT t xs k)[j]? = some c → w.cell? ⟨b, o + k * t.n + j, none⟩ = some (X k j) ∧ (X k j).oneCell' = true)
      (h : ∀ (k j : Nat) (c : AV), k < xs.length → (rowT t xs k)[j]? = some c → Rt w S c (X k j)) : Rt w S (.tptr t xs row off) (.pointer (some ⟨b, o + row * t.n + off, none⟩))
  | bptr (cs : List AV) (off : Nat) (b o : Nat) (X : Nat → Value) (ha : S b)
      (hx : ∀ (j : Nat) (c : AV), cs[j]? = some c → w.cell? ⟨b, o + j, none⟩ = some (X j) ∧ (X j).oneCell' = true)
      (h : ∀ (j : Nat) (c : AV), cs[j]? = some c → Rt w S c (X j)) : Rt w S (.bptr cs off) (.pointer (some ⟨b, o + off, none⟩))
  | fn (f : FuncId) (cs : List AV) (vs : Array Value) (hl : vs.size = cs.length) (h : ∀ (i : Nat) (c : AV) (x : Value), cs[i]? = some c → vs[i]? = some x → Rt w S c x) : Rt w S (.fn f cs) (.func (.func f) #[] vs)

/-- The whole relation: memory of the call's own besides. N: how many names of blocks there are. -/
inductive R (w : World) (S : Nat → Prop) (V : Nat → Info) (N : Nat) : AV → Value → Prop where
  | imm (c x) (h : Rt w S c x) : R w S V N c x
  | agg (cs : List AV) (vs : Array Value) (hl : vs.size = cs.length) (h : ∀ (i : Nat) (c : AV) (x : Value), cs[i]? = some c → vs[i]? = some x → R w S V N c x) : R w S V N (.agg cs) (.agg vs)
  | tup (cs : List AV) (vs : Array Value) (hl : vs.size = cs.length) (h : ∀ (i : Nat) (c : AV) (x : Value), cs[i]? = some c → vs[i]? = some x → R w S V N c x) : R w S V N (.tup cs) (.tuple vs)
  | loc (id row off : Nat) (hid : id < N) (hrow : row < (V id).len) : R w S V N (.loc id row off) (.pointer (some ⟨(V id).blk, row * (V id).sz + off, none⟩))
  | own (id : Nat) (hid : id < N) : R w S V N (.own id) (V id).val
  | view (id lo n : Nat) (hid : id < N) (hrow : lo + n ≤ (V id).len) : R w S V N (.view id lo n) (partV (V id).val (V id).sz lo n)
  | rowv (id k : Nat) (hid : id < N) (hk : k < (V id).len) : R w S V N (.rowv id k) ((V id).subs k).val
  | rloc (id k row off : Nat) (hid : id < N) (hk : k < (V id).len) (hrow : row < ((V id).subs k).len) : R w S V N (.rloc id k row off) (.pointer (some ⟨((V id).subs k).blk, row * ((V id).subs k).sz + off, none⟩))
  | fn (f : FuncId) (cs : List AV) (vs : Array Value) (hl : vs.size = cs.length) (h : ∀ (i : Nat) (c : AV) (x : Value), cs[i]? = some c → vs[i]? = some x → R w S V N c x) : R w S V N (.fn f cs) (.func (.func f) #[] vs)

theorem Rt.mono {w w' : World} {S S' : Nat → Prop} {c : AV} {x : Value} (h : Rt w S c x) (hS : ∀ b, S b → S' b ∧ w'.heap[b]? = w.heap[b]?) : Rt w' S' c x := by
  induction h with
  | any x => exact .any x
  | v x => exact .v x
  | bl x => exact .bl x
  | agg cs vs hl _ ih => exact .agg cs vs hl ih
  | tup cs vs hl _ ih => exact .tup cs vs hl ih
  | fn f cs vs hl _ ih => exact .fn f cs vs hl ih
  | tree t xs a len cap b o X hlen hb hc hm ha hx _ ih =>
    refine .tree t xs a len cap b o X hlen hb hc hm (fun hne => ⟨(ha hne).1, (hS b (ha hne).2).1⟩) (fun k j c h1 h2 => ?_) ih
    obtain ⟨e1, e2⟩ := hx k j c h1 h2
    exact ⟨(World.cell?_of_block (a := ⟨b, _, none⟩) (hS b (ha (Nat.lt_of_le_of_lt (Nat.zero_le _) h1)).2).2).trans e1, e2⟩
  | tptr t xs row off b o X ha hrow hx _ ih =>
    refine .tptr t xs row off b o X (hS b ha).1 hrow (fun k j c h1 h2 => ?_) ih
    obtain ⟨e1, e2⟩ := hx k j c h1 h2
    exact ⟨(World.cell?_of_block (a := ⟨b, _, none⟩) (hS b ha).2).trans e1, e2⟩
  | bptr cs off b o X ha hx _ ih =>
    refine .bptr cs off b o X (hS b ha).1 (fun j c h2 => ?_) ih
    obtain ⟨e1, e2⟩ := hx j c h2
    exact ⟨(World.cell?_of_block (a := ⟨b, _, none⟩) (hS b ha).2).trans e1, e2⟩

theorem R.mono {w w' : World} {S S' : Nat → Prop} {V V' : Nat → Info} {N N' : Nat} {c : AV} {x : Value} (h : R w S V N c x)
    (hS : ∀ b, S b → S' b ∧ w'.heap[b]? = w.heap[b]?) (hV : ∀ i, i < N → V' i = V i) (hN : N ≤ N') : R w' S' V' N' c x := by
  induction h with
  | imm c x h => exact .imm _ _ (h.mono hS)
  | agg cs vs hl _ ih => exact .agg cs vs hl ih
  | tup cs vs hl _ ih => exact .tup cs vs hl ih
  | loc id row off hid hrow => rw [← hV id hid]; exact .loc id row off (by omega) (by rw [hV id hid]; exact hrow)
  | own id hid => rw [← hV id hid]; exact .own id (by omega)
  | view id lo n hid hrow => rw [← hV id hid]; exact .view id lo n (by omega) (by rw [hV id hid]; exact hrow)
  | rowv id k hid hk => rw [← hV id hid]; exact .rowv id k (by omega) (by rw [hV id hid]; exact hk)
  | rloc id k row off hid hk hrow => rw [← hV id hid]; exact .rloc id k row off (by omega) (by rw [hV id hid]; exact hk) (by rw [hV id hid]; exact hrow)
  | fn f cs vs hl _ ih => exact .fn f cs vs hl ih

/-! ### The state -/
def upd (s : Nat → AV) (d : Nat) (c : AV) : Nat → AV := fun j => match Nat.beq j d with
  | true => c
  | false => s j
theorem upd_same (s : Nat → AV) (d : Nat) (c : AV) : upd s d c d = c := by simp [upd]
theorem upd_other (s : Nat → AV) {d j : Nat} (c : AV) (h : j ≠ d) : upd s d c j = s j := by
  have : Nat.beq j d = false := by
    cases e : Nat.beq j d with
    | true => exact absurd (Nat.eq_of_beq_eq_true e) h
    | false => rfl
  simp [upd, this]
structure St where
  s : Nat → AV
  h : List (Option LB)
def St.put (st : St) (d : Nat) (c : AV) : St := ⟨upd st.s d c, st.h⟩

/-- Of what was there when the call began only the blocks of M may have turned. -/
structure Kept (M : Nat → Prop) (w w' : World) : Prop where
  os : w'.os = w.os
  tape : w'.tape = w.tape
  output : w'.output = w.output
  size : w.heap.size ≤ w'.heap.size
  block : ∀ k, k < w.heap.size → ¬ M k → w'.heap[k]? = w.heap[k]?
theorem Kept.refl (M : Nat → Prop) (w : World) : Kept M w w := ⟨rfl, rfl, rfl, Nat.le_refl _, fun _ _ _ => rfl⟩
theorem Kept.below {M : Nat → Prop} {w w1 w2 : World} (h : Kept M w w1) (k : Below w1.heap.size w1 w2) : Kept M w w2 :=
  ⟨k.os.trans h.os, k.tape.trans h.tape, k.output.trans h.output, Nat.le_trans h.size k.size, fun i hi hm => (k.block i (Nat.lt_of_lt_of_le hi h.size)).trans (h.block i hi hm)⟩
theorem Kept.toBelow {w w' : World} (h : Kept (fun _ => False) w w') : Below w.heap.size w w' := ⟨h.os, h.tape, h.output, h.size, fun k hk => h.block k hk (fun e => e)⟩

/-- Blocks that nobody writes from here on. -/
def Stb (A : Nat → Prop) (w : World) (h : List (Option LB)) (V : Nat → Info) (b : Nat) : Prop := A b ∧ b < w.heap.size ∧ ∀ id lb, h[id]? = some (some lb) → ¬ foot (V id) lb b
theorem Stb.ne {A : Nat → Prop} {w : World} {h : List (Option LB)} {V : Nat → Info} {b : Nat} (hb : Stb A w h V b) {id : Nat} {lb : LB} (e : h[id]? = some (some lb)) : (V id).blk ≠ b := fun g => hb.2.2 id lb e (.inl g)

/-- A value of plain cells, as a key. -/
def keyV1 : (t : Ty) → t.den → Option Value
  | .int k, n => some (.int k n)
  | .bool, b => some (.bool b)
  | .str, s => some (.string s)
  | _, _ => none
def keyVs : (ts : List Ty) → Ty.dens ts → Option (List Value)
  | [], _ => some []
  | t :: ts, x => match keyV1 t x.1, keyVs ts x.2 with
    | some v, some vs => some (v :: vs)
    | _, _ => none
def keyV : (t : Ty) → t.den → Option Value
  | .st fs, x => (keyVs fs x).map fun vs => .agg vs.toArray
  | _, _ => none
/-- A set. -/
def MpOk (w : World) (I : Info) (t : Ty) (ks : List t.den) : Prop :=
  I.val = .map (some I.blk) ∧ ∃ (es : Array MapEntry) (clock : Nat), w.heap[I.blk]? = some (.map es clock) ∧ es.toList.length = ks.length ∧
    ∀ (j : Nat) (k : t.den) (e : MapEntry), ks[j]? = some k → es.toList[j]? = some e → keyV t k = some e.key ∧ e.val = .bool true
/-- The rows of an own slice of slices. -/
structure NstOk (w : World) (S : Nat → Prop) (I : Info) (tyI : TypeId) (t : Ty) (xss : List (List t.den)) (cur : Array Value) : Prop where
  frh : ∃ ty, w.heap[I.blk]? = some (.cells cur ty (0, 0))
  apart : ∀ k, k < xss.length → (I.subs k).blk ≠ I.blk ∧ ∀ k', k' < xss.length → k ≠ k' → (I.subs k).blk ≠ (I.subs k').blk
  at_ : ∀ k, k < xss.length → cur[k]? = some (I.subs k).val
  ok : ∀ k, k < xss.length → (I.subs k).sz = t.n ∧ (I.subs k).len = (xss.getD k []).length ∧ (I.subs k).len ≤ (I.subs k).cap ∧ (I.subs k).cap ≤ maxLen ∧ (I.subs k).len ≤ bigLen
  row : ∀ k, k < xss.length → ∃ ck, w.heap[(I.subs k).blk]? = some (.cells ck tyI (0, 0)) ∧ ck.size = (I.subs k).cap * t.n ∧
    ∀ (i j : Nat) (c : AV), i < (xss.getD k []).length → (rowT t (xss.getD k []) i)[j]? = some c → ∃ x, ck[i * t.n + j]? = some x ∧ x.oneCell' = true ∧ Rt w S c x
/-- What is asked of a block that is no plain one. -/
def Ex (w : World) (S : Nat → Prop) (I : Info) (lb : LB) (cur : Array Value) : Prop :=
  match lb with
  | .mp _ t ks => MpOk w I t ks
  | .nst _ tyI t xss => NstOk w S I tyI t xss cur
  | _ => True
theorem Ex.plain {w : World} {S : Nat → Prop} {I : Info} {lb : LB} {cur : Array Value} (h : lb.plain = true) : Ex w S I lb cur := by
  cases lb <;> first | trivial | cases h

structure BlkR (w : World) (S : Nat → Prop) (V : Nat → Info) (N : Nat) (I : Info) (lb : LB) (cur : Array Value) : Prop where
  sz : I.sz = lb.sz
  ln : I.len = lb.len
  heap : lb.isMp = false → ∃ fr, w.heap[I.blk]? = some (.cells cur lb.ty fr) ∧ FrOk lb.mk cur.size fr
  cell : ∀ (k j : Nat) (c : AV), k < lb.len → (lb.rows k)[j]? = some c → ∃ x, cur[k * lb.sz + j]? = some x ∧ x.oneCell' = true ∧ R w S V N c x
  still : lb.isArr = true → ∀ (k j : Nat) (c : AV) (x : Value), k < lb.len → (lb.rows k)[j]? = some c → cur[k * lb.sz + j]? = some x → Rt w S c x
  box : lb.isArr = false → cur.size = lb.len * lb.sz
  own : lb.isArr = true → ∃ cap, I.val = .slice (some ⟨I.blk, 0, none⟩) lb.len cap ∧ lb.len ≤ cap ∧ cap ≤ maxLen ∧ cur.size = cap * lb.sz ∧ lb.len ≤ bigLen
  ex : Ex w S I lb cur

theorem BlkR.mono {w w' : World} {S S' : Nat → Prop} {V V' : Nat → Info} {N N' : Nat} {I : Info} {lb : LB} {cur : Array Value} (h : BlkR w S V N I lb cur)
    (hS : ∀ b, S b → S' b ∧ w'.heap[b]? = w.heap[b]?) (hV : ∀ i, i < N → V' i = V i) (hN : N ≤ N') (hb : ∀ b, foot I lb b → w'.heap[b]? = w.heap[b]?) : BlkR w' S' V' N' I lb cur :=
  ⟨h.sz, h.ln, fun hm => let ⟨fr, g1, g2⟩ := h.heap hm; ⟨fr, (hb _ (.inl rfl)).trans g1, g2⟩, fun k j c h1 h2 => let ⟨x, e1, e2, e3⟩ := h.cell k j c h1 h2; ⟨x, e1, e2, e3.mono hS hV hN⟩, fun ha k j c x h1 h2 h3 => (h.still ha k j c x h1 h2 h3).mono hS, h.box, h.own, by
    have hex := h.ex
    cases lb with
    | box ty cs => trivial
    | arr ty t xs => trivial
    | mp ty t ks =>
      obtain ⟨e1, es, clock, e2, e3⟩ := hex
      exact ⟨e1, es, clock, (hb _ (.inl rfl)).trans e2, e3⟩
    | nst ty tyI t xss =>
      have hex : NstOk w S I tyI t xss cur := hex
      refine ⟨hex.frh.imp fun ty e => (hb _ (.inl rfl)).trans e, hex.apart, hex.at_, hex.ok, fun k hk => ?_⟩
      obtain ⟨ck, e1, e2, e3⟩ := hex.row k hk
      refine ⟨ck, (hb _ (.inr ⟨k, hk, rfl⟩)).trans e1, e2, fun i j c g1 g2 => ?_⟩
      obtain ⟨x, f1, f2, f3⟩ := e3 i j c g1 g2
      exact ⟨x, f1, f2, f3.mono hS⟩⟩
theorem BlkR.lt {w : World} {S : Nat → Prop} {V : Nat → Info} {N : Nat} {I : Info} {lb : LB} {cur : Array Value} (h : BlkR w S V N I lb cur) {b : Nat} (hf : foot I lb b) : b < w.heap.size := by
  have key : ∀ {b o}, w.heap[b]? = some o → b < w.heap.size := fun e => (Array.getElem?_eq_some_iff.1 e).1
  cases hm : lb.isMp with
  | true =>
    cases lb with
    | mp ty t ks =>
      obtain ⟨_, es, clock, e2, _⟩ := h.ex
      rw [← foot_plain rfl hf]; exact key e2
    | _ => cases hm
  | false =>
    obtain ⟨fr, e, _⟩ := h.heap hm
    rcases hf with rfl | ⟨k, hk, rfl⟩
    · exact key e
    · cases lb with
      | nst ty tyI t xss =>
        have hex : NstOk w S I tyI t xss cur := h.ex
        obtain ⟨ck, e1, _⟩ := hex.row k hk
        exact key e1
      | _ => exact absurd hk (Nat.not_lt_zero _)

structure HR (w0 : World) (M A : Nat → Prop) (V : Nat → Info) (h : List (Option LB)) (w : World) : Prop where
  inj : ∀ i j li lj, h[i]? = some (some li) → h[j]? = some (some lj) → i ≠ j → ∀ b, foot (V i) li b → ¬ foot (V j) lj b
  blk : ∀ id lb, h[id]? = some (some lb) → ∃ cur, BlkR w (Stb A w h V) V h.length (V id) lb cur
  mine : ∀ id lb, h[id]? = some (some lb) → ∀ b, foot (V id) lb b → b < w0.heap.size → M b
theorem HR.ne {w0 : World} {M A V h w} (hr : HR w0 M A V h w) {i j : Nat} {li lj : LB} (h1 : h[i]? = some (some li)) (h2 : h[j]? = some (some lj)) (hij : i ≠ j) : (V i).blk ≠ (V j).blk := fun e => hr.inj i j li lj h1 h2 hij _ (.inl e) (.inl rfl)

/-- What a call begins with: how many slots; the world; the blocks that it may write; what the first names mean; what is laid for good (GB). -/
structure Ctx where
  n : Nat
  w0 : World
  M : Nat → Prop
  V0 : Nat → Info
  N0 : Nat
  A : Nat → Prop
  hA : ∀ b, w0.heap.size ≤ b → A b
  GB : Nat → Prop
  hGB : ∀ b, GB b → b < w0.heap.size ∧ ¬ M b
  hAG : ∀ b, GB b → A b
  hAM : ∀ b, M b → A b
  laid : Lw GB w0

structure SRV (C : Ctx) (V : Nat → Info) (st : St) (a : Act) (w : World) : Prop where
  size : a.tmps.size = C.n
  defers : a.defers = []
  kept : Kept C.M C.w0 w
  long : C.N0 ≤ st.h.length
  agree : ∀ i, i < C.N0 → V i = C.V0 i
  hr : HR C.w0 C.M C.A V st.h w
  slots : ∀ t, R w (Stb C.A w st.h V) V st.h.length (st.s t) (a.tmps.getD t undef)

def SR (C : Ctx) (st : St) (a : Act) (w : World) : Prop := ∃ V, SRV C V st a w

theorem SRV.put {C : Ctx} {V st a w} (h : SRV C V st a w) {d : Nat} {c : AV} {x : Value} (hr : R w (Stb C.A w st.h V) V st.h.length c x) : SRV C V (st.put d c) (a.put (some d) x) w ∨ C.n ≤ d := by
  by_cases hd : d < C.n
  · refine .inl ⟨by simp [Act.put, h.size], h.defers, h.kept, h.long, h.agree, h.hr, fun t => ?_⟩
    by_cases ht : t = d
    · subst ht
      simp only [St.put, upd_same, Act.put]
      have : (a.tmps.setIfInBounds t x).getD t undef = x := by
        simp [Array.getD_eq_getD_getElem?, h.size, hd]
      rw [this]; exact hr
    · simp only [St.put, upd_other _ _ ht, Act.put]
      have : (a.tmps.setIfInBounds d x).getD t undef = a.tmps.getD t undef := by
        simp [Array.getD_eq_getD_getElem?, Ne.symm ht]
      rw [this]; exact h.slots t
  · exact .inr (by omega)

/-- A slot is told anew: the value in it stands to the new word too. -/
theorem SRV.retell {C : Ctx} {V st a w} (h : SRV C V st a w) {d : Nat} {c : AV} (hr : R w (Stb C.A w st.h V) V st.h.length c (a.tmps.getD d undef)) : SRV C V (st.put d c) a w := by
  refine ⟨h.size, h.defers, h.kept, h.long, h.agree, h.hr, fun t => ?_⟩
  by_cases ht : t = d
  · subst ht; simp only [St.put, upd_same]; exact hr
  · simp only [St.put, upd_other _ _ ht]; exact h.slots t

/-- From one abstract heap to another: what both names mean stays, what was at rest stays at rest. -/
theorem SRV.step {C : Ctx} {V st a w} (h : SRV C V st a w) {w' : World} {V' : Nat → Info} {h' : List (Option LB)}
    (hk : Kept C.M C.w0 w') (hr : HR C.w0 C.M C.A V' h' w') (hS : ∀ b, Stb C.A w st.h V b → Stb C.A w' h' V' b ∧ w'.heap[b]? = w.heap[b]?) (hV : ∀ i, i < st.h.length → V' i = V i) (hN : st.h.length ≤ h'.length) :
    SRV C V' ⟨st.s, h'⟩ a w' :=
  ⟨h.size, h.defers, hk, Nat.le_trans h.long hN, fun i hi => (hV i (Nat.lt_of_lt_of_le hi h.long)).trans (h.agree i hi), hr, fun t => (h.slots t).mono hS hV hN⟩

theorem HR.ltf {w0 : World} {M A V h w} (hr : HR w0 M A V h w) {id : Nat} {lb : LB} (hl : h[id]? = some (some lb)) {b : Nat} (hf : foot (V id) lb b) : b < w.heap.size := by
  obtain ⟨cur, hc⟩ := hr.blk id lb hl
  exact hc.lt hf
theorem HR.lt {w0 : World} {M A V h w} (hr : HR w0 M A V h w) {id : Nat} {lb : LB} (hl : h[id]? = some (some lb)) : (V id).blk < w.heap.size := hr.ltf hl (.inl rfl)

/-- What is laid lies in no block of the call's own. -/
theorem SRV.notGB {C : Ctx} {V st a w} (h : SRV C V st a w) {id : Nat} {lb : LB} (hl : st.h[id]? = some (some lb)) {b : Nat} (hf : foot (V id) lb b) : ¬ C.GB b := fun hg =>
  (C.hGB _ hg).2 (h.hr.mine id lb hl b hf (C.hGB _ hg).1)
theorem SRV.laid {C : Ctx} {V st a w} (h : SRV C V st a w) : Lw C.GB w :=
  Lw_mono C.laid (fun b hb => (C.hGB b hb).1) (fun b hb => h.kept.block b (C.hGB b hb).1 (C.hGB b hb).2) h.kept.size h.kept.os h.kept.tape
theorem SRV.stbGB {C : Ctx} {V st a w} (h : SRV C V st a w) {b : Nat} (hb : C.GB b) : Stb C.A w st.h V b :=
  ⟨C.hAG b hb, Nat.lt_of_lt_of_le (C.hGB b hb).1 h.kept.size, fun _ _ hl e => h.notGB hl e hb⟩

theorem SRV.inAf {C : Ctx} {V st a w} (h : SRV C V st a w) {id : Nat} {lb : LB} (hl : st.h[id]? = some (some lb)) {b : Nat} (hf : foot (V id) lb b) : C.A b := by
  rcases Nat.lt_or_ge b C.w0.heap.size with hlt | hge
  · exact C.hAM _ (h.hr.mine id lb hl b hf hlt)
  · exact C.hA _ hge
theorem SRV.inA {C : Ctx} {V st a w} (h : SRV C V st a w) {id : Nat} {lb : LB} (hl : st.h[id]? = some (some lb)) : C.A (V id).blk := h.inAf hl (.inl rfl)

/-- Only new blocks. -/
theorem SRV.below {C : Ctx} {V st a w} (h : SRV C V st a w) {w' : World} (hb : Below w.heap.size w w') : SRV C V st a w' := by
  have hS : ∀ b, Stb C.A w st.h V b → Stb C.A w' st.h V b ∧ w'.heap[b]? = w.heap[b]? := fun b hs => ⟨⟨hs.1, Nat.lt_of_lt_of_le hs.2.1 hb.size, hs.2.2⟩, hb.block b hs.2.1⟩
  refine h.step (h.kept.below hb) ⟨h.hr.inj, fun id lb hl => ?_, h.hr.mine⟩ hS (fun _ _ => rfl) (Nat.le_refl _)
  obtain ⟨cur, hc⟩ := h.hr.blk id lb hl
  exact ⟨cur, hc.mono hS (fun _ _ => rfl) (Nat.le_refl _) (fun b hf => hb.block _ (h.hr.ltf hl hf))⟩

def updV (V : Nat → Info) (i : Nat) (I : Info) : Nat → Info := fun j => if j = i then I else V j

theorem getElem?_snoc_some {h : List (Option LB)} {b : Option LB} {id : Nat} {lb : LB} (e : (h ++ [b])[id]? = some (some lb)) : (id < h.length ∧ h[id]? = some (some lb)) ∨ (id = h.length ∧ b = some lb) := by
  rcases Nat.lt_trichotomy id h.length with hl | hl | hl
  · rw [List.getElem?_append_left hl] at e; exact .inl ⟨hl, e⟩
  · subst hl; simp at e; exact .inr ⟨rfl, e⟩
  · rw [List.getElem?_append_right (by omega)] at e
    rw [List.getElem?_eq_none (by simp; omega)] at e
    cases e

/-- Some own blocks are done with, one begins: it stands for blocks of theirs, or new ones. -/
theorem SRV.remake {C : Ctx} {V st a w} (h : SRV C V st a w) {w' : World} {hd : List (Option LB)} {I : Info} {lb : LB} {cur' : Array Value} (hdl : hd.length = st.h.length)
    (hsub : ∀ (id : Nat) (l : LB), hd[id]? = some (some l) → st.h[id]? = some (some l))
    (hos : w'.os = w.os) (htape : w'.tape = w.tape) (hout : w'.output = w.output) (hsize : w.heap.size ≤ w'.heap.size)
    (hblock : ∀ k, k < w.heap.size → (∀ (id : Nat) (l : LB), st.h[id]? = some (some l) → hd[id]? = some none → ¬ foot (V id) l k) → w'.heap[k]? = w.heap[k]?)
    (hfoot : ∀ b, foot I lb b → (∃ (id : Nat) (l : LB), st.h[id]? = some (some l) ∧ hd[id]? = some none ∧ foot (V id) l b) ∨ w.heap.size ≤ b)
    (hb : (∀ b, Stb C.A w st.h V b → Stb C.A w' (hd ++ [some lb]) (updV V st.h.length I) b ∧ w'.heap[b]? = w.heap[b]?) → BlkR w' (Stb C.A w' (hd ++ [some lb]) (updV V st.h.length I)) (updV V st.h.length I) (st.h.length + 1) I lb cur') :
    SRV C (updV V st.h.length I) ⟨st.s, hd ++ [some lb]⟩ a w' := by
  have hV : ∀ i, i < st.h.length → updV V st.h.length I i = V i := fun i hi => by simp [updV]; omega
  have hlive : ∀ i l, (hd ++ [some lb])[i]? = some (some l) → (i < st.h.length ∧ hd[i]? = some (some l) ∧ st.h[i]? = some (some l)) ∨ (i = st.h.length ∧ lb = l) := fun i l e => by
    rcases getElem?_snoc_some e with ⟨h1, h2⟩ | ⟨h1, h2⟩
    · exact .inl ⟨by omega, h2, hsub i l h2⟩
    · exact .inr ⟨by omega, by simpa using h2⟩
  -- a block of a name that stays is none of those that are done with
  have hkeep : ∀ i l, hd[i]? = some (some l) → ∀ b, foot (V i) l b → ∀ (id : Nat) (l' : LB), st.h[id]? = some (some l') → hd[id]? = some none → ¬ foot (V id) l' b := fun i l e b hf id l' e1 e2 => by
    refine h.hr.inj i id l l' (hsub i l e) e1 (fun g => ?_) b hf
    subst g; rw [e] at e2; cases e2
  have hkb : ∀ i l, hd[i]? = some (some l) → ∀ b, foot (V i) l b → w'.heap[b]? = w.heap[b]? := fun i l e b hf => hblock b (h.hr.ltf (hsub i l e) hf) (hkeep i l e b hf)
  have hS : ∀ b, Stb C.A w st.h V b → Stb C.A w' (hd ++ [some lb]) (updV V st.h.length I) b ∧ w'.heap[b]? = w.heap[b]? := fun b hs => by
    refine ⟨⟨hs.1, Nat.lt_of_lt_of_le hs.2.1 hsize, fun i l e => ?_⟩, hblock b hs.2.1 fun id l e1 _ => hs.2.2 id l e1⟩
    rcases hlive i l e with ⟨h1, _, h2⟩ | ⟨h1, h2⟩
    · rw [hV i h1]; exact hs.2.2 i l h2
    · subst h1 h2
      simp only [updV, if_true]
      intro hf
      rcases hfoot b hf with ⟨id, l', e1, _, e3⟩ | hge
      · exact hs.2.2 id l' e1 e3
      · have := hs.2.1; omega
  have hk : Kept C.M C.w0 w' := ⟨hos.trans h.kept.os, htape.trans h.kept.tape, hout.trans h.kept.output, Nat.le_trans h.kept.size hsize, fun k hk hm => by
    rw [hblock k (Nat.lt_of_lt_of_le hk h.kept.size) fun id l e1 _ hf => hm (h.hr.mine id l e1 k hf hk)]
    exact h.kept.block k hk hm⟩
  refine h.step hk ⟨fun i j li lj hi hj hij b => ?_, fun i l e => ?_, fun i l e b hf hlt => ?_⟩ hS hV (by simp [hdl])
  · rcases hlive i li hi with ⟨h1, d1, h2⟩ | ⟨h1, h2⟩ <;> rcases hlive j lj hj with ⟨h3, d3, h4⟩ | ⟨h3, h4⟩
    · rw [hV i h1, hV j h3]; exact h.hr.inj i j li lj h2 h4 hij b
    · subst h3 h4; rw [hV i h1]; simp only [updV, if_true]
      intro hf1 hf2
      rcases hfoot b hf2 with ⟨id, l', e1, e2, e3⟩ | hge
      · exact hkeep i li d1 b hf1 id l' e1 e2 e3
      · have := h.hr.ltf h2 hf1; omega
    · subst h1 h2; rw [hV j h3]; simp only [updV, if_true]
      intro hf1 hf2
      rcases hfoot b hf1 with ⟨id, l', e1, e2, e3⟩ | hge
      · exact hkeep j lj d3 b hf2 id l' e1 e2 e3
      · have := h.hr.ltf h4 hf2; omega
    · omega
  · rcases hlive i l e with ⟨h1, d1, h2⟩ | ⟨h1, h2⟩
    · obtain ⟨c, hc⟩ := h.hr.blk i l h2
      rw [hV i h1]
      exact ⟨c, hc.mono hS hV (by simp [hdl]) (hkb i l d1)⟩
    · subst h1 h2
      refine ⟨cur', ?_⟩
      have e1 : updV V st.h.length I st.h.length = I := by simp [updV]
      rw [e1]
      have := hb hS
      simpa [hdl] using this
  · rcases hlive i l e with ⟨h1, d1, h2⟩ | ⟨h1, h2⟩
    · rw [hV i h1] at hf; exact h.hr.mine i l h2 b hf hlt
    · subst h1 h2
      have e1 : updV V st.h.length I st.h.length = I := by simp [updV]
      rw [e1] at hf
      rcases hfoot b hf with ⟨id, l', e1, _, e3⟩ | hge
      · exact h.hr.mine id l' e1 b e3 hlt
      · have := h.kept.size; omega

/-- A new block of the call's own. -/
theorem SRV.allocO {C : Ctx} {V st a w} (h : SRV C V st a w) (I : Info) (lb : LB) (cur : Array Value) (ob : Obj) (hsubn : lb.subn = 0) (hI : I.blk = w.heap.size)
    (hb : ∀ S' V' N', (∀ b, Stb C.A w st.h V b → S' b) → (∀ i, i < st.h.length → V' i = V i) → st.h.length ≤ N' → BlkR (w.alloc ob) S' V' N' I lb cur) :
    SRV C (updV V st.h.length I) ⟨st.s, st.h ++ [some lb]⟩ a (w.alloc ob) := by
  have hbel : Below w.heap.size w (w.alloc ob) := (Below.refl _ _).alloc (Nat.le_refl _) _
  have hV : ∀ i, i < st.h.length → updV V st.h.length I i = V i := fun i hi => by simp [updV]; omega
  exact h.remake (hd := st.h) (cur' := cur) rfl (fun _ _ e => e) hbel.os hbel.tape hbel.output hbel.size (fun k hk _ => hbel.block k hk) (fun b hf => .inr (by rw [← foot_plain hsubn hf, hI]; exact Nat.le_refl _))
    (fun hS => hb _ _ _ (fun b hs => (hS b hs).1) hV (by omega))
theorem SRV.alloc {C : Ctx} {V st a w} (h : SRV C V st a w) (I : Info) (lb : LB) (cur : Array Value) (hI : I.blk = w.heap.size)
    (hb : ∀ S' V' N', (∀ b, Stb C.A w st.h V b → S' b) → (∀ i, i < st.h.length → V' i = V i) → st.h.length ≤ N' → BlkR (w.alloc (.cells cur lb.ty)) S' V' N' I lb cur) (hsubn : lb.subn = 0 := by rfl) :
    SRV C (updV V st.h.length I) ⟨st.s, st.h ++ [some lb]⟩ a (w.alloc (.cells cur lb.ty)) := h.allocO I lb cur _ hsubn hI hb

/-- Blocks of one name are written. -/
theorem SRV.writeF {C : Ctx} {V st a w} (h : SRV C V st a w) {id : Nat} {lb lb' : LB} (hl : st.h[id]? = some (some lb)) (hsn : lb'.subn ≤ lb.subn) {w' : World} {cur' : Array Value} (hos : w'.os = w.os) (htape : w'.tape = w.tape) (hout : w'.output = w.output) (hsize : w'.heap.size = w.heap.size)
    (hother : ∀ k, ¬ foot (V id) lb k → w'.heap[k]? = w.heap[k]?)
    (hb : (∀ b, Stb C.A w st.h V b → Stb C.A w' (st.h.set id (some lb')) V b ∧ w'.heap[b]? = w.heap[b]?) → BlkR w' (Stb C.A w' (st.h.set id (some lb')) V) V st.h.length (V id) lb' cur') :
    SRV C V ⟨st.s, st.h.set id (some lb')⟩ a w' := by
  have hid : id < st.h.length := (List.getElem?_eq_some_iff.1 hl).1
  have hlive : ∀ i l, (st.h.set id (some lb'))[i]? = some (some l) → (i = id ∧ lb' = l) ∨ (i ≠ id ∧ st.h[i]? = some (some l)) := fun i l e => by
    rw [List.getElem?_set] at e
    by_cases hi : id = i
    · subst hi; simp [hid] at e; exact .inl ⟨rfl, e⟩
    · rw [if_neg hi] at e; exact .inr ⟨fun e => hi e.symm, e⟩
  have hlive' : ∀ i l, (st.h.set id (some lb'))[i]? = some (some l) → ∃ l', st.h[i]? = some (some l') ∧ ∀ b, foot (V i) l b → foot (V i) l' b := fun i l e => by
    rcases hlive i l e with ⟨h1, h2⟩ | ⟨_, h2⟩
    · subst h1 h2; exact ⟨lb, hl, fun b hf => foot_sub hsn hf⟩
    · exact ⟨l, h2, fun b hf => hf⟩
  have hS : ∀ b, Stb C.A w st.h V b → Stb C.A w' (st.h.set id (some lb')) V b ∧ w'.heap[b]? = w.heap[b]? := fun b hs =>
    ⟨⟨hs.1, by rw [hsize]; exact hs.2.1, fun i l e hf => let ⟨l', e', g⟩ := hlive' i l e; hs.2.2 i l' e' (g b hf)⟩, hother b (fun e => hs.2.2 id lb hl e)⟩
  have hk : Kept C.M C.w0 w' := ⟨hos.trans h.kept.os, htape.trans h.kept.tape, hout.trans h.kept.output, by rw [hsize]; exact h.kept.size, fun k hk hm => by
    rw [hother k (fun e => hm (h.hr.mine id lb hl k e hk))]; exact h.kept.block k hk hm⟩
  refine h.step hk ⟨fun i j li lj hi hj hne b hf hf' => ?_, fun i l e => ?_, fun i l e b hf hlt => ?_⟩ hS (fun _ _ => rfl) (by simp)
  · obtain ⟨l1, e1, g1⟩ := hlive' i li hi
    obtain ⟨l2, e2, g2⟩ := hlive' j lj hj
    exact h.hr.inj i j l1 l2 e1 e2 hne b (g1 b hf) (g2 b hf')
  · rcases hlive i l e with ⟨h1, h2⟩ | ⟨h1, h2⟩
    · subst h1 h2; exact ⟨cur', by simpa using hb hS⟩
    · obtain ⟨c, hc⟩ := h.hr.blk i l h2
      refine ⟨c, hc.mono hS (fun _ _ => rfl) (by simp) (fun b hf => hother _ (h.hr.inj i id l lb h2 hl h1 b hf))⟩
  · obtain ⟨l1, e1, g1⟩ := hlive' i l e
    exact h.hr.mine i l1 e1 b (g1 b hf) hlt
/-- A block of the call's own is written. -/
theorem SRV.write {C : Ctx} {V st a w} (h : SRV C V st a w) {id : Nat} {lb lb' : LB} (hl : st.h[id]? = some (some lb)) {w' : World} {cur' : Array Value} (hos : w'.os = w.os) (htape : w'.tape = w.tape) (hout : w'.output = w.output) (hsize : w'.heap.size = w.heap.size)
    (hother : ∀ k, k ≠ (V id).blk → w'.heap[k]? = w.heap[k]?)
    (hb : (∀ b, Stb C.A w st.h V b → Stb C.A w' (st.h.set id (some lb')) V b ∧ w'.heap[b]? = w.heap[b]?) → BlkR w' (Stb C.A w' (st.h.set id (some lb')) V) V st.h.length (V id) lb' cur') (hsn : lb'.subn ≤ lb.subn := by exact Nat.le_refl _) :
    SRV C V ⟨st.s, st.h.set id (some lb')⟩ a w' := h.writeF hl hsn hos htape hout hsize (fun k hk => hother k fun e => hk (.inl e.symm)) hb

/-- A block's name is given up: from here on nobody writes it. -/
theorem SRV.drop {C : Ctx} {V st a w} (h : SRV C V st a w) (id : Nat) : SRV C V ⟨st.s, st.h.set id none⟩ a w := by
  have hlive : ∀ i l, (st.h.set id none)[i]? = some (some l) → st.h[i]? = some (some l) := fun i l e => by
    rw [List.getElem?_set] at e
    by_cases hi : id = i
    · rw [if_pos hi] at e; split at e <;> simp at e
    · rw [if_neg hi] at e; exact e
  have hS : ∀ b, Stb C.A w st.h V b → Stb C.A w (st.h.set id none) V b ∧ w.heap[b]? = w.heap[b]? := fun b hs => ⟨⟨hs.1, hs.2.1, fun i l e => hs.2.2 i l (hlive i l e)⟩, rfl⟩
  refine h.step h.kept ⟨fun i j li lj hi hj hne => h.hr.inj i j li lj (hlive i li hi) (hlive j lj hj) hne, fun i l e => ?_, fun i l e => h.hr.mine i l (hlive i l e)⟩ hS (fun _ _ => rfl) (by simp)
  obtain ⟨c, hc⟩ := h.hr.blk i l (hlive i l e)
  exact ⟨c, hc.mono hS (fun _ _ => rfl) (by simp) (fun _ _ => rfl)⟩
end Go.Proofs.YtpmmaohaahbphaaDoor
