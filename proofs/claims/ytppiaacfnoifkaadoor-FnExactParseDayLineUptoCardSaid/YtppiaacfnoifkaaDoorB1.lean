/-
  The abstract evaluator, part 1: types of data, abstract values, abstract heaps, and how they stand to the model's worlds. No statement of the seat is proved here; nothing is assumed.
-/
import Derived.WalkKit
import Derived.WalkSpells
import Derived.WalkLawsBesides
import Derived.Deep.Quiet
import Derived.Test.YtppiaacfnoifkaaDoorB0
namespace Go.Proofs.YtppiaacfnoifkaaDoor
open Go.RowKit

/-! ### Data -/
inductive Ty where
  | int (k : IntKind)
  | bool
  | str
  | st (fs : List Ty)
  | sl (e : Ty)
mutual
def Ty.den : Ty → Type
  | .int _ => Int
  | .bool => Bool
  | .str => ByteArray
  | .st fs => Ty.dens fs
  | .sl e => List (Ty.den e)
def Ty.dens : List Ty → Type
  | [] => Unit
  | t :: ts => Ty.den t × Ty.dens ts
end
mutual
def Ty.n : Ty → Nat
  | .st fs => Ty.ns fs
  | _ => 1
def Ty.ns : List Ty → Nat
  | [] => 0
  | t :: ts => Ty.n t + Ty.ns ts
end
mutual
def Ty.dflt : (t : Ty) → t.den
  | .int _ => (0 : Int)
  | .bool => false
  | .str => (⟨#[]⟩ : ByteArray)
  | .st fs => Ty.dflts fs
  | .sl _ => []
def Ty.dflts : (ts : List Ty) → Ty.dens ts
  | [] => ()
  | t :: ts => (Ty.dflt t, Ty.dflts ts)
end

/-- Abstract values. 'bl': a truth value that is not decided. 'tree': a slice at rest. 'view': a part of an own slice, to be read. 'bptr': into a variable at rest. -/
inductive AV where
  | any
  | v (x : Value)
  | bl (b : Bool)
  | agg (cs : List AV)
  | tup (cs : List AV)
  | tree (t : Ty) (xs : List t.den)
  | tptr (t : Ty) (xs : List t.den) (row off : Nat)
  | bptr (cs : List AV) (off : Nat)
  | loc (id row off : Nat)
  | own (id : Nat)
  | view (id lo n : Nat)
  | fn (f : FuncId) (cap : List AV)

mutual
def Ty.enc : (t : Ty) → t.den → List AV
  | .int k, n => [.v (.int k n)]
  | .bool, b => [.bl b]
  | .str, s => [.v (.string s)]
  | .st fs, x => Ty.encs fs x
  | .sl e, xs => [.tree e xs]
def Ty.encs : (ts : List Ty) → Ty.dens ts → List AV
  | [], _ => []
  | t :: ts, x => Ty.enc t x.1 ++ Ty.encs ts x.2
end
mutual
theorem enc_length : ∀ (t : Ty) (x : t.den), (t.enc x).length = t.n
  | .int _, _ => rfl
  | .bool, _ => rfl
  | .str, _ => rfl
  | .st fs, x => encs_length fs x
  | .sl _, _ => rfl
theorem encs_length : ∀ (ts : List Ty) (x : Ty.dens ts), (Ty.encs ts x).length = Ty.ns ts
  | [], _ => rfl
  | t :: ts, x => by
    show (Ty.enc t x.1 ++ Ty.encs ts x.2).length = Ty.n t + Ty.ns ts
    rw [List.length_append, enc_length t, encs_length ts]
end
/-- The cells of a row. -/
def rowT (t : Ty) (xs : List t.den) (k : Nat) : List AV := t.enc (xs.getD k t.dflt)
theorem rowT_length (t : Ty) (xs : List t.den) (k : Nat) : (rowT t xs k).length = t.n := enc_length ..

/-- A block of the abstract heap: a variable with its cells, or the array behind an own slice. -/
inductive LB where
  | box (ty : TypeId) (cs : List AV)
  | arr (ty : TypeId) (t : Ty) (xs : List t.den)
def LB.ty : LB → TypeId
  | .box ty _ => ty
  | .arr ty _ _ => ty
def LB.sz : LB → Nat
  | .box _ cs => cs.length
  | .arr _ t _ => t.n
def LB.len : LB → Nat
  | .box _ _ => 1
  | .arr _ _ xs => xs.length
def LB.rows : LB → Nat → List AV
  | .box _ cs, _ => cs
  | .arr _ t xs, k => rowT t xs k
def LB.isArr : LB → Bool
  | .box _ _ => false
  | .arr _ _ _ => true
/-- Bytes that were a text are told apart from others: a row of one byte. -/
def Ty.isMk : Ty → Bool
  | .st [.int .u8] => true
  | _ => false
def LB.mk : LB → Bool
  | .box _ _ => false
  | .arr _ t _ => t.isMk
def LB.kd (lb : LB) : Bool × Bool := (lb.isArr, lb.mk)
/-- The mark of a block: none, or (of bytes that were a text) behind its cells. -/
def FrOk (b : Bool) (n : Nat) (fr : Nat × Nat) : Prop := fr = (0, 0) ∨ (b = true ∧ n ≤ fr.1)
theorem FrOk.no {n : Nat} {fr : Nat × Nat} (h : FrOk false n fr) : fr = (0, 0) := h.resolve_right fun e => by cases e.1
theorem LB.rows_length (lb : LB) (k : Nat) : (lb.rows k).length = lb.sz := by
  cases lb with
  | box ty cs => rfl
  | arr ty t xs => exact rowT_length ..

/-- Where an abstract block lies, and (for an own slice) the slice's value. -/
structure Info where
  blk : Nat
  sz : Nat
  len : Nat
  val : Value

abbrev bigLen : Nat := 140737488355328

/-- A part of a slice. -/
def partV (x : Value) (sz lo n : Nat) : Value :=
  match x with
  | .slice a _ cap => .slice (if cap = lo then a else a.map (·.add (lo * sz))) n (cap - lo)
  | x => x

/-- What lies in memory that nobody writes. -/
inductive Rt (w : World) (S : Nat → Prop) : AV → Value → Prop where
  | any (x) : Rt w S .any x
  | v (x) : Rt w S (.v x) x
  | bl (b) : Rt w S (.bl b) (.bool b)
  | agg (cs : List AV) (vs : Array Value) (hl : vs.size = cs.length) (h : ∀ (i : Nat) (c : AV) (x : Value), cs[i]? = some c → vs[i]? = some x → Rt w S c x) : Rt w S (.agg cs) (.agg vs)
  | tup (cs : List AV) (vs : Array Value) (hl : vs.size = cs.length) (h : ∀ (i : Nat) (c : AV) (x : Value), cs[i]? = some c → vs[i]? = some x → Rt w S c x) : Rt w S (.tup cs) (.tuple vs)
  | tree (t : Ty) (xs : List t.den) (a : Option Addr) (len cap : Nat) (b o : Nat) (X : Nat → Nat → Value) (hlen : len = xs.length) (hb : xs.length ≤ bigLen) (hc : xs.length ≤ cap) (hm : cap ≤ maxLen)
      (ha : 0 < xs.length → a = some ⟨b, o, none⟩ ∧ S b)
      (hx : ∀ (k j : Nat) (c : AV), k < xs.length → (rowT t xs k)[j]? = some c → w.cell? ⟨b, o + k * t.n + j, none⟩ = some (X k j) ∧ (X k j).oneCell' = true)
      (h : ∀ (k j : Nat) (c : AV), k < xs.length → (rowT t xs k)[j]? = some c → Rt w S c (X k j)) : Rt w S (.tree t xs) (.slice a len cap)
  | tptr (t : Ty) (xs : List t.den) (row off : Nat) (b o : Nat) (X : Nat → Nat → Value) (ha : S b) (hrow : row < xs.length)
      (hx : ∀ (k j : Nat) (c : AV), k < xs.length → (rowT t xs k)[j]? = some c → w.cell? ⟨b, o + k * t.n + j, none⟩ = some (X k j) ∧ (X k j).oneCell' = true)
      (h : ∀ (k j : Nat) (c : AV), k < xs.length → (rowT t xs k)[j]? = some c → Rt w S c (X k j)) : Rt w S (.tptr t xs row off) (.pointer (some ⟨b, o + row * t.n + off, none⟩))
  | bptr (cs : List AV) (off : Nat) (b o : Nat) (X : Nat → Value) (ha : S b)
      (hx : ∀ (j : Nat) (c : AV), cs[j]? = some c → w.cell? ⟨b, o + j, none⟩ = some (X j) ∧ (X j).oneCell' = true)
      (h : ∀ (j : Nat) (c : AV), cs[j]? = some c → Rt w S c (X j)) : Rt w S (.bptr cs off) (.pointer (some ⟨b, o + off, none⟩))
  | fn (f : FuncId) (cs : List AV) (vs : Array Value) (hl : vs.size = cs.length) (h : ∀ (i : Nat) (c : AV) (x : Value), cs[i]? = some c → vs[i]? = some x → Rt w S c x) : Rt w S (.fn f cs) (.func (.func f) #[] vs)

/-- The whole relation: memory of the call's own besides. N: how many names of blocks there are. -/
inductive R (w : World) (S : Nat → Prop) (V : Nat → Info) (N : Nat) : AV → Value → Prop where
  | imm (c x) (h : Rt w S c x) : R w S V N c x
  | agg (cs : List AV) (vs : Array Value) (hl : vs.size = cs.length) (h : ∀ (i : Nat) (c : AV) (x : Value), cs[i]? = some c → vs[i]? = some x → R w S V N c x) : R w S V N (.agg cs) (.agg vs)
  | tup (cs : List AV) (vs : Array Value) (hl : vs.size = cs.length) (h : ∀ (i : Nat) (c : AV) (x : Value), cs[i]? = some c → vs[i]? = some x → R w S V N c x) : R w S V N (.tup cs) (.tuple vs)
  | loc (id row off : Nat) (hid : id < N) (hrow : row < (V id).len) : R w S V N (.loc id row off) (.pointer (some ⟨(V id).blk, row * (V id).sz + off, none⟩))
  | own (id : Nat) (hid : id < N) : R w S V N (.own id) (V id).val
  | view (id lo n : Nat) (hid : id < N) (hrow : lo + n ≤ (V id).len) : R w S V N (.view id lo n) (partV (V id).val (V id).sz lo n)
  | fn (f : FuncId) (cs : List AV) (vs : Array Value) (hl : vs.size = cs.length) (h : ∀ (i : Nat) (c : AV) (x : Value), cs[i]? = some c → vs[i]? = some x → R w S V N c x) : R w S V N (.fn f cs) (.func (.func f) #[] vs)

theorem Rt.mono {w w' : World} {S S' : Nat → Prop} {c : AV} {x : Value} (h : Rt w S c x) (hS : ∀ b, S b → S' b ∧ w'.heap[b]? = w.heap[b]?) : Rt w' S' c x := by
  induction h with
  | any x => exact .any x
  | v x => exact .v x
  | bl x => exact .bl x
  | agg cs vs hl _ ih => exact .agg cs vs hl ih
  | tup cs vs hl _ ih => exact .tup cs vs hl ih
  | fn f cs vs hl _ ih => exact .fn f cs vs hl ih
  | tree t xs a len cap b o X hlen hb hc hm ha hx _ ih =>
    refine .tree t xs a len cap b o X hlen hb hc hm (fun hne => ⟨(ha hne).1, (hS b (ha hne).2).1⟩) (fun k j c h1 h2 => ?_) ih
    obtain ⟨e1, e2⟩ := hx k j c h1 h2
    exact ⟨(World.cell?_of_block (a := ⟨b, _, none⟩) (hS b (ha (Nat.lt_of_le_of_lt (Nat.zero_le _) h1)).2).2).trans e1, e2⟩
  | tptr t xs row off b o X ha hrow hx _ ih =>
    refine .tptr t xs row off b o X (hS b ha).1 hrow (fun k j c h1 h2 => ?_) ih
    obtain ⟨e1, e2⟩ := hx k j c h1 h2
    exact ⟨(World.cell?_of_block (a := ⟨b, _, none⟩) (hS b ha).2).trans e1, e2⟩
  | bptr cs off b o X ha hx _ ih =>
    refine .bptr cs off b o X (hS b ha).1 (fun j c h2 => ?_) ih
    obtain ⟨e1, e2⟩ := hx j c h2
    exact ⟨(World.cell?_of_block (a := ⟨b, _, none⟩) (hS b ha).2).trans e1, e2⟩

theorem R.mono {w w' : World} {S S' : Nat → Prop} {V V' : Nat → Info} {N N' : Nat} {c : AV} {x : Value} (h : R w S V N c x)
    (hS : ∀ b, S b → S' b ∧ w'.heap[b]? = w.heap[b]?) (hV : ∀ i, i < N → V' i = V i) (hN : N ≤ N') : R w' S' V' N' c x := by
  induction h with
  | imm c x h => exact .imm _ _ (h.mono hS)
  | agg cs vs hl _ ih => exact .agg cs vs hl ih
  | tup cs vs hl _ ih => exact .tup cs vs hl ih
  | loc id row off hid hrow => rw [← hV id hid]; exact .loc id row off (by omega) (by rw [hV id hid]; exact hrow)
  | own id hid => rw [← hV id hid]; exact .own id (by omega)
  | view id lo n hid hrow => rw [← hV id hid]; exact .view id lo n (by omega) (by rw [hV id hid]; exact hrow)
  | fn f cs vs hl _ ih => exact .fn f cs vs hl ih

/-! ### The state -/
def upd (s : Nat → AV) (d : Nat) (c : AV) : Nat → AV := fun j => match Nat.beq j d with
  | true => c
  | false => s j
theorem upd_same (s : Nat → AV) (d : Nat) (c : AV) : upd s d c d = c := by simp [upd]
theorem upd_other (s : Nat → AV) {d j : Nat} (c : AV) (h : j ≠ d) : upd s d c j = s j := by
  have : Nat.beq j d = false := by
    cases e : Nat.beq j d with
    | true => exact absurd (Nat.eq_of_beq_eq_true e) h
    | false => rfl
  simp [upd, this]
structure St where
  s : Nat → AV
  h : List (Option LB)
def St.put (st : St) (d : Nat) (c : AV) : St := ⟨upd st.s d c, st.h⟩

/-- Of what was there when the call began only the blocks of M may have turned. -/
structure Kept (M : Nat → Prop) (w w' : World) : Prop where
  os : w'.os = w.os
  tape : w'.tape = w.tape
  output : w'.output = w.output
  size : w.heap.size ≤ w'.heap.size
  block : ∀ k, k < w.heap.size → ¬ M k → w'.heap[k]? = w.heap[k]?
theorem Kept.refl (M : Nat → Prop) (w : World) : Kept M w w := ⟨rfl, rfl, rfl, Nat.le_refl _, fun _ _ _ => rfl⟩
theorem Kept.below {M : Nat → Prop} {w w1 w2 : World} (h : Kept M w w1) (k : Below w1.heap.size w1 w2) : Kept M w w2 :=
  ⟨k.os.trans h.os, k.tape.trans h.tape, k.output.trans h.output, Nat.le_trans h.size k.size, fun i hi hm => (k.block i (Nat.lt_of_lt_of_le hi h.size)).trans (h.block i hi hm)⟩
theorem Kept.toBelow {w w' : World} (h : Kept (fun _ => False) w w') : Below w.heap.size w w' := ⟨h.os, h.tape, h.output, h.size, fun k hk => h.block k hk (fun e => e)⟩

/-- Blocks that nobody writes from here on. -/
def Stb (A : Nat → Prop) (w : World) (h : List (Option LB)) (V : Nat → Info) (b : Nat) : Prop := A b ∧ b < w.heap.size ∧ ∀ id lb, h[id]? = some (some lb) → (V id).blk ≠ b

structure BlkR (w : World) (S : Nat → Prop) (V : Nat → Info) (N : Nat) (I : Info) (lb : LB) (cur : Array Value) : Prop where
  sz : I.sz = lb.sz
  ln : I.len = lb.len
  heap : ∃ fr, w.heap[I.blk]? = some (.cells cur lb.ty fr) ∧ FrOk lb.mk cur.size fr
  cell : ∀ (k j : Nat) (c : AV), k < lb.len → (lb.rows k)[j]? = some c → ∃ x, cur[k * lb.sz + j]? = some x ∧ x.oneCell' = true ∧ R w S V N c x
  still : lb.isArr = true → ∀ (k j : Nat) (c : AV) (x : Value), k < lb.len → (lb.rows k)[j]? = some c → cur[k * lb.sz + j]? = some x → Rt w S c x
  box : lb.isArr = false → cur.size = lb.len * lb.sz
  own : lb.isArr = true → ∃ cap, I.val = .slice (some ⟨I.blk, 0, none⟩) lb.len cap ∧ lb.len ≤ cap ∧ cap ≤ maxLen ∧ cur.size = cap * lb.sz ∧ lb.len ≤ bigLen

theorem BlkR.mono {w w' : World} {S S' : Nat → Prop} {V V' : Nat → Info} {N N' : Nat} {I : Info} {lb : LB} {cur : Array Value} (h : BlkR w S V N I lb cur)
    (hS : ∀ b, S b → S' b ∧ w'.heap[b]? = w.heap[b]?) (hV : ∀ i, i < N → V' i = V i) (hN : N ≤ N') (hb : w'.heap[I.blk]? = w.heap[I.blk]?) : BlkR w' S' V' N' I lb cur :=
  ⟨h.sz, h.ln, let ⟨fr, g1, g2⟩ := h.heap; ⟨fr, hb.trans g1, g2⟩, fun k j c h1 h2 => let ⟨x, e1, e2, e3⟩ := h.cell k j c h1 h2; ⟨x, e1, e2, e3.mono hS hV hN⟩, fun ha k j c x h1 h2 h3 => (h.still ha k j c x h1 h2 h3).mono hS, h.box, h.own⟩

structure HR (w0 : World) (M A : Nat → Prop) (V : Nat → Info) (h : List (Option LB)) (w : World) : Prop where
  inj : ∀ i j li lj, h[i]? = some (some li) → h[j]? = some (some lj) → i ≠ j → (V i).blk ≠ (V j).blk
  blk : ∀ id lb, h[id]? = some (some lb) → ∃ cur, BlkR w (Stb A w h V) V h.length (V id) lb cur
  mine : ∀ id lb, h[id]? = some (some lb) → (V id).blk < w0.heap.size → M (V id).blk

/-- What a call begins with: how many slots; the world; the blocks that it may write; what the first names mean; what is laid for good (GB). -/
structure Ctx where
  n : Nat
  w0 : World
  M : Nat → Prop
  V0 : Nat → Info
  N0 : Nat
  A : Nat → Prop
  hA : ∀ b, w0.heap.size ≤ b → A b
  GB : Nat → Prop
  hGB : ∀ b, GB b → b < w0.heap.size ∧ ¬ M b
  hAG : ∀ b, GB b → A b
  hAM : ∀ b, M b → A b
  laid : Lw GB w0

structure SRV (C : Ctx) (V : Nat → Info) (st : St) (a : Act) (w : World) : Prop where
  size : a.tmps.size = C.n
  defers : a.defers = []
  kept : Kept C.M C.w0 w
  long : C.N0 ≤ st.h.length
  agree : ∀ i, i < C.N0 → V i = C.V0 i
  hr : HR C.w0 C.M C.A V st.h w
  slots : ∀ t, R w (Stb C.A w st.h V) V st.h.length (st.s t) (a.tmps.getD t undef)

def SR (C : Ctx) (st : St) (a : Act) (w : World) : Prop := ∃ V, SRV C V st a w

theorem SRV.put {C : Ctx} {V st a w} (h : SRV C V st a w) {d : Nat} {c : AV} {x : Value} (hr : R w (Stb C.A w st.h V) V st.h.length c x) : SRV C V (st.put d c) (a.put (some d) x) w ∨ C.n ≤ d := by
  by_cases hd : d < C.n
  · refine .inl ⟨by simp [Act.put, h.size], h.defers, h.kept, h.long, h.agree, h.hr, fun t => ?_⟩
    by_cases ht : t = d
    · subst ht
      simp only [St.put, upd_same, Act.put]
      have : (a.tmps.setIfInBounds t x).getD t undef = x := by
        simp [Array.getD_eq_getD_getElem?, h.size, hd]
      rw [this]; exact hr
    · simp only [St.put, upd_other _ _ ht, Act.put]
      have : (a.tmps.setIfInBounds d x).getD t undef = a.tmps.getD t undef := by
        simp [Array.getD_eq_getD_getElem?, Ne.symm ht]
      rw [this]; exact h.slots t
  · exact .inr (by omega)

/-- A slot is told anew: the value in it stands to the new word too. -/
theorem SRV.retell {C : Ctx} {V st a w} (h : SRV C V st a w) {d : Nat} {c : AV} (hr : R w (Stb C.A w st.h V) V st.h.length c (a.tmps.getD d undef)) : SRV C V (st.put d c) a w := by
  refine ⟨h.size, h.defers, h.kept, h.long, h.agree, h.hr, fun t => ?_⟩
  by_cases ht : t = d
  · subst ht; simp only [St.put, upd_same]; exact hr
  · simp only [St.put, upd_other _ _ ht]; exact h.slots t

/-- From one abstract heap to another: what both names mean stays, what was at rest stays at rest. -/
theorem SRV.step {C : Ctx} {V st a w} (h : SRV C V st a w) {w' : World} {V' : Nat → Info} {h' : List (Option LB)}
    (hk : Kept C.M C.w0 w') (hr : HR C.w0 C.M C.A V' h' w') (hS : ∀ b, Stb C.A w st.h V b → Stb C.A w' h' V' b ∧ w'.heap[b]? = w.heap[b]?) (hV : ∀ i, i < st.h.length → V' i = V i) (hN : st.h.length ≤ h'.length) :
    SRV C V' ⟨st.s, h'⟩ a w' :=
  ⟨h.size, h.defers, hk, Nat.le_trans h.long hN, fun i hi => (hV i (Nat.lt_of_lt_of_le hi h.long)).trans (h.agree i hi), hr, fun t => (h.slots t).mono hS hV hN⟩

theorem HR.lt {w0 : World} {M A V h w} (hr : HR w0 M A V h w) {id : Nat} {lb : LB} (hl : h[id]? = some (some lb)) : (V id).blk < w.heap.size := by
  obtain ⟨cur, hc⟩ := hr.blk id lb hl
  exact (Array.getElem?_eq_some_iff.1 hc.heap.choose_spec.1).1

/-- What is laid lies in no block of the call's own. -/
theorem SRV.notGB {C : Ctx} {V st a w} (h : SRV C V st a w) {id : Nat} {lb : LB} (hl : st.h[id]? = some (some lb)) : ¬ C.GB (V id).blk := fun hg =>
  (C.hGB _ hg).2 (h.hr.mine id lb hl (C.hGB _ hg).1)
theorem SRV.laid {C : Ctx} {V st a w} (h : SRV C V st a w) : Lw C.GB w :=
  Lw_mono C.laid (fun b hb => (C.hGB b hb).1) (fun b hb => h.kept.block b (C.hGB b hb).1 (C.hGB b hb).2) h.kept.size h.kept.os h.kept.tape
theorem SRV.stbGB {C : Ctx} {V st a w} (h : SRV C V st a w) {b : Nat} (hb : C.GB b) : Stb C.A w st.h V b :=
  ⟨C.hAG b hb, Nat.lt_of_lt_of_le (C.hGB b hb).1 h.kept.size, fun _ _ hl e => h.notGB hl (e ▸ hb)⟩

theorem SRV.inA {C : Ctx} {V st a w} (h : SRV C V st a w) {id : Nat} {lb : LB} (hl : st.h[id]? = some (some lb)) : C.A (V id).blk := by
  rcases Nat.lt_or_ge (V id).blk C.w0.heap.size with hlt | hge
  · exact C.hAM _ (h.hr.mine id lb hl hlt)
  · exact C.hA _ hge

/-- Only new blocks. -/
theorem SRV.below {C : Ctx} {V st a w} (h : SRV C V st a w) {w' : World} (hb : Below w.heap.size w w') : SRV C V st a w' := by
  have hS : ∀ b, Stb C.A w st.h V b → Stb C.A w' st.h V b ∧ w'.heap[b]? = w.heap[b]? := fun b hs => ⟨⟨hs.1, Nat.lt_of_lt_of_le hs.2.1 hb.size, hs.2.2⟩, hb.block b hs.2.1⟩
  refine h.step (h.kept.below hb) ⟨h.hr.inj, fun id lb hl => ?_, h.hr.mine⟩ hS (fun _ _ => rfl) (Nat.le_refl _)
  obtain ⟨cur, hc⟩ := h.hr.blk id lb hl
  exact ⟨cur, hc.mono hS (fun _ _ => rfl) (Nat.le_refl _) (hb.block _ (h.hr.lt hl))⟩

def updV (V : Nat → Info) (i : Nat) (I : Info) : Nat → Info := fun j => if j = i then I else V j

theorem getElem?_snoc_some {h : List (Option LB)} {b : Option LB} {id : Nat} {lb : LB} (e : (h ++ [b])[id]? = some (some lb)) : (id < h.length ∧ h[id]? = some (some lb)) ∨ (id = h.length ∧ b = some lb) := by
  rcases Nat.lt_trichotomy id h.length with hl | hl | hl
  · rw [List.getElem?_append_left hl] at e; exact .inl ⟨hl, e⟩
  · subst hl; simp at e; exact .inr ⟨rfl, e⟩
  · rw [List.getElem?_append_right (by omega)] at e
    rw [List.getElem?_eq_none (by simp; omega)] at e
    cases e

/-- A new block of the call's own. -/
theorem SRV.alloc {C : Ctx} {V st a w} (h : SRV C V st a w) (I : Info) (lb : LB) (cur : Array Value) (hI : I.blk = w.heap.size)
    (hb : ∀ S' V' N', (∀ b, Stb C.A w st.h V b → S' b) → (∀ i, i < st.h.length → V' i = V i) → st.h.length ≤ N' → BlkR (w.alloc (.cells cur lb.ty)) S' V' N' I lb cur) :
    SRV C (updV V st.h.length I) ⟨st.s, st.h ++ [some lb]⟩ a (w.alloc (.cells cur lb.ty)) := by
  have hbel : Below w.heap.size w (w.alloc (.cells cur lb.ty)) := (Below.refl _ _).alloc (Nat.le_refl _) _
  have hV : ∀ i, i < st.h.length → updV V st.h.length I i = V i := fun i hi => by simp [updV]; omega
  have hlive : ∀ id l, (st.h ++ [some lb])[id]? = some (some l) → (id < st.h.length ∧ st.h[id]? = some (some l)) ∨ (id = st.h.length ∧ lb = l) := fun id l e => by
    rcases getElem?_snoc_some e with h1 | ⟨h1, h2⟩
    · exact .inl h1
    · exact .inr ⟨h1, by simpa using h2⟩
  have hS : ∀ b, Stb C.A w st.h V b → Stb C.A (w.alloc (.cells cur lb.ty)) (st.h ++ [some lb]) (updV V st.h.length I) b ∧ (w.alloc (.cells cur lb.ty)).heap[b]? = w.heap[b]? := fun b hs => by
    refine ⟨⟨hs.1, Nat.lt_of_lt_of_le hs.2.1 hbel.size, fun id l e => ?_⟩, hbel.block b hs.2.1⟩
    rcases hlive id l e with ⟨h1, h2⟩ | ⟨h1, h2⟩
    · rw [hV id h1]; exact hs.2.2 id l h2
    · subst h1; simp only [updV, if_true, hI]; have := hs.2.1; omega
  refine h.step (h.kept.below hbel) ⟨fun i j li lj hi hj hne => ?_, fun id l e => ?_, fun id l e hlt => ?_⟩ hS hV (by simp)
  · rcases hlive i li hi with ⟨h1, h2⟩ | ⟨h1, h2⟩ <;> rcases hlive j lj hj with ⟨h3, h4⟩ | ⟨h3, h4⟩
    · rw [hV i h1, hV j h3]; exact h.hr.inj i j li lj h2 h4 hne
    · subst h3; rw [hV i h1]; simp only [updV, if_true, hI]; have := h.hr.lt h2; omega
    · subst h1; rw [hV j h3]; simp only [updV, if_true, hI]; have := h.hr.lt h4; omega
    · omega
  · rcases hlive id l e with ⟨h1, h2⟩ | ⟨h1, h2⟩
    · obtain ⟨c, hc⟩ := h.hr.blk id l h2
      rw [hV id h1]
      exact ⟨c, hc.mono hS hV (by simp) (hbel.block _ (h.hr.lt h2))⟩
    · subst h1 h2
      refine ⟨cur, ?_⟩
      have e1 : updV V st.h.length I st.h.length = I := by simp [updV]
      rw [e1]
      exact hb _ _ _ (fun b hs => (hS b hs).1) hV (by simp)
  · rcases hlive id l e with ⟨h1, h2⟩ | ⟨h1, h2⟩
    · rw [hV id h1] at hlt ⊢; exact h.hr.mine id l h2 hlt
    · subst h1
      have e1 : updV V st.h.length I st.h.length = I := by simp [updV]
      rw [e1, hI] at hlt
      have := h.kept.size
      omega

/-- A block of the call's own is written. -/
theorem SRV.write {C : Ctx} {V st a w} (h : SRV C V st a w) {id : Nat} {lb lb' : LB} (hl : st.h[id]? = some (some lb)) {w' : World} {cur' : Array Value} (hos : w'.os = w.os) (htape : w'.tape = w.tape) (hout : w'.output = w.output) (hsize : w'.heap.size = w.heap.size)
    (hother : ∀ k, k ≠ (V id).blk → w'.heap[k]? = w.heap[k]?)
    (hb : (∀ b, Stb C.A w st.h V b → Stb C.A w' (st.h.set id (some lb')) V b ∧ w'.heap[b]? = w.heap[b]?) → BlkR w' (Stb C.A w' (st.h.set id (some lb')) V) V st.h.length (V id) lb' cur') :
    SRV C V ⟨st.s, st.h.set id (some lb')⟩ a w' := by
  have hid : id < st.h.length := (List.getElem?_eq_some_iff.1 hl).1
  have hlive : ∀ i l, (st.h.set id (some lb'))[i]? = some (some l) → (i = id ∧ lb' = l) ∨ (i ≠ id ∧ st.h[i]? = some (some l)) := fun i l e => by
    rw [List.getElem?_set] at e
    by_cases hi : id = i
    · subst hi; simp [hid] at e; exact .inl ⟨rfl, e⟩
    · rw [if_neg hi] at e; exact .inr ⟨fun e => hi e.symm, e⟩
  have hlive' : ∀ i l, (st.h.set id (some lb'))[i]? = some (some l) → ∃ l', st.h[i]? = some (some l') := fun i l e => by
    rcases hlive i l e with ⟨h1, _⟩ | ⟨_, h2⟩
    · subst h1; exact ⟨lb, hl⟩
    · exact ⟨l, h2⟩
  have hS : ∀ b, Stb C.A w st.h V b → Stb C.A w' (st.h.set id (some lb')) V b ∧ w'.heap[b]? = w.heap[b]? := fun b hs =>
    ⟨⟨hs.1, by rw [hsize]; exact hs.2.1, fun i l e => let ⟨l', e'⟩ := hlive' i l e; hs.2.2 i l' e'⟩, hother b (fun e => hs.2.2 id lb hl e.symm)⟩
  have hk : Kept C.M C.w0 w' := ⟨hos.trans h.kept.os, htape.trans h.kept.tape, hout.trans h.kept.output, by rw [hsize]; exact h.kept.size, fun k hk hm => by
    rw [hother k (fun e => hm (e ▸ h.hr.mine id lb hl (e ▸ hk)))]; exact h.kept.block k hk hm⟩
  refine h.step hk ⟨fun i j li lj hi hj hne => ?_, fun i l e => ?_, fun i l e hlt => ?_⟩ hS (fun _ _ => rfl) (by simp)
  · obtain ⟨l1, e1⟩ := hlive' i li hi
    obtain ⟨l2, e2⟩ := hlive' j lj hj
    exact h.hr.inj i j l1 l2 e1 e2 hne
  · rcases hlive i l e with ⟨h1, h2⟩ | ⟨h1, h2⟩
    · subst h1 h2; exact ⟨cur', by simpa using hb hS⟩
    · obtain ⟨c, hc⟩ := h.hr.blk i l h2
      refine ⟨c, hc.mono hS (fun _ _ => rfl) (by simp) (hother _ (h.hr.inj i id l lb h2 hl h1))⟩
  · obtain ⟨l1, e1⟩ := hlive' i l e
    exact h.hr.mine i l1 e1 hlt

/-- A block's name is given up: from here on nobody writes it. -/
theorem SRV.drop {C : Ctx} {V st a w} (h : SRV C V st a w) (id : Nat) : SRV C V ⟨st.s, st.h.set id none⟩ a w := by
  have hlive : ∀ i l, (st.h.set id none)[i]? = some (some l) → st.h[i]? = some (some l) := fun i l e => by
    rw [List.getElem?_set] at e
    by_cases hi : id = i
    · rw [if_pos hi] at e; split at e <;> simp at e
    · rw [if_neg hi] at e; exact e
  have hS : ∀ b, Stb C.A w st.h V b → Stb C.A w (st.h.set id none) V b ∧ w.heap[b]? = w.heap[b]? := fun b hs => ⟨⟨hs.1, hs.2.1, fun i l e => hs.2.2 i l (hlive i l e)⟩, rfl⟩
  refine h.step h.kept ⟨fun i j li lj hi hj hne => h.hr.inj i j li lj (hlive i li hi) (hlive j lj hj) hne, fun i l e => ?_, fun i l e hlt => h.hr.mine i l (hlive i l e) hlt⟩ hS (fun _ _ => rfl) (by simp)
  obtain ⟨c, hc⟩ := h.hr.blk i l (hlive i l e)
  exact ⟨c, hc.mono hS (fun _ _ => rfl) (by simp) rfl⟩
end Go.Proofs.YtppiaacfnoifkaaDoor
