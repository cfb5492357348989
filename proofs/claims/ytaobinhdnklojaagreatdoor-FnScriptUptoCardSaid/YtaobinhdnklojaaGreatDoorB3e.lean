/-
  The abstract evaluator, part 3e: '==' on structs of plain cells, and a slice held against nil.
-/
import Derived.WalkKit
import Derived.WalkSpells
import Derived.Lib.LaidTab
import Derived.Lib.ItoaNum
import Derived.Test.YtaobinhdnklojaaGreatDoorProg
import Derived.WalkLawsBesides
import Derived.Deep.Quiet
import Derived.Laws.Cover1
import Derived.Lib.SliceRun
import Derived.Laws.StructEq
namespace Go.Proofs.YtaobinhdnklojaaGreatDoor
open Go.RowKit
def Lw (GB : Nat → Prop) (w : World) : Prop :=
 ((GB 0 ∧ GB 2 ∧ ∃ te pe, w.cell? ⟨2, 0, none⟩ = some (.iface te pe)) ∧ ∃ m : Int, w.cell? ⟨0, 0, none⟩ = some (.int .i64 m)) ∧
 (GB 1 ∧ ∃ t fr, w.heap[1]? = some (.cells (Lib.pow10Tab.map fun z => Value.int .u64 z).toArray t fr))
theorem Lw_mono {GB : Nat → Prop} {w w' : World} (h : Lw GB w) (_hl : ∀ b, GB b → b < w.heap.size) (hk : ∀ b, GB b → w'.heap[b]? = w.heap[b]?) (_hs : w.heap.size ≤ w'.heap.size) (_ho : w'.os = w.os) (_ht : w'.tape = w.tape) : Lw GB w' := by
 obtain ⟨⟨⟨h1, h5, te, pe, h6⟩, m, h2⟩, h3, t, fr, h4⟩ := h
 exact ⟨⟨⟨h1, h5, te, pe, (World.cell?_of_block (a := ⟨_, 0, none⟩) (hk _ h5)).trans h6⟩, m, (World.cell?_of_block (a := ⟨_, 0, none⟩) (hk _ h1)).trans h2⟩, h3, t, fr, (hk _ h3).trans h4⟩
def gval (_g : Nat) : Option (List Value) := none
theorem Lw_gval {GB : Nat → Prop} {w : World} {g : Nat} {vs : List Value} (_h : Lw GB w) (e : gval g = some vs) : GB g ∧ ∀ j x, vs[j]? = some x → w.cell? ⟨g, j, none⟩ = some x ∧ x.oneCell' = true := by cases e
end Go.Proofs.YtaobinhdnklojaaGreatDoor
namespace Go.Proofs.YtaobinhdnklojaaGreatDoor
open Go.RowKit

inductive Ty where
 | int (k : IntKind)
 | bool
 | str
 | st (fs : List Ty)
 | sl (e : Ty)
mutual
def Ty.den : Ty → Type
 | .int _ => Int
 | .bool => Bool
 | .str => ByteArray
 | .st fs => Ty.dens fs
 | .sl e => List (Ty.den e)
def Ty.dens : List Ty → Type
 | [] => Unit
 | t :: ts => Ty.den t × Ty.dens ts
end
mutual
def Ty.n : Ty → Nat
 | .st fs => Ty.ns fs
 | _ => 1
def Ty.ns : List Ty → Nat
 | [] => 0
 | t :: ts => Ty.n t + Ty.ns ts
end
mutual
def Ty.dflt : (t : Ty) → t.den
 | .int _ => (0 : Int)
 | .bool => false
 | .str => (⟨#[]⟩ : ByteArray)
 | .st fs => Ty.dflts fs
 | .sl _ => []
def Ty.dflts : (ts : List Ty) → Ty.dens ts
 | [] => ()
 | t :: ts => (Ty.dflt t, Ty.dflts ts)
end

inductive AV where
 | any
 | v (x : Value)
 | bl (b : Bool)
 | agg (cs : List AV)
 | tup (cs : List AV)
 | tree (t : Ty) (xs : List t.den)
 | tptr (t : Ty) (xs : List t.den) (row off : Nat)
 | bptr (cs : List AV) (off : Nat)
 | loc (id row off : Nat)
 | own (id : Nat)
 | view (id lo n : Nat)
 | fn (f : FuncId) (cap : List AV)

mutual
def Ty.enc : (t : Ty) → t.den → List AV
 | .int k, n => [.v (.int k n)]
 | .bool, b => [.bl b]
 | .str, s => [.v (.string s)]
 | .st fs, x => Ty.encs fs x
 | .sl e, xs => [.tree e xs]
def Ty.encs : (ts : List Ty) → Ty.dens ts → List AV
 | [], _ => []
 | t :: ts, x => Ty.enc t x.1 ++ Ty.encs ts x.2
end
mutual
theorem el : ∀ (t : Ty) (x : t.den), (t.enc x).length = t.n
 | .int _, _ => rfl
 | .bool, _ => rfl
 | .str, _ => rfl
 | .st fs, x => el1 fs x
 | .sl _, _ => rfl
theorem el1 : ∀ (ts : List Ty) (x : Ty.dens ts), (Ty.encs ts x).length = Ty.ns ts
 | [], _ => rfl
 | t :: ts, x => by
   show (Ty.enc t x.1 ++ Ty.encs ts x.2).length = Ty.n t + Ty.ns ts
   rw [List.length_append, el t, el1 ts]
end
def rowT (t : Ty) (xs : List t.den) (k : Nat) : List AV := t.enc (xs.getD k t.dflt)
theorem rTl (t : Ty) (xs : List t.den) (k : Nat) : (rowT t xs k).length = t.n := el ..

inductive LB where
 | box (ty : TypeId) (cs : List AV)
 | arr (ty : TypeId) (t : Ty) (xs : List t.den)
def LB.ty : LB → TypeId
 | .box ty _ => ty
 | .arr ty _ _ => ty
def LB.sz : LB → Nat
 | .box _ cs => cs.length
 | .arr _ t _ => t.n
def LB.len : LB → Nat
 | .box _ _ => 1
 | .arr _ _ xs => xs.length
def LB.rows : LB → Nat → List AV
 | .box _ cs, _ => cs
 | .arr _ t xs, k => rowT t xs k
def LB.isArr : LB → Bool
 | .box _ _ => false
 | .arr _ _ _ => true
def Ty.isMk : Ty → Bool
 | .st [.int .u8] => true
 | _ => false
def LB.mk : LB → Bool
 | .box _ _ => false
 | .arr _ t _ => t.isMk
def LB.kd (lb : LB) : Bool × Bool := (lb.isArr, lb.mk)
def FrOk (b : Bool) (n : Nat) (fr : Nat × Nat) : Prop := fr = (0, 0) ∨ (b = true ∧ n ≤ fr.1)
theorem FrOk.no {n : Nat} {fr : Nat × Nat} (h : FrOk false n fr) : fr = (0, 0) := h.resolve_right fun e => by cases e.1
theorem LB.rows_length (lb : LB) (k : Nat) : (lb.rows k).length = lb.sz := by
 cases lb with
 | box ty cs => rfl
 | arr ty t xs => exact rTl ..

structure Info where
 blk : Nat
 sz : Nat
 len : Nat
 val : Value

abbrev bL : Nat := 140737488355328

def partV (x : Value) (sz lo n : Nat) : Value :=
 match x with
 | .slice a _ cap => .slice (if cap = lo then a else a.map (·.add (lo * sz))) n (cap - lo)
 | x => x

inductive Rt (w : World) (S : Nat → Prop) : AV → Value → Prop where
 | any (x) : Rt w S .any x
 | v (x) : Rt w S (.v x) x
 | bl (b) : Rt w S (.bl b) (.bool b)
 | agg (cs : List AV) (vs : Array Value) (hl : vs.size = cs.length) (h : ∀ (i : Nat) (c : AV) (x : Value), cs[i]? = some c → vs[i]? = some x → Rt w S c x) : Rt w S (.agg cs) (.agg vs)
 | tup (cs : List AV) (vs : Array Value) (hl : vs.size = cs.length) (h : ∀ (i : Nat) (c : AV) (x : Value), cs[i]? = some c → vs[i]? = some x → Rt w S c x) : Rt w S (.tup cs) (.tuple vs)
 | tree (t : Ty) (xs : List t.den) (a : Option Addr) (len cap : Nat) (b o : Nat) (X : Nat → Nat → Value) (hlen : len = xs.length) (hb : xs.length ≤ bL) (hc : xs.length ≤ cap) (hm : cap ≤ maxLen)
   (ha : 0 < xs.length → a = some ⟨b, o, none⟩ ∧ S b)
   (hx : ∀ (k j : Nat) (c : AV), k < xs.length → (rowT t xs k)[j]? = some c → w.cell? ⟨b, o + k * t.n + j, none⟩ = some (X k j) ∧ (X k j).oneCell' = true)
   (h : ∀ (k j : Nat) (c : AV), k < xs.length → (rowT t xs k)[j]? = some c → Rt w S c (X k j)) : Rt w S (.tree t xs) (.slice a len cap)
 | tptr (t : Ty) (xs : List t.den) (row off : Nat) (b o : Nat) (X : Nat → Nat → Value) (ha : S b) (hrow : row < xs.length)
   (hx : ∀ (k j : Nat) (c : AV), k < xs.length → (rowT t xs k)[j]? = some c → w.cell? ⟨b, o + k * t.n + j, none⟩ = some (X k j) ∧ (X k j).oneCell' = true)
   (h : ∀ (k j : Nat) (c : AV), k < xs.length → (rowT t xs k)[j]? = some c → Rt w S c (X k j)) : Rt w S (.tptr t xs row off) (.pointer (some ⟨b, o + row * t.n + off, none⟩))
 | bptr (cs : List AV) (off : Nat) (b o : Nat) (X : Nat → Value) (ha : S b)
   (hx : ∀ (j : Nat) (c : AV), cs[j]? = some c → w.cell? ⟨b, o + j, none⟩ = some (X j) ∧ (X j).oneCell' = true)
   (h : ∀ (j : Nat) (c : AV), cs[j]? = some c → Rt w S c (X j)) : Rt w S (.bptr cs off) (.pointer (some ⟨b, o + off, none⟩))
 | fn (f : FuncId) (cs : List AV) (vs : Array Value) (hl : vs.size = cs.length) (h : ∀ (i : Nat) (c : AV) (x : Value), cs[i]? = some c → vs[i]? = some x → Rt w S c x) : Rt w S (.fn f cs) (.func (.func f) #[] vs)

inductive R (w : World) (S : Nat → Prop) (V : Nat → Info) (N : Nat) : AV → Value → Prop where
 | imm (c x) (h : Rt w S c x) : R w S V N c x
 | agg (cs : List AV) (vs : Array Value) (hl : vs.size = cs.length) (h : ∀ (i : Nat) (c : AV) (x : Value), cs[i]? = some c → vs[i]? = some x → R w S V N c x) : R w S V N (.agg cs) (.agg vs)
 | tup (cs : List AV) (vs : Array Value) (hl : vs.size = cs.length) (h : ∀ (i : Nat) (c : AV) (x : Value), cs[i]? = some c → vs[i]? = some x → R w S V N c x) : R w S V N (.tup cs) (.tuple vs)
 | loc (id row off : Nat) (hid : id < N) (hrow : row < (V id).len) : R w S V N (.loc id row off) (.pointer (some ⟨(V id).blk, row * (V id).sz + off, none⟩))
 | own (id : Nat) (hid : id < N) : R w S V N (.own id) (V id).val
 | view (id lo n : Nat) (hid : id < N) (hrow : lo + n ≤ (V id).len) : R w S V N (.view id lo n) (partV (V id).val (V id).sz lo n)
 | fn (f : FuncId) (cs : List AV) (vs : Array Value) (hl : vs.size = cs.length) (h : ∀ (i : Nat) (c : AV) (x : Value), cs[i]? = some c → vs[i]? = some x → R w S V N c x) : R w S V N (.fn f cs) (.func (.func f) #[] vs)

theorem Rt.mono {w w' : World} {S S' : Nat → Prop} {c : AV} {x : Value} (h : Rt w S c x) (hS : ∀ b, S b → S' b ∧ w'.heap[b]? = w.heap[b]?) : Rt w' S' c x := by
 induction h with
 | any x => exact .any x
 | v x => exact .v x
 | bl x => exact .bl x
 | agg cs vs hl _ ih => exact .agg cs vs hl ih
 | tup cs vs hl _ ih => exact .tup cs vs hl ih
 | fn f cs vs hl _ ih => exact .fn f cs vs hl ih
 | tree t xs a len cap b o X hlen hb hc hm ha hx _ ih =>
   refine .tree t xs a len cap b o X hlen hb hc hm (fun hne => ⟨(ha hne).1, (hS b (ha hne).2).1⟩) (fun k j c h1 h2 => ?_) ih
   obtain ⟨e1, e2⟩ := hx k j c h1 h2
   exact ⟨(World.cell?_of_block (a := ⟨b, _, none⟩) (hS b (ha (Nat.lt_of_le_of_lt (Nat.zero_le _) h1)).2).2).trans e1, e2⟩
 | tptr t xs row off b o X ha hrow hx _ ih =>
   refine .tptr t xs row off b o X (hS b ha).1 hrow (fun k j c h1 h2 => ?_) ih
   obtain ⟨e1, e2⟩ := hx k j c h1 h2
   exact ⟨(World.cell?_of_block (a := ⟨b, _, none⟩) (hS b ha).2).trans e1, e2⟩
 | bptr cs off b o X ha hx _ ih =>
   refine .bptr cs off b o X (hS b ha).1 (fun j c h2 => ?_) ih
   obtain ⟨e1, e2⟩ := hx j c h2
   exact ⟨(World.cell?_of_block (a := ⟨b, _, none⟩) (hS b ha).2).trans e1, e2⟩

theorem R.mono {w w' : World} {S S' : Nat → Prop} {V V' : Nat → Info} {N N' : Nat} {c : AV} {x : Value} (h : R w S V N c x)
  (hS : ∀ b, S b → S' b ∧ w'.heap[b]? = w.heap[b]?) (hV : ∀ i, i < N → V' i = V i) (hN : N ≤ N') : R w' S' V' N' c x := by
 induction h with
 | imm c x h => exact .imm _ _ (h.mono hS)
 | agg cs vs hl _ ih => exact .agg cs vs hl ih
 | tup cs vs hl _ ih => exact .tup cs vs hl ih
 | loc id row off hid hrow => rw [← hV id hid]; exact .loc id row off (by omega) (by rw [hV id hid]; exact hrow)
 | own id hid => rw [← hV id hid]; exact .own id (by omega)
 | view id lo n hid hrow => rw [← hV id hid]; exact .view id lo n (by omega) (by rw [hV id hid]; exact hrow)
 | fn f cs vs hl _ ih => exact .fn f cs vs hl ih

def upd (s : Nat → AV) (d : Nat) (c : AV) : Nat → AV := fun j => match Nat.beq j d with
 | true => c
 | false => s j
theorem us1 (s : Nat → AV) (d : Nat) (c : AV) : upd s d c d = c := by simp [upd]
theorem uo (s : Nat → AV) {d j : Nat} (c : AV) (h : j ≠ d) : upd s d c j = s j := by
 have : Nat.beq j d = false := by
  cases e : Nat.beq j d with
  | true => exact absurd (Nat.eq_of_beq_eq_true e) h
  | false => rfl
 simp [upd, this]
structure St where
 s : Nat → AV
 h : List (Option LB)
def St.put (st : St) (d : Nat) (c : AV) : St := ⟨upd st.s d c, st.h⟩

structure Kept (M : Nat → Prop) (w w' : World) : Prop where
 os : w'.os = w.os
 tape : w'.tape = w.tape
 output : w'.output = w.output
 size : w.heap.size ≤ w'.heap.size
 block : ∀ k, k < w.heap.size → ¬ M k → w'.heap[k]? = w.heap[k]?
theorem Kept.refl (M : Nat → Prop) (w : World) : Kept M w w := ⟨rfl, rfl, rfl, Nat.le_refl _, fun _ _ _ => rfl⟩
theorem Kept.below {M : Nat → Prop} {w w1 w2 : World} (h : Kept M w w1) (k : Below w1.heap.size w1 w2) : Kept M w w2 :=
 ⟨k.os.trans h.os, k.tape.trans h.tape, k.output.trans h.output, Nat.le_trans h.size k.size, fun i hi hm => (k.block i (Nat.lt_of_lt_of_le hi h.size)).trans (h.block i hi hm)⟩
def Stb (A : Nat → Prop) (w : World) (h : List (Option LB)) (V : Nat → Info) (b : Nat) : Prop := A b ∧ b < w.heap.size ∧ ∀ id lb, h[id]? = some (some lb) → (V id).blk ≠ b

structure BlkR (w : World) (S : Nat → Prop) (V : Nat → Info) (N : Nat) (I : Info) (lb : LB) (cur : Array Value) : Prop where
 sz : I.sz = lb.sz
 ln : I.len = lb.len
 heap : ∃ fr, w.heap[I.blk]? = some (.cells cur lb.ty fr) ∧ FrOk lb.mk cur.size fr
 cell : ∀ (k j : Nat) (c : AV), k < lb.len → (lb.rows k)[j]? = some c → ∃ x, cur[k * lb.sz + j]? = some x ∧ x.oneCell' = true ∧ R w S V N c x
 still : lb.isArr = true → ∀ (k j : Nat) (c : AV) (x : Value), k < lb.len → (lb.rows k)[j]? = some c → cur[k * lb.sz + j]? = some x → Rt w S c x
 box : lb.isArr = false → cur.size = lb.len * lb.sz
 own : lb.isArr = true → ∃ cap, I.val = .slice (some ⟨I.blk, 0, none⟩) lb.len cap ∧ lb.len ≤ cap ∧ cap ≤ maxLen ∧ cur.size = cap * lb.sz ∧ lb.len ≤ bL

theorem BlkR.mono {w w' : World} {S S' : Nat → Prop} {V V' : Nat → Info} {N N' : Nat} {I : Info} {lb : LB} {cur : Array Value} (h : BlkR w S V N I lb cur)
  (hS : ∀ b, S b → S' b ∧ w'.heap[b]? = w.heap[b]?) (hV : ∀ i, i < N → V' i = V i) (hN : N ≤ N') (hb : w'.heap[I.blk]? = w.heap[I.blk]?) : BlkR w' S' V' N' I lb cur :=
 ⟨h.sz, h.ln, let ⟨fr, g1, g2⟩ := h.heap; ⟨fr, hb.trans g1, g2⟩, fun k j c h1 h2 => let ⟨x, e1, e2, e3⟩ := h.cell k j c h1 h2; ⟨x, e1, e2, e3.mono hS hV hN⟩, fun ha k j c x h1 h2 h3 => (h.still ha k j c x h1 h2 h3).mono hS, h.box, h.own⟩

structure HR (w0 : World) (M A : Nat → Prop) (V : Nat → Info) (h : List (Option LB)) (w : World) : Prop where
 inj : ∀ i j li lj, h[i]? = some (some li) → h[j]? = some (some lj) → i ≠ j → (V i).blk ≠ (V j).blk
 blk : ∀ id lb, h[id]? = some (some lb) → ∃ cur, BlkR w (Stb A w h V) V h.length (V id) lb cur
 mine : ∀ id lb, h[id]? = some (some lb) → (V id).blk < w0.heap.size → M (V id).blk

structure Ctx where
 n : Nat
 w0 : World
 M : Nat → Prop
 V0 : Nat → Info
 N0 : Nat
 A : Nat → Prop
 hA : ∀ b, w0.heap.size ≤ b → A b
 GB : Nat → Prop
 hGB : ∀ b, GB b → b < w0.heap.size ∧ ¬ M b
 hAG : ∀ b, GB b → A b
 hAM : ∀ b, M b → A b
 laid : Lw GB w0

structure SRV (C : Ctx) (V : Nat → Info) (st : St) (a : Act) (w : World) : Prop where
 size : a.tmps.size = C.n
 defers : a.defers = []
 kept : Kept C.M C.w0 w
 long : C.N0 ≤ st.h.length
 agree : ∀ i, i < C.N0 → V i = C.V0 i
 hr : HR C.w0 C.M C.A V st.h w
 slots : ∀ t, R w (Stb C.A w st.h V) V st.h.length (st.s t) (a.tmps.getD t undef)

theorem SRV.put {C : Ctx} {V st a w} (h : SRV C V st a w) {d : Nat} {c : AV} {x : Value} (hr : R w (Stb C.A w st.h V) V st.h.length c x) : SRV C V (st.put d c) (a.put (some d) x) w ∨ C.n ≤ d := by
 by_cases hd : d < C.n
 ·refine .inl ⟨by simp [Act.put, h.size], h.defers, h.kept, h.long, h.agree, h.hr, fun t => ?_⟩
  by_cases ht : t = d
  ·subst ht
   simp only [St.put, us1, Act.put]
   have : (a.tmps.setIfInBounds t x).getD t undef = x := by
    simp [Array.getD_eq_getD_getElem?, h.size, hd]
   rw [this]; exact hr
  ·simp only [St.put, uo _ _ ht, Act.put]
   have : (a.tmps.setIfInBounds d x).getD t undef = a.tmps.getD t undef := by
    simp [Array.getD_eq_getD_getElem?, Ne.symm ht]
   rw [this]; exact h.slots t
 ·exact .inr (by omega)

theorem SRV.retell {C : Ctx} {V st a w} (h : SRV C V st a w) {d : Nat} {c : AV} (hr : R w (Stb C.A w st.h V) V st.h.length c (a.tmps.getD d undef)) : SRV C V (st.put d c) a w := by
 refine ⟨h.size, h.defers, h.kept, h.long, h.agree, h.hr, fun t => ?_⟩
 by_cases ht : t = d
 ·subst ht; simp only [St.put, us1]; exact hr
 ·simp only [St.put, uo _ _ ht]; exact h.slots t

theorem SRV.step {C : Ctx} {V st a w} (h : SRV C V st a w) {w' : World} {V' : Nat → Info} {h' : List (Option LB)}
  (hk : Kept C.M C.w0 w') (hr : HR C.w0 C.M C.A V' h' w') (hS : ∀ b, Stb C.A w st.h V b → Stb C.A w' h' V' b ∧ w'.heap[b]? = w.heap[b]?) (hV : ∀ i, i < st.h.length → V' i = V i) (hN : st.h.length ≤ h'.length) :
  SRV C V' ⟨st.s, h'⟩ a w' :=
 ⟨h.size, h.defers, hk, Nat.le_trans h.long hN, fun i hi => (hV i (Nat.lt_of_lt_of_le hi h.long)).trans (h.agree i hi), hr, fun t => (h.slots t).mono hS hV hN⟩

theorem HR.lt {w0 : World} {M A V h w} (hr : HR w0 M A V h w) {id : Nat} {lb : LB} (hl : h[id]? = some (some lb)) : (V id).blk < w.heap.size := by
 obtain ⟨cur, hc⟩ := hr.blk id lb hl
 exact (Array.getElem?_eq_some_iff.1 hc.heap.choose_spec.1).1

theorem SRV.notGB {C : Ctx} {V st a w} (h : SRV C V st a w) {id : Nat} {lb : LB} (hl : st.h[id]? = some (some lb)) : ¬ C.GB (V id).blk := fun hg =>
 (C.hGB _ hg).2 (h.hr.mine id lb hl (C.hGB _ hg).1)
theorem SRV.laid {C : Ctx} {V st a w} (h : SRV C V st a w) : Lw C.GB w :=
 Lw_mono C.laid (fun b hb => (C.hGB b hb).1) (fun b hb => h.kept.block b (C.hGB b hb).1 (C.hGB b hb).2) h.kept.size h.kept.os h.kept.tape
theorem SRV.stbGB {C : Ctx} {V st a w} (h : SRV C V st a w) {b : Nat} (hb : C.GB b) : Stb C.A w st.h V b :=
 ⟨C.hAG b hb, Nat.lt_of_lt_of_le (C.hGB b hb).1 h.kept.size, fun _ _ hl e => h.notGB hl (e ▸ hb)⟩

theorem SRV.inA {C : Ctx} {V st a w} (h : SRV C V st a w) {id : Nat} {lb : LB} (hl : st.h[id]? = some (some lb)) : C.A (V id).blk := by
 rcases Nat.lt_or_ge (V id).blk C.w0.heap.size with hlt | hge
 ·exact C.hAM _ (h.hr.mine id lb hl hlt)
 ·exact C.hA _ hge

theorem SRV.below {C : Ctx} {V st a w} (h : SRV C V st a w) {w' : World} (hb : Below w.heap.size w w') : SRV C V st a w' := by
 have hS : ∀ b, Stb C.A w st.h V b → Stb C.A w' st.h V b ∧ w'.heap[b]? = w.heap[b]? := fun b hs => ⟨⟨hs.1, Nat.lt_of_lt_of_le hs.2.1 hb.size, hs.2.2⟩, hb.block b hs.2.1⟩
 refine h.step (h.kept.below hb) ⟨h.hr.inj, fun id lb hl => ?_, h.hr.mine⟩ hS (fun _ _ => rfl) (Nat.le_refl _)
 obtain ⟨cur, hc⟩ := h.hr.blk id lb hl
 exact ⟨cur, hc.mono hS (fun _ _ => rfl) (Nat.le_refl _) (hb.block _ (h.hr.lt hl))⟩

def updV (V : Nat → Info) (i : Nat) (I : Info) : Nat → Info := fun j => if j = i then I else V j

theorem getElem?_snoc_some {h : List (Option LB)} {b : Option LB} {id : Nat} {lb : LB} (e : (h ++ [b])[id]? = some (some lb)) : (id < h.length ∧ h[id]? = some (some lb)) ∨ (id = h.length ∧ b = some lb) := by
 rcases Nat.lt_trichotomy id h.length with hl | hl | hl
 ·rw [List.getElem?_append_left hl] at e; exact .inl ⟨hl, e⟩
 ·subst hl; simp at e; exact .inr ⟨rfl, e⟩
 ·rw [List.getElem?_append_right (by omega)] at e
  rw [List.getElem?_eq_none (by simp; omega)] at e
  cases e

theorem SRV.alloc {C : Ctx} {V st a w} (h : SRV C V st a w) (I : Info) (lb : LB) (cur : Array Value) (hI : I.blk = w.heap.size)
  (hb : ∀ S' V' N', (∀ b, Stb C.A w st.h V b → S' b) → (∀ i, i < st.h.length → V' i = V i) → st.h.length ≤ N' → BlkR (w.alloc (.cells cur lb.ty)) S' V' N' I lb cur) :
  SRV C (updV V st.h.length I) ⟨st.s, st.h ++ [some lb]⟩ a (w.alloc (.cells cur lb.ty)) := by
 have hbel : Below w.heap.size w (w.alloc (.cells cur lb.ty)) := (Below.refl _ _).alloc (Nat.le_refl _) _
 have hV : ∀ i, i < st.h.length → updV V st.h.length I i = V i := fun i hi => by simp [updV]; omega
 have hlive : ∀ id l, (st.h ++ [some lb])[id]? = some (some l) → (id < st.h.length ∧ st.h[id]? = some (some l)) ∨ (id = st.h.length ∧ lb = l) := fun id l e => by
  rcases getElem?_snoc_some e with h1 | ⟨h1, h2⟩
  ·exact .inl h1
  ·exact .inr ⟨h1, by simpa using h2⟩
 have hS : ∀ b, Stb C.A w st.h V b → Stb C.A (w.alloc (.cells cur lb.ty)) (st.h ++ [some lb]) (updV V st.h.length I) b ∧ (w.alloc (.cells cur lb.ty)).heap[b]? = w.heap[b]? := fun b hs => by
  refine ⟨⟨hs.1, Nat.lt_of_lt_of_le hs.2.1 hbel.size, fun id l e => ?_⟩, hbel.block b hs.2.1⟩
  rcases hlive id l e with ⟨h1, h2⟩ | ⟨h1, h2⟩
  ·rw [hV id h1]; exact hs.2.2 id l h2
  ·subst h1; simp only [updV, if_true, hI]; have := hs.2.1; omega
 refine h.step (h.kept.below hbel) ⟨fun i j li lj hi hj hne => ?_, fun id l e => ?_, fun id l e hlt => ?_⟩ hS hV (by simp)
 ·rcases hlive i li hi with ⟨h1, h2⟩ | ⟨h1, h2⟩ <;> rcases hlive j lj hj with ⟨h3, h4⟩ | ⟨h3, h4⟩
  ·rw [hV i h1, hV j h3]; exact h.hr.inj i j li lj h2 h4 hne
  ·subst h3; rw [hV i h1]; simp only [updV, if_true, hI]; have := h.hr.lt h2; omega
  ·subst h1; rw [hV j h3]; simp only [updV, if_true, hI]; have := h.hr.lt h4; omega
  ·omega
 ·rcases hlive id l e with ⟨h1, h2⟩ | ⟨h1, h2⟩
  ·obtain ⟨c, hc⟩ := h.hr.blk id l h2
   rw [hV id h1]
   exact ⟨c, hc.mono hS hV (by simp) (hbel.block _ (h.hr.lt h2))⟩
  ·subst h1 h2
   refine ⟨cur, ?_⟩
   have e1 : updV V st.h.length I st.h.length = I := by simp [updV]
   rw [e1]
   exact hb _ _ _ (fun b hs => (hS b hs).1) hV (by simp)
 ·rcases hlive id l e with ⟨h1, h2⟩ | ⟨h1, h2⟩
  ·rw [hV id h1] at hlt ⊢; exact h.hr.mine id l h2 hlt
  ·subst h1
   have e1 : updV V st.h.length I st.h.length = I := by simp [updV]
   rw [e1, hI] at hlt
   have := h.kept.size
   omega

theorem SRV.write {C : Ctx} {V st a w} (h : SRV C V st a w) {id : Nat} {lb lb' : LB} (hl : st.h[id]? = some (some lb)) {w' : World} {cur' : Array Value} (hos : w'.os = w.os) (htape : w'.tape = w.tape) (hout : w'.output = w.output) (hsize : w'.heap.size = w.heap.size)
  (hother : ∀ k, k ≠ (V id).blk → w'.heap[k]? = w.heap[k]?)
  (hb : (∀ b, Stb C.A w st.h V b → Stb C.A w' (st.h.set id (some lb')) V b ∧ w'.heap[b]? = w.heap[b]?) → BlkR w' (Stb C.A w' (st.h.set id (some lb')) V) V st.h.length (V id) lb' cur') :
  SRV C V ⟨st.s, st.h.set id (some lb')⟩ a w' := by
 have hid : id < st.h.length := (List.getElem?_eq_some_iff.1 hl).1
 have hlive : ∀ i l, (st.h.set id (some lb'))[i]? = some (some l) → (i = id ∧ lb' = l) ∨ (i ≠ id ∧ st.h[i]? = some (some l)) := fun i l e => by
  rw [List.getElem?_set] at e
  by_cases hi : id = i
  ·subst hi; simp [hid] at e; exact .inl ⟨rfl, e⟩
  ·rw [if_neg hi] at e; exact .inr ⟨fun e => hi e.symm, e⟩
 have hlive' : ∀ i l, (st.h.set id (some lb'))[i]? = some (some l) → ∃ l', st.h[i]? = some (some l') := fun i l e => by
  rcases hlive i l e with ⟨h1, _⟩ | ⟨_, h2⟩
  ·subst h1; exact ⟨lb, hl⟩
  ·exact ⟨l, h2⟩
 have hS : ∀ b, Stb C.A w st.h V b → Stb C.A w' (st.h.set id (some lb')) V b ∧ w'.heap[b]? = w.heap[b]? := fun b hs =>
  ⟨⟨hs.1, by rw [hsize]; exact hs.2.1, fun i l e => let ⟨l', e'⟩ := hlive' i l e; hs.2.2 i l' e'⟩, hother b (fun e => hs.2.2 id lb hl e.symm)⟩
 have hk : Kept C.M C.w0 w' := ⟨hos.trans h.kept.os, htape.trans h.kept.tape, hout.trans h.kept.output, by rw [hsize]; exact h.kept.size, fun k hk hm => by
  rw [hother k (fun e => hm (e ▸ h.hr.mine id lb hl (e ▸ hk)))]; exact h.kept.block k hk hm⟩
 refine h.step hk ⟨fun i j li lj hi hj hne => ?_, fun i l e => ?_, fun i l e hlt => ?_⟩ hS (fun _ _ => rfl) (by simp)
 ·obtain ⟨l1, e1⟩ := hlive' i li hi
  obtain ⟨l2, e2⟩ := hlive' j lj hj
  exact h.hr.inj i j l1 l2 e1 e2 hne
 ·rcases hlive i l e with ⟨h1, h2⟩ | ⟨h1, h2⟩
  ·subst h1 h2; exact ⟨cur', by simpa using hb hS⟩
  ·obtain ⟨c, hc⟩ := h.hr.blk i l h2
   refine ⟨c, hc.mono hS (fun _ _ => rfl) (by simp) (hother _ (h.hr.inj i id l lb h2 hl h1))⟩
 ·obtain ⟨l1, e1⟩ := hlive' i l e
  exact h.hr.mine i l1 e1 hlt

theorem SRV.drop {C : Ctx} {V st a w} (h : SRV C V st a w) (id : Nat) : SRV C V ⟨st.s, st.h.set id none⟩ a w := by
 have hlive : ∀ i l, (st.h.set id none)[i]? = some (some l) → st.h[i]? = some (some l) := fun i l e => by
  rw [List.getElem?_set] at e
  by_cases hi : id = i
  ·rw [if_pos hi] at e; split at e <;> simp at e
  ·rw [if_neg hi] at e; exact e
 have hS : ∀ b, Stb C.A w st.h V b → Stb C.A w (st.h.set id none) V b ∧ w.heap[b]? = w.heap[b]? := fun b hs => ⟨⟨hs.1, hs.2.1, fun i l e => hs.2.2 i l (hlive i l e)⟩, rfl⟩
 refine h.step h.kept ⟨fun i j li lj hi hj hne => h.hr.inj i j li lj (hlive i li hi) (hlive j lj hj) hne, fun i l e => ?_, fun i l e hlt => h.hr.mine i l (hlive i l e) hlt⟩ hS (fun _ _ => rfl) (by simp)
 obtain ⟨c, hc⟩ := h.hr.blk i l (hlive i l e)
 exact ⟨c, hc.mono hS (fun _ _ => rfl) (by simp) rfl⟩
end Go.Proofs.YtaobinhdnklojaaGreatDoor
namespace Go.Proofs.YtaobinhdnklojaaGreatDoor
open Go.RowKit

structure TI where
 cod : Option Ty
 size : Nat
 bytes : Nat
 agg : Bool
 offs : List (Nat × Nat × Bool)
 elem : Nat
 zero : Value
 kind : Option IntKind
 str : Bool
 arr : Nat × Nat

inductive CK where
 | i (k : IntKind)
 | b
 | s
def CK.fits (k : CK) (x : Value) : Prop :=
 match k with
 | .i k => ∃ n, x = .int k n
 | .b => ∃ b, x = .bool b
 | .s => ∃ s, x = .string s
def CK.fitsL : List CK → List Value → Prop
 | [], [] => True
 | k :: ks, x :: xs => k.fits x ∧ CK.fitsL ks xs
 | _, _ => False
def ckTy : Ty → Option CK
 | .int k => some (.i k)
 | .bool => some .b
 | .str => some .s
 | _ => none
def cksTy : List Ty → Option (List CK)
 | [] => some []
 | t :: ts => match ckTy t with
   | some k => match cksTy ts with
     | some ks => some (k :: ks)
     | none => none
   | none => none
def ckOf (o : Option Ty) : Option (List CK) :=
 match o with
 | some (.st fs) => cksTy fs
 | _ => none
def eqV1 (x y : Value) : Bool :=
 match x, y with
 | .int _ a, .int _ b => decide (a = b)
 | .bool a, .bool b => a == b
 | .string a, .string b => decide (a = b)
 | _, _ => true
def eqVs : List Value → List Value → Bool
 | x :: xs, y :: ys => eqV1 x y && eqVs xs ys
 | _, _ => true
def EqOk (P : Program) (t : Nat) (ks : List CK) : Prop :=
 P.eqGuardType P.depth t = false ∧ ∀ (xs ys : Array Value), CK.fitsL ks xs.toList → CK.fitsL ks ys.toList → ∀ w, (Op.equalIn 10000 t (.agg xs) (.agg ys)).run P w = .ok (eqVs xs.toList ys.toList) w

structure TIok (P : Program) (t : Nat) (i : TI) : Prop where
 size : ∀ w, (sizeOf t).run P w = .ok i.size w
 agg : ∀ w, (isAgg t).run P w = .ok i.agg w
 zero : ∀ w, (zeroValue t).run P w = .ok i.zero w
 offs : ∀ (f o s : Nat) (g : Bool), i.offs[f]? = some (o, s, g) → ∃ (fs : Array Field) (fd : Field), P.underlying t = some (.struct fs) ∧ fs[f]? = some fd ∧ fd.offset = o ∧ (∀ w, (sizeOf fd.type).run P w = .ok s w) ∧ 0 < s ∧ (∀ w, (isAgg fd.type).run P w = .ok g w)
 elem : i.elem ≠ 0 → P.underlying t = some (.slice i.elem)
 kind : ∀ k, i.kind = some k → P.underlying t = some (.int k)
 str : i.str = true → P.underlying t = some .string
 bool : ∀ b, i.zero = .bool b → P.underlying t = some .bool
 places : i.offs.isEmpty = false → ∃ fs : Array Field, P.underlying t = some (.struct fs) ∧ fs.toList.mapM (fun f => (P.info? f.type).map fun j => (f.offset, j.size)) = some (i.offs.map fun x => (x.1, x.2.1))
 one : i.agg = false → i.size = 1
 info : ∃ ti, P.info? t = some ti ∧ ti.zero = some i.zero ∧ ti.size = i.size ∧ ti.bytes = i.bytes
 eqs : ∀ ks, ckOf i.cod = some ks → EqOk P t ks
 arr : Nat.beq i.arr.1 0 = false → P.underlying t = some (.array i.arr.1 i.arr.2)

def Ob (p : Prop) : Prop := p
theorem Ob.out {p : Prop} (h : Ob p) : p := h
theorem Ob.mk {p : Prop} (h : p) : Ob p := h

def TOk (P : Program) (T : Nat → Option TI) : Prop := ∀ t i, T t = some i → TIok P t i

def VDoes (P : Program) (o : Oper) (st : St) (K : AV → Prop) : Prop :=
 ∀ C V a w, SRV C V st a w → ∃ c x, K c ∧ R w (Stb C.A w st.h V) V st.h.length c x ∧ ∀ w', Below w.heap.size w w' → (execOp a.eval o).run P w' = .ok (.value x) w'
def VDoesW (P : Program) (o : Oper) (st : St) (K : AV → Prop) : Prop :=
 ∀ C V a w, SRV C V st a w → ∃ c x, K c ∧ R w (Stb C.A w st.h V) V st.h.length c x ∧ ∀ w', (execOp a.eval o).run P w' = .ok (.value x) w'
theorem VDoesW.to {P : Program} {o : Oper} {st : St} {K : AV → Prop} (h : VDoesW P o st K) : VDoes P o st K := fun C V a w hs =>
 let ⟨c, x, h1, h2, h3⟩ := h C V a w hs
 ⟨c, x, h1, h2, fun w' _ => h3 w'⟩

def AV.ofV : Value → AV
 | .agg cs => .agg (cs.toList.map .v)
 | x => .v x
def St.ev (st : St) : Operand → AV
 | .tmp t => st.s t
 | .const x => AV.ofV x
 | .func f => .fn f []
 | .global g => match gval g with
   | some vs => .bptr (vs.map .v) 0
   | none => .any

theorem SRV.ev {C : Ctx} {V st a w} (h : SRV C V st a w) (x : Operand) : R w (Stb C.A w st.h V) V st.h.length (st.ev x) (a.eval x) := by
 cases x with
 | tmp t => exact h.slots t
 | const x =>
   cases x with
   | agg cs => exact .imm _ _ (.agg _ cs (by simp) fun i c x h1 h2 => by
     simp only [List.getElem?_map, Array.getElem?_toList, h2, Option.map_some, Option.some.injEq] at h1
     subst h1; exact .v x)
   | _ => exact .imm _ _ (.v _)
 | func f => exact .imm _ _ (.fn f [] #[] rfl (by simp))
 | global g =>
   show R w _ V st.h.length (match gval g with | some vs => AV.bptr (vs.map .v) 0 | none => AV.any) _
   split
   ·rename_i vs e
    obtain ⟨hg, hc⟩ := Lw_gval h.laid e
    have key : ∀ (j : Nat) (c : AV), (vs.map AV.v)[j]? = some c → ∃ x, vs[j]? = some x ∧ c = .v x := fun j c hj => by
     rw [List.getElem?_map] at hj
     cases hx : vs[j]? with
     | none => rw [hx] at hj; cases hj
     | some x => rw [hx] at hj; cases hj; exact ⟨x, rfl, rfl⟩
    refine .imm _ _ (.bptr (vs.map .v) 0 g 0 (fun j => (vs[j]?).getD undef) (h.stbGB hg) (fun j c hj => ?_) (fun j c hj => ?_))
    ·obtain ⟨x, e1, rfl⟩ := key j c hj
     rw [Nat.zero_add, e1]
     exact hc j x e1
    ·obtain ⟨x, e1, rfl⟩ := key j c hj
     rw [e1]
     exact .v x
   ·exact .imm _ _ (.any _)

theorem R.v_inv {w S V N x y} (h : R w S V N (.v x) y) : y = x := by
 cases h with
 | imm _ _ h => cases h; rfl

theorem SRV.evv {C : Ctx} {V st a w} (h : SRV C V st a w) {x : Operand} {v : Value} (e : st.ev x = .v v) : a.eval x = v := R.v_inv (e ▸ h.ev x)

section
variable {P : Program} {o : Oper} {st : St} {K : AV → Prop}

theorem vdoes_same (x : Operand) (ho : o.op = .move x ∨ o.op = .assign x) (hk : K (st.ev x)) : VDoes P o st K := by
 intro C V a w h
 refine ⟨st.ev x, a.eval x, hk, h.ev x, fun w' _ => ?_⟩
 rcases ho with ho | ho <;> simp [execOp, ho]

theorem vdoes_pick (c x y : Operand) (b : Bool) (ho : o.op = .pick c x y) (hc : st.ev c = .v (.bool b)) (hk : K (if b then st.ev x else st.ev y)) : VDoes P o st K := by
 intro C V a w h
 have e := h.evv hc
 refine ⟨_, if b then a.eval x else a.eval y, hk, by cases b <;> exact h.ev _, fun w' _ => ?_⟩
 simp [execOp, ho, e, asBool]

theorem vp (x : Value) (hrun : ∀ C V a w, SRV C V st a w → ∀ w', (execOp a.eval o).run P w' = .ok (.value x) w') (hk : K (.v x)) : VDoes P o st K :=
 fun C V a w h => ⟨.v x, x, hk, .imm _ _ (.v x), fun w' _ => hrun C V a w h w'⟩


def AV.b? : AV → Option Bool
 | .bl b => some b
 | .v (.bool b) => some b
 | _ => none
theorem b_inv {c : AV} {b : Bool} (h : c.b? = some b) {w S V N y} (hr : R w S V N c y) : y = .bool b := by
 unfold AV.b? at h
 split at h
 ·cases h
  cases hr with
  | imm _ _ h => cases h; rfl
 ·cases h; exact hr.v_inv
 ·cases h
def isBoolT (i : Option TI) (p : Prop) : Prop :=
 match i with
 | some ⟨_, _, _, _, _, _, .bool _, _, _, _⟩ => p
 | _ => False
def evBB (i : Option TI) (op : BinOp) (x y : Option Bool) (K : AV → Prop) : Prop :=
 match op, x, y with
 | .eql, some a, some b => isBoolT i (K (.bl (a == b)))
 | .neq, some a, some b => isBoolT i (K (.bl (!(a == b))))
 | _, _, _ => False
def evBin (i : Option TI) (op : BinOp) (x y : AV) (K : AV → Prop) : Prop :=
 match op, x, y with
 | .add, .v (.int k a), .v (.int k' b) => k = k' ∧ K (.v (.int k (k.wrap (a + b))))
 | .sub, .v (.int k a), .v (.int k' b) => k = k' ∧ K (.v (.int k (k.wrap (a - b))))
 | .mul, .v (.int k a), .v (.int k' b) => k = k' ∧ K (.v (.int k (k.wrap (a * b))))
 | .quo, .v (.int k a), .v (.int k' b) => k = k' ∧ Ob (b ≠ 0) ∧ K (.v (.int k (k.wrap (a.tdiv b))))
 | .rem, .v (.int k a), .v (.int k' b) => k = k' ∧ Ob (b ≠ 0) ∧ K (.v (.int k (a.tmod b)))
 | .lss, .v (.int k a), .v (.int k' b) => k = k' ∧ K (.bl (decide (a < b)))
 | .leq, .v (.int k a), .v (.int k' b) => k = k' ∧ K (.bl (decide (a ≤ b)))
 | .gtr, .v (.int k a), .v (.int k' b) => k = k' ∧ K (.bl (decide (b < a)))
 | .geq, .v (.int k a), .v (.int k' b) => k = k' ∧ K (.bl (decide (b ≤ a)))
 | .eql, .v (.int k a), .v (.int k' b) => k = k' ∧ K (.bl (decide (a = b)))
 | .neq, .v (.int k a), .v (.int k' b) => k = k' ∧ K (.bl (!decide (a = b)))
 | .and, .v (.int k a), .v (.int k' b) => k = k' ∧ K (.v (.int k (k.wrap (BitVec.ofInt k.bits a &&& BitVec.ofInt k.bits b).toNat)))
 | .shr, .v (.int k a), .v (.int _ b) => Ob (0 ≤ b) ∧ K (.v (.int k (a.fdiv (2 ^ min b.toNat k.bits))))
 | .eql, .v (.string a), .v (.string b) => K (.bl (decide (a = b)))
 | .neq, .v (.string a), .v (.string b) => K (.bl (!decide (a = b)))
 | .lss, .v (.string a), .v (.string b) => K (.bl (Op.bytesLess a.toList b.toList))
 | .add, .v (.string a), .v (.string b) => Ob (a.size + b.size ≤ 9223372036854775807) ∧ K (.v (.string (a ++ b)))
 | op, x, y => evBB i op x.b? y.b? K

theorem toList_ne {a b : ByteArray} (h : a ≠ b) : (a.toList == b.toList) = false := by
 rw [beq_eq_false_iff_ne, ByteArray.toList_eq, ByteArray.toList_eq]
 exact fun e => h (ByteArray.ext (Array.toList_inj.mp e))

theorem rb {op : BinOp} {t : TypeId} {x y : Operand} {a b r : Value} {w : World} (hg : (eqGuard op t x y a b).run P w = .ok () w) (h : (binOp op t a b).run P w = .ok r w) :
  (do eqGuard op t x y a b; binOp op t a b : Sem Value).run P w = .ok r w := by
 simp [hg, h]

theorem gi (op : BinOp) (t : TypeId) (x y : Operand) (k k' : IntKind) (a b : Int) (w : World) : (eqGuard op t x y (.int k a) (.int k' b)).run P w = .ok () w := by
 unfold eqGuard; cases op <;> simp
theorem gs1 (op : BinOp) (t : TypeId) (x y : Operand) (a b : ByteArray) (w : World) : (eqGuard op t x y (.string a) (.string b)).run P w = .ok () w := by
 unfold eqGuard; cases op <;> simp
theorem guard_bool (op : BinOp) (t : TypeId) (x y : Operand) (a b : Bool) (w : World) : (eqGuard op t x y (.bool a) (.bool b)).run P w = .ok () w := by
 unfold eqGuard; cases op <;> simp


theorem vb2 (b : Bool) (hrun : ∀ C V a w, SRV C V st a w → ∀ w', (execOp a.eval o).run P w' = .ok (.value (.bool b)) w') (hk : K (.bl b)) : VDoes P o st K :=
 fun C V a w h => ⟨.bl b, .bool b, hk, .imm _ _ (.bl b), fun w' _ => hrun C V a w h w'⟩
theorem vb1 {op : BinOp} {t t' : TypeId} {x y : Operand} {p q : Value} (r : Value) (ho : o.op = .binOp op t x y t') (hx : st.ev x = .v p) (hy : st.ev y = .v q)
  (hrun : ∀ w, (do eqGuard op t x y p q; binOp op t p q : Sem Value).run P w = .ok r w) (hk : K (.v r)) : VDoes P o st K :=
 vp r (fun C V a w h w' => by
  have e1 := h.evv hx
  have e2 := h.evv hy
  have := hrun w'
  simp only [execOp, ho, e1, e2]
  simp only [Sem.run_bind, this, Result.andThen_ok, Sem.run_pure]) hk
theorem vb {op : BinOp} {t t' : TypeId} {x y : Operand} {p q : Value} (r : Bool) (ho : o.op = .binOp op t x y t') (hx : st.ev x = .v p) (hy : st.ev y = .v q)
  (hrun : ∀ w, (do eqGuard op t x y p q; binOp op t p q : Sem Value).run P w = .ok (.bool r) w) (hk : K (.bl r)) : VDoes P o st K :=
 vb2 r (fun C V a w h w' => by
  have e1 := h.evv hx
  have e2 := h.evv hy
  have := hrun w'
  simp only [execOp, ho, e1, e2]
  simp only [Sem.run_bind, this, Result.andThen_ok, Sem.run_pure]) hk

theorem iBTo {T : Nat → Option TI} (hT : TOk P T) {t : Nat} {p : Prop} (h : isBoolT (T t) p) : P.underlying t = some .bool ∧ p := by
 unfold isBoolT at h
 split at h
 ·rename_i e; exact ⟨(hT t _ e).bool _ rfl, h⟩
 ·exact h.elim
theorem vdoes_bb {T : Nat → Option TI} (hT : TOk P T) (op : BinOp) (t t' : TypeId) (x y : Operand) (ho : o.op = .binOp op t x y t') (hk : evBB (T t) op (st.ev x).b? (st.ev y).b? K) : VDoes P o st K := by
 unfold evBB at hk
 split at hk
 ·rename_i a b hx hy
  obtain ⟨hu, hk⟩ := iBTo hT hk
  exact vb2 _ (fun C V ac w h w' => by
   have e1 := b_inv hx (h.ev x)
   have e2 := b_inv hy (h.ev y)
   have e3 := rb (P := P) (t := t) (x := x) (y := y) (w := w') (r := .bool (a == b)) (guard_bool .eql t x y a b w') (by simp only [binOp, Sem.run_bind, run_equal_bool w' t a b hu, Result.andThen_ok, Sem.run_pure])
   simp only [execOp, ho, e1, e2]
   simp only [Sem.run_bind, e3, Result.andThen_ok, Sem.run_pure]) hk
 ·rename_i a b hx hy
  obtain ⟨hu, hk⟩ := iBTo hT hk
  exact vb2 _ (fun C V ac w h w' => by
   have e1 := b_inv hx (h.ev x)
   have e2 := b_inv hy (h.ev y)
   have e3 := rb (P := P) (t := t) (x := x) (y := y) (w := w') (r := .bool (!(a == b))) (guard_bool .neq t x y a b w') (by simp only [binOp, Sem.run_bind, run_equal_bool w' t a b hu, Result.andThen_ok, Sem.run_pure])
   simp only [execOp, ho, e1, e2]
   simp only [Sem.run_bind, e3, Result.andThen_ok, Sem.run_pure]) hk
 ·exact hk.elim
theorem str_eq (a b : ByteArray) : (a.toList == b.toList) = decide (a = b) := by
 by_cases c : a = b
 ·subst c; simp
 ·rw [toList_ne c]; simp [c]
theorem vdoes_bin {T : Nat → Option TI} (hT : TOk P T) (op : BinOp) (t t' : TypeId) (x y : Operand) (ho : o.op = .binOp op t x y t') (hk : evBin (T t) op (st.ev x) (st.ev y) K) : VDoes P o st K := by
 unfold evBin at hk
 split at hk
 case h_1 k a k' b hx hy => obtain ⟨rfl, hk⟩ := hk; exact vb1 _ ho hx hy (fun w => rb (gi ..) (by simp [binOp, Op.intArith])) hk
 case h_2 k a k' b hx hy => obtain ⟨rfl, hk⟩ := hk; exact vb1 _ ho hx hy (fun w => rb (gi ..) (by simp [binOp, Op.intArith])) hk
 case h_3 k a k' b hx hy => obtain ⟨rfl, hk⟩ := hk; exact vb1 _ ho hx hy (fun w => rb (gi ..) (by simp [binOp, Op.intArith])) hk
 case h_4 k a k' b hx hy => obtain ⟨rfl, hb, hk⟩ := hk; exact vb1 _ ho hx hy (fun w => rb (gi ..) (by simp [binOp, Op.intDiv, hb.out])) hk
 case h_5 k a k' b hx hy => obtain ⟨rfl, hb, hk⟩ := hk; exact vb1 _ ho hx hy (fun w => rb (gi ..) (by simp [binOp, Op.intDiv, hb.out])) hk
 case h_6 k a k' b hx hy => obtain ⟨rfl, hk⟩ := hk; exact vb _ ho hx hy (fun w => rb (gi ..) (by simp [binOp, Op.intCmp])) hk
 case h_7 k a k' b hx hy => obtain ⟨rfl, hk⟩ := hk; exact vb _ ho hx hy (fun w => rb (gi ..) (by simp [binOp, Op.intCmp])) hk
 case h_8 k a k' b hx hy => obtain ⟨rfl, hk⟩ := hk; exact vb _ ho hx hy (fun w => rb (gi ..) (by simp [binOp, Op.intCmp])) hk
 case h_9 k a k' b hx hy => obtain ⟨rfl, hk⟩ := hk; exact vb _ ho hx hy (fun w => rb (gi ..) (by simp [binOp, Op.intCmp])) hk
 case h_10 k a k' b hx hy => obtain ⟨rfl, hk⟩ := hk; exact vb _ ho hx hy (fun w => rb (gi ..) (by simp [binOp, Op.intCmp]; try rfl)) hk
 case h_11 k a k' b hx hy => obtain ⟨rfl, hk⟩ := hk; exact vb _ ho hx hy (fun w => rb (gi ..) (by simp [binOp, Op.intCmp]; try rfl)) hk
 case h_12 k a k' b hx hy => obtain ⟨rfl, hk⟩ := hk; exact vb1 _ ho hx hy (fun w => rb (gi ..) (by simp [binOp, Op.intBits])) hk
 case h_13 k a k' b hx hy =>
  obtain ⟨hb, hk⟩ := hk
  exact vb1 _ ho hx hy (fun w => rb (gi ..) (by
   have : ¬ b < 0 := by have := hb.out; omega
   simp [binOp, Op.shift, this])) hk
 case h_14 a b hx hy => exact vb _ ho hx hy (fun w => rb (gs1 ..) (by simp only [binOp, Op.stringOp, str_eq, Sem.run_pure])) hk
 case h_15 a b hx hy => exact vb _ ho hx hy (fun w => rb (gs1 ..) (by simp only [binOp, Op.stringOp, str_eq, Sem.run_pure])) hk
 case h_16 a b hx hy => exact vb _ ho hx hy (fun w => rb (gs1 ..) (by simp only [binOp, Op.stringOp, Sem.run_pure])) hk
 case h_17 a b hx hy =>
  obtain ⟨hs, hk⟩ := hk
  have hs := hs.out
  refine vb1 _ ho hx hy (fun w => rb (gs1 ..) ?_) hk
  have : ¬ (((a.size + b.size : Nat) : Int) > IntKind.i64.max) := by
   have : IntKind.i64.max = 9223372036854775807 := by decide
   omega
  simp only [binOp, Op.stringOp, if_neg this, Sem.run_pure]
 case h_18 => exact vdoes_bb hT _ t t' x y ho hk

def evUn (op : UnOp) (x : AV) (K : AV → Prop) : Prop :=
 match op, x with
 | .not, .v (.bool b) => K (.v (.bool !b))
 | .not, .bl b => K (.bl !b)
 | .neg, .v (.int k n) => K (.v (.int k (k.wrap (0 - n))))
 | _, _ => False
theorem vdoes_un (op : UnOp) (t : TypeId) (x : Operand) (ho : o.op = .unOp op t x) (hk : evUn op (st.ev x) K) : VDoes P o st K := by
 unfold evUn at hk
 split at hk
 ·rename_i b hx; exact vp _ (fun C V a w h w' => by simp [execOp, ho, h.evv hx, Op.unary]) hk
 ·rename_i b hx
  exact vb2 _ (fun C V a w h w' => by
   have e1 := b_inv (b := b) (by rw [hx]; rfl) (h.ev x)
   simp [execOp, ho, e1, Op.unary]) hk
 ·rename_i k n' hx; exact vp _ (fun C V a w h w' => by simp [execOp, ho, h.evv hx, Op.unary, Op.intArith]) hk
 ·exact hk.elim

def evConvI (k : Option IntKind) (str : Bool) (x : AV) (K : AV → Prop) : Prop :=
 match k, x with
 | some k, .v (.int _ n) => K (.v (.int k (k.wrap n)))
 | none, .v (.string s) => str = true ∧ K (.v (.string s))
 | _, _ => False
def evConv (src dst : Option TI) (x : AV) (K : AV → Prop) : Prop :=
 match src, dst with
 | some j, some i => (j.kind.isSome || j.str) = true ∧ evConvI i.kind i.str x K
 | _, _ => False

variable {T : Nat → Option TI}
theorem vdoes_conv (hT : TOk P T) (src dst : TypeId) (x : Operand) (ho : o.op = .convert src dst x) (hk : evConv (T src) (T dst) (st.ev x) K) : VDoes P o st K := by
 unfold evConv at hk
 split at hk
 ·rename_i j i hj hi
  obtain ⟨hs, hk⟩ := hk
  have hsrc : ∃ d, P.underlying src = some d := by
   rw [Bool.or_eq_true] at hs
   rcases hs with hs | hs
   ·obtain ⟨k, hk⟩ := Option.isSome_iff_exists.1 hs; exact ⟨_, (hT src j hj).kind k hk⟩
   ·exact ⟨_, (hT src j hj).str hs⟩
  obtain ⟨d, hd⟩ := hsrc
  unfold evConvI at hk
  split at hk
  ·rename_i k _ n hkind hx
   exact vp _ (fun C V a w h w' => by
    have hu := (hT dst i hi).kind k hkind
    cases d <;> simp [execOp, ho, h.evv hx, convert, run_underlying hd, run_underlying hu, Conv.intToInt]) hk
  ·rename_i s' _ hx
   obtain ⟨hstr, hk⟩ := hk
   exact vp _ (fun C V a w h w' => by
    have hu := (hT dst i hi).str hstr
    cases d <;> simp [execOp, ho, h.evv hx, convert, run_underlying hd, run_underlying hu]) hk
  ·exact hk.elim
 ·exact hk.elim


end
end Go.Proofs.YtaobinhdnklojaaGreatDoor
namespace Go.Proofs.YtaobinhdnklojaaGreatDoor
open Go.RowKit

section
variable {P : Program} {o : Oper} {st : St} {K : AV → Prop} {T : Nat → Option TI}

theorem R.tree_inv {w S V N t xs y} (h : R w S V N (.tree t xs) y) : Rt w S (.tree t xs) y := by
 cases h with
 | imm _ _ h => exact h
theorem R.tptr_inv {w S V N t xs row off y} (h : R w S V N (.tptr t xs row off) y) : Rt w S (.tptr t xs row off) y := by
 cases h with
 | imm _ _ h => exact h
theorem R.bptr_inv {w S V N cs off y} (h : R w S V N (.bptr cs off) y) : Rt w S (.bptr cs off) y := by
 cases h with
 | imm _ _ h => exact h
theorem R.own_inv {w S V N id y} (h : R w S V N (.own id) y) : y = (V id).val := by
 cases h with
 | imm _ _ h => cases h
 | own _ _ => rfl
theorem R.view_inv {w S V N id lo n y} (h : R w S V N (.view id lo n) y) : id < N ∧ lo + n ≤ (V id).len ∧ y = partV (V id).val (V id).sz lo n := by
 cases h with
 | imm _ _ h => cases h
 | view _ _ _ h1 h2 => exact ⟨h1, h2, rfl⟩
theorem R.loc_inv {w S V N id row off y} (h : R w S V N (.loc id row off) y) : id < N ∧ row < (V id).len ∧ y = .pointer (some ⟨(V id).blk, row * (V id).sz + off, none⟩) := by
 cases h with
 | imm _ _ h => cases h
 | loc _ _ _ h1 h2 => exact ⟨h1, h2, rfl⟩

theorem SRV.part {C : Ctx} {V st a w} (h : SRV C V st a w) {id lo n ty : Nat} {t : Ty} {xs : List t.den} {y : Value} (hlb : st.h[id]? = some (some (.arr ty t xs))) (hr : R w (Stb C.A w st.h V) V st.h.length (.view id lo n) y) :
  lo + n ≤ xs.length ∧ ∃ cap, xs.length ≤ cap ∧ cap ≤ maxLen ∧ y = .slice (some ⟨(V id).blk, if cap = lo then 0 else lo * t.n, none⟩) n (cap - lo) := by
 obtain ⟨_, h1, rfl⟩ := hr.view_inv
 obtain ⟨cur, hc⟩ := h.hr.blk id _ hlb
 obtain ⟨cap, e, h2, h3, _, _⟩ := hc.own rfl
 have e1 := hc.ln
 have e2 := hc.sz
 simp only [LB.len, LB.sz] at e1 e2 e h2
 refine ⟨by omega, cap, h2, h3, ?_⟩
 rw [e, e2]
 simp only [partV]
 by_cases hcl : cap = lo
 ·simp [hcl]
 ·simp [hcl, Addr.add_lit]

def evLenO (o : Option (Option LB)) (n : Option Nat) (K : AV → Prop) : Prop :=
 match o, n with
 | some (some (.arr _ _ xs)), none => K (.v (.int .i64 xs.length))
 | some (some (.arr _ _ _)), some n => K (.v (.int .i64 n))
 | _, _ => False
def evLenX (i : TI) (h : List (Option LB)) (x : AV) (K : AV → Prop) : Prop :=
 match x with
 | .v (.string s) => i.str = true ∧ K (.v (.int .i64 s.size))
 | .v (.slice none 0 0) => (i.elem != 0) = true ∧ K (.v (.int .i64 0))
 | .tree _ xs => (i.elem != 0) = true ∧ K (.v (.int .i64 xs.length))
 | .own id => (i.elem != 0) = true ∧ evLenO (h[id]?) none K
 | .view id _ n => (i.elem != 0) = true ∧ evLenO (h[id]?) (some n) K
 | _ => False
def evLen (i : Option TI) (h : List (Option LB)) (x : AV) (K : AV → Prop) : Prop :=
 match i with
 | some i => evLenX i h x K
 | none => False

theorem vdoes_len (hT : TOk P T) (x : Operand) (t : TypeId) (ho : o.op = .call { callee := .builtin .len, args := #[x], argTypes := #[t] }) (hk : evLen (T t) st.h (st.ev x) K) : VDoes P o st K := by
 unfold evLen at hk
 split at hk
 ·rename_i i hi
  unfold evLenX at hk
  split at hk
  ·rename_i s hx
   obtain ⟨hstr, hk⟩ := hk
   exact vp _ (fun C V a w h w' => by
    simp [execOp, ho, h.evv hx, resolve, invoke, builtin, Builtin.len_, run_underlying ((hT t i hi).str hstr), goInt]) hk
  ·rename_i hx
   obtain ⟨hel, hk⟩ := hk
   exact vp _ (fun C V a w h w' => by
    simp [execOp, ho, h.evv hx, resolve, invoke, builtin, Builtin.len_, run_underlying ((hT t i hi).elem (by simpa using hel)), goInt]) hk
  ·rename_i te xs hx
   obtain ⟨hel, hk⟩ := hk
   intro C V a w h
   have hr := (hx ▸ h.ev x).tree_inv
   generalize hv : a.eval x = v at hr
   cases hr with
   | tree _ _ ad len cap b o' X hlen hb hc hm ha hx2 hh =>
     subst hlen
     refine ⟨_, _, hk, .imm _ _ (.v _), fun w' _ => ?_⟩
     simp [execOp, ho, hv, resolve, invoke, builtin, Builtin.len_, run_underlying ((hT t i hi).elem (by simpa using hel)), goInt]
  ·rename_i id hx
   obtain ⟨hel, hk⟩ := hk
   unfold evLenO at hk
   split at hk
   ·rename_i ty te xs hlb hn
    intro C V a w h
    have hr := (hx ▸ h.ev x).own_inv
    obtain ⟨cur, hc⟩ := h.hr.blk id _ hlb
    obtain ⟨cap, e, h1, h2, h3, h4⟩ := hc.own rfl
    refine ⟨_, _, hk, .imm _ _ (.v _), fun w' _ => ?_⟩
    simp [execOp, ho, hr, e, resolve, invoke, builtin, Builtin.len_, run_underlying ((hT t i hi).elem (by simpa using hel)), goInt, LB.len]
   ·rename_i hn; cases hn
   ·exact hk.elim
  ·rename_i id lo n hx
   obtain ⟨hel, hk⟩ := hk
   unfold evLenO at hk
   split at hk
   ·rename_i hn; cases hn
   ·rename_i ty te xs n' hlb hn
    cases hn
    intro C V a w h
    obtain ⟨h1, cap, h2, h3, e⟩ := h.part hlb (hx ▸ h.ev x)
    refine ⟨_, _, hk, .imm _ _ (.v _), fun w' _ => ?_⟩
    simp [execOp, ho, e, resolve, invoke, builtin, Builtin.len_, run_underlying ((hT t i hi).elem (by simpa using hel)), goInt]
   ·exact hk.elim
  ·exact hk.elim
 ·exact hk.elim

theorem R.fn_inv {w S V N f cs y} (h : R w S V N (.fn f cs) y) : ∃ vs : Array Value, y = .func (.func f) #[] vs ∧ vs.size = cs.length ∧ ∀ (i : Nat) (c : AV) (x : Value), cs[i]? = some c → vs[i]? = some x → R w S V N c x := by
 cases h with
 | imm _ _ h =>
   cases h with
   | fn _ _ vs hl h => exact ⟨vs, rfl, hl, fun i c x h1 h2 => .imm _ _ (h i c x h1 h2)⟩
 | fn _ _ vs hl h => exact ⟨vs, rfl, hl, h⟩
theorem R.agg_inv {w S V N cs y} (h : R w S V N (.agg cs) y) : ∃ vs : Array Value, y = .agg vs ∧ vs.size = cs.length ∧ ∀ (i : Nat) (c : AV) (x : Value), cs[i]? = some c → vs[i]? = some x → R w S V N c x := by
 cases h with
 | imm _ _ h =>
   cases h with
   | agg _ vs hl h => exact ⟨vs, rfl, hl, fun i c x h1 h2 => .imm _ _ (h i c x h1 h2)⟩
 | agg _ vs hl h => exact ⟨vs, rfl, hl, h⟩
theorem R.tup_inv {w S V N cs y} (h : R w S V N (.tup cs) y) : ∃ vs : Array Value, y = .tuple vs ∧ vs.size = cs.length ∧ ∀ (i : Nat) (c : AV) (x : Value), cs[i]? = some c → vs[i]? = some x → R w S V N c x := by
 cases h with
 | imm _ _ h =>
   cases h with
   | tup _ vs hl h => exact ⟨vs, rfl, hl, fun i c x h1 h2 => .imm _ _ (h i c x h1 h2)⟩
 | tup _ vs hl h => exact ⟨vs, rfl, hl, h⟩

def evCell (c : Option AV) (K : AV → Prop) : Prop :=
 match c with
 | some c => K c
 | none => False
theorem eCs1 {c : Option AV} {K : AV → Prop} (h : evCell c K) : ∃ d, c = some d ∧ K d := by
 unfold evCell at h
 split at h
 ·exact ⟨_, rfl, h⟩
 ·exact h.elim

def eE (x : AV) (j : Nat) (K : AV → Prop) : Prop :=
 match x with
 | .tup cs => evCell (cs[j]?) K
 | _ => False
theorem vdoes_extract (x : Operand) (j : Nat) (ho : o.op = .extract x j) (hk : eE (st.ev x) j K) : VDoes P o st K := by
 unfold eE at hk
 split at hk
 ·rename_i cs hx
  obtain ⟨c, hc, hk⟩ := eCs1 hk
  intro C V a w h
  obtain ⟨vs, e, hl, hr⟩ := (hx ▸ h.ev x).tup_inv
  have hj : j < vs.size := by rw [hl]; exact (List.getElem?_eq_some_iff.1 hc).1
  refine ⟨c, vs[j], hk, hr j c _ hc (by simp [hj]), fun w' _ => ?_⟩
  simp [execOp, ho, e, Instr.extract, hj]
 ·exact hk.elim

def offOf (i : Option TI) (f : Nat) : Option (Nat × Nat × Bool) :=
 match i with
 | some i => i.offs[f]?
 | none => none
def evField (o : Option (Nat × Nat × Bool)) (x : AV) (K : AV → Prop) : Prop :=
 match o, x with
 | some (o, s, true), .agg cs => Nat.ble (o + s) cs.length = true ∧ K (.agg ((cs.drop o).take s))
 | some (o, _, false), .agg cs => evCell (cs[o]?) K
 | _, _ => False

theorem vdoes_field (hT : TOk P T) (t : TypeId) (x : Operand) (f : Nat) (ho : o.op = .field t x f) (hk : evField (offOf (T t) f) (st.ev x) K) : VDoes P o st K := by
 unfold evField at hk
 split at hk
 ·rename_i off s cs hoff hx
  obtain ⟨hle, hk⟩ := hk
  have hle := Nat.le_of_ble_eq_true hle
  unfold offOf at hoff
  split at hoff
  ·rename_i i hi
   intro C V a w h
   obtain ⟨vs, e, hl, hr⟩ := (hx ▸ h.ev x).agg_inv
   obtain ⟨fs, fd, hu, hfd, rfl, hsz, hpos, hag⟩ := (hT t i hi).offs f off s _ hoff
   refine ⟨_, .agg (vs.extract fd.offset (fd.offset + s)), hk, .agg _ _ (by simp [hl]; omega) (fun j c y h1 h2 => ?_), fun w' _ => ?_⟩
   ·rw [List.getElem?_take] at h1
    split at h1
    ·rw [List.getElem?_drop] at h1
     refine hr (fd.offset + j) c y h1 ?_
     rw [Array.getElem?_extract] at h2
     split at h2
     ·exact h2
     ·cases h2
    ·cases h1
   ·simp [execOp, ho, e, Instr.field, run_underlying hu, hfd, part, hag, asAgg, hsz]
  ·cases hoff
 ·rename_i off s cs hoff hx
  unfold offOf at hoff
  split at hoff
  ·rename_i i hi
   obtain ⟨c, hc, hk2⟩ := eCs1 hk
   intro C V a w h
   obtain ⟨vs, e, hl, hr⟩ := (hx ▸ h.ev x).agg_inv
   obtain ⟨fs, fd, hu, hfd, rfl, hsz, hpos, hag⟩ := (hT t i hi).offs f off s _ hoff
   have hj : fd.offset < vs.size := by rw [hl]; exact (List.getElem?_eq_some_iff.1 hc).1
   refine ⟨c, vs[fd.offset], hk2, hr _ c _ hc (by simp [hj]), fun w' _ => ?_⟩
   simp [execOp, ho, e, Instr.field, run_underlying hu, hfd, part, hag, asAgg, hj]
  ·cases hoff
 ·exact hk.elim


def cellsAt (h : List (Option LB)) (p : AV) : Option (List AV × Nat) :=
 match p with
 | .loc id row off => match h[id]? with
   | some (some (.box _ cs)) => some (cs, off)
   | some (some (.arr _ t xs)) => some (rowT t xs row, off)
   | _ => none
 | .tptr t xs row off => some (rowT t xs row, off)
 | .bptr cs off => some (cs, off)
 | _ => none

theorem SRV.cellsAt {C : Ctx} {V st a w} (h : SRV C V st a w) {p : AV} {x : Value} {r : List AV} {off : Nat} (hp : R w (Stb C.A w st.h V) V st.h.length p x) (hc : cellsAt st.h p = some (r, off)) :
  ∃ (b o : Nat) (X : Nat → Value), x = .pointer (some ⟨b, o + off, none⟩) ∧ b < w.heap.size ∧ ∀ j c, r[j]? = some c → w.cell? ⟨b, o + j, none⟩ = some (X j) ∧ (X j).oneCell' = true ∧ R w (Stb C.A w st.h V) V st.h.length c (X j) := by
 have key : ∀ (id row off : Nat) (lb : LB), st.h[id]? = some (some lb) → R w (Stb C.A w st.h V) V st.h.length (.loc id row off) x →
   ∃ (b o : Nat) (X : Nat → Value), x = .pointer (some ⟨b, o + off, none⟩) ∧ b < w.heap.size ∧ ∀ j c, (lb.rows row)[j]? = some c → w.cell? ⟨b, o + j, none⟩ = some (X j) ∧ (X j).oneCell' = true ∧ R w (Stb C.A w st.h V) V st.h.length c (X j) := by
  intro id row off lb hlb hp
  obtain ⟨_, hrow, rfl⟩ := hp.loc_inv
  obtain ⟨cur, hcur⟩ := h.hr.blk id _ hlb
  refine ⟨(V id).blk, row * (V id).sz, fun j => (cur[row * lb.sz + j]?).getD undef, rfl, h.hr.lt hlb, fun j c hj => ?_⟩
  obtain ⟨y, h1, h2, h3⟩ := hcur.cell row j c (by rw [← hcur.ln]; exact hrow) hj
  have e : (cur[row * lb.sz + j]?).getD undef = y := by rw [h1]; rfl
  rw [cell_of_row _ _ _ _ _ _ hcur.heap.choose_spec.1, hcur.sz]
  simp only [e]
  exact ⟨h1, h2, h3⟩
 unfold Go.Proofs.YtaobinhdnklojaaGreatDoor.cellsAt at hc
 split at hc
 ·rename_i id row off'
  split at hc
  ·rename_i ty cs hlb
   simp only [Option.some.injEq, Prod.mk.injEq] at hc
   obtain ⟨rfl, rfl⟩ := hc
   exact key id row _ _ hlb hp
  ·rename_i ty t xs hlb
   simp only [Option.some.injEq, Prod.mk.injEq] at hc
   obtain ⟨rfl, rfl⟩ := hc
   exact key id row _ _ hlb hp
  ·cases hc
 ·rename_i t xs row' off'
  simp only [Option.some.injEq, Prod.mk.injEq] at hc
  obtain ⟨rfl, rfl⟩ := hc
  cases hp.tptr_inv with
  | tptr _ _ _ _ b o X ha hrow hx hh =>
    refine ⟨b, o + row' * t.n, X row', rfl, ha.2.1, fun j c hj => ?_⟩
    obtain ⟨e1, e2⟩ := hx row' j c hrow hj
    exact ⟨e1, e2, .imm _ _ (hh row' j c hrow hj)⟩
 ·rename_i cs off'
  simp only [Option.some.injEq, Prod.mk.injEq] at hc
  obtain ⟨rfl, rfl⟩ := hc
  cases hp.bptr_inv with
  | bptr _ _ b o X ha hx hh =>
    refine ⟨b, o, X, rfl, ha.2.1, fun j c hj => ?_⟩
    obtain ⟨e1, e2⟩ := hx j c hj
    exact ⟨e1, e2, .imm _ _ (hh j c hj)⟩
 ·cases hc

def evLoadR (agg : Bool) (size : Nat) (r : List AV) (off : Nat) (K : AV → Prop) : Prop :=
 match agg with
 | true => Nat.ble (off + size) r.length = true ∧ K (.agg ((r.drop off).take size))
 | false => evCell (r[off]?) K
def evLoad (i : Option TI) (c : Option (List AV × Nat)) (K : AV → Prop) : Prop :=
 match i, c with
 | some i, some (r, off) => evLoadR i.agg i.size r off K
 | _, _ => False

theorem cell_below {w w' : World} (hb : Below w.heap.size w w') {a : Addr} {v : Value} (h : w.cell? a = some v) : w'.cell? a = some v := by
 rw [hb.cell (block_lt_of_cell h)]; exact h

theorem vdoes_load (hT : TOk P T) (t : TypeId) (x : Operand) (ho : o.op = .load t x) (hk : evLoad (T t) (cellsAt st.h (st.ev x)) K) : VDoes P o st K := by
 unfold evLoad at hk
 split at hk
 ·rename_i i r off hi hc
  intro C V a w h
  obtain ⟨b, o', X, e, hb, hcell⟩ := h.cellsAt (h.ev x) hc
  unfold evLoadR at hk
  split at hk
  ·rename_i hg
   obtain ⟨hle, hk⟩ := hk
   have hle := Nat.le_of_ble_eq_true hle
   refine ⟨_, .agg ((List.range i.size).map fun j => X (off + j)).toArray, hk, .agg _ _ (by simp; omega) (fun j c y h1 h2 => ?_), fun w' hbw => ?_⟩
   ·rw [List.getElem?_take] at h1
    split at h1
    ·rw [List.getElem?_drop] at h1
     rename_i hj
     simp [hj] at h2
     subst h2
     exact (hcell _ c h1).2.2
    ·cases h1
   ·have hl := run_loadCells (P := P) w' ⟨b, o' + off, none⟩ i.size (fun j => X (off + j)) (fun j hj => by
     have hr : off + j < r.length := by omega
     have := (hcell (off + j) _ (List.getElem?_eq_getElem hr)).1
     rw [Addr.add_lit, Nat.add_assoc]
     exact cell_below hbw this)
    simp [execOp, ho, e, Instr.loadAt, Instr.sureAddr, loadVar, (hT t i hi).agg, hg, (hT t i hi).size, hl]
  ·rename_i hg
   obtain ⟨c, hc, hk⟩ := eCs1 hk
   obtain ⟨h1, h2, h3⟩ := hcell off c hc
   refine ⟨c, X off, hk, h3, fun w' hbw => ?_⟩
   have h4 := cell_below hbw h1
   simp [execOp, ho, e, Instr.loadAt, Instr.sureAddr, loadVar, (hT t i hi).agg, hg, h4]
 ·exact hk.elim


def eFA (o : Option (Nat × Nat × Bool)) (x : AV) (K : AV → Prop) : Prop :=
 match o, x with
 | some (o, _, _), .loc id row off => K (.loc id row (off + o))
 | some (o, _, _), .tptr t xs row off => K (.tptr t xs row (off + o))
 | some (o, _, _), .bptr cs off => K (.bptr cs (off + o))
 | _, _ => False

theorem vfAW (hT : TOk P T) (t : TypeId) (x : Operand) (f : Nat) (ho : o.op = .fieldAddr t x f) (hk : eFA (offOf (T t) f) (st.ev x) K) : VDoesW P o st K := by
 have key : ∀ (off s : Nat) (g : Bool), offOf (T t) f = some (off, s, g) → ∀ (a : Act) (b p : Nat) (w' : World), a.eval x = .pointer (some ⟨b, p, none⟩) → (execOp a.eval o).run P w' = .ok (.value (.pointer (some ⟨b, p + off, none⟩))) w' := by
  intro off s g hoff a b p w' e
  unfold offOf at hoff
  split at hoff
  ·rename_i i hi
   obtain ⟨fs, fd, hu, hfd, rfl, hsz, hpos, hag⟩ := (hT t i hi).offs f off s g hoff
   have hne : s ≠ 0 := by omega
   simp [execOp, ho, e, Instr.fieldAt, run_underlying hu, hfd, Instr.sureAddr, fieldPlace, hsz, hne, Addr.add_lit]
  ·cases hoff
 unfold eFA at hk
 split at hk
 ·rename_i off s g id row off' hoff hx
  intro C V a w h
  have hr := h.ev x
  rw [hx] at hr
  obtain ⟨h1, h2, e⟩ := hr.loc_inv
  refine ⟨_, _, hk, .loc _ _ _ h1 h2, fun w' => ?_⟩
  simp [key _ _ _ hoff a _ _ w' e, Nat.add_assoc]
 ·rename_i off s g te xs row off' hoff hx
  intro C V a w h
  have hr' := (hx ▸ h.ev x).tptr_inv
  generalize hv : a.eval x = v at hr'
  cases hr' with
  | tptr _ _ _ _ b o' X ha hrow hx2 hh =>
    refine ⟨_, _, hk, .imm _ _ (.tptr te xs row (off' + off) b o' X ha hrow hx2 hh), fun w' => ?_⟩
    simp [key _ _ _ hoff a _ _ w' hv, Nat.add_assoc]
 ·rename_i off s g cs off' hoff hx
  intro C V a w h
  have hr' := (hx ▸ h.ev x).bptr_inv
  generalize hv : a.eval x = v at hr'
  cases hr' with
  | bptr _ _ b o' X ha hx2 hh =>
    refine ⟨_, _, hk, .imm _ _ (.bptr cs (off' + off) b o' X ha hx2 hh), fun w' => ?_⟩
    simp [key _ _ _ hoff a _ _ w' hv, Nat.add_assoc]
 ·exact hk.elim

def elemT (T : Nat → Option TI) (i : Option TI) : Option TI :=
 match i with
 | some i => match i.elem with
   | 0 => none
   | e + 1 => T (e + 1)
 | none => none
theorem vfA (hT : TOk P T) (t : TypeId) (x : Operand) (f : Nat) (ho : o.op = .fieldAddr t x f) (hk : eFA (offOf (T t) f) (st.ev x) K) : VDoes P o st K := (vfAW hT t x f ho hk).to
theorem eTs {i : Option TI} {te : TI} (h : elemT T i = some te) : ∃ ti, i = some ti ∧ ti.elem ≠ 0 ∧ T ti.elem = some te := by
 unfold elemT at h
 split at h
 ·rename_i i'
  split at h
  ·cases h
  ·rename_i e he; exact ⟨i', rfl, by omega, by rw [he]; exact h⟩
 ·cases h

def evIdxO (e : Nat) (o : Option (Option LB)) (id lo : Nat) (n : Option Nat) (q : Int) (K : AV → Prop) : Prop :=
 match o, n with
 | some (some (.arr _ t xs)), none => Nat.beq e t.n = true ∧ Ob (0 ≤ q ∧ q < xs.length) ∧ K (.loc id q.toNat 0)
 | some (some (.arr _ t _)), some n => Nat.beq e t.n = true ∧ Ob (0 ≤ q ∧ q < n) ∧ K (.loc id (lo + q.toNat) 0)
 | _, _ => False
def eIA (e : Option TI) (h : List (Option LB)) (x i : AV) (K : AV → Prop) : Prop :=
 match e, x, i with
 | some e, .tree t xs, .v (.int _ q) => Nat.beq e.size t.n = true ∧ Ob (0 ≤ q ∧ q < xs.length) ∧ K (.tptr t xs q.toNat 0)
 | some e, .own id, .v (.int _ q) => evIdxO e.size (h[id]?) id 0 none q K
 | some e, .view id lo n, .v (.int _ q) => evIdxO e.size (h[id]?) id lo (some n) q K
 | some _, .v (.slice none _ _), .v (.int _ q) => Ob (0 ≤ q ∧ q < 0)
 | _, _, _ => False

theorem viA (hT : TOk P T) (t : TypeId) (x y : Operand) (ho : o.op = .indexAddr t x y) (hk : eIA (elemT T (T t)) st.h (st.ev x) (st.ev y) K) : VDoes P o st K := by
 unfold eIA at hk
 split at hk
 ·rename_i te tt xs k m hte hx hy
  obtain ⟨ti, hi, hel, hte⟩ := eTs hte
  have hu := (hT t ti hi).elem hel
  have hs := (hT ti.elem te hte).size
  obtain ⟨hsz, hob, hk⟩ := hk
  have hsz := Nat.eq_of_beq_eq_true hsz
  obtain ⟨h0, hm⟩ := hob.out
  intro C V a w h
  have ey := h.evv hy
  have hr' := (hx ▸ h.ev x).tree_inv
  generalize hv : a.eval x = v at hr'
  cases hr' with
  | tree _ _ ad len cap b o' X hlen hb hc hmx ha hx2 hh =>
    subst hlen
    have hne : 0 < xs.length := by omega
    obtain ⟨rfl, hS⟩ := ha hne
    refine ⟨_, _, hk, .imm _ _ (.tptr tt xs m.toNat 0 b o' X hS (by omega) hx2 hh), fun w' _ => ?_⟩
    simp [execOp, ho, hv, ey, Instr.indexAt, asIntOf, run_underlying hu, h0, hm, hs, hsz, Addr.add_lit]
 ·rename_i te id k m hte hx hy
  obtain ⟨ti, hi, hel, hte⟩ := eTs hte
  have hu := (hT t ti hi).elem hel
  have hs := (hT ti.elem te hte).size
  unfold evIdxO at hk
  split at hk
  ·rename_i ty tt xs hlb hn
   obtain ⟨hsz, hob, hk⟩ := hk
   have hsz := Nat.eq_of_beq_eq_true hsz
   obtain ⟨h0, hm⟩ := hob.out
   intro C V a w h
   have ey := h.evv hy
   have e := (hx ▸ h.ev x).own_inv
   obtain ⟨cur, hcur⟩ := h.hr.blk id _ hlb
   obtain ⟨cap, e2, h1, h2, h3, h4⟩ := hcur.own rfl
   have hsz' := hcur.sz
   have hln' := hcur.ln
   simp only [LB.sz, LB.len] at hsz' hln' e2
   refine ⟨_, _, hk, .loc _ _ _ (List.getElem?_eq_some_iff.1 hlb).1 (by rw [hln']; omega), fun w' _ => ?_⟩
   simp [execOp, ho, e, e2, ey, Instr.indexAt, asIntOf, run_underlying hu, h0, hm, hs, hsz, hsz', Addr.add_lit]
  ·rename_i hn; cases hn
  ·exact hk.elim
 ·rename_i te id lo n k m hte hx hy
  obtain ⟨ti, hi, hel, hte⟩ := eTs hte
  have hu := (hT t ti hi).elem hel
  have hs := (hT ti.elem te hte).size
  unfold evIdxO at hk
  split at hk
  ·rename_i hn; cases hn
  ·rename_i ty tt xs n' hlb hn
   cases hn
   obtain ⟨hsz, hob, hk⟩ := hk
   have hsz := Nat.eq_of_beq_eq_true hsz
   obtain ⟨h0, hm⟩ := hob.out
   intro C V a w h
   have ey := h.evv hy
   obtain ⟨hle, cap, hc1, hc2, e⟩ := h.part hlb (hx ▸ h.ev x)
   obtain ⟨cur, hcur⟩ := h.hr.blk id _ hlb
   have hsz' := hcur.sz
   have hln' := hcur.ln
   simp only [LB.sz, LB.len] at hsz' hln'
   have hne : cap ≠ lo := by omega
   refine ⟨_, _, hk, .loc _ _ _ (List.getElem?_eq_some_iff.1 hlb).1 (by rw [hln']; omega), fun w' _ => ?_⟩
   simp [execOp, ho, e, ey, Instr.indexAt, asIntOf, run_underlying hu, h0, hm, hs, hsz, hsz', Addr.add_lit, hne, Nat.add_mul]
  ·exact hk.elim
 ·have := hk.out; omega
 ·exact hk.elim

def bAt (s : ByteArray) (i : Int) : Int := ((s.data.toList.getD i.toNat 0).toNat : Int)
def strsOf : List AV → Option (List ByteArray)
 | [] => some []
 | .v (.string s) :: cs => match strsOf cs with
   | some l => some (s :: l)
   | none => none
 | _ => none
theorem sOe : ∀ {cs : List AV} {l : List ByteArray}, strsOf cs = some l → cs = l.map fun s => .v (.string s)
 | [], l, h => by simp only [strsOf, Option.some.injEq] at h; subst h; rfl
 | c :: cs, l, h => by
   unfold strsOf at h
   split at h
   ·rename_i e; cases e
   ·rename_i s cs' e
    cases e
    split at h
    ·rename_i l' e2
     simp only [Option.some.injEq] at h
     subst h
     rw [sOe e2]; rfl
    ·cases h
   ·cases h
def evIndexA (T : Nat → Option TI) (i : TI) (cs : List AV) (q : Int) (K : AV → Prop) : Prop :=
 match T i.arr.2, strsOf cs with
 | some e, some l => e.agg = false ∧ Nat.beq e.size 1 = true ∧ Nat.beq cs.length i.arr.1 = true ∧ Nat.beq i.arr.1 0 = false ∧ Ob (0 ≤ q ∧ q < (i.arr.1 : Int)) ∧ K (.v (.string (l.getD q.toNat ⟨#[]⟩)))
 | _, _ => False
def evIndex (T : Nat → Option TI) (i : Option TI) (x j : AV) (K : AV → Prop) : Prop :=
 match i, x, j with
 | some i, .agg cs, .v (.int _ q) => evIndexA T i cs q K
 | some i, .v (.string s), .v (.int _ q) => i.str = true ∧ Ob (0 ≤ q ∧ q < s.size) ∧ K (.v (.int .u8 (bAt s q)))
 | _, _, _ => False
theorem vdoes_index (hT : TOk P T) (t : TypeId) (x y : Operand) (ho : o.op = .index t x y) (hk : evIndex T (T t) (st.ev x) (st.ev y) K) : VDoes P o st K := by
 unfold evIndex at hk
 split at hk
 ·rename_i ti cs k q hi hx hy
  unfold evIndexA at hk
  split at hk
  ·rename_i e l he hl
   obtain ⟨hag, hsz, hlen, hne, hob, hk⟩ := hk
   obtain ⟨h0, hm⟩ := hob.out
   have hlen := Nat.eq_of_beq_eq_true hlen
   have hcs := sOe hl
   have hll : l.length = cs.length := by rw [hcs, List.length_map]
   have hlt : q.toNat < l.length := by omega
   intro C V a w h
   obtain ⟨vs, ex, hvl, hr⟩ := (hx ▸ h.ev x).agg_inv
   have hc : cs[q.toNat]? = some (.v (.string l[q.toNat])) := by rw [hcs, List.getElem?_map, List.getElem?_eq_getElem hlt]; rfl
   have hv : vs[q.toNat]? = some vs[q.toNat] := Array.getElem?_eq_getElem (by omega)
   have hv2 := (hr _ _ _ hc hv).v_inv
   have hgd : l.getD q.toNat ⟨#[]⟩ = l[q.toNat] := by simp [List.getD_eq_getElem?_getD, List.getElem?_eq_getElem hlt]
   refine ⟨_, .string (l.getD q.toNat ⟨#[]⟩), hk, .imm _ _ (.v _), fun w' _ => ?_⟩
   rw [hgd]
   have hu := (hT t ti hi).arr hne
   have hs := (hT _ e he).size
   have hg := (hT _ e he).agg
   rw [Nat.eq_of_beq_eq_true hsz] at hs
   rw [hag] at hg
   simp [execOp, ho, ex, h.evv hy, Instr.index, asIntOf, run_underlying hu, h0, hm, hs, part, hg, hv, hv2]
  ·exact hk.elim
 ·rename_i ti s k m hi hx hy
  obtain ⟨hstr, hob, hk⟩ := hk
  obtain ⟨h0, hm⟩ := hob.out
  refine vp _ (fun C V a w h w' => ?_) hk
  have hu := (hT t ti hi).str hstr
  have hlt : m.toNat < s.size := by omega
  have e : s[m.toNat]? = some s[m.toNat] := by simp [hlt]
  have e2 : (s.data.toList.getD m.toNat 0) = s[m.toNat] := by
   have : m.toNat < s.data.toList.length := by simpa using hlt
   simp [List.getD, List.getElem?_eq_getElem this]; rfl
  have e3 : bAt s m = (s[m.toNat].toNat : Int) := by unfold bAt; rw [e2]
  simp [execOp, ho, h.evv hx, h.evv hy, Instr.index, asIntOf, run_underlying hu, h0, e, e3]
 ·exact hk.elim

def evPick (c x y : AV) (K : AV → Prop) : Prop :=
 match c with
 | .v (.bool true) => K x
 | .v (.bool false) => K y
 | .bl b => (b = true → K x) ∧ (b = false → K y)
 | _ => False
theorem vdoes_pick' (c x y : Operand) (ho : o.op = .pick c x y) (hk : evPick (st.ev c) (st.ev x) (st.ev y) K) : VDoes P o st K := by
 unfold evPick at hk
 split at hk
 ·rename_i hc; exact vdoes_pick c x y true ho hc hk
 ·rename_i hc; exact vdoes_pick c x y false ho hc hk
 ·rename_i b hc
  intro C V a w h
  have e := b_inv (b := b) (by rw [hc]; rfl) (h.ev c)
  cases b with
  | true => exact ⟨_, a.eval x, hk.1 rfl, h.ev _, fun w' _ => by simp [execOp, ho, e, asBool]⟩
  | false => exact ⟨_, a.eval y, hk.2 rfl, h.ev _, fun w' _ => by simp [execOp, ho, e, asBool]⟩
 ·exact hk.elim

def evNil (x : AV) (K : AV → Prop) : Prop :=
 match x with
 | .loc _ _ _ => K x
 | .tptr _ _ _ _ => K x
 | .bptr _ _ => K x
 | .fn _ _ => K x
 | _ => False
theorem vdoes_nil (x : Operand) (ho : o.op = .nilCheck x) (hk : evNil (st.ev x) K) : VDoes P o st K := by
 intro C V a w h
 have hr := h.ev x
 unfold evNil at hk
 split at hk
 ·rename_i id row off hx
  obtain ⟨_, _, e⟩ := (hx ▸ hr).loc_inv
  refine ⟨_, a.eval x, hk, hr, fun w' _ => ?_⟩
  simp [execOp, ho, e]
 ·rename_i te xs row off hx
  have hr' := (hx ▸ hr).tptr_inv
  refine ⟨_, a.eval x, hk, hr, fun w' _ => ?_⟩
  generalize hv : a.eval x = v at hr'
  cases hr'
  simp [execOp, ho, hv]
 ·rename_i cs off hx
  have hr' := (hx ▸ hr).bptr_inv
  refine ⟨_, a.eval x, hk, hr, fun w' _ => ?_⟩
  generalize hv : a.eval x = v at hr'
  cases hr'
  simp [execOp, ho, hv]
 ·rename_i f cs hx
  obtain ⟨vs, e, _, _⟩ := (hx ▸ hr).fn_inv
  refine ⟨_, a.eval x, hk, hr, fun w' _ => ?_⟩
  simp [execOp, ho, e]
 ·exact hk.elim

theorem vmF (f : FuncId) (cap : Array Operand) (ho : o.op = .makeFunc (.func f) #[] cap) (hk : K (.fn f (cap.toList.map st.ev))) : VDoes P o st K := by
 intro C V a w h
 refine ⟨_, .func (.func f) #[] (cap.map a.eval), hk, .fn f _ _ (by simp) (fun i c x h1 h2 => ?_), fun w' _ => ?_⟩
 ·simp only [List.getElem?_map, Array.getElem?_map] at h1 h2
  obtain ⟨y, e1, rfl⟩ := Option.map_eq_some_iff.1 h1
  obtain ⟨z, e2, rfl⟩ := Option.map_eq_some_iff.1 h2
  have : y = z := by simpa [e2] using e1.symm
  subst this; exact h.ev y
 ·simp [execOp, ho, Instr.makeFunc]

def bnd (c : Option AV) (d : Int) : Option Int :=
 match c with
 | none => some d
 | some (.v (.int _ q)) => some q
 | _ => none
def lsub {α : Type} (xs : List α) (l h : Int) : List α := (xs.drop l.toNat).take (h - l).toNat
def bsub (s : ByteArray) (l h : Int) : ByteArray := s.extract l.toNat h.toNat
def evSliceS (s : ByteArray) (lo hi : Option Int) (K : AV → Prop) : Prop :=
 match lo, hi with
 | some l, some h => Ob (0 ≤ l ∧ l ≤ h ∧ h ≤ s.size) ∧ K (.v (.string (bsub s l h)))
 | _, _ => False
def evSliceT (e : Option TI) (t : Ty) (xs : List t.den) (lo hi : Option Int) (K : AV → Prop) : Prop :=
 match e, lo, hi with
 | some e, some l, some h => Nat.beq e.size t.n = true ∧ Ob (0 ≤ l ∧ l ≤ h ∧ h ≤ xs.length) ∧ K (.tree t (lsub xs l h))
 | _, _, _ => False
def evSliceO (e : Option TI) (o : Option (Option LB)) (id : Nat) (lo hi : Option AV) (K : AV → Prop) : Prop :=
 match e, o with
 | some e, some (some (.arr _ t xs)) => match bnd lo 0, bnd hi xs.length with
   | some l, some h => Nat.beq e.size t.n = true ∧ Ob (0 ≤ l ∧ l ≤ h ∧ h ≤ xs.length) ∧ K (.view id l.toNat (h - l).toNat)
   | _, _ => False
 | _, _ => False
def evSlice (T : Nat → Option TI) (i : Option TI) (hp : List (Option LB)) (x : AV) (lo hi : Option AV) (K : AV → Prop) : Prop :=
 match i, x with
 | some i, .v (.string s) => i.str = true ∧ evSliceS s (bnd lo 0) (bnd hi s.size) K
 | i, .tree t xs => evSliceT (elemT T i) t xs (bnd lo 0) (bnd hi xs.length) K
 | i, .own id => evSliceO (elemT T i) (hp[id]?) id lo hi K
 | _, _ => False

theorem rsB1 (k : IntKind) (n : Int) (y : Nat) (code : BoundsCode) (w : World) (h0 : 0 ≤ n) (hy : n ≤ y) : (Instr.sliceBound (.int k n) y code).run P w = .ok n.toNat w := by
 simp [Instr.sliceBound, asIntOf, h0, hy]

def BndIs (a : Act) (o : Option Operand) (d q : Int) : Prop :=
 match o with
 | none => q = d
 | some x => ∃ k, a.eval x = .int k q
theorem rsB (isSlice : Bool) (len cap : Nat) (lo hi : Option Operand) (l h : Int) (w : World) (a : Act) (hl : BndIs a lo 0 l) (hh : BndIs a hi len h)
  (h0 : 0 ≤ l) (h1 : l ≤ h) (h2 : h ≤ len) (h3 : len ≤ cap) : (Instr.sliceBounds isSlice len cap (lo.map a.eval) (hi.map a.eval) none).run P w = .ok (l.toNat, h.toNat, cap) w := by
 have hcap : h ≤ (cap : Int) := by omega
 unfold Instr.sliceBounds
 unfold BndIs at hl hh
 cases hi with
 | none =>
   simp only at hh
   subst hh
   cases lo with
   | none => simp only at hl; subst hl; simp
   | some y =>
     obtain ⟨k, e⟩ := hl
     simp [e, rsB1 k l len .sliceB w h0 (by omega)]
 | some z =>
   obtain ⟨k', e'⟩ := hh
   have hb := rsB1 (P := P) k' h cap (if isSlice = true then .sliceAcap else .sliceAlen) w (by omega) hcap
   cases lo with
   | none => simp only at hl; subst hl; simp [e', hb]
   | some y =>
     obtain ⟨k, e⟩ := hl
     have hb2 := rsB1 (P := P) k l h.toNat .sliceB w h0 (by omega)
     simp [e, e', hb, hb2]

theorem bs3 {C : Ctx} {V st a w} (hs : SRV C V st a w) {o : Option Operand} {d q : Int} (h : bnd (o.map st.ev) d = some q) : BndIs a o d q := by
 unfold BndIs
 cases o with
 | none => simp [bnd] at h; exact h.symm
 | some x =>
   simp only [bnd, Option.map_some] at h
   split at h
   ·rename_i e; cases e
   ·rename_i k q' e
    simp only [Option.some.injEq] at h e
    subst h
    exact ⟨k, hs.evv e⟩
   ·cases h

theorem vs1 (hT : TOk P T) (t : TypeId) (x : Operand) (lo hi : Option Operand) (ho : o.op = .slice t x lo hi none) (hk : evSlice T (T t) st.h (st.ev x) (lo.map st.ev) (hi.map st.ev) K) : VDoes P o st K := by
 unfold evSlice at hk
 split at hk
 ·rename_i i s hi' hx
  obtain ⟨hstr, hk⟩ := hk
  unfold evSliceS at hk
  split at hk
  ·rename_i l h hl hh
   obtain ⟨hob, hk⟩ := hk
   obtain ⟨h0, h1, h2⟩ := hob.out
   refine vp _ (fun C V a w hs w' => ?_) hk
   have hb := rsB (P := P) false s.size s.size lo hi l h w' a (bs3 hs hl) (bs3 hs hh) h0 h1 h2 (Nat.le_refl _)
   simp [execOp, ho, hs.evv hx, Instr.sliceAt, Instr.slice, run_underlying ((hT t i hi').str hstr), hb, bsub]
  ·exact hk.elim
 ·rename_i tt xs hx
  unfold evSliceT at hk
  split at hk
  ·rename_i te l h hte hl hh
   obtain ⟨ti, hi', hel, hte⟩ := eTs hte
   obtain ⟨hsz, hob, hk⟩ := hk
   have hsz := Nat.eq_of_beq_eq_true hsz
   obtain ⟨h0, h1, h2⟩ := hob.out
   intro C V a w hs
   have hr' := (hx ▸ hs.ev x).tree_inv
   generalize hv : a.eval x = v at hr'
   cases hr' with
   | tree _ _ ad len cap b o' X hlen hb hc hm ha hx2 hh2 =>
     subst hlen
     have hbd := fun w' => rsB (P := P) true xs.length cap lo hi l h w' a (bs3 hs hl) (bs3 hs hh) h0 h1 h2 hc
     have hsize := (hT ti.elem te hte).size
     have hlen : (lsub xs l h).length = (h - l).toNat := by simp [lsub]; omega
     refine ⟨_, .slice (if cap = l.toNat then ad else ad.map (·.add (l.toNat * tt.n))) (h - l).toNat (cap - l.toNat), hk, .imm _ _ ?_, fun w' _ => ?_⟩
     ·have hlt : ∀ k, k < (h - l).toNat → l.toNat + k < xs.length := fun k hk => by omega
      have hrow : ∀ k, k < (h - l).toNat → rowT tt (lsub xs l h) k = rowT tt xs (l.toNat + k) := fun k hk => by
       simp only [rowT, lsub, List.getD_eq_getElem?_getD, List.getElem?_take, if_pos hk, List.getElem?_drop]
      refine .tree tt _ _ _ _ b (o' + l.toNat * tt.n) (fun k j => X (l.toNat + k) j) hlen.symm (by omega) (by omega) (by omega) (fun hne => ?_) (fun k j c e1 e2 => ?_) (fun k j c e1 e2 => ?_)
      ·obtain ⟨e1, e2⟩ := ha (by omega)
       rw [if_neg (by omega), e1]
       exact ⟨by simp [Addr.add_lit], e2⟩
      ·rw [hrow k (by omega)] at e2
       have := hx2 (l.toNat + k) j c (hlt k (by omega)) e2
       rw [show o' + l.toNat * tt.n + k * tt.n + j = o' + (l.toNat + k) * tt.n + j by rw [Nat.add_mul]; omega]
       exact this
      ·rw [hrow k (by omega)] at e2
       exact hh2 _ j c (hlt k (by omega)) e2
     ·have e9 : h.toNat - l.toNat = (h - l).toNat := by omega
      simp [execOp, ho, hv, Instr.sliceAt, Instr.slice, run_underlying ((hT t ti hi').elem hel), hbd w', hsize, hsz, e9]
  ·exact hk.elim
 ·rename_i id hx
  unfold evSliceO at hk
  split at hk
  ·rename_i te ty tt xs hte hlb
   split at hk
   ·rename_i l h hl hh
    obtain ⟨ti, hi', hel, hte⟩ := eTs hte
    obtain ⟨hsz, hob, hk⟩ := hk
    have hsz := Nat.eq_of_beq_eq_true hsz
    obtain ⟨h0, h1, h2⟩ := hob.out
    intro C V a w hs
    have e := (hx ▸ hs.ev x).own_inv
    obtain ⟨cur, hcur⟩ := hs.hr.blk id _ hlb
    obtain ⟨cap, e2, g1, g2, g3, g4⟩ := hcur.own rfl
    have hsz' := hcur.sz
    have hln' := hcur.ln
    simp only [LB.sz, LB.len] at hsz' hln' e2 g1
    have hbd := fun w' => rsB (P := P) true xs.length cap lo hi l h w' a (bs3 hs hl) (bs3 hs hh) h0 h1 h2 g1
    have hsize := (hT ti.elem te hte).size
    refine ⟨_, _, hk, .view id l.toNat (h - l).toNat (List.getElem?_eq_some_iff.1 hlb).1 (by rw [hln']; omega), fun w' _ => ?_⟩
    have e9 : h.toNat - l.toNat = (h - l).toNat := by omega
    simp [execOp, ho, e, e2, Instr.sliceAt, Instr.slice, run_underlying ((hT t ti hi').elem hel), hbd w', hsize, hsz, e9, partV, hsz']
   ·exact hk.elim
  ·exact hk.elim
 ·exact hk.elim

def eMM1 (isMin : Bool) : List AV → (AV → Prop) → Prop
 | [.v (.int k x), .v (.int _ y)], K => K (.v (.int k (if isMin = true then (if y < x then y else x) else (if y > x then y else x))))
 | _, _ => False
theorem vdoes_min (x y : Operand) (ts : Array TypeId) (ho : o.op = .call { callee := .builtin .min, args := #[x, y], argTypes := ts }) (hk : eMM1 true [st.ev x, st.ev y] K) : VDoes P o st K := by
 unfold eMM1 at hk
 split at hk
 ·rename_i k p _ q _ he
  simp only [List.cons.injEq, and_true] at he
  obtain ⟨h1, h2⟩ := he
  exact vp _ (fun C V a w h w' => by simp [execOp, ho, h.evv h1, h.evv h2, resolve, invoke, builtin, run_min_int2]) hk
 ·exact hk.elim
theorem vdoes_max (x y : Operand) (ts : Array TypeId) (ho : o.op = .call { callee := .builtin .max, args := #[x, y], argTypes := ts }) (hk : eMM1 false [st.ev x, st.ev y] K) : VDoes P o st K := by
 unfold eMM1 at hk
 split at hk
 ·rename_i k p _ q _ he
  simp only [List.cons.injEq, and_true] at he
  obtain ⟨h1, h2⟩ := he
  exact vp _ (fun C V a w h w' => by simp [execOp, ho, h.evv h1, h.evv h2, resolve, invoke, builtin, run_max_int2]) hk
 ·exact hk.elim

def eMM (isMin : Bool) : List AV → (AV → Prop) → Prop
 | [.v (.int k x), .v (.int _ y), .v (.int _ z)], K => K (.v (.int k (if isMin = true then (if z < (if y < x then y else x) then z else (if y < x then y else x)) else (if z > (if y > x then y else x) then z else (if y > x then y else x)))))
 | _, _ => False
theorem vdoes_min3 (x y z : Operand) (ts : Array TypeId) (ho : o.op = .call { callee := .builtin .min, args := #[x, y, z], argTypes := ts }) (hk : eMM true [st.ev x, st.ev y, st.ev z] K) : VDoes P o st K := by
 unfold eMM at hk
 split at hk
 ·rename_i k p _ q _ r _ he
  simp only [List.cons.injEq, and_true] at he
  obtain ⟨h1, h2, h3⟩ := he
  exact vp _ (fun C V a w h w' => by simp [execOp, ho, h.evv h1, h.evv h2, h.evv h3, resolve, invoke, builtin, run_min_int3]) hk
 ·exact hk.elim
theorem vdoes_max3 (x y z : Operand) (ts : Array TypeId) (ho : o.op = .call { callee := .builtin .max, args := #[x, y, z], argTypes := ts }) (hk : eMM false [st.ev x, st.ev y, st.ev z] K) : VDoes P o st K := by
 unfold eMM at hk
 split at hk
 ·rename_i k p _ q _ r _ he
  simp only [List.cons.injEq, and_true] at he
  obtain ⟨h1, h2, h3⟩ := he
  exact vp _ (fun C V a w h w' => by simp [execOp, ho, h.evv h1, h.evv h2, h.evv h3, resolve, invoke, builtin, run_max_int3]) hk
 ·exact hk.elim

end
end Go.Proofs.YtaobinhdnklojaaGreatDoor
namespace Go.Proofs.YtaobinhdnklojaaGreatDoor
open Go.RowKit

section
variable {P : Program} {o : Oper} {st : St} {K : AV → Prop} {T : Nat → Option TI}

def evEq1 (k : CK) (c d : AV) (K : Bool → Prop) : Prop :=
 match k with
 | .i kk => match c with
   | .v (.int k a) => match d with
     | .v (.int k' b) => k = kk ∧ k' = kk ∧ K (decide (a = b))
     | _ => False
   | _ => False
 | .s => match c with
   | .v (.string a) => match d with
     | .v (.string b) => K (decide (a = b))
     | _ => False
   | _ => False
 | .b => match c.b? with
   | some a => match d.b? with
     | some b => K (a == b)
     | none => False
   | none => False
def evEqK : List CK → List AV → List AV → (Bool → Prop) → Prop
 | [], [], [], K => K true
 | k :: ks, c :: cs, d :: ds, K => evEq1 k c d fun r => evEqK ks cs ds fun rs => K (r && rs)
 | _, _, _, _ => False
def ckI (i : Option TI) : Option (List CK) :=
 match i with
 | some i => ckOf i.cod
 | none => none
def evEqS (i : Option TI) (op : BinOp) (cs ds : List AV) (K : AV → Prop) : Prop :=
 match ckI i with
 | some ks => match op with
   | .eql => evEqK ks cs ds fun r => K (.bl r)
   | .neq => evEqK ks cs ds fun r => K (.bl (!r))
   | _ => False
 | none => False
def elemNZ (i : Option TI) : Bool :=
 match i with
 | some i => match i.elem with
   | 0 => false
   | _ + 1 => true
 | none => false
def evNilC (i : Option TI) (op : BinOp) (b : Bool) (K : AV → Prop) : Prop :=
 match op with
 | .eql => elemNZ i = true ∧ K (.v (.bool b))
 | .neq => elemNZ i = true ∧ K (.v (.bool !b))
 | _ => False
def evNilO (o : Option (Option LB)) (p : Prop) : Prop :=
 match o with
 | some (some (.arr _ _ _)) => p
 | _ => False
def evBin2 (i : Option TI) (h : List (Option LB)) (op : BinOp) (x y : AV) (K : AV → Prop) : Prop :=
 match x with
 | .agg cs => match y with
   | .agg ds => evEqS i op cs ds K
   | _ => False
 | .tree _ xs => match y with
   | .v (.slice none _ _) => Ob (0 < xs.length) ∧ evNilC i op false K
   | _ => False
 | .own id => match y with
   | .v (.slice none _ _) => evNilO h[id]? (evNilC i op false K)
   | _ => False
 | .v (.slice none _ _) => match y with
   | .v (.slice none _ _) => evNilC i op true K
   | _ => False
 | x => evBin i op x y K

theorem evEq1_sound {w S V N} {k : CK} {c d : AV} {x y : Value} {K : Bool → Prop} (h : evEq1 k c d K) (hx : R w S V N c x) (hy : R w S V N d y) : k.fits x ∧ k.fits y ∧ ∃ r, K r ∧ eqV1 x y = r := by
 unfold evEq1 at h
 split at h
 ·split at h
  ·split at h
   ·obtain ⟨rfl, rfl, hk⟩ := h
    rw [hx.v_inv, hy.v_inv]
    exact ⟨⟨_, rfl⟩, ⟨_, rfl⟩, _, hk, rfl⟩
   ·exact h.elim
  ·exact h.elim
 ·split at h
  ·split at h
   ·rw [hx.v_inv, hy.v_inv]
    exact ⟨⟨_, rfl⟩, ⟨_, rfl⟩, _, h, rfl⟩
   ·exact h.elim
  ·exact h.elim
 ·split at h
  ·rename_i a ha
   split at h
   ·rename_i b hb
    rw [b_inv ha hx, b_inv hb hy]
    exact ⟨⟨_, rfl⟩, ⟨_, rfl⟩, _, h, rfl⟩
   ·exact h.elim
  ·exact h.elim
theorem eEKs {w S V N} : ∀ {ks : List CK} {cs ds : List AV} {xs ys : List Value} {K : Bool → Prop}, evEqK ks cs ds K → xs.length = cs.length → ys.length = ds.length →
  (∀ (i : Nat) (c : AV) (x : Value), cs[i]? = some c → xs[i]? = some x → R w S V N c x) → (∀ (i : Nat) (c : AV) (x : Value), ds[i]? = some c → ys[i]? = some x → R w S V N c x) →
  CK.fitsL ks xs ∧ CK.fitsL ks ys ∧ ∃ r, K r ∧ eqVs xs ys = r
 | [], [], [], xs, ys, K, h, h1, h2, _, _ => by
   obtain rfl := List.length_eq_zero_iff.1 h1
   obtain rfl := List.length_eq_zero_iff.1 h2
   exact ⟨trivial, trivial, true, h, rfl⟩
 | k :: ks, c :: cs, d :: ds, [], ys, K, h, h1, h2, _, _ => by simp at h1
 | k :: ks, c :: cs, d :: ds, x :: xs, [], K, h, h1, h2, _, _ => by simp at h2
 | k :: ks, c :: cs, d :: ds, x :: xs, y :: ys, K, h, h1, h2, hx, hy => by
   unfold evEqK at h
   obtain ⟨f1, f2, r, h, e⟩ := evEq1_sound h (hx 0 c x rfl rfl) (hy 0 d y rfl rfl)
   obtain ⟨g1, g2, rs, h, e'⟩ := eEKs h (by simpa using h1) (by simpa using h2) (fun i c x e1 e2 => hx (i + 1) c x (by simpa using e1) (by simpa using e2)) (fun i c x e1 e2 => hy (i + 1) c x (by simpa using e1) (by simpa using e2))
   exact ⟨⟨f1, g1⟩, ⟨f2, g2⟩, _, h, by simp [eqVs, e, e']⟩
 | [], _ :: _, _, _, _, _, h, _, _, _, _ => by simp [evEqK] at h
 | [], [], _ :: _, _, _, _, h, _, _, _, _ => by simp [evEqK] at h
 | _ :: _, [], _, _, _, _, h, _, _, _, _ => by simp [evEqK] at h
 | _ :: _, _ :: _, [], _, _, _, h, _, _, _, _ => by simp [evEqK] at h

theorem elemNZ_out (hT : TOk P T) {t : TypeId} (h : elemNZ (T t) = true) : ∃ e, P.underlying t = some (.slice e) := by
 unfold elemNZ at h
 split at h
 ·rename_i i hi
  split at h
  ·cases h
  ·rename_i n he
   exact ⟨_, (hT t i hi).elem (by omega)⟩
 ·cases h
theorem guard_slice (op : BinOp) (t : TypeId) (x y : Operand) (a : Option Addr) (n c : Nat) (b : Value) (w : World) : (eqGuard op t x y (.slice a n c) b).run P w = .ok () w := by
 unfold eqGuard; cases op <;> simp
theorem run_nilC (w : World) {op : BinOp} {t e : TypeId} (x y : Operand) (a : Option Addr) (n c n' c' : Nat) (ht : P.underlying t = some (.slice e)) (r : Value)
  (hr : (op = .eql ∧ r = .bool a.isNone) ∨ (op = .neq ∧ r = .bool (!a.isNone))) :
  (do eqGuard op t x y (.slice a n c) (.slice none n' c'); binOp op t (.slice a n c) (.slice none n' c') : Sem Value).run P w = .ok r w := by
 refine rb (guard_slice ..) ?_
 have key : (Op.equal t (.slice a n c) (.slice none n' c')).run P w = .ok a.isNone w := by
  simp [Op.equal, Op.maxDepth, Lib.run_equalIn_slice_nil w 9999 t e a n c n' c' ht]
 rcases hr with ⟨rfl, rfl⟩ | ⟨rfl, rfl⟩ <;> simp [binOp, key]
theorem vnC (hT : TOk P T) {op : BinOp} {t t' : TypeId} {x y : Operand} {n' c' : Nat} {b : Bool} (ho : o.op = .binOp op t x y t') (hy : st.ev y = .v (.slice none n' c')) (hk : evNilC (T t) op b K)
  (hx : ∀ C V a w, SRV C V st a w → ∃ ad n c, a.eval x = .slice ad n c ∧ ad.isNone = b) : VDoes P o st K := by
 unfold evNilC at hk
 split at hk
 ·obtain ⟨h1, hk⟩ := hk
  obtain ⟨e, hu⟩ := elemNZ_out hT h1
  intro C V a w h
  obtain ⟨ad, n, c, e1, e2⟩ := hx C V a w h
  refine ⟨_, _, hk, .imm _ _ (.v _), fun w' _ => ?_⟩
  have := run_nilC (P := P) w' x y ad n c n' c' hu (.bool b) (.inl ⟨rfl, by rw [e2]⟩)
  simp only [execOp, ho, e1, h.evv hy]
  simp only [Sem.run_bind, this, Result.andThen_ok, Sem.run_pure]
 ·obtain ⟨h1, hk⟩ := hk
  obtain ⟨e, hu⟩ := elemNZ_out hT h1
  intro C V a w h
  obtain ⟨ad, n, c, e1, e2⟩ := hx C V a w h
  refine ⟨_, _, hk, .imm _ _ (.v _), fun w' _ => ?_⟩
  have := run_nilC (P := P) w' x y ad n c n' c' hu (.bool (!b)) (.inr ⟨rfl, by rw [e2]⟩)
  simp only [execOp, ho, e1, h.evv hy]
  simp only [Sem.run_bind, this, Result.andThen_ok, Sem.run_pure]
 ·exact hk.elim

theorem vdoes_bin2 (hT : TOk P T) (op : BinOp) (t t' : TypeId) (x y : Operand) (ho : o.op = .binOp op t x y t') (hk : evBin2 (T t) st.h op (st.ev x) (st.ev y) K) : VDoes P o st K := by
 unfold evBin2 at hk
 split at hk
 ·rename_i cs hx
  split at hk
  ·rename_i ds hy
   unfold evEqS at hk
   split at hk
   ·rename_i ks hks
    unfold ckI at hks
    split at hks
    ·rename_i i hi
     obtain ⟨hg, heq⟩ := (hT t i hi).eqs ks hks
     have main : ∀ (f : Bool → Bool), (∀ w (xs ys : Array Value), (binOp op t (.agg xs) (.agg ys)).run P w = ((Op.equalIn 10000 t (.agg xs) (.agg ys)).run P w).andThen fun b w' => .ok (.bool (f b)) w') → evEqK ks cs ds (fun r => K (.bl (f r))) → VDoes P o st K := by
      intro f hf hk C V a w h
      obtain ⟨vs, e1, hl1, hr1⟩ := (hx ▸ h.ev x).agg_inv
      obtain ⟨us, e2, hl2, hr2⟩ := (hy ▸ h.ev y).agg_inv
      obtain ⟨f1, f2, r, hk, e⟩ := eEKs (xs := vs.toList) (ys := us.toList) hk (by simpa using hl1) (by simpa using hl2) (fun i c x e1 e2 => hr1 i c x e1 (by simpa using e2)) (fun i c x e1 e2 => hr2 i c x e1 (by simpa using e2))
      refine ⟨_, .bool (f r), hk, .imm _ _ (.bl _), fun w' _ => ?_⟩
      have g := run_eqGuard_agg (P := P) w' op t x y vs us hg
      have b := hf w' vs us
      rw [heq vs us f1 f2 w', Result.andThen_ok, e] at b
      simp only [execOp, ho, e1, e2]
      simp only [Sem.run_bind, g, b, Result.andThen_ok, Sem.run_pure]
     split at hk
     ·exact main (fun b => b) (fun w xs ys => run_eql_struct w t xs ys) hk
     ·exact main (fun b => !b) (fun w xs ys => run_neq_struct w t xs ys) hk
     ·exact hk.elim
    ·cases hks
   ·exact hk.elim
  ·exact hk.elim
 ·rename_i tt xs hx
  split at hk
  ·rename_i n' c' hy
   obtain ⟨hne, hk⟩ := hk
   refine vnC hT ho hy hk fun C V a w h => ?_
   have hr' := (hx ▸ h.ev x).tree_inv
   generalize hv : a.eval x = v at hr'
   cases hr' with
   | tree _ _ ad len cap b o' X hlen hb hc hmx ha hx2 hh =>
     exact ⟨ad, len, cap, rfl, by rw [(ha hne.out).1]; rfl⟩
  ·exact hk.elim
 ·rename_i id hx
  split at hk
  ·rename_i n' c' hy
   unfold evNilO at hk
   split at hk
   ·rename_i ty tt xs hlb
    refine vnC hT ho hy hk fun C V a w h => ?_
    have e := (hx ▸ h.ev x).own_inv
    obtain ⟨cur, hcur⟩ := h.hr.blk id _ hlb
    obtain ⟨cap, e2, _⟩ := hcur.own rfl
    exact ⟨_, _, _, e.trans e2, rfl⟩
   ·exact hk.elim
  ·exact hk.elim
 ·rename_i n c hx
  split at hk
  ·rename_i n' c' hy
   exact vnC hT ho hy hk fun C V a w h => ⟨none, _, _, h.evv hx, rfl⟩
  ·exact hk.elim
 ·exact vdoes_bin hT op t t' x y ho hk
end
end Go.Proofs.YtaobinhdnklojaaGreatDoor
