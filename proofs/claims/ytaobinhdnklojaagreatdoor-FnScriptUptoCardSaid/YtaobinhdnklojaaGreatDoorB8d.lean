/-
  The abstract evaluator, part 8d: append of a make to nothing; parts of own slices in a literal of slices.
-/
import Derived.Test.YtaobinhdnklojaaGreatDoorB7
import Derived.Laws.BytesString
import Derived.Lib.ConvBytes
namespace Go.Proofs.YtaobinhdnklojaaGreatDoor
open Go.RowKit

section
variable {P : Program} {M : Nat → List Bool} {o : Oper} {st : St} {T : Nat → Option TI}

theorem BlkR.newArr {w : World} {S : Nat → Prop} {V : Nat → Info} {N : Nat} {g cap ty : Nat} {t : Ty} {xs : List t.den} {n : Nat} {cur : Array Value} {L : List Value} (hheap : w.heap[g]? = some (.cells cur ty (0, 0))) (hn : xs.length = n)
  (hnc : xs.length ≤ cap) (hcm : cap ≤ maxLen) (hcs : cur.size = cap * t.n) (hbl : xs.length ≤ bL) (hL : cur.toList.take (xs.length * t.n) = L)
  (hrow : ∀ (k j : Nat) (c : AV), k < xs.length → (rowT t xs k)[j]? = some c → ∃ u, L[k * t.n + j]? = some u ∧ u.oneCell' = true ∧ Rt w S c u) :
  BlkR w S V N ⟨g, t.n, n, .slice (some ⟨g, 0, none⟩) n cap⟩ (.arr ty t xs) cur := by
 subst hn
 have hcell : ∀ (k j : Nat) (c : AV), k < xs.length → (rowT t xs k)[j]? = some c → ∃ u, cur[k * t.n + j]? = some u ∧ u.oneCell' = true ∧ Rt w S c u := fun k j c hk hj => by
  obtain ⟨u, e1, e2, e3⟩ := hrow k j c hk hj
  refine ⟨u, ?_, e2, e3⟩
  rw [← hL, List.getElem?_take] at e1
  split at e1
  ·simpa using e1
  ·cases e1
 refine ⟨rfl, rfl, ⟨_, hheap, .inl rfl⟩, fun k j c hk hj => ?_, fun _ k j c x hk hj hx => ?_, (fun e => by cases e), fun _ => ⟨cap, rfl, hnc, hcm, hcs, hbl⟩⟩
 ·obtain ⟨u, e1, e2, e3⟩ := hcell k j c hk hj
  exact ⟨u, e1, e2, .imm _ _ e3⟩
 ·obtain ⟨u, e1, e2, e3⟩ := hcell k j c hk hj
  have hx : cur[k * t.n + j]? = some x := hx
  rw [e1] at hx; cases hx; exact e3
theorem SRV.newArr {C : Ctx} {V a w} (h : SRV C V st a w) {ty n m : Nat} {t : Ty} {xs : List t.den} {cur : Array Value} (hn : xs.length = n) (hnm : n ≤ m) (hm : m ≤ maxLen) (hcs : cur.size = m * t.n) (hbl : n ≤ bL)
  (hrow : ∀ (k j : Nat) (c : AV), k < xs.length → (rowT t xs k)[j]? = some c → ∃ u, cur[k * t.n + j]? = some u ∧ u.oneCell' = true ∧ Rt w (Stb C.A w st.h V) c u) :
  SRV C (updV V st.h.length ⟨w.heap.size, t.n, n, .slice (some ⟨w.heap.size, 0, none⟩) n m⟩) ⟨st.s, st.h ++ [some (.arr ty t xs)]⟩ a (w.alloc (.cells cur ty)) ∧
  R (w.alloc (.cells cur ty)) (Stb C.A (w.alloc (.cells cur ty)) (st.h ++ [some (.arr ty t xs)]) (updV V st.h.length ⟨w.heap.size, t.n, n, .slice (some ⟨w.heap.size, 0, none⟩) n m⟩)) (updV V st.h.length ⟨w.heap.size, t.n, n, .slice (some ⟨w.heap.size, 0, none⟩) n m⟩) (st.h ++ [some (LB.arr ty t xs)]).length (.own st.h.length) (.slice (some ⟨w.heap.size, 0, none⟩) n m) := by
 subst hn
 refine ⟨h.alloc ⟨w.heap.size, t.n, xs.length, .slice (some ⟨w.heap.size, 0, none⟩) xs.length m⟩ (.arr ty t xs) cur rfl (fun S' V' N' hS hV hN => ?_), ?_⟩
 ·refine BlkR.newArr (L := cur.toList.take (xs.length * t.n)) (heap_alloc_new w _) rfl hnm hm hcs hbl rfl (fun k j c hk hj => ?_)
  obtain ⟨u, e1, e2, e3⟩ := hrow k j c hk hj
  refine ⟨u, ?_, e2, e3.mono fun b hb => ⟨hS b hb, heap_alloc_old w _ hb.2.1⟩⟩
  have hj2 : j < t.n := by rw [← rTl t xs k]; exact (List.getElem?_eq_some_iff.1 hj).1
  have hlt : k * t.n + j < xs.length * t.n := by
   have h2 : (k + 1) * t.n ≤ xs.length * t.n := Nat.mul_le_mul_right _ hk
   rw [Nat.succ_mul] at h2; omega
  rw [List.getElem?_take, if_pos hlt]
  simpa using e1
 ·have := R.own (w := w.alloc (.cells cur ty)) (S := Stb C.A (w.alloc (.cells cur ty)) (st.h ++ [some (.arr ty t xs)]) (updV V st.h.length ⟨w.heap.size, t.n, xs.length, .slice (some ⟨w.heap.size, 0, none⟩) xs.length m⟩)) (V := updV V st.h.length ⟨w.heap.size, t.n, xs.length, .slice (some ⟨w.heap.size, 0, none⟩) xs.length m⟩) (N := (st.h ++ [some (LB.arr ty t xs)]).length) st.h.length (by simp)
  simpa [updV] using this
theorem mulOf {n b N : Nat} (h : n ≤ N / b) : n * b ≤ N := Nat.le_trans (Nat.mul_le_mul_right b h) (Nat.div_mul_le_self N b)
theorem mLe : maxLen = 9223372036854775807 := by decide
theorem divmod {j m sz : Nat} (hsz : 0 < sz) (h : j < m * sz) : j / sz < m ∧ j % sz < sz ∧ j / sz * sz + j % sz = j :=
 ⟨Nat.div_lt_of_lt_mul (by rw [Nat.mul_comm]; exact h), Nat.mod_lt _ hsz, by rw [Nat.mul_comm]; exact Nat.div_add_mod j sz⟩

def evMakeT (ty : Nat) (t : Ty) (z : Option t.den) (n : Int) (st : St) (K : AV → St → Prop) : Prop :=
 match z with
 | some z => K (.own st.h.length) ⟨st.s, st.h ++ [some (.arr ty t (List.replicate n.toNat z))]⟩
 | none => False
def evMake (T : Nat → Option TI) (i : Option TI) (st : St) (l c : AV) (K : AV → St → Prop) : Prop :=
 match i, elemT T i, l, c with
 | some ti, some te, .v (.int _ n), .v (.int _ m) => match te.cod with
   | some t => (te.zero.cells.toList.all Value.oneCell' && Nat.beq t.n te.size && Nat.beq te.zero.cells.size te.size && Nat.blt 0 te.size) = true ∧ Ob (0 ≤ n ∧ n ≤ m ∧ te.bytes * m ≤ 140737488355328 ∧ m ≤ 140737488355328) ∧
     evMakeT ti.elem t (t.dec (te.zero.cells.toList.map AV.v)) n st K
   | none => False
 | _, _, _, _ => False
theorem made_get (z : Array Value) (n k s j : Nat) (hz : z.size = s) (hj : j < s) (hk : k * s + j < n) : (madeCells z n)[k * s + j]? = z[j]? := by
 have hjz : j < z.size := by omega
 have e : (k * s + j) % z.size = j := by rw [hz, Nat.mul_add_mod_self_right, Nat.mod_eq_of_lt hj]
 simp [madeCells, hk, e, hjz]
theorem edoes_make {K : AV → St → Prop} (hT : TOk P T) (t : TypeId) (l c : Operand) (ho : o.op = .makeSlice t l c) (hk : evMake T (T t) st (st.ev l) (st.ev c) K) : EDoes P M o st K := by
 unfold evMake at hk
 split at hk
 ·rename_i ti te kl n kc m hti hte hl hc
  split at hk
  ·rename_i tt hcod
   obtain ⟨hz, hb, hk⟩ := hk
   simp only [Bool.and_eq_true, Nat.blt_eq] at hz
   obtain ⟨⟨⟨hz1, hz0⟩, hz2⟩, hz3⟩ := hz
   have hz0 := Nat.eq_of_beq_eq_true hz0
   have hz2 := Nat.eq_of_beq_eq_true hz2
   unfold evMakeT at hk
   split at hk
   ·rename_i z hdec
    obtain ⟨d1, d2⟩ := ds1 tt _ z hdec
    obtain ⟨h0, hnm, hbytes, hm⟩ := hb.out
    obtain ⟨ti', hi, hel, hte'⟩ := eTs hte
    rw [hti] at hi; cases hi
    have hu := (hT t ti hti).elem hel
    obtain ⟨inf, hinf, hzero, hsize, hby⟩ := (hT _ te hte').info
    intro C V a w h next Q hn
    have e1 := h.evv hl
    have e2 := h.evv hc
    have hcs : (madeCells te.zero.cells (m.toNat * te.size)).size = m.toNat * te.size := size_madeCells _ _
    obtain ⟨hs, hr⟩ := h.newArr (ty := ti.elem) (n := n.toNat) (m := m.toNat) (t := tt) (xs := List.replicate n.toNat z) (cur := madeCells te.zero.cells (m.toNat * te.size)) (by simp) (by omega) (by have := mLe; omega) (by rw [hz0]; exact hcs) (by simp only [bL]; omega) (fun k j c' g1 g2 => by
     have hk : k < n.toNat := by simpa using g1
     have e3 : rowT tt (List.replicate n.toNat z) k = tt.enc z := by simp [rowT, List.getD, hk]
     rw [e3] at g2
     have hj : j < te.size := by rw [← hz0, ← el tt z]; exact (List.getElem?_eq_some_iff.1 g2).1
     have hlt : k * te.size + j < m.toNat * te.size := by
      have h1 : k + 1 ≤ m.toNat := by omega
      have h2 : (k + 1) * te.size ≤ m.toNat * te.size := Nat.mul_le_mul_right _ h1
      rw [Nat.succ_mul] at h2; omega
     rw [hz0, made_get _ _ _ _ _ hz2 hj hlt]
     have hx : te.zero.cells[j]? = some te.zero.cells[j] := Array.getElem?_eq_getElem (by omega)
     refine ⟨_, hx, List.all_eq_true.1 hz1 _ (by simp), ?_⟩
     exact d2 j (.v te.zero.cells[j]) c' (by simp [hx]) g2 _ _ _ (.v _))
    have hrun : (execOp a.eval o).run P w = .ok (.value (.slice (some ⟨w.heap.size, 0, none⟩) n.toNat m.toNat)) (w.alloc (.cells (madeCells te.zero.cells (m.toNat * te.size)) ti.elem)) := by
     have := run_make (P := P) w t ti.elem inf te.zero hu hinf hzero kl kc n m h0 hnm (by rw [hby]; omega) (by omega)
     rw [hsize] at this
     simp [execOp, ho, e1, e2, this]
    unfold Oper.wp
    rw [hrun]
    exact hn _ _ _ _ _ hk hs hr fun _ => (Below.refl _ _).alloc (Nat.le_refl _) _
   ·exact hk.elim
  ·exact hk.elim
 ·exact hk.elim

def Src (w : World) (Rl : AV → Value → Prop) (t : Ty) (xs : List t.den) (x : Value) : Prop :=
 ∃ (ad : Option Addr) (c : Nat) (news : List Value), x = .slice ad xs.length c ∧ news.length = xs.length * t.n ∧ (0 < xs.length → ∃ a, ad = some a ∧ ∀ j u, news[j]? = some u → w.cell? (a.add j) = some u) ∧ (∀ u ∈ news, u.oneCell' = true) ∧
   ∀ (k j : Nat) (c : AV), k < xs.length → (rowT t xs k)[j]? = some c → ∃ u, news[k * t.n + j]? = some u ∧ Rl c u
def srcA (h : List (Option LB)) : AV → Option ((t : Ty) × List t.den)
 | .own id => match h[id]? with
   | some (some (.arr _ t xs)) => some ⟨t, xs⟩
   | _ => none
 | .view id lo n => match h[id]? with
   | some (some (.arr _ t xs)) => some ⟨t, (xs.drop lo).take n⟩
   | _ => none
 | .tree t xs => some ⟨t, xs⟩
 | _ => none
theorem Rt.src {w : World} {S : Nat → Prop} {t : Ty} {xs : List t.den} {x : Value} (h : Rt w S (.tree t xs) x) (hsz : 0 < t.n) : Src w (Rt w S) t xs x := by
 cases h with
 | tree _ _ ad len cap b o X hlen hb hc hcm ha hx hh =>
   subst hlen
   refine ⟨ad, cap, (List.range (xs.length * t.n)).map fun j => X (j / t.n) (j % t.n), rfl, by simp, fun hpos => ?_, fun u hu => ?_, fun k j c hk hj => ?_⟩
   ·obtain ⟨rfl, hS⟩ := ha hpos
    refine ⟨_, rfl, fun j u hu => ?_⟩
    rw [List.getElem?_map] at hu
    by_cases hj : j < xs.length * t.n
    ·rw [List.getElem?_range hj] at hu
     cases hu
     obtain ⟨d1, d2, d3⟩ := divmod hsz hj
     have e : (⟨b, o, none⟩ : Addr).add j = ⟨b, o + j / t.n * t.n + j % t.n, none⟩ := by rw [Nat.add_assoc, d3]; unfold Addr.add; split <;> simp_all
     rw [e]
     exact (hx _ _ _ d1 (List.getElem?_eq_getElem (by rw [rTl]; exact d2))).1
    ·rw [List.getElem?_eq_none (by simpa using hj)] at hu; cases hu
   ·obtain ⟨j, hj, rfl⟩ := List.mem_map.1 hu
    obtain ⟨d1, d2, d3⟩ := divmod hsz (List.mem_range.1 hj)
    exact (hx _ _ _ d1 (List.getElem?_eq_getElem (by rw [rTl]; exact d2))).2
   ·have hj2 : j < t.n := by rw [← rTl t xs k]; exact (List.getElem?_eq_some_iff.1 hj).1
    have hlt : k * t.n + j < xs.length * t.n := by
     have h2 : (k + 1) * t.n ≤ xs.length * t.n := Nat.mul_le_mul_right _ hk
     rw [Nat.succ_mul] at h2; omega
    refine ⟨X k j, ?_, hh k j c hk hj⟩
    rw [List.getElem?_map, List.getElem?_range hlt]
    simp only [Option.map_some, Option.some.injEq]
    have e1 : (k * t.n + j) / t.n = k := by rw [Nat.mul_comm, Nat.mul_add_div hsz, Nat.div_eq_of_lt hj2, Nat.add_zero]
    have e2 : (k * t.n + j) % t.n = j := by rw [Nat.mul_comm, Nat.mul_add_mod, Nat.mod_eq_of_lt hj2]
    rw [e1, e2]
theorem SRV.src {C : Ctx} {V a w} (h : SRV C V st a w) {c : AV} {x : Value} (hr : R w (Stb C.A w st.h V) V st.h.length c x) {t : Ty} {xs : List t.den} (hs : srcA st.h c = some ⟨t, xs⟩) (hsz : 0 < t.n) :
  Src w (Rt w (Lent C.A w st.h st.h V)) t xs x := by
 have hl := h.lend (hl := st.h) (fun _ _ e => e) hr
 unfold srcA at hs
 split at hs
 ·split at hs
  ·rename_i ty t' xs' e
   simp only [Option.some.injEq, Sigma.mk.injEq] at hs
   obtain ⟨rfl, hs⟩ := hs
   cases hs
   unfold AV.lend at hl
   rw [e] at hl
   exact hl.src hsz
  ·cases hs
 ·split at hs
  ·rename_i ty t' xs' e
   simp only [Option.some.injEq, Sigma.mk.injEq] at hs
   obtain ⟨rfl, hs⟩ := hs
   cases hs
   unfold AV.lend at hl
   rw [e] at hl
   exact hl.src hsz
  ·cases hs
 ·simp only [Option.some.injEq, Sigma.mk.injEq] at hs
  obtain ⟨rfl, hs⟩ := hs
  cases hs
  exact hl.src hsz
 ·cases hs

theorem run_append_at (w : World) (t ty e : TypeId) (i : TypeInfo) (z : Value) (size : Nat) (ht : P.underlying t = some (.slice e)) (hi : P.info? e = some i) (hz : i.zero = some z) (hsize : i.size = size) (hzs : z.cells.size = size) (hsz : 0 < size)
  (g n cap : Nat) (cur : Array Value) (hg : w.heap[g]? = some (.cells cur e (0, 0))) (hnc : n ≤ cap) (hcm : cap ≤ maxLen) (hcs : cur.size = cap * size)
  (a : Addr) (m c : Nat) (news : List Value) (hl : news.length = m * size) (hnews : ∀ j u, news[j]? = some u → w.cell? (a.add j) = some u) (h1 : ∀ u ∈ news, u.oneCell' = true) (_hm : 0 < m) (h63 : n + m ≤ maxLen) (hbytes : (n + m) * i.bytes ≤ 140737488355328) :
  ∃ (g' cap' : Nat) (cur' : Array Value) (w' : World), (Builtin.append_ #[t, t] ty #[.slice (some ⟨g, 0, none⟩) n cap, .slice (some a) m c]).run P w = .ok (.slice (some ⟨g', 0, none⟩) (n + m) cap') w' ∧ (g' = g ∨ g' = w.heap.size) ∧
    w'.heap[g']? = some (.cells cur' e (0, 0)) ∧ n + m ≤ cap' ∧ cap' ≤ maxLen ∧ cur'.size = cap' * size ∧ cur'.toList.take ((n + m) * size) = cur.toList.take (n * size) ++ news ∧ w.grownBy w' (some g) ∧ (cap = 0 → Below w.heap.size w w') := by
 have hxl : (cur.toList.take (n * size)).length = n * size := by
  have := Nat.mul_le_mul_right size hnc
  simp; omega
 have hown : w.ownsRow 0 e size (.slice (some ⟨g, 0, none⟩) n cap) n (cur.toList.take (n * size)) := ⟨hxl, .inr ⟨g, cap, cur, rfl, Nat.zero_le _, hg, hnc, hcm, hcs, rfl⟩⟩
 obtain ⟨v', w', hr, hown', hgr, _⟩ := run_append_own w 0 t ty e i z size i.bytes ht hi hz hsize rfl hzs hsz _ n _ hown a m c news hl hnews h1 h63 hbytes (Nat.zero_le _)
 have hg' : ∃ g' cap', v' = .slice (some ⟨g', 0, none⟩) (n + m) cap' ∧ (g' = g ∨ g' = w.heap.size) ∧ (cap = 0 → Below w.heap.size w w') := by
  subst hsize
  by_cases hroom : n + m ≤ cap
  ·have hfit : n * i.size + news.length ≤ cur.size := by rw [hl, hcs, ← Nat.add_mul]; exact Nat.mul_le_mul_right _ hroom
   rw [run_append_room (P := P) w t ty e i ht hi g n cap cur hg a m c news hl hnews h1 hroom hfit] at hr
   cases hr
   exact ⟨g, cap, rfl, .inl rfl, fun e => by omega⟩
  ·rw [run_append_grow (P := P) w t ty e i z ht hi hz ⟨g, 0, none⟩ n cap _ hxl (hown.cells (g := g) rfl) a m c news hl hnews (by omega) (by simp only [maxLen] at h63; omega) (growslice_fits (by omega) hbytes)] at hr
   cases hr
   exact ⟨w.heap.size, _, rfl, .inr rfl, fun _ => (Below.refl _ _).drew.alloc (Nat.le_refl _) _⟩
 obtain ⟨g', cap', rfl, hgg, hbz⟩ := hg'
 rcases hown'.2 with ⟨h, _⟩ | ⟨g2, cap2, cur', hv, _, hh, k1, k2, k3, k4⟩
 ·cases h
 ·cases hv
  exact ⟨g', cap', cur', w', hr, hgg, hh, k1, k2, k3, k4, hgr, hbz⟩
theorem raan (w : World) (t ty e : TypeId) (i : TypeInfo) (z : Value) (size : Nat) (ht : P.underlying t = some (.slice e)) (hi : P.info? e = some i) (hz : i.zero = some z) (hsize : i.size = size) (hzs : z.cells.size = size) (hsz : 0 < size)
  (a : Addr) (m c : Nat) (news : List Value) (hl : news.length = m * size) (hnews : ∀ j u, news[j]? = some u → w.cell? (a.add j) = some u) (h1 : ∀ u ∈ news, u.oneCell' = true) (hm : 0 < m) (h63 : m ≤ maxLen) (hbytes : m * i.bytes ≤ 140737488355328) :
  ∃ (g' cap' : Nat) (cur' : Array Value) (w' : World), (Builtin.append_ #[t, t] ty #[.slice none 0 0, .slice (some a) m c]).run P w = .ok (.slice (some ⟨g', 0, none⟩) m cap') w' ∧ g' = w.heap.size ∧
    w'.heap[g']? = some (.cells cur' e (0, 0)) ∧ m ≤ cap' ∧ cap' ≤ maxLen ∧ cur'.size = cap' * size ∧ cur'.toList.take (m * size) = news ∧ w.grownBy w' none ∧ Below w.heap.size w w' := by
 obtain ⟨v', w', hr, hown', hgr, _⟩ := run_append_own w 0 t ty e i z size i.bytes ht hi hz hsize rfl hzs hsz _ 0 _ (World.ownsRow_nil w 0 e size) a m c news hl hnews h1 (by omega) (by simpa using hbytes) (Nat.zero_le _)
 simp only [Nat.zero_add, List.nil_append] at hown'
 have hg' : (∃ cap', v' = .slice (some ⟨w.heap.size, 0, none⟩) m cap') ∧ Below w.heap.size w w' := by
  subst hsize
  rw [run_append_nil (P := P) w t ty e i z ht hi hz a m c news hl hnews hm (by simp only [maxLen] at h63; omega) (by omega)] at hr
  cases hr
  exact ⟨⟨_, rfl⟩, (Below.refl _ _).drew.alloc (Nat.le_refl _) _⟩
 obtain ⟨⟨cap', rfl⟩, hbz⟩ := hg'
 rcases hown'.2 with ⟨h, _⟩ | ⟨g2, cap2, cur', hv, _, hh, k1, k2, k3, k4⟩
 ·cases h
 ·cases hv
  exact ⟨_, cap', cur', w', hr, rfl, hh, k1, k2, k3, k4, hgr, hbz⟩


theorem raz (w : World) (t ty e : TypeId) (i : TypeInfo) (ht : P.underlying t = some (.slice e)) (hi : P.info? e = some i) (ad : Option Addr) (n cap : Nat) (hnc : n ≤ cap) (a : Option Addr) (c : Nat) :
  (Builtin.append_ #[t, t] ty #[.slice ad n cap, .slice a 0 c]).run P w = .ok (.slice ad n cap) w := by
 have h0 := fun a => run_loadCells (P := P) w a 0 (fun _ => undef) (fun j hj => absurd hj (Nat.not_lt_zero _))
 cases ad <;> cases a <;> simp [Builtin.append_, run_underlying ht, sizeOf, typeInfo, hi, Builtin.lenOf, Builtin.firstCells, hnc, storeCells, h0]

def evAppO (ty : Nat) (t : Ty) (xs : List t.den) (ys : List t.den) (te : TI) (id : Nat) (st : St) (K : AV → St → Prop) : Prop :=
 (Nat.beq t.n te.size && Nat.blt 0 te.size && Nat.beq te.zero.cells.size te.size && !t.isMk) = true ∧ Ob (xs.length + ys.length ≤ 140737488355328 / te.bytes ∧ xs.length + ys.length ≤ 140737488355328) ∧
  K (.own st.h.length) ⟨st.s, st.h.set id none ++ [some (.arr ty t (xs ++ ys))]⟩
def evAppend (T : Nat → Option TI) (i : Option TI) (st : St) (x y : AV) (K : AV → St → Prop) : Prop :=
 match i, elemT T i, srcA st.h y with
 | some ti, some te, some ⟨t2, ys⟩ => match x with
   | .own id => match st.h[id]? with
     | some (some (.arr ty t xs)) => Nat.beq ty ti.elem = true ∧ (if h : Ty.same t2 t = true then evAppO ty t xs (castL (se2 h) ys) te id st K else False)
     | _ => False
   | .v (.slice none 0 0) => (Nat.beq t2.n te.size && Nat.blt 0 te.size && Nat.beq te.zero.cells.size te.size) = true ∧ Ob (0 < ys.length ∧ ys.length ≤ 140737488355328 / te.bytes ∧ ys.length ≤ 140737488355328) ∧
     K (.own st.h.length) ⟨st.s, st.h ++ [some (.arr ti.elem t2 ys)]⟩
   | _ => False
 | _, _, _ => False

def dI (h : List (Option LB)) (dead : Option Nat) : List (Option LB) := match dead with
 | some id => h.set id none
 | none => h
theorem SRV.regrow {C : Ctx} {V a w} (h : SRV C V st a w) {w' : World} {dead : Option Nat} {I : Info} {lb : LB} {cur' : Array Value} {row : Option Nat} (hdead : ∀ id, dead = some id → ∃ l, st.h[id]? = some (some l) ∧ row = some (V id).blk)
  (hrow : ∀ k, row = some k → ∃ id, dead = some id) (hgr : w.grownBy w' row) (hI : row = some I.blk ∨ I.blk = w.heap.size) (_hnew : I.blk < w'.heap.size)
  (hb : (∀ b, Stb C.A w st.h V b → Stb C.A w' (dI st.h dead ++ [some lb]) (updV V st.h.length I) b ∧ w'.heap[b]? = w.heap[b]?) → BlkR w' (Stb C.A w' (dI st.h dead ++ [some lb]) (updV V st.h.length I)) (updV V st.h.length I) (st.h.length + 1) I lb cur') :
  SRV C (updV V st.h.length I) ⟨st.s, dI st.h dead ++ [some lb]⟩ a w' := by
 have hN : (dI st.h dead).length = st.h.length := by cases dead <;> simp [dI]
 have hV : ∀ i, i < st.h.length → updV V st.h.length I i = V i := fun i hi => by simp [updV]; omega
 have hlive : ∀ i l, (dI st.h dead ++ [some lb])[i]? = some (some l) → (i < st.h.length ∧ dead ≠ some i ∧ st.h[i]? = some (some l)) ∨ (i = st.h.length ∧ lb = l) := fun i l e => by
  by_cases hi : i < st.h.length
  ·rw [List.getElem?_append_left (by omega)] at e
   refine .inl ⟨hi, ?_⟩
   cases dead with
   | none => exact ⟨by simp, e⟩
   | some id =>
     simp only [dI] at e
     rw [List.getElem?_set] at e
     by_cases hid : id = i
     ·subst hid; simp [hi] at e
     ·rw [if_neg hid] at e; exact ⟨by simpa using hid, e⟩
  ·rw [List.getElem?_append_right (by omega), hN] at e
   have : i - st.h.length = 0 := by
    have := (List.getElem?_eq_some_iff.1 e).1; simp at this; omega
   rw [this] at e
   exact .inr ⟨by omega, by simpa using e⟩
 have hne : ∀ i l, dead ≠ some i → st.h[i]? = some (some l) → row ≠ some (V i).blk := fun i l hd e hr => by
  obtain ⟨id, hid⟩ := hrow _ hr
  obtain ⟨l', e1, e2⟩ := hdead id hid
  rw [hr] at e2
  exact h.hr.inj i id l l' e e1 (fun e => hd (by rw [hid, e])) (by simpa using e2)
 have hS : ∀ b, Stb C.A w st.h V b → Stb C.A w' (dI st.h dead ++ [some lb]) (updV V st.h.length I) b ∧ w'.heap[b]? = w.heap[b]? := fun b hs => by
  have hbr : row ≠ some b := fun hr => by
   obtain ⟨id, hid⟩ := hrow _ hr
   obtain ⟨l', e1, e2⟩ := hdead id hid
   rw [hr] at e2
   exact hs.2.2 id l' e1 (by simpa using e2.symm)
  refine ⟨⟨hs.1, Nat.lt_of_lt_of_le hs.2.1 hgr.size, fun i l e => ?_⟩, hgr.block b hs.2.1 (fun e => hbr e.symm)⟩
  rcases hlive i l e with ⟨h1, _, h2⟩ | ⟨h1, _⟩
  ·rw [hV i h1]; exact hs.2.2 i l h2
  ·subst h1
   simp only [updV, if_true]
   rcases hI with e | e
   ·exact fun e2 => hbr (by rw [e, e2])
   ·have := hs.2.1; omega
 have hk : Kept C.M C.w0 w' := ⟨hgr.os.trans h.kept.os, hgr.tape.trans h.kept.tape, hgr.output.trans h.kept.output, Nat.le_trans h.kept.size hgr.size, fun k hk hm => by
  rw [hgr.block k (Nat.lt_of_lt_of_le hk h.kept.size) (fun hr => ?_)]
  ·exact h.kept.block k hk hm
  ·obtain ⟨id, hid⟩ := hrow _ hr.symm
   obtain ⟨l', e1, e2⟩ := hdead id hid
   rw [← hr] at e2
   have e3 : k = (V id).blk := by simpa using e2
   exact hm (e3 ▸ h.hr.mine id l' e1 (e3 ▸ hk))⟩
 refine h.step hk ⟨fun i j li lj hi hj hij => ?_, fun i l e => ?_, fun i l e hlt => ?_⟩ hS hV (by simp [hN])
 ·rcases hlive i li hi with ⟨h1, d1, h2⟩ | ⟨h1, h2⟩ <;> rcases hlive j lj hj with ⟨h3, d3, h4⟩ | ⟨h3, h4⟩
  ·rw [hV i h1, hV j h3]; exact h.hr.inj i j li lj h2 h4 hij
  ·subst h3; rw [hV i h1]; simp only [updV, if_true]
   rcases hI with e | e
   ·exact fun e2 => hne i li d1 h2 (by rw [e, e2])
   ·have := h.hr.lt h2; omega
  ·subst h1; rw [hV j h3]; simp only [updV, if_true]
   rcases hI with e | e
   ·exact fun e2 => hne j lj d3 h4 (by rw [e, e2])
   ·have := h.hr.lt h4; omega
  ·omega
 ·rcases hlive i l e with ⟨h1, d1, h2⟩ | ⟨h1, h2⟩
  ·obtain ⟨c, hc⟩ := h.hr.blk i l h2
   rw [hV i h1]
   exact ⟨c, hc.mono hS hV (by simp [hN]) (hgr.block _ (h.hr.lt h2) (fun e => hne i l d1 h2 e.symm))⟩
  ·subst h1 h2
   refine ⟨cur', ?_⟩
   have e1 : updV V st.h.length I st.h.length = I := by simp [updV]
   rw [e1]
   have := hb hS
   simpa [hN] using this
 ·rcases hlive i l e with ⟨h1, d1, h2⟩ | ⟨h1, h2⟩
  ·rw [hV i h1] at hlt ⊢; exact h.hr.mine i l h2 hlt
  ·subst h1
   have e1 : updV V st.h.length I st.h.length = I := by simp [updV]
   rw [e1] at hlt ⊢
   rcases hI with e | e
   ·obtain ⟨id, hid⟩ := hrow _ e
    obtain ⟨l', f1, f2⟩ := hdead id hid
    rw [e] at f2
    have f3 : I.blk = (V id).blk := by simpa using f2
    rw [f3] at hlt ⊢
    exact h.hr.mine id l' f1 hlt
   ·have := h.kept.size; omega
theorem raO {t : TypeId} {x y : Operand} {a : Act} {w w' : World} {vx vy v : Value} (ho : o.op = .call { callee := .builtin .append, args := #[x, y], argTypes := #[t, t] }) (hx : a.eval x = vx) (hy : a.eval y = vy)
  (hr : (Builtin.append_ #[t, t] o.type #[vx, vy]).run P w = .ok v w') : (execOp a.eval o).run P w = .ok (.value v) w' := by
 unfold execOp
 simp only [ho, resolve, invoke, builtin, Sem.run_bind, Sem.run_pure, Result.andThen_ok, List.map_toArray, List.map_cons, List.map_nil, hx, hy, hr]


theorem rowT_append {t : Ty} {xs ys : List t.den} {k : Nat} : rowT t (xs ++ ys) k = if k < xs.length then rowT t xs k else rowT t ys (k - xs.length) := by
 unfold rowT
 split
 ·rename_i h; rw [List.getD_eq_getElem?_getD, List.getElem?_append_left h, ← List.getD_eq_getElem?_getD]
 ·rename_i h; rw [List.getD_eq_getElem?_getD, List.getElem?_append_right (by omega), ← List.getD_eq_getElem?_getD]

theorem SRV.srcStb {C : Ctx} {V a w} (h : SRV C V st a w) {c : AV} {x : Value} (hr : R w (Stb C.A w st.h V) V st.h.length c x) {t : Ty} {xs : List t.den} (hs : srcA st.h c = some ⟨t, xs⟩) (hsz : 0 < t.n) :
  Src w (Rt w (Stb C.A w st.h V)) t xs x := by
 unfold srcA at hs
 have own : ∀ (id ty : Nat) (t : Ty) (ys : List t.den) (lo n : Nat) (ad : Addr) (cap : Nat), st.h[id]? = some (some (.arr ty t ys)) → lo + n ≤ ys.length → 0 < t.n → x = .slice (some ad) n cap → (0 < n → ad = ⟨(V id).blk, lo * t.n, none⟩) → Src w (Rt w (Stb C.A w st.h V)) t ((ys.drop lo).take n) x := by
  intro id ty t ys lo n ad cap e hle hsz ex had
  obtain ⟨cur, hc⟩ := h.hr.blk id _ e
  have hln : ((ys.drop lo).take n).length = n := by simp; omega
  obtain ⟨cap0, _, e2, e3, e4, _⟩ := hc.own rfl
  simp only [LB.len, LB.sz] at e2 e4
  have hcur : ∀ k j, k < ys.length → j < t.n → ∃ y, cur[k * t.n + j]? = some y ∧ y.oneCell' = true := fun k j hk hj => by
   obtain ⟨y, g1, g2, _⟩ := hc.cell k j _ hk (List.getElem?_eq_getElem (by show j < (rowT t ys k).length; rw [rTl]; exact hj))
   exact ⟨y, g1, g2⟩
  refine ⟨some ad, cap, (List.range (n * t.n)).map fun j => (cur[lo * t.n + j]?).getD undef, by rw [hln]; exact ex, by simp [hln], fun hpos => ⟨ad, rfl, fun j u hu => ?_⟩, fun u hu => ?_, fun k j c hk hj => ?_⟩
  ·rw [List.getElem?_map] at hu
   by_cases hj : j < n * t.n
   ·rw [List.getElem?_range hj] at hu
    cases hu
    rw [had (by omega)]
    have e5 : (⟨(V id).blk, lo * t.n, none⟩ : Addr).add j = ⟨(V id).blk, lo * t.n + j, none⟩ := by unfold Addr.add; split <;> simp_all
    rw [e5, cell_of_row _ _ _ _ _ _ hc.heap.choose_spec.1]
    obtain ⟨d1, d2, d3⟩ := divmod hsz hj
    obtain ⟨y, g1, _⟩ := hcur (lo + j / t.n) (j % t.n) (by omega) d2
    rw [show (lo + j / t.n) * t.n + j % t.n = lo * t.n + j by rw [Nat.add_mul]; omega] at g1
    simp only [g1, Option.getD_some]
   ·rw [List.getElem?_eq_none (by simpa using hj)] at hu; cases hu
  ·obtain ⟨j, hj, rfl⟩ := List.mem_map.1 hu
   obtain ⟨d1, d2, d3⟩ := divmod hsz (List.mem_range.1 hj)
   obtain ⟨y, g1, g2⟩ := hcur (lo + j / t.n) (j % t.n) (by omega) d2
   rw [show (lo + j / t.n) * t.n + j % t.n = lo * t.n + j by rw [Nat.add_mul]; omega] at g1
   rw [g1]; exact g2
  ·have hkn : k < n := by omega
   have hj2 : j < t.n := by rw [← rTl t ((ys.drop lo).take n) k]; exact (List.getElem?_eq_some_iff.1 hj).1
   have hrw : rowT t ((ys.drop lo).take n) k = rowT t ys (lo + k) := by
    simp only [rowT, List.getD_eq_getElem?_getD, List.getElem?_take, if_pos hkn, List.getElem?_drop]
   rw [hrw] at hj
   obtain ⟨y, g1, g2, g3⟩ := hc.cell (lo + k) j c (by show lo + k < ys.length; omega) hj
   have g1 : cur[(lo + k) * t.n + j]? = some y := g1
   have hlt : k * t.n + j < n * t.n := by
    have h2 : (k + 1) * t.n ≤ n * t.n := Nat.mul_le_mul_right _ hkn
    rw [Nat.succ_mul] at h2; omega
   refine ⟨y, ?_, hc.still rfl (lo + k) j c y (by show lo + k < ys.length; omega) hj g1⟩
   rw [List.getElem?_map, List.getElem?_range hlt]
   rw [show (lo + k) * t.n + j = lo * t.n + (k * t.n + j) by rw [Nat.add_mul]; omega] at g1
   simp [g1]
 split at hs
 ·rename_i id
  split at hs
  ·rename_i ty t' xs' e
   simp only [Option.some.injEq, Sigma.mk.injEq] at hs
   obtain ⟨rfl, hs⟩ := hs
   cases hs
   obtain ⟨cur, hc⟩ := h.hr.blk id _ e
   obtain ⟨cap, e1, _⟩ := hc.own rfl
   have := own id ty t' xs' 0 xs'.length ⟨(V id).blk, 0, none⟩ cap e (by omega) hsz (by rw [hr.own_inv, e1]; rfl) (fun _ => by simp)
   simpa using this
  ·cases hs
 ·rename_i id lo n
  split at hs
  ·rename_i ty t' xs' e
   simp only [Option.some.injEq, Sigma.mk.injEq] at hs
   obtain ⟨rfl, hs⟩ := hs
   cases hs
   obtain ⟨g1, cap, g2, g3, g4⟩ := h.part e hr
   exact own id ty t' xs' lo n _ _ e g1 hsz g4 (fun hn => by simp; omega)
  ·cases hs
 ·simp only [Option.some.injEq, Sigma.mk.injEq] at hs
  obtain ⟨rfl, hs⟩ := hs
  cases hs
  exact hr.tree_inv.src hsz
 ·cases hs

theorem edoes_append {K : AV → St → Prop} (hT : TOk P T) (t : TypeId) (x y : Operand) (ho : o.op = .call { callee := .builtin .append, args := #[x, y], argTypes := #[t, t] }) (hk : evAppend T (T t) st (st.ev x) (st.ev y) K) : EDoes P M o st K := by
 unfold evAppend at hk
 split at hk
 case h_2 => exact hk.elim
 rename_i ti te t2 ys hti hte hsrc
 obtain ⟨ti', hi, hel, hte'⟩ := eTs hte
 rw [hti] at hi; cases hi
 have hu := (hT t ti hti).elem hel
 obtain ⟨inf, hinf, hzero, hsize, hby⟩ := (hT _ te hte').info
 split at hk
 case h_3 => exact hk.elim
 ·rename_i id hx
  split at hk
  case h_2 => exact hk.elim
  rename_i ty tt xs hlb
  obtain ⟨c1, hk⟩ := hk
  obtain rfl := Nat.eq_of_beq_eq_true c1
  split at hk
  case isFalse => exact hk.elim
  rename_i hsame
  have := se2 hsame
  subst this
  obtain ⟨hc, hob, hk⟩ := hk
  have hk : K (.own st.h.length) ⟨st.s, st.h.set id none ++ [some (.arr ti.elem t2 (xs ++ ys))]⟩ := hk
  have hob : Ob (xs.length + ys.length ≤ 140737488355328 / te.bytes ∧ xs.length + ys.length ≤ 140737488355328) := hob
  simp only [Bool.and_eq_true, Nat.blt_eq] at hc
  obtain ⟨⟨⟨c2, hsz⟩, c5⟩, c6⟩ := hc
  have c6 : t2.isMk = false := by simpa using c6
  have c2 := Nat.eq_of_beq_eq_true c2
  have c5 := Nat.eq_of_beq_eq_true c5
  obtain ⟨hbytes, hnm⟩ := hob.out
  have hbytes := mulOf hbytes
  intro C V a w h next Q hn
  obtain ⟨ad, c, news, ey, hl, hnews, h1, hcell2⟩ := h.srcStb (h.ev y) hsrc (by omega)
  obtain ⟨cur, hcur⟩ := h.hr.blk id _ hlb
  obtain ⟨fr, hheap, hfr⟩ := hcur.heap
  have hfr : FrOk t2.isMk cur.size fr := hfr
  rw [c6] at hfr
  obtain rfl := hfr.no
  obtain ⟨cap, eV, hlc, hcm, hcs, hbl⟩ := hcur.own rfl
  simp only [LB.len, LB.sz] at eV hlc hcs hbl
  have e0 : R w (Stb C.A w st.h V) V st.h.length (.own id) (a.eval x) := by rw [← hx]; exact h.ev x
  have ex : a.eval x = .slice (some ⟨(V id).blk, 0, none⟩) xs.length cap := by rw [e0.own_inv, eV]
  have key : ∃ (g' cap' : Nat) (cur' : Array Value) (w' : World), (Builtin.append_ #[t, t] o.type #[.slice (some ⟨(V id).blk, 0, none⟩) xs.length cap, .slice ad ys.length c]).run P w = .ok (.slice (some ⟨g', 0, none⟩) (xs.length + ys.length) cap') w' ∧ (g' = (V id).blk ∨ g' = w.heap.size) ∧
    w'.heap[g']? = some (.cells cur' ti.elem (0, 0)) ∧ xs.length + ys.length ≤ cap' ∧ cap' ≤ maxLen ∧ cur'.size = cap' * te.size ∧ cur'.toList.take ((xs.length + ys.length) * te.size) = cur.toList.take (xs.length * te.size) ++ news ∧ w.grownBy w' (some (V id).blk) ∧ (cap = 0 → Below w.heap.size w w') := by
   by_cases hm : 0 < ys.length
   ·obtain ⟨ad', rfl, hnews2⟩ := hnews hm
    exact run_append_at (P := P) w t o.type ti.elem inf te.zero te.size hu hinf hzero hsize c5 hsz (V id).blk xs.length cap cur hheap hlc hcm (by rw [← c2]; exact hcs) ad' ys.length c news (by rw [← c2]; exact hl) hnews2 h1 hm (by have := mLe; omega) (by rw [hby]; omega)
   ·have hm0 : ys.length = 0 := by omega
    have hnil : news = [] := by rw [hm0, Nat.zero_mul] at hl; exact List.length_eq_zero_iff.1 hl
    refine ⟨(V id).blk, cap, cur, w, ?_,   .inl rfl, hheap, by omega, hcm, by rw [← c2]; exact hcs, by simp [hm0, hnil], ⟨rfl, rfl, rfl, Nat.le_refl _, fun _ _ _ => rfl⟩, fun _ => Below.refl _ _⟩
    rw [hm0]
    exact raz w t o.type ti.elem inf hu hinf _ _ _ hlc _ _
  obtain ⟨g', cap', cur', w', hr, hgg, hh, k1, k2, k3, k4, hgr, hbz⟩ := key
  have hs := h.regrow (dead := some id) (row := some (V id).blk) (I := ⟨g', t2.n, xs.length + ys.length, .slice (some ⟨g', 0, none⟩) (xs.length + ys.length) cap'⟩) (lb := .arr ti.elem t2 (xs ++ ys)) (cur' := cur') (w' := w') (fun i hi => by cases hi; exact ⟨_, hlb, rfl⟩) (fun k _ => ⟨id, rfl⟩) hgr
   (by rcases hgg with e | e <;> simp [e]) (Array.getElem?_eq_some_iff.1 hh).1 (fun hS => by
    have hlen : (xs ++ ys).length = xs.length + ys.length := List.length_append
    refine BlkR.newArr (L := cur.toList.take (xs.length * te.size) ++ news) hh hlen (by omega) k2 (by rw [c2]; exact k3) (by rw [hlen]; simp only [bL]; omega) (by rw [hlen, c2]; exact k4) (fun k j c hk hj => ?_)
    rw [rowT_append] at hj
    split at hj
    ·rename_i hkn
     have hj2 : j < t2.n := by rw [← rTl t2 xs k]; exact (List.getElem?_eq_some_iff.1 hj).1
     have hlt : k * t2.n + j < xs.length * t2.n := by
      have h2 : (k + 1) * t2.n ≤ xs.length * t2.n := Nat.mul_le_mul_right _ hkn
      rw [Nat.succ_mul] at h2; omega
     obtain ⟨u, e1, e2, _⟩ := hcur.cell k j c hkn hj
     have e1 : cur[k * t2.n + j]? = some u := e1
     have hnl : xs.length * t2.n ≤ cur.size := by rw [hcs]; exact Nat.mul_le_mul_right _ hlc
     refine ⟨u, ?_, e2, (hcur.still rfl k j c u hkn hj e1).mono hS⟩
     rw [← c2, List.getElem?_append_left (by simp; omega), List.getElem?_take, if_pos hlt]
     simpa using e1
    ·rename_i hkn
     obtain ⟨u, e1, e2⟩ := hcell2 (k - xs.length) j c (by omega) hj
     have hnl : xs.length * t2.n ≤ cur.size := by rw [hcs]; exact Nat.mul_le_mul_right _ hlc
     refine ⟨u, ?_, h1 u (List.mem_of_getElem? e1), e2.mono hS⟩
     have e3 : xs.length * t2.n + (k - xs.length) * t2.n = k * t2.n := by rw [← Nat.add_mul]; congr 1; omega
     rw [← c2, List.getElem?_append_right (by simp; omega)]
     rw [show k * t2.n + j - (cur.toList.take (xs.length * t2.n)).length = (k - xs.length) * t2.n + j by simp; omega]
     exact e1)
  have hrun := raO ho ex ey hr
  unfold Oper.wp
  rw [hrun]
  refine hn _ _ _ _ _ hk hs ?_ (fun e => by
   obtain ⟨_, _, e⟩ := belA_cap ho e
   rw [ex] at e; cases e; exact hbz rfl)
  have := R.own (w := w') (S := Stb C.A w' (dI st.h (some id) ++ [some (.arr ti.elem t2 (xs ++ ys))]) (updV V st.h.length ⟨g', t2.n, xs.length + ys.length, .slice (some ⟨g', 0, none⟩) (xs.length + ys.length) cap'⟩)) (V := updV V st.h.length ⟨g', t2.n, xs.length + ys.length, .slice (some ⟨g', 0, none⟩) (xs.length + ys.length) cap'⟩) (N := (dI st.h (some id) ++ [some (LB.arr ti.elem t2 (xs ++ ys))]).length) st.h.length (by simp [dI])
  simpa [updV, dI] using this
 ·rename_i hx
  obtain ⟨hc, hob, hk⟩ := hk
  simp only [Bool.and_eq_true, Nat.blt_eq] at hc
  obtain ⟨⟨c3, hsz⟩, c5⟩ := hc
  have c3 := Nat.eq_of_beq_eq_true c3
  have c5 := Nat.eq_of_beq_eq_true c5
  obtain ⟨hm, hbytes, hnm⟩ := hob.out
  have hbytes := mulOf hbytes
  intro C V a w h next Q hn
  obtain ⟨ad, c, news, ey, hl, hnews, h1, hcell2⟩ := h.srcStb (h.ev y) hsrc (by omega)
  obtain ⟨ad', rfl, hnews2⟩ := hnews hm
  have ex : a.eval x = .slice none 0 0 := h.evv hx
  obtain ⟨g', cap', cur', w', hr, hgg, hh, k1, k2, k3, k4, hgr, hbz⟩ := raan (P := P) w t o.type ti.elem inf te.zero te.size hu hinf hzero hsize c5 hsz ad' ys.length c news (by rw [← c3]; exact hl) hnews2 h1 hm (by have := mLe; omega) (by rw [hby]; omega)
  have hs := h.regrow (dead := none) (row := none) (I := ⟨g', t2.n, ys.length, .slice (some ⟨g', 0, none⟩) ys.length cap'⟩) (lb := .arr ti.elem t2 ys) (cur' := cur') (w' := w') (fun i hi => by cases hi) (fun k hk => by cases hk) hgr
   (.inr hgg) (Array.getElem?_eq_some_iff.1 hh).1 (fun hS => by
    refine BlkR.newArr (L := news) hh rfl k1 k2 (by rw [c3]; exact k3) (by simp only [bL]; omega) (by rw [c3]; exact k4) (fun k j c hk hj => ?_)
    obtain ⟨u, e1, e2⟩ := hcell2 k j c hk hj
    exact ⟨u, e1, h1 u (List.mem_of_getElem? e1), e2.mono hS⟩)
  have hrun := raO ho ex ey hr
  unfold Oper.wp
  rw [hrun]
  refine hn _ _ _ _ _ hk hs ?_ (fun _ => hbz)
  have := R.own (w := w') (S := Stb C.A w' (dI st.h none ++ [some (.arr ti.elem t2 ys)]) (updV V st.h.length ⟨g', t2.n, ys.length, .slice (some ⟨g', 0, none⟩) ys.length cap'⟩)) (V := updV V st.h.length ⟨g', t2.n, ys.length, .slice (some ⟨g', 0, none⟩) ys.length cap'⟩) (N := (dI st.h none ++ [some (LB.arr ti.elem t2 ys)]).length) st.h.length (by simp [dI])
  simpa [updV, dI] using this

def zerosA (z : List AV) (n : Nat) : List AV := (List.range n).map fun k => (z[k % z.length]?).getD .any
def decRows (t : Ty) : Nat → List AV → Option (List t.den)
 | 0, _ => some []
 | n + 1, cs => match t.dec (cs.take t.n), decRows t n (cs.drop t.n) with
   | some x, some xs => some (x :: xs)
   | _, _ => none
theorem dRs {t : Ty} : ∀ (n : Nat) (cs : List AV) (xs : List t.den), decRows t n cs = some xs → xs.length = n ∧ ∀ (k j : Nat) (c' : AV), k < n → (rowT t xs k)[j]? = some c' → ∃ c, cs[k * t.n + j]? = some c ∧ c.imp c'
 | 0, cs, xs, h => by cases h; exact ⟨rfl, fun k j c' hk => absurd hk (Nat.not_lt_zero _)⟩
 | n + 1, cs, xs, h => by
   unfold decRows at h
   split at h
   ·rename_i y ys h1 h2
    cases h
    obtain ⟨g1, g2⟩ := ds1 t _ y h1
    obtain ⟨k1, k2⟩ := dRs n _ ys h2
    refine ⟨by simp [k1], fun k j c' hk hj => ?_⟩
    cases k with
    | zero =>
      have hj : (t.enc y)[j]? = some c' := hj
      have hl : j < (cs.take t.n).length := by rw [g1, ← el t y]; exact (List.getElem?_eq_some_iff.1 hj).1
      have e1 := List.getElem?_eq_getElem hl
      refine ⟨_, ?_, g2 j _ c' e1 hj⟩
      rw [List.getElem?_take] at e1
      split at e1
      ·simp
      ·cases e1
    | succ k =>
      have hj : (rowT t ys k)[j]? = some c' := hj
      obtain ⟨c, e1, e2⟩ := k2 k j c' (by omega) hj
      refine ⟨c, ?_, e2⟩
      rw [List.getElem?_drop] at e1
      rw [← e1]; congr 1; rw [Nat.succ_mul]; omega
   ·cases h
def frzV (h0 h : List (Option LB)) : List AV → List AV × List (Option LB)
 | [] => ([], h)
 | .own id :: cs => match h0[id]? with
   | some (some (.arr _ t xs)) => match frzV h0 (h.set id none) cs with
     | (r, h') => (.tree t xs :: r, h')
   | _ => match frzV h0 h cs with
     | (r, h') => (.any :: r, h')
 | .view id lo n :: cs => match h0[id]? with
   | some (some (.arr _ t xs)) => match frzV h0 (h.set id none) cs with
     | (r, h') => (.tree t ((xs.drop lo).take n) :: r, h')
   | _ => match frzV h0 h cs with
     | (r, h') => (.any :: r, h')
 | c :: cs => match frzV h0 h cs with
   | (r, h') => (c :: r, h')
theorem Stb.sub {A : Nat → Prop} {w : World} {V : Nat → Info} {h h' : List (Option LB)} (hs : ∀ (i : Nat) (lb : LB), h'[i]? = some (some lb) → h[i]? = some (some lb)) (b : Nat) (hb : Stb A w h V b) : Stb A w h' V b :=
 ⟨hb.1, hb.2.1, fun i lb e => hb.2.2 i lb (hs i lb e)⟩
theorem sns {h : List (Option LB)} {id : Nat} (i : Nat) (lb : LB) (e : (h.set id none)[i]? = some (some lb)) : i ≠ id ∧ h[i]? = some (some lb) := by
 rw [List.getElem?_set] at e
 by_cases hi : id = i
 ·rw [if_pos hi] at e; split at e <;> simp at e
 ·rw [if_neg hi] at e; exact ⟨fun e => hi e.symm, e⟩
theorem SRV.freezeFrom {C : Ctx} {V a w} {s : Nat → AV} {h0 h : List (Option LB)} (hs0 : SRV C V ⟨s, h0⟩ a w) (hs : SRV C V ⟨s, h⟩ a w) (hsub : ∀ (i : Nat) (lb : LB), h[i]? = some (some lb) → h0[i]? = some (some lb)) {id ty : Nat} {t : Ty} {xs : List t.den} (e : h0[id]? = some (some (.arr ty t xs))) :
  SRV C V ⟨s, h.set id none⟩ a w ∧ Rt w (Stb C.A w (h.set id none) V) (.tree t xs) (V id).val := by
 refine ⟨hs.drop id, ?_⟩
 obtain ⟨_, ht⟩ := hs0.freeze (st := ⟨s, h0⟩) e rfl
 refine ht.mono fun b hb => ⟨Stb.sub (fun i lb e1 => ?_) b hb, rfl⟩
 obtain ⟨g1, g2⟩ := sns i lb e1
 show (h0.set id none)[i]? = _
 rw [List.getElem?_set_ne (Ne.symm g1)]
 exact hsub i lb g2
theorem Rt.drop_take {w : World} {S : Nat → Prop} {t : Ty} {xs : List t.den} {x : Value} (h : Rt w S (.tree t xs) x) {lo n : Nat} (hn : lo + n ≤ xs.length) : Rt w S (.tree t ((xs.drop lo).take n)) (partV x t.n lo n) := by
 cases h with
 | tree _ _ a len cap b o X hlen hb hc hm ha hx hh =>
   have hln : ((xs.drop lo).take n).length = n := by simp; omega
   have hrw : ∀ k, k < n → rowT t ((xs.drop lo).take n) k = rowT t xs (lo + k) := fun k hk => by
    simp only [rowT, List.getD_eq_getElem?_getD, List.getElem?_take, if_pos hk, List.getElem?_drop]
   simp only [partV]
   refine .tree t _ _ _ _ b (o + lo * t.n) (fun k j => X (lo + k) j) hln.symm (by omega) (by omega) (by omega) (fun hne => ?_) (fun k j c g1 g2 => ?_) (fun k j c g1 g2 => ?_)
   ·obtain ⟨e1, e2⟩ := ha (by omega)
    refine ⟨?_, e2⟩
    rw [if_neg (by omega), e1]; simp [Addr.add_lit]
   ·rw [hrw k (by omega)] at g2
    have := hx (lo + k) j c (by omega) g2
    rw [show o + lo * t.n + k * t.n + j = o + (lo + k) * t.n + j by rw [Nat.add_mul]; omega]
    exact this
   ·rw [hrw k (by omega)] at g2
    exact hh (lo + k) j c (by omega) g2
theorem SRV.frzV {C : Ctx} {V a w} {s : Nat → AV} {h0 : List (Option LB)} (hs0 : SRV C V ⟨s, h0⟩ a w) : ∀ (cs : List AV) (h : List (Option LB)) (ys : List Value), SRV C V ⟨s, h⟩ a w → h.length = h0.length →
  (∀ (i : Nat) (lb : LB), h[i]? = some (some lb) → h0[i]? = some (some lb)) → ys.length = cs.length →
  (∀ (i : Nat) (c : AV) (y : Value), cs[i]? = some c → ys[i]? = some y → R w (Stb C.A w h0 V) V h0.length c y) →
  SRV C V ⟨s, (frzV h0 h cs).2⟩ a w ∧ (frzV h0 h cs).1.length = cs.length ∧ (frzV h0 h cs).2.length = h0.length ∧ (∀ (i : Nat) (lb : LB), (frzV h0 h cs).2[i]? = some (some lb) → h[i]? = some (some lb)) ∧
  ∀ (i : Nat) (c : AV) (y : Value), (frzV h0 h cs).1[i]? = some c → ys[i]? = some y → R w (Stb C.A w (frzV h0 h cs).2 V) V h0.length c y
 | [], h, ys, hs, hl, _, _, _ => ⟨hs, rfl, hl, fun _ _ e => e, fun i c y e => by simp [Go.Proofs.YtaobinhdnklojaaGreatDoor.frzV] at e⟩
 | c :: cs, h, [], _, _, _, hl, _ => by simp at hl
 | c :: cs, h, y :: ys, hs, hl0, hsub, hl, hr => by
   have hr0 := hr 0 c y rfl rfl
   have hrt := fun (i : Nat) (c : AV) (y : Value) (e1 : cs[i]? = some c) (e2 : ys[i]? = some y) => hr (i + 1) c y (by simpa using e1) (by simpa using e2)
   have other : ∀ d : AV, R w (Stb C.A w h0 V) V h0.length d y → Go.Proofs.YtaobinhdnklojaaGreatDoor.frzV h0 h (c :: cs) = (d :: (Go.Proofs.YtaobinhdnklojaaGreatDoor.frzV h0 h cs).1, (Go.Proofs.YtaobinhdnklojaaGreatDoor.frzV h0 h cs).2) →
     SRV C V ⟨s, (Go.Proofs.YtaobinhdnklojaaGreatDoor.frzV h0 h (c :: cs)).2⟩ a w ∧ (Go.Proofs.YtaobinhdnklojaaGreatDoor.frzV h0 h (c :: cs)).1.length = (c :: cs).length ∧ (Go.Proofs.YtaobinhdnklojaaGreatDoor.frzV h0 h (c :: cs)).2.length = h0.length ∧ (∀ (i : Nat) (lb : LB), (Go.Proofs.YtaobinhdnklojaaGreatDoor.frzV h0 h (c :: cs)).2[i]? = some (some lb) → h[i]? = some (some lb)) ∧
     ∀ (i : Nat) (c' : AV) (y' : Value), (Go.Proofs.YtaobinhdnklojaaGreatDoor.frzV h0 h (c :: cs)).1[i]? = some c' → (y :: ys)[i]? = some y' → R w (Stb C.A w (Go.Proofs.YtaobinhdnklojaaGreatDoor.frzV h0 h (c :: cs)).2 V) V h0.length c' y' := fun d hd e => by
    obtain ⟨g1, g2, g3, g4, g5⟩ := SRV.frzV hs0 cs h ys hs hl0 hsub (by simpa using hl) hrt
    rw [e]
    refine ⟨g1, by simp [g2], g3, g4, fun i c' y' e1 e2 => ?_⟩
    cases i with
    | zero => simp at e1 e2; subst e1 e2; exact hd.mono (fun b hb => ⟨Stb.sub (fun i lb e => hsub i lb (g4 i lb e)) b hb, rfl⟩) (fun _ _ => rfl) (Nat.le_refl _)
    | succ i => exact g5 i c' y' (by simpa using e1) (by simpa using e2)
   have frozen : ∀ (id ty : Nat) (t : Ty) (xs : List t.den) (d : AV), h0[id]? = some (some (.arr ty t xs)) → (∀ S : Nat → Prop, Rt w S (.tree t xs) (V id).val → Rt w S d y) →
     Go.Proofs.YtaobinhdnklojaaGreatDoor.frzV h0 h (c :: cs) = (d :: (Go.Proofs.YtaobinhdnklojaaGreatDoor.frzV h0 (h.set id none) cs).1, (Go.Proofs.YtaobinhdnklojaaGreatDoor.frzV h0 (h.set id none) cs).2) →
     SRV C V ⟨s, (Go.Proofs.YtaobinhdnklojaaGreatDoor.frzV h0 h (c :: cs)).2⟩ a w ∧ (Go.Proofs.YtaobinhdnklojaaGreatDoor.frzV h0 h (c :: cs)).1.length = (c :: cs).length ∧ (Go.Proofs.YtaobinhdnklojaaGreatDoor.frzV h0 h (c :: cs)).2.length = h0.length ∧ (∀ (i : Nat) (lb : LB), (Go.Proofs.YtaobinhdnklojaaGreatDoor.frzV h0 h (c :: cs)).2[i]? = some (some lb) → h[i]? = some (some lb)) ∧
     ∀ (i : Nat) (c' : AV) (y' : Value), (Go.Proofs.YtaobinhdnklojaaGreatDoor.frzV h0 h (c :: cs)).1[i]? = some c' → (y :: ys)[i]? = some y' → R w (Stb C.A w (Go.Proofs.YtaobinhdnklojaaGreatDoor.frzV h0 h (c :: cs)).2 V) V h0.length c' y' := fun id ty t xs d e hd e9 => by
    obtain ⟨h2, ht⟩ := hs0.freezeFrom hs hsub e
    obtain ⟨g1, g2, g3, g4, g5⟩ := SRV.frzV hs0 cs (h.set id none) ys h2 (by simpa using hl0) (fun i lb e => hsub i lb (sns i lb e).2) (by simpa using hl) hrt
    rw [e9]
    refine ⟨g1, by simp [g2], g3, fun i lb e => (sns i lb (g4 i lb e)).2, fun i c' y' e1 e2 => ?_⟩
    cases i with
    | zero => simp at e1 e2; subst e1 e2; exact .imm _ _ ((hd _ ht).mono fun b hb => ⟨Stb.sub g4 b hb, rfl⟩)
    | succ i => exact g5 i c' y' (by simpa using e1) (by simpa using e2)
   cases c with
   | own id =>
     by_cases hlive : ∃ ty t xs, h0[id]? = some (some (LB.arr ty t xs))
     ·obtain ⟨ty, t, xs, e⟩ := hlive
      refine frozen id ty t xs (.tree t xs) e (fun S hS => by rw [hr0.own_inv]; exact hS) ?_
      simp only [Go.Proofs.YtaobinhdnklojaaGreatDoor.frzV, e]
     ·refine other .any (.imm _ _ (.any _)) ?_
      simp only [Go.Proofs.YtaobinhdnklojaaGreatDoor.frzV]
      split
      ·rename_i ty t xs e; exact (hlive ⟨ty, t, xs, e⟩).elim
      ·rfl
   | view id lo n =>
     by_cases hlive : ∃ ty t xs, h0[id]? = some (some (LB.arr ty t xs))
     ·obtain ⟨ty, t, xs, e⟩ := hlive
      refine frozen id ty t xs (.tree t ((xs.drop lo).take n)) e (fun S hS => ?_) ?_
      ·obtain ⟨_, k2, k3⟩ := hr0.view_inv
       obtain ⟨cur, hc⟩ := hs0.hr.blk id _ e
       have e1 := hc.ln
       have e2 := hc.sz
       simp only [LB.len, LB.sz] at e1 e2
       rw [k3, e2]
       exact hS.drop_take (by omega)
      ·simp only [Go.Proofs.YtaobinhdnklojaaGreatDoor.frzV, e]
     ·refine other .any (.imm _ _ (.any _)) ?_
      simp only [Go.Proofs.YtaobinhdnklojaaGreatDoor.frzV]
      split
      ·rename_i ty t xs e; exact (hlive ⟨ty, t, xs, e⟩).elim
      ·rfl
   | _ => exact other _ hr0 rfl
def partsF (st : St) : List (Nat × Operand) → List (Option LB) → List (Nat × Option (List AV)) × List (Option LB)
 | [], h => ([], h)
 | (i, x) :: ps, h => match memCells st.h (st.ev x) with
   | some cs => match frzV st.h h cs with
     | (fs, h1) => match partsF st ps h1 with
       | (r, h2) => ((i, some fs) :: r, h2)
   | none => match partsF st ps h with
     | (r, h2) => ((i, none) :: r, h2)
def evBuildT (ty : Nat) (t : Ty) (xs : Option (List t.den)) (s : Nat → AV) (h : List (Option LB)) (K : AV → St → Prop) : Prop := match xs with
 | some xs => K (.own h.length) ⟨s, h ++ [some (.arr ty t xs)]⟩
 | none => False
def evBuildS (ty : Nat) (t : Ty) (len : Nat) (o : Option (List AV)) (s : Nat → AV) (h : List (Option LB)) (K : AV → St → Prop) : Prop := match o with
 | some res => (res.all AV.isImm) = true ∧ evBuildT ty t (decRows t len res) s h K
 | none => False
def eBS (T : Nat → Option TI) (i : Option TI) (st : St) (len : Nat) (ps : List (Nat × Operand)) (K : AV → St → Prop) : Prop :=
 match i, elemT T i with
 | some ti, some te => match te.cod with
   | some t => (te.zero.cells.toList.all Value.oneCell' && Nat.beq t.n te.size && Nat.beq te.zero.cells.size te.size && Nat.blt 0 te.size && Nat.ble (len * te.size) 16777216) = true ∧
     match partsF st ps st.h with
     | (pf, h) => evBuildS ti.elem t len (fillA (fun j => some (j * te.size, te.size)) (zerosA (te.zero.cells.toList.map AV.v) (len * te.size)) pf) st.s h K
   | none => False
 | _, _ => False
theorem fAl {place : Nat → Option (Nat × Nat)} : ∀ {ps : List (Nat × Option (List AV))} {acc res : List AV}, fillA place acc ps = some res → res.length = acc.length
 | [], acc, res, h => by simp only [fillA, Option.some.injEq] at h; rw [h]
 | (i, o) :: ps, acc, res, h => by
   unfold fillA at h
   split at h
   ·split at h
    ·rename_i hb
     rw [fSe] at h
     simp only [Bool.and_eq_true] at hb
     have hb1 := Nat.eq_of_beq_eq_true hb.1
     have hb2 := Nat.le_of_ble_eq_true hb.2
     rw [fAl h, sl1 (by omega)]
    ·cases h
   ·cases h

theorem SRV.partsF {C : Ctx} {V a w} (h0 : SRV C V st a w) : ∀ (ps : List (Nat × Operand)) (h : List (Option LB)), SRV C V ⟨st.s, h⟩ a w → h.length = st.h.length → (∀ (i : Nat) (lb : LB), h[i]? = some (some lb) → st.h[i]? = some (some lb)) →
  SRV C V ⟨st.s, (partsF st ps h).2⟩ a w ∧ (partsF st ps h).2.length = st.h.length ∧ (∀ b, Stb C.A w h V b → Stb C.A w (partsF st ps h).2 V b) ∧ (partsF st ps h).1.length = ps.length ∧
  ∀ (j i i' : Nat) (o : Option (List AV)) (v : Value), (partsF st ps h).1[j]? = some (i, o) → (ps.map fun x => (x.1, a.eval x.2))[j]? = some (i', v) → i' = i ∧ ∀ cs, o = some cs → RelC (R w (Stb C.A w (partsF st ps h).2 V) V st.h.length) cs v.cells
 | [], h, hs, hl, hS => ⟨hs, hl, fun b hb => hb, rfl, fun j i i' o v e => by simp [Go.Proofs.YtaobinhdnklojaaGreatDoor.partsF] at e⟩
 | (i0, x) :: ps, h, hs, hl, hS => by
   unfold Go.Proofs.YtaobinhdnklojaaGreatDoor.partsF
   split
   ·rename_i cs hmc
    obtain ⟨c1, c2, c3⟩ := h0.memCells (h0.ev x) hmc
    obtain ⟨f1, f2, f3, f4', f5⟩ := SRV.frzV (s := st.s) (h0 := st.h) h0 cs h (a.eval x).cells.toList hs hl hS (by simpa using c1) (fun i c y e1 e2 => c2 i c y e1 (by simpa using e2))
    have f4 := Stb.sub (A := C.A) (w := w) (V := V) f4'
    obtain ⟨g1, g2, g3, g4, g5⟩ := SRV.partsF h0 ps (Go.Proofs.YtaobinhdnklojaaGreatDoor.frzV st.h h cs).2 f1 (by omega) (fun i lb e => hS i lb (f4' i lb e))
    refine ⟨g1, g2, fun b hb => g3 b (f4 b hb), by simp [g4], fun j i i' o v e1 e2 => ?_⟩
    cases j with
    | zero =>
      simp at e1 e2
      obtain ⟨rfl, rfl⟩ := e1
      obtain ⟨rfl, rfl⟩ := e2
      refine ⟨rfl, fun cs' hcs => ?_⟩
      cases hcs
      refine ⟨by rw [f2]; exact c1, fun k c y k1 k2 => ⟨c3 y (Array.mem_toList_iff.2 (Array.mem_of_getElem? k2)), ?_⟩⟩
      have := f5 k c y k1 (by simpa using k2)
      exact this.mono (fun b hb => ⟨g3 b hb, rfl⟩) (fun _ _ => rfl) (by omega)
    | succ j => exact g5 j i i' o v (by simpa using e1) (by simpa using e2)
   ·obtain ⟨g1, g2, g3, g4, g5⟩ := SRV.partsF h0 ps h hs hl hS
    refine ⟨g1, g2, g3, by simp [g4], fun j i i' o v e1 e2 => ?_⟩
    cases j with
    | zero =>
      simp at e1 e2
      obtain ⟨rfl, rfl⟩ := e1
      obtain ⟨rfl, rfl⟩ := e2
      exact ⟨rfl, fun cs hcs => by cases hcs⟩
    | succ j => exact g5 j i i' o v (by simpa using e1) (by simpa using e2)
theorem ebS {K : AV → St → Prop} (hT : TOk P T) (t : TypeId) (len : Nat) (ps : Array (Nat × Operand)) (ho : o.op = .buildSlice t len ps) (hk : eBS T (T t) st len ps.toList K) : EDoes P M o st K := by
 unfold eBS at hk
 split at hk
 case h_2 => exact hk.elim
 rename_i ti te hti hte
 split at hk
 case h_2 => exact hk.elim
 rename_i tt hcod
 obtain ⟨hc, hk⟩ := hk
 simp only [Bool.and_eq_true, Nat.blt_eq] at hc
 obtain ⟨⟨⟨⟨hz1, hz0⟩, hz2⟩, hz3⟩, hz4⟩ := hc
 have hz0 := Nat.eq_of_beq_eq_true hz0
 have hz2 := Nat.eq_of_beq_eq_true hz2
 have hz4 := Nat.le_of_ble_eq_true hz4
 obtain ⟨ti', hi, hel, hte'⟩ := eTs hte
 rw [hti] at hi; cases hi
 have hu := (hT t ti hti).elem hel
 obtain ⟨inf, hinf, hzero, hsize, hby⟩ := (hT _ te hte').info
 have hk : evBuildS ti.elem tt len (fillA (fun j => some (j * te.size, te.size)) (zerosA (te.zero.cells.toList.map AV.v) (len * te.size)) (partsF st ps.toList st.h).1) st.s (partsF st ps.toList st.h).2 K := hk
 unfold evBuildS at hk
 split at hk
 case h_2 => exact hk.elim
 rename_i res hres
 obtain ⟨himm, hk⟩ := hk
 unfold evBuildT at hk
 split at hk
 case h_2 => exact hk.elim
 rename_i xs hdec
 obtain ⟨dl, dr⟩ := dRs _ _ _ hdec
 intro C V a w h next Q hn
 obtain ⟨p1, p2, p3, p4, p5⟩ := SRV.partsF h ps.toList st.h h rfl (fun _ _ e => e)
 have hzr : RelC (R w (Stb C.A w (partsF st ps.toList st.h).2 V) V st.h.length) (zerosA (te.zero.cells.toList.map AV.v) (len * te.size)) (madeCells te.zero.cells (len * te.size)) := by
  refine ⟨by simp [zerosA, size_madeCells], fun k c y e1 e2 => ?_⟩
  have hkl : k < len * te.size := by have := (Array.getElem?_eq_some_iff.1 e2).1; rwa [size_madeCells] at this
  obtain ⟨d1, d2, d3⟩ := divmod hz3 hkl
  rw [← d3, made_get _ _ _ _ _ hz2 d2 (by rw [d3]; exact hkl)] at e2
  unfold zerosA at e1
  rw [List.getElem?_map, List.getElem?_range hkl] at e1
  simp only [Option.map_some, List.length_map, Array.length_toList, hz2, List.getElem?_map, Array.getElem?_toList, e2, Option.getD_some, Option.some.injEq] at e1
  subst e1
  exact ⟨List.all_eq_true.1 hz1 y (Array.mem_toList_iff.2 (Array.mem_of_getElem? e2)), .imm _ _ (.v y)⟩
 obtain ⟨r, hr, hrel⟩ := fr1 (place' := fun j => some (j * te.size, te.size)) (Rel := R w (Stb C.A w (partsF st ps.toList st.h).2 V) V st.h.length) (fun j p hp => hp) (partsF st ps.toList st.h).1 (ps.toList.map fun x => (x.1, a.eval x.2)) _ res _ hzr (by simp [p4]) (fun j i i' o v e1 e2 => p5 j i i' o v e1 e2) hres
 have hlen : res.length = len * te.size := by rw [fAl hres]; simp [zerosA]
 have hrs : r.size = len * te.size := by rw [hrel.1, hlen]
 have hsz16 : len ≤ len * te.size := Nat.le_mul_of_pos_right _ hz3
 obtain ⟨hs, hown⟩ := p1.newArr (st := ⟨st.s, (partsF st ps.toList st.h).2⟩) (ty := ti.elem) (n := len) (m := len) (t := tt) (xs := xs) (cur := r) dl (Nat.le_refl _) (by have := mLe; omega) (by rw [hz0]; exact hrs) (by simp only [bL]; omega) (fun k j c' hk hj => by
  obtain ⟨c, e1, e2⟩ := dr k j c' (by omega) hj
  have hlt : k * tt.n + j < r.size := by rw [hrel.1]; exact (List.getElem?_eq_some_iff.1 e1).1
  have hu : r[k * tt.n + j]? = some r[k * tt.n + j] := Array.getElem?_eq_getElem hlt
  obtain ⟨g1, g2⟩ := hrel.2 _ c _ e1 hu
  exact ⟨_, hu, g1, e2 _ _ _ (g2.toImm (List.all_eq_true.1 himm c (List.mem_of_getElem? e1)))⟩)
 have hrun : (execOp a.eval o).run P w = .ok (.value (.slice (some ⟨w.heap.size, 0, none⟩) len len)) (w.alloc (.cells r ti.elem)) := by
  have hfill : Instr.fill (fun j => some (j * te.size, te.size)) (madeCells te.zero.cells (len * te.size)) (ps.map fun x => (x.1, a.eval x.2)).toList = some r := by simpa using hr
  have hns : ¬ (len * te.size > 16777216) := by omega
  by_cases h0 : len * te.size = 0
  ·have e0 : madeCells te.zero.cells (len * te.size) = #[] := by simp [h0, madeCells, Array.range_zero']
   have hr0 := hr
   rw [e0] at hr0
   simp [execOp, ho, Instr.buildSlice, run_underlying hu, sizeOf, typeInfo, hinf, hsize, h0, hr0, newRow, Array.range_zero']
  ·simp [execOp, ho, Instr.buildSlice, run_underlying hu, sizeOf, typeInfo, hinf, hsize, hns, h0, zeroValue, hzero, newRow]
   have hr0 := hr
   unfold madeCells at hr0
   simp [hr0]
 unfold Oper.wp
 rw [hrun]
 refine hn _ _ _ _ _ hk (by simpa [p2] using hs) (by simpa [p2] using hown) fun _ => (Below.refl _ _).alloc (Nat.le_refl _) _
end
end Go.Proofs.YtaobinhdnklojaaGreatDoor
namespace Go.Proofs.YtaobinhdnklojaaGreatDoor
open Go.RowKit

theorem SRV.trunc {C : Ctx} {V st a w} (h : SRV C V st a w) {id ty n : Nat} {t : Ty} {xs : List t.den} (hl : st.h[id]? = some (some (.arr ty t xs))) {y : Value} (hy : R w (Stb C.A w st.h V) V st.h.length (.view id 0 n) y) :
  ∃ V', SRV C V' ⟨st.s, st.h.set id none ++ [some (LB.arr ty t (xs.take n))]⟩ a w ∧ R w (Stb C.A w (st.h.set id none ++ [some (LB.arr ty t (xs.take n))]) V') V' (st.h.set id none ++ [some (LB.arr ty t (xs.take n))]).length (.own st.h.length) y := by
 obtain ⟨hn, cap, hcl, hcm, ey⟩ := h.part hl hy
 have hn : n ≤ xs.length := by omega
 have ey : y = .slice (some ⟨(V id).blk, 0, none⟩) n cap := by rw [ey]; simp
 obtain ⟨cur, hc⟩ := h.hr.blk id _ hl
 have hid : id < st.h.length := (List.getElem?_eq_some_iff.1 hl).1
 let I : Info := ⟨(V id).blk, t.n, n, y⟩
 have hV : ∀ i, i < st.h.length → updV V st.h.length I i = V i := fun i hi => by simp [updV]; omega
 have eI : updV V st.h.length I st.h.length = I := by simp [updV]
 have hlive : ∀ i l, (st.h.set id none ++ [some (LB.arr ty t (xs.take n))])[i]? = some (some l) → (i < st.h.length ∧ i ≠ id ∧ st.h[i]? = some (some l)) ∨ (i = st.h.length ∧ LB.arr ty t (xs.take n) = l) := fun i l e => by
  rcases getElem?_snoc_some e with ⟨h1, h2⟩ | ⟨h1, h2⟩
  ·left
   rw [List.length_set] at h1
   rw [List.getElem?_set] at h2
   by_cases hi : id = i
   ·rw [if_pos hi] at h2; split at h2 <;> simp at h2
   ·rw [if_neg hi] at h2; exact ⟨h1, fun e => hi e.symm, h2⟩
  ·right
   rw [List.length_set] at h1
   exact ⟨h1, by simpa using h2⟩
 have hS : ∀ b, Stb C.A w st.h V b → Stb C.A w (st.h.set id none ++ [some (LB.arr ty t (xs.take n))]) (updV V st.h.length I) b ∧ w.heap[b]? = w.heap[b]? := fun b hb => ⟨⟨hb.1, hb.2.1, fun i l e => by
  rcases hlive i l e with ⟨h1, _, h3⟩ | ⟨h1, _⟩
  ·rw [hV i h1]; exact hb.2.2 i l h3
  ·subst h1; rw [eI]; exact hb.2.2 id _ hl⟩, rfl⟩
 have hlen : (st.h.set id none ++ [some (LB.arr ty t (xs.take n))]).length = st.h.length + 1 := by simp
 have hrow : ∀ k, k < n → rowT t (xs.take n) k = rowT t xs k := fun k hk => by
  simp only [rowT, List.getD_eq_getElem?_getD, List.getElem?_take, if_pos hk]
 have hsz := hc.sz
 refine ⟨updV V st.h.length I, h.step h.kept ⟨fun i j li lj hi hj hne => ?_, fun i l e => ?_, fun i l e hlt => ?_⟩ hS hV (by simp), ?_⟩
 ·rcases hlive i li hi with ⟨h1, g1, h2⟩ | ⟨h1, _⟩ <;> rcases hlive j lj hj with ⟨h3, g3, h4⟩ | ⟨h3, _⟩
  ·rw [hV i h1, hV j h3]; exact h.hr.inj i j li lj h2 h4 hne
  ·subst h3; rw [hV i h1, eI]; exact h.hr.inj i id li _ h2 hl g1
  ·subst h1; rw [hV j h3, eI]; exact h.hr.inj id j _ lj hl h4 (fun e => g3 e.symm)
  ·omega
 ·rcases hlive i l e with ⟨h1, _, h2⟩ | ⟨h1, h2⟩
  ·obtain ⟨c, hc'⟩ := h.hr.blk i l h2
   rw [hV i h1]
   exact ⟨c, hc'.mono hS hV (by omega) rfl⟩
  ·subst h1 h2
   rw [eI]
   have hln : (xs.take n).length = n := by simp; omega
   have hc' := hc.mono hS hV (by omega : st.h.length ≤ (st.h.set id none ++ [some (LB.arr ty t (xs.take n))]).length) rfl
   obtain ⟨cap2, g1, g2, g3, g4, g5⟩ := hc.own rfl
   have hcap : cap2 = cap := by
    have e1 := ey
    obtain ⟨_, _, e2⟩ := hy.view_inv
    rw [e2, g1] at e1
    simp only [partV] at e1
    have e2 : cap2 = cap := by
     injection e1 with _ _ e2
    exact e2
   subst hcap
   refine ⟨cur, rfl, by show n = _; simp [LB.len, hln], hc.heap, fun k j c hk hj => ?_, fun _ k j c x hk hj hx => ?_, fun e => by simp [LB.isArr] at e, fun _ => ⟨cap2, by show y = _; rw [ey]; simp [LB.len, hln]; rfl, by show (xs.take n).length ≤ cap2; rw [hln]; omega, g3, g4, by show (xs.take n).length ≤ bL; rw [hln]; have : xs.length ≤ bL := g5; omega⟩⟩
   ·have hk : k < n := by simpa [LB.len, hln] using hk
    have hj : (rowT t xs k)[j]? = some c := by rw [← hrow k hk]; exact hj
    exact hc'.cell k j c (by show k < xs.length; omega) hj
   ·have hk : k < n := by simpa [LB.len, hln] using hk
    have hj : (rowT t xs k)[j]? = some c := by rw [← hrow k hk]; exact hj
    exact hc'.still rfl k j c x (by show k < xs.length; omega) hj hx
 ·rcases hlive i l e with ⟨h1, _, h2⟩ | ⟨h1, _⟩
  ·rw [hV i h1] at hlt ⊢; exact h.hr.mine i l h2 hlt
  ·subst h1; rw [eI] at hlt ⊢; exact h.hr.mine id _ hl hlt
 ·have := R.own (w := w) (S := Stb C.A w (st.h.set id none ++ [some (LB.arr ty t (xs.take n))]) (updV V st.h.length I)) (V := updV V st.h.length I) (N := (st.h.set id none ++ [some (LB.arr ty t (xs.take n))]).length) st.h.length (by simp)
  rw [eI] at this
  exact this

section
variable {P : Program} {M : Nat → List Bool} {o : Oper} {st : St} {T : Nat → Option TI}
def evTrunc (T : Nat → Option TI) (i : Option TI) (st : St) (x hi : AV) (K : AV → St → Prop) : Prop :=
 match x with
 | .own id => match hi with
   | .v (.int kd k) => match st.h[id]? with
     | some (some (.arr ty t xs)) => evSlice T i st.h (.own id) none (some (.v (.int kd k))) (fun c => c = .view id 0 k.toNat) ∧ K (.own st.h.length) ⟨st.s, st.h.set id none ++ [some (.arr ty t (xs.take k.toNat))]⟩
     | _ => False
   | _ => False
 | _ => False
theorem edoes_trunc {K : AV → St → Prop} (hT : TOk P T) (t : TypeId) (x hi : Operand) (ho : o.op = .slice t x none (some hi) none) (hk : evTrunc T (T t) st (st.ev x) (st.ev hi) K) : EDoes P M o st K := by
 unfold evTrunc at hk
 split at hk
 ·rename_i id hx
  split at hk
  ·rename_i kd k hhi
   split at hk
   ·rename_i ty tt xs hlb
    obtain ⟨hs, hk⟩ := hk
    have hv := vs1 (K := fun c => c = .view id 0 k.toNat) hT t x none (some hi) ho (by rw [hx]; simpa [hhi] using hs)
    intro C V a w h next Q hn
    obtain ⟨c, y, rfl, hr, hrun⟩ := hv C V a w h
    obtain ⟨V', hs', hr'⟩ := h.trunc hlb hr
    unfold Oper.wp
    rw [hrun w (Below.refl _ _)]
    exact hn _ _ V' y w hk hs' hr' fun _ => Below.refl _ _
   ·exact hk.elim
  ·exact hk.elim
 ·exact hk.elim
end
end Go.Proofs.YtaobinhdnklojaaGreatDoor
namespace Go.Proofs.YtaobinhdnklojaaGreatDoor
open Go.RowKit

def clr {α : Type} (xs : List α) (lo n : Nat) (z : α) : List α := xs.take lo ++ List.replicate n z ++ xs.drop (lo + n)
theorem clr_length {α : Type} (xs : List α) (lo n : Nat) (z : α) (h : lo + n ≤ xs.length) : (clr xs lo n z).length = xs.length := by
 simp [clr]; omega
theorem clr_get {α : Type} (xs : List α) (lo n : Nat) (z d : α) (h : lo + n ≤ xs.length) (k : Nat) (hk : k < xs.length) : (clr xs lo n z).getD k d = if lo ≤ k ∧ k < lo + n then z else xs.getD k d := by
 simp only [clr, List.getD_eq_getElem?_getD]
 by_cases h1 : k < lo
 ·rw [if_neg (by omega), List.append_assoc, List.getElem?_append_left (by simp; omega), List.getElem?_take, if_pos h1]
 ·by_cases h2 : k < lo + n
  ·rw [if_pos ⟨by omega, h2⟩, List.getElem?_append_left (by simp; omega), List.getElem?_append_right (by simp; omega)]
   simp only [List.length_take, List.getElem?_replicate]
   rw [if_pos (by omega)]; rfl
  ·rw [if_neg (by omega), List.getElem?_append_right (by simp; omega), List.getElem?_drop]
   simp only [List.length_append, List.length_take, List.length_replicate]
   rw [show lo + n + (k - (min lo xs.length + n)) = k by omega]
theorem clr_zero {α : Type} (xs : List α) (lo : Nat) (z : α) : clr xs lo 0 z = xs := by
 simp [clr]

section
variable {P : Program} {M : Nat → List Bool} {o : Oper} {st : St} {T : Nat → Option TI}
def evClearZ (ty : Nat) (t : Ty) (xs : List t.den) (lo n id : Nat) (z : Option t.den) (st : St) (K : AV → St → Prop) : Prop :=
 match z with
 | some z => K (.v (.tuple #[])) ⟨st.s, st.h.set id (some (.arr ty t (clr xs lo n z)))⟩
 | none => False
def evClear (T : Nat → Option TI) (i : Option TI) (st : St) (x : AV) (K : AV → St → Prop) : Prop :=
 match i with
 | some ti => match elemT T (some ti) with
   | some te => match x with
     | .view id lo n => match st.h[id]? with
       | some (some (.arr ty t xs)) => (te.zero.cells.toList.all Value.oneCell' && Nat.beq t.n te.size && Nat.beq te.zero.cells.size te.size && Nat.blt 0 te.size) = true ∧ evClearZ ty t xs lo n id (t.dec (te.zero.cells.toList.map AV.v)) st K
       | _ => False
     | _ => False
   | none => False
 | none => False
theorem zeroCells_get (z : Array Value) (n k s j : Nat) (hz : z.size = s) (hj : j < s) (hk : k < n) : (Builtin.zeroCells z n)[k * s + j]? = z[j]? := by
 subst hz
 have hlt : k * z.size + j < n * z.size := by
  have : (k + 1) * z.size ≤ n * z.size := Nat.mul_le_mul_right _ hk
  rw [Nat.succ_mul] at this; omega
 have hm : (k * z.size + j) % z.size = j := by rw [Nat.mul_add_mod_self_right, Nat.mod_eq_of_lt hj]
 simp [Builtin.zeroCells, hlt, hm, hj]
theorem edoes_clear {K : AV → St → Prop} (hT : TOk P T) (t : TypeId) (x : Operand) (ho : o.op = .call { callee := .builtin .clear, args := #[x], argTypes := #[t] }) (hk : evClear T (T t) st (st.ev x) K) (hM : belB M o.op = false) : EDoes P M o st K := by
 unfold evClear at hk
 split at hk
 ·rename_i ti hti
  split at hk
  ·rename_i te hte
   split at hk
   ·rename_i id lo n hx
    split at hk
    ·rename_i ty tt xs hlb
     obtain ⟨hz, hk⟩ := hk
     simp only [Bool.and_eq_true, Nat.blt_eq] at hz
     obtain ⟨⟨⟨hz1, hz0⟩, hz2⟩, hz3⟩ := hz
     have hz0 := Nat.eq_of_beq_eq_true hz0
     have hz2 := Nat.eq_of_beq_eq_true hz2
     unfold evClearZ at hk
     split at hk
     ·rename_i z hdec
      obtain ⟨d1, d2⟩ := ds1 tt _ z hdec
      obtain ⟨ti', hi, hel, hte'⟩ := eTs hte
      cases hi
      have hu := (hT t ti hti).elem hel
      have hzv := (hT _ te hte').zero
      intro C V a w h next Q hn
      obtain ⟨hle, cap, hcl, hcm, ev⟩ := h.part hlb (hx ▸ h.ev x)
      have hnb : ∀ {p : Prop}, belA M o.op a → p := fun e => belA_no hM (fun _ _ _ e => by rw [ho] at e; cases e) e
      rcases Nat.eq_zero_or_pos n with hn0 | hnp
      ·subst hn0
       have hrun : (execOp a.eval o).run P w = .ok (.value (.tuple #[])) w := by
        simp [execOp, ho, ev, resolve, invoke, builtin, Builtin.clear_, run_underlying hu]
       unfold Oper.wp
       rw [hrun]
       have hset : st.h.set id (some (.arr ty tt (clr xs lo 0 z))) = st.h := by
        rw [clr_zero]
        apply List.ext_getElem?
        intro i
        rw [List.getElem?_set]
        by_cases hi : id = i
        ·subst hi
         rw [if_pos rfl, if_pos (List.getElem?_eq_some_iff.1 hlb).1, hlb]
        ·rw [if_neg hi]
       rw [hset] at hk
       exact hn _ st.h V _ w hk h (.imm _ _ (.v _)) hnb
      ·obtain ⟨cur, hcur⟩ := h.hr.blk id _ hlb
       obtain ⟨cap2, g1, g2, g3, g4, g5⟩ := hcur.own rfl
       have g2 : xs.length ≤ cap2 := g2
       have g4 : cur.size = cap2 * tt.n := g4
       have g5 : xs.length ≤ bL := g5
       have hne : ¬ cap = lo := by omega
       rw [if_neg hne] at ev
       have hvl : (Builtin.zeroCells te.zero.cells n).toList.length = n * tt.n := by simp [Builtin.zeroCells, hz2, hz0]
       have hfit : lo * tt.n + 0 + (Builtin.zeroCells te.zero.cells n).toList.length ≤ cur.size := by
        rw [hvl, g4]
        have : (lo + n) * tt.n ≤ cap2 * tt.n := Nat.mul_le_mul_right _ (by omega)
        rw [Nat.add_mul] at this; omega
       have hone : ∀ v ∈ (Builtin.zeroCells te.zero.cells n).toList, v.oneCell' = true := fun v hv => by
        obtain ⟨i, hi, rfl⟩ := List.mem_iff_getElem.1 hv
        simp only [Builtin.zeroCells] at hi ⊢
        simp only [Array.getElem_toList, Array.getElem_map, Array.getElem_range]
        have hsz : 0 < te.zero.cells.size := by omega
        have hm := Nat.mod_lt i hsz
        rw [getElem!_pos te.zero.cells (i % te.zero.cells.size) hm]
        exact List.all_eq_true.1 hz1 _ (by simp)
       obtain ⟨fr, hheap, hfr⟩ := hcur.heap
       have hst := rsCf P (V id).blk (lo * tt.n) ty fr (Builtin.zeroCells te.zero.cells n).toList 0 cur w hheap hfr hfit hone
       simp only [Nat.add_zero] at hst
       obtain ⟨m, rfl⟩ : ∃ m, n = m + 1 := ⟨n - 1, by omega⟩
       have hrun : (execOp a.eval o).run P w = .ok (.value (.tuple #[])) (w.setRow (V id).blk (cur.toList.take (lo * tt.n) ++ (Builtin.zeroCells te.zero.cells (m + 1)).toList ++ cur.toList.drop (lo * tt.n + (Builtin.zeroCells te.zero.cells (m + 1)).toList.length)).toArray) := by
        simp [execOp, ho, ev, resolve, invoke, builtin, Builtin.clear_, run_underlying hu, hzv, hst]
       unfold Oper.wp
       rw [hrun]
       refine hn _ _ V _ _ hk ?_ (.imm _ _ (.v _)) hnb
       have hget : ∀ k j, k < xs.length → j < tt.n → (cur.toList.take (lo * tt.n) ++ (Builtin.zeroCells te.zero.cells (m + 1)).toList ++ cur.toList.drop (lo * tt.n + (Builtin.zeroCells te.zero.cells (m + 1)).toList.length)).toArray[k * tt.n + j]? = if lo ≤ k ∧ k < lo + (m + 1) then te.zero.cells[j]? else cur[k * tt.n + j]? := fun k j hk hj => by
        have hcap : lo * tt.n ≤ cur.toList.length := by
         have : (lo + (m + 1)) * tt.n ≤ cap2 * tt.n := Nat.mul_le_mul_right _ (by omega)
         rw [Nat.add_mul] at this; simp; omega
        have htl : (cur.toList.take (lo * tt.n)).length = lo * tt.n := by rw [List.length_take]; omega
        rw [List.getElem?_toArray]
        by_cases h1 : k < lo
        ·have : (k + 1) * tt.n ≤ lo * tt.n := Nat.mul_le_mul_right _ h1
         rw [Nat.succ_mul] at this
         rw [if_neg (by omega), List.append_assoc, List.getElem?_append_left (by rw [htl]; omega), List.getElem?_take, if_pos (by omega)]
         simp
        ·have h1' : lo * tt.n ≤ k * tt.n := Nat.mul_le_mul_right _ (by omega)
         by_cases h2 : k < lo + (m + 1)
         ·have h3 : (k + 1) * tt.n ≤ (lo + (m + 1)) * tt.n := Nat.mul_le_mul_right _ (by omega)
          rw [Nat.succ_mul, Nat.add_mul] at h3
          rw [if_pos ⟨by omega, h2⟩, List.getElem?_append_left (by rw [List.length_append, htl, hvl]; omega), List.getElem?_append_right (by rw [htl]; omega), htl]
          have := zeroCells_get te.zero.cells (m + 1) (k - lo) tt.n j (by omega) hj (by omega)
          rw [Nat.sub_mul] at this
          rw [Array.getElem?_toList, ← this]
          congr 1; omega
         ·have h3 : (lo + (m + 1)) * tt.n ≤ k * tt.n := Nat.mul_le_mul_right _ (by omega)
          rw [Nat.add_mul] at h3
          rw [if_neg (by omega), List.getElem?_append_right (by rw [List.length_append, htl, hvl]; omega), List.getElem?_drop, List.length_append, htl, hvl]
          rw [show lo * tt.n + (m + 1) * tt.n + (k * tt.n + j - (lo * tt.n + (m + 1) * tt.n)) = k * tt.n + j by omega]
          simp
       refine h.write hlb (lb' := .arr ty tt (clr xs lo (m + 1) z)) (w' := w.setRow (V id).blk _) (cur' := (cur.toList.take (lo * tt.n) ++ (Builtin.zeroCells te.zero.cells (m + 1)).toList ++ cur.toList.drop (lo * tt.n + (Builtin.zeroCells te.zero.cells (m + 1)).toList.length)).toArray) rfl rfl rfl (by simp) (fun k hk => setRow_other w _ k _ hk) (fun hS => ?_)
       have hcl2 := clr_length xs lo (m + 1) z hle
       have hcell : ∀ (k j : Nat) (c : AV), k < xs.length → (rowT tt (clr xs lo (m + 1) z) k)[j]? = some c → j < tt.n ∧ ((lo ≤ k ∧ k < lo + (m + 1) ∧ (tt.enc z)[j]? = some c) ∨ (¬ (lo ≤ k ∧ k < lo + (m + 1)) ∧ (rowT tt xs k)[j]? = some c)) := fun k j c hk hj => by
        refine ⟨by rw [← rTl tt (clr xs lo (m + 1) z) k]; exact (List.getElem?_eq_some_iff.1 hj).1, ?_⟩
        simp only [rowT, clr_get xs lo (m + 1) z tt.dflt hle k hk] at hj
        by_cases hin : lo ≤ k ∧ k < lo + (m + 1)
        ·rw [if_pos hin] at hj; exact .inl ⟨hin.1, hin.2, hj⟩
        ·rw [if_neg hin] at hj; exact .inr ⟨hin, hj⟩
       refine ⟨hcur.sz, ?_, ⟨fr, setRow_heap w _ cur _ _ _ hheap, ?_⟩, fun k j c hk hj => ?_, fun _ k j c y hk hj hy => ?_, fun e => by simp [LB.isArr] at e, fun _ => ⟨cap2, ?_, ?_, g3, ?_, ?_⟩⟩
       ·rw [hcur.ln]; exact hcl2.symm
       ·have hsz2 : (cur.toList.take (lo * tt.n) ++ (Builtin.zeroCells te.zero.cells (m + 1)).toList ++ cur.toList.drop (lo * tt.n + (Builtin.zeroCells te.zero.cells (m + 1)).toList.length)).toArray.size = cur.size := by
         rw [List.size_toArray, List.length_append, List.length_append, List.length_take, List.length_drop, Array.length_toList]
         omega
        rw [hsz2]; exact hfr
       ·have hk : k < xs.length := by rw [← hcl2]; exact hk
        obtain ⟨hjn, hor⟩ := hcell k j c hk hj
        show ∃ y, _[k * tt.n + j]? = some y ∧ _
        rw [hget k j hk hjn]
        rcases hor with ⟨q1, q2, q3⟩ | ⟨q1, q3⟩
        ·rw [if_pos ⟨q1, q2⟩]
         have hx' : te.zero.cells[j]? = some te.zero.cells[j] := Array.getElem?_eq_getElem (by omega)
         exact ⟨_, hx', List.all_eq_true.1 hz1 _ (by simp), .imm _ _ (d2 j (.v te.zero.cells[j]) c (by simp [hx']) q3 _ _ _ (.v _))⟩
        ·rw [if_neg q1]
         obtain ⟨y, f1, f2, f3⟩ := hcur.cell k j c hk q3
         exact ⟨y, f1, f2, f3.mono hS (fun _ _ => rfl) (Nat.le_refl _)⟩
       ·have hk : k < xs.length := by rw [← hcl2]; exact hk
        obtain ⟨hjn, hor⟩ := hcell k j c hk hj
        have hy : _[k * tt.n + j]? = some y := hy
        rw [hget k j hk hjn] at hy
        rcases hor with ⟨q1, q2, q3⟩ | ⟨q1, q3⟩
        ·rw [if_pos ⟨q1, q2⟩] at hy
         exact d2 j (.v y) c (by simp [hy]) q3 _ _ _ (.v _)
        ·rw [if_neg q1] at hy
         exact (hcur.still rfl k j c y hk q3 hy).mono hS
       ·show (V id).val = .slice _ (clr xs lo (m + 1) z).length cap2
        rw [hcl2]; exact g1
       ·show (clr xs lo (m + 1) z).length ≤ cap2
        rw [hcl2]; exact g2
       ·show (List.toArray _).size = cap2 * tt.n
        rw [List.size_toArray, List.length_append, List.length_append, List.length_take, List.length_drop, hvl]
        have : (lo + (m + 1)) * tt.n ≤ cap2 * tt.n := Nat.mul_le_mul_right _ (by omega)
        rw [Nat.add_mul] at this
        simp; omega
       ·show (clr xs lo (m + 1) z).length ≤ bL
        rw [hcl2]; exact g5
     ·exact hk.elim
    ·exact hk.elim
   ·exact hk.elim
  ·exact hk.elim
 ·exact hk.elim
end
end Go.Proofs.YtaobinhdnklojaaGreatDoor
namespace Go.Proofs.YtaobinhdnklojaaGreatDoor
open Go.RowKit

section
variable {P : Program} {M : Nat → List Bool} {o : Oper} {st : St} {T : Nat → Option TI}

theorem zCs (z : Array Value) (n : Nat) : (Builtin.zeroCells z n).size = n * z.size := by simp [Builtin.zeroCells]
theorem zeroC_get (z : Array Value) (n k s j : Nat) (hz : z.size = s) (hj : j < s) (hk : k < n) : (Builtin.zeroCells z n)[k * s + j]? = z[j]? := by
 have hjz : j < z.size := by omega
 have e : (k * s + j) % z.size = j := by rw [hz, Nat.mul_add_mod_self_right, Nat.mod_eq_of_lt hj]
 have hlt : k * s + j < n * z.size := by
  have h2 : (k + 1) * s ≤ n * s := Nat.mul_le_mul_right _ hk
  rw [Nat.succ_mul] at h2; rw [hz]; omega
 simp [Builtin.zeroCells, hlt, e, hjz]
theorem ranz (w : World) (t u ty e : TypeId) (i : TypeInfo) (z : Value) (k : IntKind) (ht : P.underlying t = some (.slice e)) (hu : P.underlying u = some (.int k)) (hi : P.info? e = some i) (hz : i.zero = some z)
  (n : Nat) (h0 : 0 < n) (h63 : (n : Int) ≤ 9223372036854775807) (h48 : n * i.bytes ≤ 281474976710656) (hsz : 0 < i.size) :
  (Builtin.append_ #[t, u] ty #[.slice none 0 0, .int .i64 n]).run P w =
   .ok (.slice (some ⟨w.heap.size, 0, none⟩) n (grownCap w n 0 e)) (w.drew.alloc (.cells (Builtin.zeroCells z.cells n ++ Builtin.zeroCells z.cells (grownCap w n 0 e - n)) e)) := by
 have hn : n ≠ 0 := by omega
 have h63' : ¬ (9223372036854775807 < (n : Int)) := by omega
 have h48' : ¬ (281474976710656 < Builtin.nextslicecap n 0 * i.bytes) := by rw [nextslicecap_zero h0]; omega
 have hw : IntKind.i64.wrap (n : Int) = n := by rw [IntKind.wrap_i64]; omega
 have hneg : ¬ ((n : Int) < 0) := by omega
 have h48'' : ¬ ((281474976710656 : Int) < (n : Int) * (i.bytes : Int)) := by
  have : ((n * i.bytes : Nat) : Int) ≤ 281474976710656 := by omega
  rw [Int.natCast_mul] at this; omega
 have hns : i.size ≠ 0 := by omega
 simp [Builtin.append_, run_underlying ht, run_underlying hu, sizeOf, typeInfo, zeroValue, hi, hz, hn, h63', h48', hw, hneg, h48'', hns, Question.forced, run_firstCells_none, newRow, grownCap, asInt, asIntOf]
 exact fun h => absurd h (Nat.mul_ne_zero hn hns)

def evAppZ (T : Nat → Option TI) (i : Option TI) (st : St) (x y : AV) (K : AV → St → Prop) : Prop :=
 match i, elemT T i, x, y with
 | some ti, some te, .v (.slice none 0 0), .v (.int .i64 n) => match te.cod with
   | some t => (te.zero.cells.toList.all Value.oneCell' && Nat.beq t.n te.size && Nat.beq te.zero.cells.size te.size && Nat.blt 0 te.size) = true ∧ Ob (0 < n ∧ te.bytes * n ≤ 140737488355328 ∧ n ≤ 140737488355328) ∧
     evMakeT ti.elem t (t.dec (te.zero.cells.toList.map AV.v)) n st K
   | none => False
 | _, _, _, _ => False
theorem edoes_appZ {K : AV → St → Prop} (hT : TOk P T) (t u : TypeId) (tu : TI) (k : IntKind) (hu : T u = some tu) (hku : tu.kind = some k) (x y : Operand) (ho : o.op = .call { callee := .builtin .append, args := #[x, y], argTypes := #[t, u] }) (hk : evAppZ T (T t) st (st.ev x) (st.ev y) K) : EDoes P M o st K := by
 have hund := (hT u tu hu).kind k hku
 unfold evAppZ at hk
 split at hk
 case h_2 => exact hk.elim
 rename_i ti te n hti hte hx hy
 split at hk
 case h_2 => exact hk.elim
 rename_i tt hcod
 obtain ⟨hz, hb, hk⟩ := hk
 simp only [Bool.and_eq_true, Nat.blt_eq] at hz
 obtain ⟨⟨⟨hz1, hz0⟩, hz2⟩, hz3⟩ := hz
 have hz0 := Nat.eq_of_beq_eq_true hz0
 have hz2 := Nat.eq_of_beq_eq_true hz2
 unfold evMakeT at hk
 split at hk
 case h_2 => exact hk.elim
 rename_i z hdec
 obtain ⟨d1, d2⟩ := ds1 tt _ z hdec
 obtain ⟨h0, hbytes, hm⟩ := hb.out
 obtain ⟨ti', hi, hel, hte'⟩ := eTs hte
 rw [hti] at hi; cases hi
 have hu' := (hT t ti hti).elem hel
 obtain ⟨inf, hinf, hzero, hsize, hby⟩ := (hT _ te hte').info
 intro C V a w h next Q hn
 have ex : a.eval x = .slice none 0 0 := h.evv hx
 have ey : a.eval y = .int .i64 n := h.evv hy
 obtain ⟨m, rfl⟩ : ∃ m : Nat, n = m := ⟨n.toNat, by omega⟩
 have hm0 : 0 < m := by omega
 have hby2 : m * inf.bytes ≤ 281474976710656 := by
  rw [hby]
  have : ((m * te.bytes : Nat) : Int) ≤ 140737488355328 := by rw [Int.natCast_mul, Int.mul_comm]; exact hbytes
  omega
 have hr := ranz (P := P) w t u o.type ti.elem inf te.zero k hu' hund hinf hzero m hm0 (by omega) hby2 (by omega)
 have hge := grownCap_ge w m 0 ti.elem
 have hcm : grownCap w m 0 ti.elem ≤ maxLen := grownCap_le_maxLen w m 0 ti.elem (by have := mLe; omega)
 have hsz : (Builtin.zeroCells te.zero.cells m ++ Builtin.zeroCells te.zero.cells (grownCap w m 0 ti.elem - m)).size = grownCap w m 0 ti.elem * te.size := by
  rw [Array.size_append, zCs, zCs, hz2, ← Nat.add_mul]
  congr 1; omega
 have hgr : w.grownBy (w.drew.alloc (.cells (Builtin.zeroCells te.zero.cells m ++ Builtin.zeroCells te.zero.cells (grownCap w m 0 ti.elem - m)) ti.elem)) none :=
  ⟨rfl, rfl, rfl, by simp, fun k hk _ => heap_alloc_old w.drew _ hk⟩
 have hnew : (w.drew.alloc (.cells (Builtin.zeroCells te.zero.cells m ++ Builtin.zeroCells te.zero.cells (grownCap w m 0 ti.elem - m)) ti.elem)).heap[w.heap.size]? = some (.cells (Builtin.zeroCells te.zero.cells m ++ Builtin.zeroCells te.zero.cells (grownCap w m 0 ti.elem - m)) ti.elem (0, 0)) := heap_alloc_new w.drew _
 have hlr : (List.replicate m z).length = m := by simp
 have hs := h.regrow (dead := none) (row := none) (I := ⟨w.heap.size, tt.n, m, .slice (some ⟨w.heap.size, 0, none⟩) m (grownCap w m 0 ti.elem)⟩) (lb := .arr ti.elem tt (List.replicate m z))
  (cur' := Builtin.zeroCells te.zero.cells m ++ Builtin.zeroCells te.zero.cells (grownCap w m 0 ti.elem - m)) (fun i hi => by cases hi) (fun k hk => by cases hk) hgr (.inr rfl) (by simp) (fun hS => by
   refine BlkR.newArr (L := (Builtin.zeroCells te.zero.cells m).toList) hnew hlr (by rw [hlr]; exact hge) hcm (by rw [hz0]; exact hsz) (by rw [hlr]; simp only [bL]; omega) (by
    rw [hlr, hz0, Array.toList_append, List.take_left' (by rw [Array.length_toList, zCs, hz2])]) (fun k j c' g1 g2 => ?_)
   have hk : k < m := by simpa using g1
   have e3 : rowT tt (List.replicate m z) k = tt.enc z := by simp [rowT, List.getD, hk]
   rw [e3] at g2
   have hj : j < te.size := by rw [← hz0, ← el tt z]; exact (List.getElem?_eq_some_iff.1 g2).1
   have hxx : te.zero.cells[j]? = some te.zero.cells[j] := Array.getElem?_eq_getElem (by omega)
   refine ⟨te.zero.cells[j], ?_, List.all_eq_true.1 hz1 _ (by simp), d2 j (.v te.zero.cells[j]) c' (by simp [hxx]) g2 _ _ _ (.v _)⟩
   rw [Array.getElem?_toList, hz0, zeroC_get _ _ _ _ _ hz2 hj hk, hxx])
 have hrun : (execOp a.eval o).run P w = .ok (.value (.slice (some ⟨w.heap.size, 0, none⟩) m (grownCap w m 0 ti.elem))) (w.drew.alloc (.cells (Builtin.zeroCells te.zero.cells m ++ Builtin.zeroCells te.zero.cells (grownCap w m 0 ti.elem - m)) ti.elem)) := by
  unfold execOp
  simp only [ho, resolve, invoke, builtin, Sem.run_bind, Sem.run_pure, Result.andThen_ok, List.map_toArray, List.map_cons, List.map_nil, ex, ey, hr]
 unfold Oper.wp
 rw [hrun]
 refine hn _ _ _ _ _ hk hs ?_ (fun _ => (Below.refl _ _).drew.alloc (Nat.le_refl _) _)
 have := R.own (w := w.drew.alloc (.cells (Builtin.zeroCells te.zero.cells m ++ Builtin.zeroCells te.zero.cells (grownCap w m 0 ti.elem - m)) ti.elem)) (S := Stb C.A (w.drew.alloc (.cells (Builtin.zeroCells te.zero.cells m ++ Builtin.zeroCells te.zero.cells (grownCap w m 0 ti.elem - m)) ti.elem)) (st.h ++ [some (.arr ti.elem tt (List.replicate m z))]) (updV V st.h.length ⟨w.heap.size, tt.n, m, .slice (some ⟨w.heap.size, 0, none⟩) m (grownCap w m 0 ti.elem)⟩)) (V := updV V st.h.length ⟨w.heap.size, tt.n, m, .slice (some ⟨w.heap.size, 0, none⟩) m (grownCap w m 0 ti.elem)⟩) (N := (st.h ++ [some (LB.arr ti.elem tt (List.replicate m z))]).length) st.h.length (by simp)
 simpa [updV, dI] using this

def evSliceN (e : Option TI) (lo hi : Option Int) (K : AV → Prop) : Prop :=
 match e, lo, hi with
 | some _, some l, some h => Ob (0 ≤ l ∧ l ≤ h ∧ h ≤ 0) ∧ K (.v (.slice none 0 0))
 | _, _, _ => False
def evSliceA (T : Nat → Option TI) (i : Option TI) (cs : List AV) (lo hi : Option AV) (K : AV → Prop) : Prop :=
 match i, lo, hi with
 | some i, none, none => match T i.arr.2, strsOf cs with
   | some e, some l => Nat.beq e.size 1 = true ∧ Nat.beq cs.length i.arr.1 = true ∧ Nat.beq i.arr.1 0 = false ∧ Nat.ble cs.length 1000 = true ∧ K (.tree .str l)
   | _, _ => False
 | _, _, _ => False
def evSlice2 (T : Nat → Option TI) (i : Option TI) (hp : List (Option LB)) (x : AV) (lo hi : Option AV) (K : AV → Prop) : Prop :=
 match x with
 | .bptr cs 0 => evSliceA T i cs lo hi K
 | .v (.slice none 0 0) => evSliceN (elemT T i) (bnd lo 0) (bnd hi 0) K
 | x => evSlice T i hp x lo hi K
theorem vdoes_slice2 {K : AV → Prop} (hT : TOk P T) (t : TypeId) (x : Operand) (lo hi : Option Operand) (ho : o.op = .slice t x lo hi none) (hk : evSlice2 T (T t) st.h (st.ev x) (lo.map st.ev) (hi.map st.ev) K) : VDoes P o st K := by
 unfold evSlice2 at hk
 split at hk
 ·rename_i cs hx
  unfold evSliceA at hk
  split at hk
  ·rename_i ti hT1 hlo hhi
   split at hk
   ·rename_i e l he hl
    obtain ⟨hsz, hlen, hne, hle, hk⟩ := hk
    have hlen := Nat.eq_of_beq_eq_true hlen
    have hle := Nat.le_of_ble_eq_true hle
    have hcs := sOe hl
    have hll : l.length = cs.length := by rw [hcs, List.length_map]
    have hs := (hT _ e he).size
    rw [Nat.eq_of_beq_eq_true hsz] at hs
    have hpos : ti.arr.1 ≠ 0 := fun e0 => by rw [e0] at hne; cases hne
    intro C V a w h
    have hr' := (hx ▸ h.ev x).bptr_inv
    generalize hv : a.eval x = v at hr'
    cases hr' with
    | bptr _ _ b o' X ha hx2 hh2 =>
      have hcell : ∀ (k j : Nat) (c : AV), k < l.length → (rowT .str l k)[j]? = some c → j = 0 ∧ cs[k]? = some c := fun k j c hk' hj => by
       have hrow : rowT .str l k = [.v (.string l[k])] := by
        exact congrArg (fun s : ByteArray => [AV.v (Value.string s)]) (show l.getD k (⟨#[]⟩ : ByteArray) = l[k] by simp [List.getD_eq_getElem?_getD, List.getElem?_eq_getElem hk'])
       rw [hrow] at hj
       cases j with
       | zero =>
         refine ⟨rfl, ?_⟩
         rw [hcs, List.getElem?_map, List.getElem?_eq_getElem hk']
         exact hj
       | succ j => simp at hj
      refine ⟨_, .slice (some ⟨b, o', none⟩) l.length l.length, hk, .imm _ _ ?_, fun w' _ => ?_⟩
      ·refine .tree .str l _ _ _ b o' (fun k _ => X k) rfl (by show @List.length ByteArray l ≤ 140737488355328; omega) (Nat.le_refl _) (by have := mLe; omega) (fun _ => ⟨rfl, ha⟩) (fun k j c e1 e2 => ?_) (fun k j c e1 e2 => ?_)
       ·obtain ⟨rfl, e3⟩ := hcell k j c e1 e2
        have := hx2 k c e3
        rw [show o' + k * Ty.str.n + 0 = o' + k from by rw [show Ty.str.n = 1 from rfl]; omega]
        exact this
       ·obtain ⟨rfl, e3⟩ := hcell k j c e1 e2
        exact hh2 k c e3
      ·cases lo with
       | some _ => simp at hlo
       | none =>
         cases hi with
         | some _ => simp at hhi
         | none =>
           have hb := rsB (P := P) false ti.arr.1 ti.arr.1 none none 0 (ti.arr.1 : Int) w' a rfl rfl (by omega) (by omega) (by omega) (Nat.le_refl _)
           have hu := run_underlying (w := w') ((hT t ti hT1).arr hne)
           simp only [Option.map_none] at hb
           simp [execOp, ho, hv, Instr.sliceAt, hu, Instr.sureAddr, hb, hs, hpos, hll, hlen, Addr.add_lit]
   ·exact hk.elim
  ·exact hk.elim
 ·rename_i hx
  unfold evSliceN at hk
  split at hk
  ·rename_i te l h hte hl hh
   obtain ⟨ti, hi', hel, hte⟩ := eTs hte
   obtain ⟨hob, hk⟩ := hk
   obtain ⟨h0, h1, h2⟩ := hob.out
   obtain rfl : l = 0 := by omega
   obtain rfl : h = 0 := by omega
   refine vp _ (fun C V a w hs w' => ?_) hk
   have hbd := rsB (P := P) true 0 0 lo hi 0 0 w' a (bs3 hs hl) (bs3 hs hh) (by omega) (by omega) (by omega) (by omega)
   have hsize := (hT ti.elem te hte).size
   simp [execOp, ho, hs.evv hx, Instr.sliceAt, Instr.slice, run_underlying ((hT t ti hi').elem hel), hbd, hsize]
  ·exact hk.elim
 ·exact vs1 hT t x lo hi ho hk
def evCap (i : Option TI) (x : AV) (K : AV → Prop) : Prop :=
 match i with
 | some i => match x with
   | .v (.slice none 0 0) => (i.elem != 0) = true ∧ K (.v (.int .i64 0))
   | _ => False
 | none => False
theorem vdoes_cap {K : AV → Prop} (hT : TOk P T) (x : Operand) (t : TypeId) (ho : o.op = .call { callee := .builtin .cap, args := #[x], argTypes := #[t] }) (hk : evCap (T t) (st.ev x) K) : VDoes P o st K := by
 unfold evCap at hk
 split at hk
 ·rename_i i hi
  split at hk
  ·rename_i hx
   obtain ⟨hel, hk⟩ := hk
   exact vp _ (fun C V a w h w' => by
    simp [execOp, ho, h.evv hx, resolve, invoke, builtin, Builtin.cap_, run_underlying ((hT t i hi).elem (by simpa using hel)), goInt]) hk
  ·exact hk.elim
 ·exact hk.elim
def sON (xs : List Int) : ByteArray := ⟨(xs.map fun n => UInt8.ofNat n.toNat).toArray⟩
theorem fpN : ∀ (ns : List Int) (s : ByteArray), ns.foldl (fun r n => r.push (UInt8.ofNat n.toNat)) s = ⟨s.data ++ (ns.map fun n => UInt8.ofNat n.toNat).toArray⟩
 | [], s => by simp
 | n :: ns, s => by
   rw [List.foldl_cons, fpN ns]
   simp [ByteArray.push]
def bN : List (Int × Unit) → List Int
 | [] => []
 | z :: l => z.1 :: bN l
theorem bNl : ∀ zs, (bN zs).length = zs.length
 | [] => rfl
 | _ :: l => congrArg (· + 1) (bNl l)
theorem byteNs_get : ∀ (zs : List (Ty.den (.st [.int .u8]))) (j : Nat), (bN zs).getD j (0 : Int) = (zs.getD j ((0 : Int), ())).1
 | [], _ => rfl
 | _ :: _, 0 => rfl
 | _ :: l, j + 1 => byteNs_get l j
def evConvB (h : List (Option LB)) (x : AV) (K : AV → Prop) : Prop :=
 match srcA h x with
 | some ⟨.int .u8, xs⟩ => K (.v (.string (sON xs)))
 | some ⟨.st [.int .u8], xs⟩ => K (.v (.string (sON (bN xs))))
 | _ => False
def byteSl (T : Nat → Option TI) (s : Option TI) : Bool := match elemT T s with
 | some te => match te.kind with
   | some .u8 => true
   | _ => false
 | none => false
def isStrT (d : Option TI) : Bool := match d with
 | some i => i.str
 | none => false
def evConv2 (T : Nat → Option TI) (s d : Option TI) (h : List (Option LB)) (x : AV) (K : AV → Prop) : Prop :=
 match byteSl T s with
 | true => isStrT d = true ∧ evConvB h x K
 | false => evConv s d x K
theorem vdoes_convS {K : AV → Prop} (_hT : TOk P T) (src dst : TypeId) (x : Operand) (ho : o.op = .convert src dst x) (ti : TI) (hus : P.underlying src = some (.slice ti.elem)) (hue : P.underlying ti.elem = some (.int .u8)) (hud : P.underlying dst = some .string)
  (xs : List Int) (hsrc : srcA st.h (st.ev x) = some ⟨.int .u8, xs⟩) (hk : K (.v (.string (sON xs)))) : VDoes P o st K := by
 intro C V a w h
 obtain ⟨ad, c, news, ex, hl, hnews, h1, hcell⟩ := h.src (h.ev x) hsrc (by decide)
 have hgot : ∀ j, j < xs.length → news[j]? = some (.int .u8 (xs.getD j 0)) := fun j hj => by
  obtain ⟨u, hu, hr⟩ := hcell j 0 (.v (.int .u8 (xs.getD j 0))) hj rfl
  have hu0 : u = .int .u8 (xs.getD j 0) := by cases hr; rfl
  have e0 : j * (Ty.int .u8).n + 0 = j := by simp [Ty.n]
  rw [e0] at hu
  rw [hu, hu0]
 refine ⟨_, _, hk, .imm _ _ (.v _), fun w' hbl => ?_⟩
 have hrun : (convert src dst (.slice ad xs.length c)).run P w' = .ok (.string (sON xs)) w' := by
  rw [run_convert_bytes_string w' src dst ti.elem ad xs.length c hus hue hud]
  cases ad with
  | none =>
    have h0 : xs = [] := by
     rcases Nat.eq_zero_or_pos xs.length with e | e
     ·exact List.length_eq_zero_iff.1 e
     ·obtain ⟨a', ha', _⟩ := hnews e; cases ha'
    subst h0
    simp [Conv.bytesToString, sON]
    rfl
  | some a' =>
    have hload : (loadCells a' xs.length).run P w' = .ok (xs.map (Value.int .u8)).toArray w' := by
     have := run_loadCells_list (P := P) w' a' (xs.map (Value.int .u8)) (fun j v hj => by
      rw [List.getElem?_map] at hj
      obtain ⟨z, hz, rfl⟩ := Option.map_eq_some_iff.1 hj
      have hjl : j < xs.length := (List.getElem?_eq_some_iff.1 hz).1
      obtain ⟨a2, ha2, hn⟩ := hnews (show 0 < xs.length by omega)
      cases ha2
      have h3 := hn j _ (hgot j hjl)
      have hlt : (a'.add j).block < w.heap.size := by
       rcases Nat.lt_or_ge (a'.add j).block w.heap.size with h | h
       ·exact h
       ·exfalso
        unfold World.cell? at h3
        rw [Array.getElem?_eq_none h] at h3
        simp at h3
      rw [hbl.cell hlt, h3]
      simp [List.getD, hz])
     simpa using this
    rw [run_bytesToString w' a' xs.length c xs hload, fpN]
    simp [sON, ByteArray.empty, ByteArray.emptyWithCapacity]
    rfl
 simp only [execOp, ho]
 rw [show a.eval x = .slice ad xs.length c from ex]
 simp [hrun]
theorem vdoes_convM {K : AV → Prop} (_hT : TOk P T) (src dst : TypeId) (x : Operand) (ho : o.op = .convert src dst x) (ti : TI) (hus : P.underlying src = some (.slice ti.elem)) (hue : P.underlying ti.elem = some (.int .u8)) (hud : P.underlying dst = some .string)
  (zs : List (Ty.den (.st [.int .u8]))) (hsrc : srcA st.h (st.ev x) = some ⟨.st [.int .u8], zs⟩) (hk : K (.v (.string (sON (bN zs))))) : VDoes P o st K := by
 intro C V a w h
 obtain ⟨ad, c, news, ex, hl, hnews, h1, hcell⟩ := h.src (h.ev x) hsrc (by decide)
 have hlz : zs.length = (bN zs).length := (bNl zs).symm
 have hgot : ∀ j, j < (bN zs).length → news[j]? = some (.int .u8 ((bN zs).getD j (0 : Int))) := fun j hj => by
  have hj : j < zs.length := by rw [hlz]; exact hj
  obtain ⟨u, hu, hr⟩ := hcell j 0 (.v (.int .u8 (zs.getD j ((0 : Int), ())).1)) hj rfl
  have hu0 : u = .int .u8 (zs.getD j ((0 : Int), ())).1 := by cases hr; rfl
  have e0 : j * (Ty.st [.int .u8]).n + 0 = j := by simp [Ty.n, Ty.ns]
  rw [e0] at hu
  rw [hu, hu0, byteNs_get]
 rw [hlz] at ex hnews
 generalize bN zs = xs at *
 refine ⟨_, _, hk, .imm _ _ (.v _), fun w' hbl => ?_⟩
 have hrun : (convert src dst (.slice ad xs.length c)).run P w' = .ok (.string (sON xs)) w' := by
  rw [run_convert_bytes_string w' src dst ti.elem ad xs.length c hus hue hud]
  cases ad with
  | none =>
    have h0 : xs = [] := by
     rcases Nat.eq_zero_or_pos xs.length with e | e
     ·exact List.length_eq_zero_iff.1 e
     ·obtain ⟨a', ha', _⟩ := hnews e; cases ha'
    subst h0
    simp [Conv.bytesToString, sON]
    rfl
  | some a' =>
    have hload : (loadCells a' xs.length).run P w' = .ok (xs.map (Value.int .u8)).toArray w' := by
     have := run_loadCells_list (P := P) w' a' (xs.map (Value.int .u8)) (fun j v hj => by
      rw [List.getElem?_map] at hj
      obtain ⟨z, hz, rfl⟩ := Option.map_eq_some_iff.1 hj
      have hjl : j < xs.length := (List.getElem?_eq_some_iff.1 hz).1
      obtain ⟨a2, ha2, hn⟩ := hnews (show 0 < xs.length by omega)
      cases ha2
      have h3 := hn j _ (hgot j hjl)
      have hlt : (a'.add j).block < w.heap.size := by
       rcases Nat.lt_or_ge (a'.add j).block w.heap.size with h | h
       ·exact h
       ·exfalso
        unfold World.cell? at h3
        rw [Array.getElem?_eq_none h] at h3
        simp at h3
      rw [hbl.cell hlt, h3]
      simp [List.getD, hz])
     simpa using this
    rw [run_bytesToString w' a' xs.length c xs hload, fpN]
    simp [sON, ByteArray.empty, ByteArray.emptyWithCapacity]
    rfl
 simp only [execOp, ho]
 rw [show a.eval x = .slice ad xs.length c from ex]
 simp [hrun]
theorem vdoes_conv2 {K : AV → Prop} (hT : TOk P T) (src dst : TypeId) (x : Operand) (ho : o.op = .convert src dst x) (hk : evConv2 T (T src) (T dst) st.h (st.ev x) K) : VDoes P o st K := by
 unfold evConv2 at hk
 split at hk
 case h_2 => exact vdoes_conv hT src dst x ho hk
 rename_i hb
 obtain ⟨hd, hk⟩ := hk
 obtain ⟨td, htd, hds⟩ : ∃ td, T dst = some td ∧ td.str = true := by
  unfold isStrT at hd
  split at hd
  ·rename_i i e; exact ⟨i, e, hd⟩
  ·cases hd
 obtain ⟨te, hte, hkind⟩ : ∃ te, elemT T (T src) = some te ∧ te.kind = some .u8 := by
  unfold byteSl at hb
  split at hb
  ·rename_i te e
   split at hb
   ·rename_i e2; exact ⟨te, e, e2⟩
   ·cases hb
  ·cases hb
 obtain ⟨ti, hti, hel, hte'⟩ := eTs hte
 have hus := (hT src ti hti).elem hel
 have hue := (hT _ te hte').kind .u8 hkind
 have hud := (hT dst td htd).str hds
 unfold evConvB at hk
 split at hk
 case h_3 => exact hk.elim
 ·rename_i xs hsrc
  exact vdoes_convS hT src dst x ho ti hus hue hud xs hsrc hk
 ·rename_i xs hsrc
  exact vdoes_convM hT src dst x ho ti hus hue hud xs hsrc hk
abbrev mbyte : Type := Int × Unit
def d_mbyte : mbyte := ((0 : Int), ())
def mkL : List UInt8 → List (Ty.den (.st [.int .u8]))
 | [] => []
 | b :: l => ((b.toNat : Int), ()) :: mkL l
theorem mLl : ∀ l, (mkL l).length = l.length
 | [] => rfl
 | _ :: l => congrArg (· + 1) (mLl l)
theorem mkL_get : ∀ (l : List UInt8) (k : Nat) (h : k < l.length), ((mkL l).getD k ((0 : Int), ())).1 = (l[k].toNat : Int)
 | _ :: _, 0, _ => rfl
 | _ :: l, k + 1, h => mkL_get l k (by simpa using h)
def mkRow (s : ByteArray) : List mbyte := mkL s.data.toList
def strSl (T : Nat → Option TI) (s d : Option TI) : Bool :=
 match byteSl T d with
 | true => isStrT s
 | false => false
def evBytes (_T : Nat → Option TI) (i : Option TI) (st : St) (x : AV) (K : AV → St → Prop) : Prop :=
 match i, x with
 | some ti, .v (.string s) => Ob (s.size ≤ 140737488355328) ∧ K (.own st.h.length) ⟨st.s, st.h ++ [some (.arr ti.elem (.st [.int .u8]) (mkRow s))]⟩
 | _, _ => False
theorem edoes_bytes {K : AV → St → Prop} (hT : TOk P T) (src dst : TypeId) (x : Operand) (ho : o.op = .convert src dst x) (hb : strSl T (T src) (T dst) = true) (hk : evBytes T (T dst) st (st.ev x) K) : EDoes P M o st K := by
 unfold strSl at hb
 split at hb
 case h_2 => cases hb
 rename_i hbs
 obtain ⟨tsr, htsr, hss⟩ : ∃ td, T src = some td ∧ td.str = true := by
  unfold isStrT at hb
  split at hb
  ·rename_i i e; exact ⟨i, e, hb⟩
  ·cases hb
 obtain ⟨te, hte, hkind⟩ : ∃ te, elemT T (T dst) = some te ∧ te.kind = some .u8 := by
  unfold byteSl at hbs
  split at hbs
  ·rename_i te e
   split at hbs
   ·rename_i e2; exact ⟨te, e, e2⟩
   ·cases hbs
  ·cases hbs
 obtain ⟨ti, hti, hel, hte'⟩ := eTs hte
 have hud := (hT dst ti hti).elem hel
 have hue := (hT _ te hte').kind .u8 hkind
 have hus := (hT src tsr htsr).str hss
 unfold evBytes at hk
 rw [hti] at hk
 split at hk
 case h_2 => exact hk.elim
 rename_i ti' s hi hx
 cases hi
 obtain ⟨hob, hk⟩ := hk
 have hsz := hob.out
 intro C V a w h next Q hn
 have ex : a.eval x = .string s := h.evv hx
 have hr := Lib.run_convert_string_bytes (P := P) w src dst ti.elem s hus hud hue
 have hge := grownCap_ge w s.size 0 ti.elem
 have hcm : grownCap w s.size 0 ti.elem ≤ maxLen := grownCap_le_maxLen w s.size 0 ti.elem (by have := mLe; omega)
 have hnew := Lib.bytesWorld_at_new w ti.elem s
 have hcs : (Lib.bytesCells w ti.elem s).size = grownCap w s.size 0 ti.elem := by
  have : s.data.size = s.size := rfl
  show ((s.data.map _) ++ Array.replicate _ _).size = _
  rw [Array.size_append, Array.size_map, Array.size_replicate, this]; omega
 have hlr : (mkRow s).length = s.size := (mLl _).trans Array.length_toList
 have hgr : w.grownBy (Lib.bytesWorld w ti.elem s) none := ⟨rfl, rfl, rfl, by rw [Lib.bytesWorld_size]; omega, fun k hk _ => Lib.bytesWorld_at_old w ti.elem s k hk⟩
 have hget : ∀ k, k < s.size → (Lib.bytesCells w ti.elem s)[k]? = some (.int .u8 (((mkRow s).getD k ((0 : Int), ())).1)) := fun k hk => by
  have hk' : k < s.data.size := hk
  have e := mkL_get s.data.toList k (by rw [Array.length_toList]; exact hk')
  have e : ((mkRow s).getD k ((0 : Int), ())).1 = _ := e
  rw [e]
  show ((s.data.map _) ++ Array.replicate _ _)[k]? = _
  rw [Array.getElem?_append_left (by rw [Array.size_map]; exact hk'), Array.getElem?_map, Array.getElem?_eq_getElem hk']
  rfl
 have hs := h.regrow (dead := none) (row := none) (I := ⟨w.heap.size, 1, s.size, .slice (some ⟨w.heap.size, 0, none⟩) s.size (grownCap w s.size 0 ti.elem)⟩) (lb := .arr ti.elem (.st [.int .u8]) (mkRow s))
  (cur' := Lib.bytesCells w ti.elem s) (fun i hi => by cases hi) (fun k hk => by cases hk) hgr (.inr rfl) (by rw [Lib.bytesWorld_size]; simp) (fun hS => by
   refine ⟨rfl, hlr.symm, ⟨_, hnew, .inr ⟨rfl, Nat.le_refl _⟩⟩, fun k j c' g1 g2 => ?_, fun _ k j c' y g1 g2 g3 => ?_, (fun e => by cases e), fun _ => ⟨grownCap w s.size 0 ti.elem, by show Value.slice _ _ _ = Value.slice _ (mkRow s).length _; rw [hlr], by show (mkRow s).length ≤ _; rw [hlr]; exact hge, hcm, by show (Lib.bytesCells w ti.elem s).size = _ * 1; rw [hcs, Nat.mul_one], by show (mkRow s).length ≤ _; rw [hlr]; exact hsz⟩⟩
   ·have g1 : k < (mkRow s).length := g1
    have g2 : (rowT (.st [.int .u8]) (mkRow s) k)[j]? = some c' := g2
    have hj : j < 1 := by
     have h1 := (List.getElem?_eq_some_iff.1 g2).1
     have h2 : (rowT (.st [.int .u8]) (mkRow s) k).length = 1 := rTl (.st [.int .u8]) (mkRow s) k
     omega
    obtain rfl : j = 0 := by omega
    have hc : c' = .v (.int .u8 (((mkRow s).getD k ((0 : Int), ())).1)) := by
     have : some (AV.v (.int .u8 (((mkRow s).getD k ((0 : Int), ())).1))) = some c' := g2
     exact (Option.some.inj this).symm
    subst hc
    refine ⟨_, ?_, rfl, .imm _ _ (.v _)⟩
    show (Lib.bytesCells w ti.elem s)[k * 1 + 0]? = _
    rw [Nat.mul_one, Nat.add_zero]
    exact hget k (by rw [← hlr]; exact g1)
   ·have g1 : k < (mkRow s).length := g1
    have g2 : (rowT (.st [.int .u8]) (mkRow s) k)[j]? = some c' := g2
    have hj : j < 1 := by
     have h1 := (List.getElem?_eq_some_iff.1 g2).1
     have h2 : (rowT (.st [.int .u8]) (mkRow s) k).length = 1 := rTl (.st [.int .u8]) (mkRow s) k
     omega
    obtain rfl : j = 0 := by omega
    have hc : c' = .v (.int .u8 (((mkRow s).getD k ((0 : Int), ())).1)) := by
     have : some (AV.v (.int .u8 (((mkRow s).getD k ((0 : Int), ())).1))) = some c' := g2
     exact (Option.some.inj this).symm
    subst hc
    have g3 : (Lib.bytesCells w ti.elem s)[k * 1 + 0]? = some y := g3
    rw [Nat.mul_one, Nat.add_zero, hget k (by rw [← hlr]; exact g1)] at g3
    cases g3
    exact .v _)
 have hrun : (execOp a.eval o).run P w = .ok (.value (.slice (some ⟨w.heap.size, 0, none⟩) s.size (grownCap w s.size 0 ti.elem))) (Lib.bytesWorld w ti.elem s) := by
  simp only [execOp, ho]
  rw [show a.eval x = .string s from ex]
  simp [hr]
 unfold Oper.wp
 rw [hrun]
 refine hn _ _ _ _ _ hk hs ?_ (fun _ => ⟨rfl, rfl, rfl, by rw [Lib.bytesWorld_size]; omega, fun k hk => Lib.bytesWorld_at_old w ti.elem s k hk⟩)
 have := R.own (w := Lib.bytesWorld w ti.elem s) (S := Stb C.A (Lib.bytesWorld w ti.elem s) (st.h ++ [some (.arr ti.elem (.st [.int .u8]) (mkRow s))]) (updV V st.h.length ⟨w.heap.size, 1, s.size, .slice (some ⟨w.heap.size, 0, none⟩) s.size (grownCap w s.size 0 ti.elem)⟩)) (V := updV V st.h.length ⟨w.heap.size, 1, s.size, .slice (some ⟨w.heap.size, 0, none⟩) s.size (grownCap w s.size 0 ti.elem)⟩) (N := (st.h ++ [some (LB.arr ti.elem (.st [.int .u8]) (mkRow s))]).length) st.h.length (by simp)
 simpa [updV, dI] using this
def intT (i : Option TI) : Bool := match i with
 | some i => match i.kind with
   | some _ => true
   | none => false
 | none => false
theorem intT_out {i : Option TI} (h : intT i = true) : ∃ ti k, i = some ti ∧ ti.kind = some k := by
 cases i with
 | none => simp [intT] at h
 | some ti =>
   cases e : ti.kind with
   | none => simp [intT, e] at h
   | some k => exact ⟨ti, k, rfl, e⟩
end
end Go.Proofs.YtaobinhdnklojaaGreatDoor
