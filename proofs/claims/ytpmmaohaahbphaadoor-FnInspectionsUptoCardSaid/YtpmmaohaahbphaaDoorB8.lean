/-
  The abstract evaluator, part 8: make, append, literals of slices.
-/
import Derived.Test.YtpmmaohaahbphaaDoorB7
namespace Go.Proofs.YtpmmaohaahbphaaDoor
open Go.RowKit

section
variable {P : Program} {M : Nat → List Bool} {o : Oper} {st : St} {T : Nat → Option TI}

/-- A new array. -/
theorem BlkR.newArr {w : World} {S : Nat → Prop} {V : Nat → Info} {N : Nat} {g cap ty : Nat} {t : Ty} {xs : List t.den} {n : Nat} {cur : Array Value} {L : List Value} (hheap : w.heap[g]? = some (.cells cur ty (0, 0))) (hn : xs.length = n)
    (hnc : xs.length ≤ cap) (hcm : cap ≤ maxLen) (hcs : cur.size = cap * t.n) (hbl : xs.length ≤ bigLen) (hL : cur.toList.take (xs.length * t.n) = L)
    (hrow : ∀ (k j : Nat) (c : AV), k < xs.length → (rowT t xs k)[j]? = some c → ∃ u, L[k * t.n + j]? = some u ∧ u.oneCell' = true ∧ Rt w S c u) :
    BlkR w S V N ⟨g, t.n, n, .slice (some ⟨g, 0, none⟩) n cap, noSub⟩ (.arr ty t xs) cur := by
  subst hn
  have hcell : ∀ (k j : Nat) (c : AV), k < xs.length → (rowT t xs k)[j]? = some c → ∃ u, cur[k * t.n + j]? = some u ∧ u.oneCell' = true ∧ Rt w S c u := fun k j c hk hj => by
    obtain ⟨u, e1, e2, e3⟩ := hrow k j c hk hj
    refine ⟨u, ?_, e2, e3⟩
    rw [← hL, List.getElem?_take] at e1
    split at e1
    · simpa using e1
    · cases e1
  refine ⟨rfl, rfl, fun _ => ⟨_, hheap, .inl rfl⟩, fun k j c hk hj => ?_, fun _ k j c x hk hj hx => ?_, (fun e => by cases e), fun _ => ⟨cap, rfl, hnc, hcm, hcs, hbl⟩, trivial⟩
  · obtain ⟨u, e1, e2, e3⟩ := hcell k j c hk hj
    exact ⟨u, e1, e2, .imm _ _ e3⟩
  · obtain ⟨u, e1, e2, e3⟩ := hcell k j c hk hj
    have hx : cur[k * t.n + j]? = some x := hx
    rw [e1] at hx; cases hx; exact e3
theorem SRV.newArr {C : Ctx} {V a w} (h : SRV C V st a w) {ty n m : Nat} {t : Ty} {xs : List t.den} {cur : Array Value} (hn : xs.length = n) (hnm : n ≤ m) (hm : m ≤ maxLen) (hcs : cur.size = m * t.n) (hbl : n ≤ bigLen)
    (hrow : ∀ (k j : Nat) (c : AV), k < xs.length → (rowT t xs k)[j]? = some c → ∃ u, cur[k * t.n + j]? = some u ∧ u.oneCell' = true ∧ Rt w (Stb C.A w st.h V) c u) :
    SRV C (updV V st.h.length ⟨w.heap.size, t.n, n, .slice (some ⟨w.heap.size, 0, none⟩) n m, noSub⟩) ⟨st.s, st.h ++ [some (.arr ty t xs)]⟩ a (w.alloc (.cells cur ty)) ∧
    R (w.alloc (.cells cur ty)) (Stb C.A (w.alloc (.cells cur ty)) (st.h ++ [some (.arr ty t xs)]) (updV V st.h.length ⟨w.heap.size, t.n, n, .slice (some ⟨w.heap.size, 0, none⟩) n m, noSub⟩)) (updV V st.h.length ⟨w.heap.size, t.n, n, .slice (some ⟨w.heap.size, 0, none⟩) n m, noSub⟩) (st.h ++ [some (LB.arr ty t xs)]).length (.own st.h.length) (.slice (some ⟨w.heap.size, 0, none⟩) n m) := by
  subst hn
  refine ⟨h.alloc ⟨w.heap.size, t.n, xs.length, .slice (some ⟨w.heap.size, 0, none⟩) xs.length m, noSub⟩ (.arr ty t xs) cur rfl (fun S' V' N' hS hV hN => ?_), ?_⟩
  · refine BlkR.newArr (L := cur.toList.take (xs.length * t.n)) (heap_alloc_new w _) rfl hnm hm hcs hbl rfl (fun k j c hk hj => ?_)
    obtain ⟨u, e1, e2, e3⟩ := hrow k j c hk hj
    refine ⟨u, ?_, e2, e3.mono fun b hb => ⟨hS b hb, heap_alloc_old w _ hb.2.1⟩⟩
    have hj2 : j < t.n := by rw [← rowT_length t xs k]; exact (List.getElem?_eq_some_iff.1 hj).1
    have hlt : k * t.n + j < xs.length * t.n := by
      have h2 : (k + 1) * t.n ≤ xs.length * t.n := Nat.mul_le_mul_right _ hk
      rw [Nat.succ_mul] at h2; omega
    rw [List.getElem?_take, if_pos hlt]
    simpa using e1
  · have := R.own (w := w.alloc (.cells cur ty)) (S := Stb C.A (w.alloc (.cells cur ty)) (st.h ++ [some (.arr ty t xs)]) (updV V st.h.length ⟨w.heap.size, t.n, xs.length, .slice (some ⟨w.heap.size, 0, none⟩) xs.length m, noSub⟩)) (V := updV V st.h.length ⟨w.heap.size, t.n, xs.length, .slice (some ⟨w.heap.size, 0, none⟩) xs.length m, noSub⟩) (N := (st.h ++ [some (LB.arr ty t xs)]).length) st.h.length (by simp)
    simpa [updV] using this
theorem mulOf {n b N : Nat} (h : n ≤ N / b) : n * b ≤ N := Nat.le_trans (Nat.mul_le_mul_right b h) (Nat.div_mul_le_self N b)
theorem maxLen_eq' : maxLen = 9223372036854775807 := by decide
theorem divmod {j m sz : Nat} (hsz : 0 < sz) (h : j < m * sz) : j / sz < m ∧ j % sz < sz ∧ j / sz * sz + j % sz = j :=
  ⟨Nat.div_lt_of_lt_mul (by rw [Nat.mul_comm]; exact h), Nat.mod_lt _ hsz, by rw [Nat.mul_comm]; exact Nat.div_add_mod j sz⟩

/-! ### make([]T, n) -/
def evMakeT (ty : Nat) (t : Ty) (z : Option t.den) (n : Int) (st : St) (K : AV → St → Prop) : Prop :=
  match z with
  | some z => K (.own st.h.length) ⟨st.s, st.h ++ [some (.arr ty t (List.replicate n.toNat z))]⟩
  | none => False
def evMake (T : Nat → Option TI) (i : Option TI) (st : St) (l c : AV) (K : AV → St → Prop) : Prop :=
  match i, elemT T i, l, c with
  | some ti, some te, .v (.int _ n), .v (.int _ m) => match te.cod with
    | some t => (te.zero.cells.toList.all Value.oneCell' && Nat.beq t.n te.size && Nat.beq te.zero.cells.size te.size && Nat.blt 0 te.size) = true ∧ Ob (0 ≤ n ∧ n ≤ m ∧ te.bytes * m ≤ 140737488355328 ∧ m ≤ 140737488355328) ∧
      evMakeT ti.elem t (t.dec (te.zero.cells.toList.map AV.v)) n st K
    | none => False
  | _, _, _, _ => False
theorem made_get (z : Array Value) (n k s j : Nat) (hz : z.size = s) (hj : j < s) (hk : k * s + j < n) : (madeCells z n)[k * s + j]? = z[j]? := by
  have hjz : j < z.size := by omega
  have e : (k * s + j) % z.size = j := by rw [hz, Nat.mul_add_mod_self_right, Nat.mod_eq_of_lt hj]
  simp [madeCells, hk, e, hjz]
theorem edoes_make {K : AV → St → Prop} (hT : TOk P T) (t : TypeId) (l c : Operand) (ho : o.op = .makeSlice t l c) (hk : evMake T (T t) st (st.ev l) (st.ev c) K) : EDoes P M o st K := by
  unfold evMake at hk
  split at hk
  · rename_i ti te kl n kc m hti hte hl hc
    split at hk
    · rename_i tt hcod
      obtain ⟨hz, hb, hk⟩ := hk
      simp only [Bool.and_eq_true, Nat.blt_eq] at hz
      obtain ⟨⟨⟨hz1, hz0⟩, hz2⟩, hz3⟩ := hz
      have hz0 := Nat.eq_of_beq_eq_true hz0
      have hz2 := Nat.eq_of_beq_eq_true hz2
      unfold evMakeT at hk
      split at hk
      · rename_i z hdec
        obtain ⟨d1, d2⟩ := dec_sound tt _ z hdec
        obtain ⟨h0, hnm, hbytes, hm⟩ := hb.out
        obtain ⟨ti', hi, hel, hte'⟩ := elemT_sound hte
        rw [hti] at hi; cases hi
        have hu := (hT t ti hti).elem hel
        obtain ⟨inf, hinf, hzero, hsize, hby⟩ := (hT _ te hte').info
        intro C V a w h next Q hn
        have e1 := h.evv hl
        have e2 := h.evv hc
        have hcs : (madeCells te.zero.cells (m.toNat * te.size)).size = m.toNat * te.size := size_madeCells _ _
        obtain ⟨hs, hr⟩ := h.newArr (ty := ti.elem) (n := n.toNat) (m := m.toNat) (t := tt) (xs := List.replicate n.toNat z) (cur := madeCells te.zero.cells (m.toNat * te.size)) (by simp) (by omega) (by have := maxLen_eq'; omega) (by rw [hz0]; exact hcs) (by simp only [bigLen]; omega) (fun k j c' g1 g2 => by
          have hk : k < n.toNat := by simpa using g1
          have e3 : rowT tt (List.replicate n.toNat z) k = tt.enc z := by simp [rowT, List.getD, hk]
          rw [e3] at g2
          have hj : j < te.size := by rw [← hz0, ← enc_length tt z]; exact (List.getElem?_eq_some_iff.1 g2).1
          have hlt : k * te.size + j < m.toNat * te.size := by
            have h1 : k + 1 ≤ m.toNat := by omega
            have h2 : (k + 1) * te.size ≤ m.toNat * te.size := Nat.mul_le_mul_right _ h1
            rw [Nat.succ_mul] at h2; omega
          rw [hz0, made_get _ _ _ _ _ hz2 hj hlt]
          have hx : te.zero.cells[j]? = some te.zero.cells[j] := Array.getElem?_eq_getElem (by omega)
          refine ⟨_, hx, List.all_eq_true.1 hz1 _ (by simp), ?_⟩
          exact d2 j (.v te.zero.cells[j]) c' (by simp [hx]) g2 _ _ _ (.v _))
        have hrun : (execOp a.eval o).run P w = .ok (.value (.slice (some ⟨w.heap.size, 0, none⟩) n.toNat m.toNat)) (w.alloc (.cells (madeCells te.zero.cells (m.toNat * te.size)) ti.elem)) := by
          have := run_make (P := P) w t ti.elem inf te.zero hu hinf hzero kl kc n m h0 hnm (by rw [hby]; omega) (by omega)
          rw [hsize] at this
          simp [execOp, ho, e1, e2, this]
        unfold Oper.wp
        rw [hrun]
        exact hn _ _ _ _ _ hk hs hr fun _ => (Below.refl _ _).alloc (Nat.le_refl _) _
      · exact hk.elim
    · exact hk.elim
  · exact hk.elim

/-! ### append -/
/-- The cells that are appended. -/
def Src (w : World) (Rl : AV → Value → Prop) (t : Ty) (xs : List t.den) (x : Value) : Prop :=
  ∃ (ad : Option Addr) (c : Nat) (news : List Value), x = .slice ad xs.length c ∧ news.length = xs.length * t.n ∧ (0 < xs.length → ∃ a, ad = some a ∧ ∀ j u, news[j]? = some u → w.cell? (a.add j) = some u) ∧ (∀ u ∈ news, u.oneCell' = true) ∧
    ∀ (k j : Nat) (c : AV), k < xs.length → (rowT t xs k)[j]? = some c → ∃ u, news[k * t.n + j]? = some u ∧ Rl c u
def srcA (h : List (Option LB)) : AV → Option ((t : Ty) × List t.den)
  | .own id => match h[id]? with
    | some (some (.arr _ t xs)) => some ⟨t, xs⟩
    | _ => none
  | .view id lo n => match h[id]? with
    | some (some (.arr _ t xs)) => some ⟨t, (xs.drop lo).take n⟩
    | _ => none
  | .tree t xs => some ⟨t, xs⟩
  | _ => none
/-- From a reading at rest. -/
theorem Rt.src {w : World} {S : Nat → Prop} {t : Ty} {xs : List t.den} {x : Value} (h : Rt w S (.tree t xs) x) (hsz : 0 < t.n) : Src w (Rt w S) t xs x := by
  cases h with
  | tree _ _ ad len cap b o X hlen hb hc hcm ha hx hh =>
    subst hlen
    refine ⟨ad, cap, (List.range (xs.length * t.n)).map fun j => X (j / t.n) (j % t.n), rfl, by simp, fun hpos => ?_, fun u hu => ?_, fun k j c hk hj => ?_⟩
    · obtain ⟨rfl, hS⟩ := ha hpos
      refine ⟨_, rfl, fun j u hu => ?_⟩
      rw [List.getElem?_map] at hu
      by_cases hj : j < xs.length * t.n
      · rw [List.getElem?_range hj] at hu
        cases hu
        obtain ⟨d1, d2, d3⟩ := divmod hsz hj
        have e : (⟨b, o, none⟩ : Addr).add j = ⟨b, o + j / t.n * t.n + j % t.n, none⟩ := by rw [Nat.add_assoc, d3]; unfold Addr.add; split <;> simp_all
        rw [e]
        exact (hx _ _ _ d1 (List.getElem?_eq_getElem (by rw [rowT_length]; exact d2))).1
      · rw [List.getElem?_eq_none (by simpa using hj)] at hu; cases hu
    · obtain ⟨j, hj, rfl⟩ := List.mem_map.1 hu
      obtain ⟨d1, d2, d3⟩ := divmod hsz (List.mem_range.1 hj)
      exact (hx _ _ _ d1 (List.getElem?_eq_getElem (by rw [rowT_length]; exact d2))).2
    · have hj2 : j < t.n := by rw [← rowT_length t xs k]; exact (List.getElem?_eq_some_iff.1 hj).1
      have hlt : k * t.n + j < xs.length * t.n := by
        have h2 : (k + 1) * t.n ≤ xs.length * t.n := Nat.mul_le_mul_right _ hk
        rw [Nat.succ_mul] at h2; omega
      refine ⟨X k j, ?_, hh k j c hk hj⟩
      rw [List.getElem?_map, List.getElem?_range hlt]
      simp only [Option.map_some, Option.some.injEq]
      have e1 : (k * t.n + j) / t.n = k := by rw [Nat.mul_comm, Nat.mul_add_div hsz, Nat.div_eq_of_lt hj2, Nat.add_zero]
      have e2 : (k * t.n + j) % t.n = j := by rw [Nat.mul_comm, Nat.mul_add_mod, Nat.mod_eq_of_lt hj2]
      rw [e1, e2]
theorem SRV.src {C : Ctx} {V a w} (h : SRV C V st a w) {c : AV} {x : Value} (hr : R w (Stb C.A w st.h V) V st.h.length c x) {t : Ty} {xs : List t.den} (hs : srcA st.h c = some ⟨t, xs⟩) (hsz : 0 < t.n) :
    Src w (Rt w (Lent C.A w st.h st.h V)) t xs x := by
  have hl := h.lend (hl := st.h) (fun _ _ e => e) hr
  unfold srcA at hs
  split at hs
  · split at hs
    · rename_i ty t' xs' e
      simp only [Option.some.injEq, Sigma.mk.injEq] at hs
      obtain ⟨rfl, hs⟩ := hs
      cases hs
      unfold AV.lend at hl
      rw [e] at hl
      exact hl.src hsz
    · cases hs
  · split at hs
    · rename_i ty t' xs' e
      simp only [Option.some.injEq, Sigma.mk.injEq] at hs
      obtain ⟨rfl, hs⟩ := hs
      cases hs
      unfold AV.lend at hl
      rw [e] at hl
      exact hl.src hsz
    · cases hs
  · simp only [Option.some.injEq, Sigma.mk.injEq] at hs
    obtain ⟨rfl, hs⟩ := hs
    cases hs
    exact hl.src hsz
  · cases hs

/-- What an append to one's own slice yields, and where it lies. -/
theorem run_append_at (w : World) (t ty e : TypeId) (i : TypeInfo) (z : Value) (size : Nat) (ht : P.underlying t = some (.slice e)) (hi : P.info? e = some i) (hz : i.zero = some z) (hsize : i.size = size) (hzs : z.cells.size = size) (hsz : 0 < size)
    (g n cap : Nat) (cur : Array Value) (hg : w.heap[g]? = some (.cells cur e (0, 0))) (hnc : n ≤ cap) (hcm : cap ≤ maxLen) (hcs : cur.size = cap * size)
    (a : Addr) (m c : Nat) (news : List Value) (hl : news.length = m * size) (hnews : ∀ j u, news[j]? = some u → w.cell? (a.add j) = some u) (h1 : ∀ u ∈ news, u.oneCell' = true) (_hm : 0 < m) (h63 : n + m ≤ maxLen) (hbytes : (n + m) * i.bytes ≤ 140737488355328) :
    ∃ (g' cap' : Nat) (cur' : Array Value) (w' : World), (Builtin.append_ #[t, t] ty #[.slice (some ⟨g, 0, none⟩) n cap, .slice (some a) m c]).run P w = .ok (.slice (some ⟨g', 0, none⟩) (n + m) cap') w' ∧ (g' = g ∨ g' = w.heap.size) ∧
      w'.heap[g']? = some (.cells cur' e (0, 0)) ∧ n + m ≤ cap' ∧ cap' ≤ maxLen ∧ cur'.size = cap' * size ∧ cur'.toList.take ((n + m) * size) = cur.toList.take (n * size) ++ news ∧ w.grownBy w' (some g) ∧ (cap = 0 → Below w.heap.size w w') := by
  have hxl : (cur.toList.take (n * size)).length = n * size := by
    have := Nat.mul_le_mul_right size hnc
    simp; omega
  have hown : w.ownsRow 0 e size (.slice (some ⟨g, 0, none⟩) n cap) n (cur.toList.take (n * size)) := ⟨hxl, .inr ⟨g, cap, cur, rfl, Nat.zero_le _, hg, hnc, hcm, hcs, rfl⟩⟩
  obtain ⟨v', w', hr, hown', hgr, _⟩ := run_append_own w 0 t ty e i z size i.bytes ht hi hz hsize rfl hzs hsz _ n _ hown a m c news hl hnews h1 h63 hbytes (Nat.zero_le _)
  have hg' : ∃ g' cap', v' = .slice (some ⟨g', 0, none⟩) (n + m) cap' ∧ (g' = g ∨ g' = w.heap.size) ∧ (cap = 0 → Below w.heap.size w w') := by
    subst hsize
    by_cases hroom : n + m ≤ cap
    · have hfit : n * i.size + news.length ≤ cur.size := by rw [hl, hcs, ← Nat.add_mul]; exact Nat.mul_le_mul_right _ hroom
      rw [run_append_room (P := P) w t ty e i ht hi g n cap cur hg a m c news hl hnews h1 hroom hfit] at hr
      cases hr
      exact ⟨g, cap, rfl, .inl rfl, fun e => by omega⟩
    · rw [run_append_grow (P := P) w t ty e i z ht hi hz ⟨g, 0, none⟩ n cap _ hxl (hown.cells (g := g) rfl) a m c news hl hnews (by omega) (by simp only [maxLen] at h63; omega) (growslice_fits (by omega) hbytes)] at hr
      cases hr
      exact ⟨w.heap.size, _, rfl, .inr rfl, fun _ => (Below.refl _ _).drew.alloc (Nat.le_refl _) _⟩
  obtain ⟨g', cap', rfl, hgg, hbz⟩ := hg'
  rcases hown'.2 with ⟨h, _⟩ | ⟨g2, cap2, cur', hv, _, hh, k1, k2, k3, k4⟩
  · cases h
  · cases hv
    exact ⟨g', cap', cur', w', hr, hgg, hh, k1, k2, k3, k4, hgr, hbz⟩
theorem run_append_at_nil (w : World) (t ty e : TypeId) (i : TypeInfo) (z : Value) (size : Nat) (ht : P.underlying t = some (.slice e)) (hi : P.info? e = some i) (hz : i.zero = some z) (hsize : i.size = size) (hzs : z.cells.size = size) (hsz : 0 < size)
    (a : Addr) (m c : Nat) (news : List Value) (hl : news.length = m * size) (hnews : ∀ j u, news[j]? = some u → w.cell? (a.add j) = some u) (h1 : ∀ u ∈ news, u.oneCell' = true) (hm : 0 < m) (h63 : m ≤ maxLen) (hbytes : m * i.bytes ≤ 140737488355328) :
    ∃ (g' cap' : Nat) (cur' : Array Value) (w' : World), (Builtin.append_ #[t, t] ty #[.slice none 0 0, .slice (some a) m c]).run P w = .ok (.slice (some ⟨g', 0, none⟩) m cap') w' ∧ g' = w.heap.size ∧
      w'.heap[g']? = some (.cells cur' e (0, 0)) ∧ m ≤ cap' ∧ cap' ≤ maxLen ∧ cur'.size = cap' * size ∧ cur'.toList.take (m * size) = news ∧ w.grownBy w' none ∧ Below w.heap.size w w' := by
  obtain ⟨v', w', hr, hown', hgr, _⟩ := run_append_own w 0 t ty e i z size i.bytes ht hi hz hsize rfl hzs hsz _ 0 _ (World.ownsRow_nil w 0 e size) a m c news hl hnews h1 (by omega) (by simpa using hbytes) (Nat.zero_le _)
  simp only [Nat.zero_add, List.nil_append] at hown'
  have hg' : (∃ cap', v' = .slice (some ⟨w.heap.size, 0, none⟩) m cap') ∧ Below w.heap.size w w' := by
    subst hsize
    rw [run_append_nil (P := P) w t ty e i z ht hi hz a m c news hl hnews hm (by simp only [maxLen] at h63; omega) (by omega)] at hr
    cases hr
    exact ⟨⟨_, rfl⟩, (Below.refl _ _).drew.alloc (Nat.le_refl _) _⟩
  obtain ⟨⟨cap', rfl⟩, hbz⟩ := hg'
  rcases hown'.2 with ⟨h, _⟩ | ⟨g2, cap2, cur', hv, _, hh, k1, k2, k3, k4⟩
  · cases h
  · cases hv
    exact ⟨_, cap', cur', w', hr, rfl, hh, k1, k2, k3, k4, hgr, hbz⟩


theorem run_append_zero (w : World) (t ty e : TypeId) (i : TypeInfo) (ht : P.underlying t = some (.slice e)) (hi : P.info? e = some i) (ad : Option Addr) (n cap : Nat) (hnc : n ≤ cap) (a : Option Addr) (c : Nat) :
    (Builtin.append_ #[t, t] ty #[.slice ad n cap, .slice a 0 c]).run P w = .ok (.slice ad n cap) w := by
  have h0 := fun a => run_loadCells (P := P) w a 0 (fun _ => undef) (fun j hj => absurd hj (Nat.not_lt_zero _))
  cases ad <;> cases a <;> simp [Builtin.append_, run_underlying ht, sizeOf, typeInfo, hi, Builtin.lenOf, Builtin.firstCells, hnc, storeCells, h0]

def evAppO (ty : Nat) (t : Ty) (xs : List t.den) (ys : List t.den) (te : TI) (id : Nat) (st : St) (K : AV → St → Prop) : Prop :=
  (Nat.beq t.n te.size && Nat.blt 0 te.size && Nat.beq te.zero.cells.size te.size && !t.isMk) = true ∧ Ob (xs.length + ys.length ≤ 140737488355328 / te.bytes ∧ xs.length + ys.length ≤ 140737488355328) ∧
    K (.own st.h.length) ⟨st.s, st.h.set id none ++ [some (.arr ty t (xs ++ ys))]⟩
def evAppend (T : Nat → Option TI) (i : Option TI) (st : St) (x y : AV) (K : AV → St → Prop) : Prop :=
  match i, elemT T i, srcA st.h y with
  | some ti, some te, some ⟨t2, ys⟩ => match x with
    | .own id => match st.h[id]? with
      | some (some (.arr ty t xs)) => Nat.beq ty ti.elem = true ∧ (if h : Ty.same t2 t = true then evAppO ty t xs (castL (same_eq h) ys) te id st K else False)
      | _ => False
    | .v (.slice none 0 0) => (Nat.beq t2.n te.size && Nat.blt 0 te.size && Nat.beq te.zero.cells.size te.size) = true ∧ Ob (0 < ys.length ∧ ys.length ≤ 140737488355328 / te.bytes ∧ ys.length ≤ 140737488355328) ∧
        K (.own st.h.length) ⟨st.s, st.h ++ [some (.arr ti.elem t2 ys)]⟩
    | _ => False
  | _, _, _ => False

def dropId (h : List (Option LB)) (dead : Option Nat) : List (Option LB) := match dead with
  | some id => h.set id none
  | none => h
/-- One own slice is done with, another begins. -/
theorem SRV.regrow {C : Ctx} {V a w} (h : SRV C V st a w) {w' : World} {dead : Option Nat} {I : Info} {lb : LB} {cur' : Array Value} {row : Option Nat} (hdead : ∀ id, dead = some id → ∃ l, st.h[id]? = some (some l) ∧ row = some (V id).blk)
    (hrow : ∀ k, row = some k → ∃ id, dead = some id) (hgr : w.grownBy w' row) (hI : row = some I.blk ∨ I.blk = w.heap.size) (_hnew : I.blk < w'.heap.size)
    (hb : (∀ b, Stb C.A w st.h V b → Stb C.A w' (dropId st.h dead ++ [some lb]) (updV V st.h.length I) b ∧ w'.heap[b]? = w.heap[b]?) → BlkR w' (Stb C.A w' (dropId st.h dead ++ [some lb]) (updV V st.h.length I)) (updV V st.h.length I) (st.h.length + 1) I lb cur') (hsn : lb.subn = 0 := by rfl) :
    SRV C (updV V st.h.length I) ⟨st.s, dropId st.h dead ++ [some lb]⟩ a w' := by
  have hgone : ∀ id, dead = some id → ∀ l, st.h[id]? = some (some l) → (dropId st.h dead)[id]? = some none := fun id e l e1 => by
    subst e
    have := (List.getElem?_eq_some_iff.1 e1).1
    simp [dropId, this]
  refine h.remake (hd := dropId st.h dead) (I := I) (lb := lb) (cur' := cur') (by cases dead <;> simp [dropId]) (fun i l e => ?_) hgr.os hgr.tape hgr.output hgr.size (fun k hk hno => hgr.block k hk fun e => ?_) (fun b hf => ?_) hb
  · cases dead with
    | none => exact e
    | some id =>
      simp only [dropId] at e
      rw [List.getElem?_set] at e
      by_cases hid : id = i
      · rw [if_pos hid] at e; split at e <;> simp at e
      · rw [if_neg hid] at e; exact e
  · obtain ⟨id, hid⟩ := hrow k e.symm
    obtain ⟨l, e1, e2⟩ := hdead id hid
    rw [← e] at e2
    exact hno id l e1 (hgone id hid l e1) (.inl (by simpa using e2.symm))
  · rw [← foot_plain hsn hf]
    rcases hI with e | e
    · obtain ⟨id, hid⟩ := hrow _ e
      obtain ⟨l, e1, e2⟩ := hdead id hid
      rw [e] at e2
      exact .inl ⟨id, l, e1, hgone id hid l e1, .inl (by simpa using e2.symm)⟩
    · exact .inr (by rw [e]; exact Nat.le_refl _)
theorem run_appendOp {t : TypeId} {x y : Operand} {a : Act} {w w' : World} {vx vy v : Value} (ho : o.op = .call { callee := .builtin .append, args := #[x, y], argTypes := #[t, t] }) (hx : a.eval x = vx) (hy : a.eval y = vy)
    (hr : (Builtin.append_ #[t, t] o.type #[vx, vy]).run P w = .ok v w') : (execOp a.eval o).run P w = .ok (.value v) w' := by
  unfold execOp
  simp only [ho, resolve, invoke, builtin, Sem.run_bind, Sem.run_pure, Result.andThen_ok, List.map_toArray, List.map_cons, List.map_nil, hx, hy, hr]


theorem rowT_append {t : Ty} {xs ys : List t.den} {k : Nat} : rowT t (xs ++ ys) k = if k < xs.length then rowT t xs k else rowT t ys (k - xs.length) := by
  unfold rowT
  split
  · rename_i h; rw [List.getD_eq_getElem?_getD, List.getElem?_append_left h, ← List.getD_eq_getElem?_getD]
  · rename_i h; rw [List.getD_eq_getElem?_getD, List.getElem?_append_right (by omega), ← List.getD_eq_getElem?_getD]

/-- What was lent is at rest once more when the append is done: cells of own slices are copies of what is at rest. -/
theorem SRV.srcStb {C : Ctx} {V a w} (h : SRV C V st a w) {c : AV} {x : Value} (hr : R w (Stb C.A w st.h V) V st.h.length c x) {t : Ty} {xs : List t.den} (hs : srcA st.h c = some ⟨t, xs⟩) (hsz : 0 < t.n) :
    Src w (Rt w (Stb C.A w st.h V)) t xs x := by
  unfold srcA at hs
  have own : ∀ (id ty : Nat) (t : Ty) (ys : List t.den) (lo n : Nat) (ad : Addr) (cap : Nat), st.h[id]? = some (some (.arr ty t ys)) → lo + n ≤ ys.length → 0 < t.n → x = .slice (some ad) n cap → (0 < n → ad = ⟨(V id).blk, lo * t.n, none⟩) → Src w (Rt w (Stb C.A w st.h V)) t ((ys.drop lo).take n) x := by
    intro id ty t ys lo n ad cap e hle hsz ex had
    obtain ⟨cur, hc⟩ := h.hr.blk id _ e
    have hln : ((ys.drop lo).take n).length = n := by simp; omega
    obtain ⟨cap0, _, e2, e3, e4, _⟩ := hc.own rfl
    simp only [LB.len, LB.sz] at e2 e4
    have hcur : ∀ k j, k < ys.length → j < t.n → ∃ y, cur[k * t.n + j]? = some y ∧ y.oneCell' = true := fun k j hk hj => by
      obtain ⟨y, g1, g2, _⟩ := hc.cell k j _ hk (List.getElem?_eq_getElem (by show j < (rowT t ys k).length; rw [rowT_length]; exact hj))
      exact ⟨y, g1, g2⟩
    refine ⟨some ad, cap, (List.range (n * t.n)).map fun j => (cur[lo * t.n + j]?).getD undef, by rw [hln]; exact ex, by simp [hln], fun hpos => ⟨ad, rfl, fun j u hu => ?_⟩, fun u hu => ?_, fun k j c hk hj => ?_⟩
    · rw [List.getElem?_map] at hu
      by_cases hj : j < n * t.n
      · rw [List.getElem?_range hj] at hu
        cases hu
        rw [had (by omega)]
        have e5 : (⟨(V id).blk, lo * t.n, none⟩ : Addr).add j = ⟨(V id).blk, lo * t.n + j, none⟩ := by unfold Addr.add; split <;> simp_all
        rw [e5, cell_of_row _ _ _ _ _ _ (hc.heap rfl).choose_spec.1]
        obtain ⟨d1, d2, d3⟩ := divmod hsz hj
        obtain ⟨y, g1, _⟩ := hcur (lo + j / t.n) (j % t.n) (by omega) d2
        rw [show (lo + j / t.n) * t.n + j % t.n = lo * t.n + j by rw [Nat.add_mul]; omega] at g1
        simp only [g1, Option.getD_some]
      · rw [List.getElem?_eq_none (by simpa using hj)] at hu; cases hu
    · obtain ⟨j, hj, rfl⟩ := List.mem_map.1 hu
      obtain ⟨d1, d2, d3⟩ := divmod hsz (List.mem_range.1 hj)
      obtain ⟨y, g1, g2⟩ := hcur (lo + j / t.n) (j % t.n) (by omega) d2
      rw [show (lo + j / t.n) * t.n + j % t.n = lo * t.n + j by rw [Nat.add_mul]; omega] at g1
      rw [g1]; exact g2
    · have hkn : k < n := by omega
      have hj2 : j < t.n := by rw [← rowT_length t ((ys.drop lo).take n) k]; exact (List.getElem?_eq_some_iff.1 hj).1
      have hrw : rowT t ((ys.drop lo).take n) k = rowT t ys (lo + k) := by
        simp only [rowT, List.getD_eq_getElem?_getD, List.getElem?_take, if_pos hkn, List.getElem?_drop]
      rw [hrw] at hj
      obtain ⟨y, g1, g2, g3⟩ := hc.cell (lo + k) j c (by show lo + k < ys.length; omega) hj
      have g1 : cur[(lo + k) * t.n + j]? = some y := g1
      have hlt : k * t.n + j < n * t.n := by
        have h2 : (k + 1) * t.n ≤ n * t.n := Nat.mul_le_mul_right _ hkn
        rw [Nat.succ_mul] at h2; omega
      refine ⟨y, ?_, hc.still rfl (lo + k) j c y (by show lo + k < ys.length; omega) hj g1⟩
      rw [List.getElem?_map, List.getElem?_range hlt]
      rw [show (lo + k) * t.n + j = lo * t.n + (k * t.n + j) by rw [Nat.add_mul]; omega] at g1
      simp [g1]
  split at hs
  · rename_i id
    split at hs
    · rename_i ty t' xs' e
      simp only [Option.some.injEq, Sigma.mk.injEq] at hs
      obtain ⟨rfl, hs⟩ := hs
      cases hs
      obtain ⟨cur, hc⟩ := h.hr.blk id _ e
      obtain ⟨cap, e1, _⟩ := hc.own rfl
      have := own id ty t' xs' 0 xs'.length ⟨(V id).blk, 0, none⟩ cap e (by omega) hsz (by rw [hr.own_inv, e1]; rfl) (fun _ => by simp)
      simpa using this
    · cases hs
  · rename_i id lo n
    split at hs
    · rename_i ty t' xs' e
      simp only [Option.some.injEq, Sigma.mk.injEq] at hs
      obtain ⟨rfl, hs⟩ := hs
      cases hs
      obtain ⟨g1, cap, g2, g3, g4⟩ := h.part e hr
      exact own id ty t' xs' lo n _ _ e g1 hsz g4 (fun hn => by simp; omega)
    · cases hs
  · simp only [Option.some.injEq, Sigma.mk.injEq] at hs
    obtain ⟨rfl, hs⟩ := hs
    cases hs
    exact hr.tree_inv.src hsz
  · cases hs

theorem castL_length {t u : Ty} (h : t = u) (xs : List t.den) : (castL h xs).length = xs.length := by subst h; rfl
theorem edoes_append {K : AV → St → Prop} (hT : TOk P T) (t : TypeId) (x y : Operand) (ho : o.op = .call { callee := .builtin .append, args := #[x, y], argTypes := #[t, t] }) (hk : evAppend T (T t) st (st.ev x) (st.ev y) K) : EDoes P M o st K := by
  unfold evAppend at hk
  split at hk
  case h_2 => exact hk.elim
  rename_i ti te t2 ys hti hte hsrc
  obtain ⟨ti', hi, hel, hte'⟩ := elemT_sound hte
  rw [hti] at hi; cases hi
  have hu := (hT t ti hti).elem hel
  obtain ⟨inf, hinf, hzero, hsize, hby⟩ := (hT _ te hte').info
  split at hk
  case h_3 => exact hk.elim
  · rename_i id hx
    split at hk
    case h_2 => exact hk.elim
    rename_i ty tt xs hlb
    obtain ⟨c1, hk⟩ := hk
    obtain rfl := Nat.eq_of_beq_eq_true c1
    split at hk
    case isFalse => exact hk.elim
    rename_i hsame
    have := same_eq hsame
    subst this
    obtain ⟨hc, hob, hk⟩ := hk
    have hk : K (.own st.h.length) ⟨st.s, st.h.set id none ++ [some (.arr ti.elem t2 (xs ++ ys))]⟩ := hk
    have hob : Ob (xs.length + ys.length ≤ 140737488355328 / te.bytes ∧ xs.length + ys.length ≤ 140737488355328) := hob
    simp only [Bool.and_eq_true, Nat.blt_eq] at hc
    obtain ⟨⟨⟨c2, hsz⟩, c5⟩, c6⟩ := hc
    have c6 : t2.isMk = false := by simpa using c6
    have c2 := Nat.eq_of_beq_eq_true c2
    have c5 := Nat.eq_of_beq_eq_true c5
    obtain ⟨hbytes, hnm⟩ := hob.out
    have hbytes := mulOf hbytes
    intro C V a w h next Q hn
    obtain ⟨ad, c, news, ey, hl, hnews, h1, hcell2⟩ := h.srcStb (h.ev y) hsrc (by omega)
    obtain ⟨cur, hcur⟩ := h.hr.blk id _ hlb
    obtain ⟨fr, hheap, hfr⟩ := hcur.heap rfl
    have hfr : FrOk t2.isMk cur.size fr := hfr
    rw [c6] at hfr
    obtain rfl := hfr.no
    obtain ⟨cap, eV, hlc, hcm, hcs, hbl⟩ := hcur.own rfl
    simp only [LB.len, LB.sz] at eV hlc hcs hbl
    have e0 : R w (Stb C.A w st.h V) V st.h.length (.own id) (a.eval x) := by rw [← hx]; exact h.ev x
    have ex : a.eval x = .slice (some ⟨(V id).blk, 0, none⟩) xs.length cap := by rw [e0.own_inv, eV]
    have key : ∃ (g' cap' : Nat) (cur' : Array Value) (w' : World), (Builtin.append_ #[t, t] o.type #[.slice (some ⟨(V id).blk, 0, none⟩) xs.length cap, .slice ad ys.length c]).run P w = .ok (.slice (some ⟨g', 0, none⟩) (xs.length + ys.length) cap') w' ∧ (g' = (V id).blk ∨ g' = w.heap.size) ∧
        w'.heap[g']? = some (.cells cur' ti.elem (0, 0)) ∧ xs.length + ys.length ≤ cap' ∧ cap' ≤ maxLen ∧ cur'.size = cap' * te.size ∧ cur'.toList.take ((xs.length + ys.length) * te.size) = cur.toList.take (xs.length * te.size) ++ news ∧ w.grownBy w' (some (V id).blk) ∧ (cap = 0 → Below w.heap.size w w') := by
      by_cases hm : 0 < ys.length
      · obtain ⟨ad', rfl, hnews2⟩ := hnews hm
        exact run_append_at (P := P) w t o.type ti.elem inf te.zero te.size hu hinf hzero hsize c5 hsz (V id).blk xs.length cap cur hheap hlc hcm (by rw [← c2]; exact hcs) ad' ys.length c news (by rw [← c2]; exact hl) hnews2 h1 hm (by have := maxLen_eq'; omega) (by rw [hby]; omega)
      · have hm0 : ys.length = 0 := by omega
        have hnil : news = [] := by rw [hm0, Nat.zero_mul] at hl; exact List.length_eq_zero_iff.1 hl
        refine ⟨(V id).blk, cap, cur, w, ?_,   .inl rfl, hheap, by omega, hcm, by rw [← c2]; exact hcs, by simp [hm0, hnil], ⟨rfl, rfl, rfl, Nat.le_refl _, fun _ _ _ => rfl⟩, fun _ => Below.refl _ _⟩
        rw [hm0]
        exact run_append_zero w t o.type ti.elem inf hu hinf _ _ _ hlc _ _
    obtain ⟨g', cap', cur', w', hr, hgg, hh, k1, k2, k3, k4, hgr, hbz⟩ := key
    have hs := h.regrow (dead := some id) (row := some (V id).blk) (I := ⟨g', t2.n, xs.length + ys.length, .slice (some ⟨g', 0, none⟩) (xs.length + ys.length) cap', noSub⟩) (lb := .arr ti.elem t2 (xs ++ ys)) (cur' := cur') (w' := w') (fun i hi => by cases hi; exact ⟨_, hlb, rfl⟩) (fun k _ => ⟨id, rfl⟩) hgr
      (by rcases hgg with e | e <;> simp [e]) (Array.getElem?_eq_some_iff.1 hh).1 (fun hS => by
        have hlen : (xs ++ ys).length = xs.length + ys.length := List.length_append
        refine BlkR.newArr (L := cur.toList.take (xs.length * te.size) ++ news) hh hlen (by omega) k2 (by rw [c2]; exact k3) (by rw [hlen]; simp only [bigLen]; omega) (by rw [hlen, c2]; exact k4) (fun k j c hk hj => ?_)
        rw [rowT_append] at hj
        split at hj
        · rename_i hkn
          have hj2 : j < t2.n := by rw [← rowT_length t2 xs k]; exact (List.getElem?_eq_some_iff.1 hj).1
          have hlt : k * t2.n + j < xs.length * t2.n := by
            have h2 : (k + 1) * t2.n ≤ xs.length * t2.n := Nat.mul_le_mul_right _ hkn
            rw [Nat.succ_mul] at h2; omega
          obtain ⟨u, e1, e2, _⟩ := hcur.cell k j c hkn hj
          have e1 : cur[k * t2.n + j]? = some u := e1
          have hnl : xs.length * t2.n ≤ cur.size := by rw [hcs]; exact Nat.mul_le_mul_right _ hlc
          refine ⟨u, ?_, e2, (hcur.still rfl k j c u hkn hj e1).mono hS⟩
          rw [← c2, List.getElem?_append_left (by simp; omega), List.getElem?_take, if_pos hlt]
          simpa using e1
        · rename_i hkn
          obtain ⟨u, e1, e2⟩ := hcell2 (k - xs.length) j c (by omega) hj
          have hnl : xs.length * t2.n ≤ cur.size := by rw [hcs]; exact Nat.mul_le_mul_right _ hlc
          refine ⟨u, ?_, h1 u (List.mem_of_getElem? e1), e2.mono hS⟩
          have e3 : xs.length * t2.n + (k - xs.length) * t2.n = k * t2.n := by rw [← Nat.add_mul]; congr 1; omega
          rw [← c2, List.getElem?_append_right (by simp; omega)]
          rw [show k * t2.n + j - (cur.toList.take (xs.length * t2.n)).length = (k - xs.length) * t2.n + j by simp; omega]
          exact e1)
    have hrun := run_appendOp ho ex ey hr
    unfold Oper.wp
    rw [hrun]
    refine hn _ _ _ _ _ hk hs ?_ (fun e => by
      obtain ⟨_, _, e⟩ := belA_cap ho e
      rw [ex] at e; cases e; exact hbz rfl)
    have := R.own (w := w') (S := Stb C.A w' (dropId st.h (some id) ++ [some (.arr ti.elem t2 (xs ++ ys))]) (updV V st.h.length ⟨g', t2.n, xs.length + ys.length, .slice (some ⟨g', 0, none⟩) (xs.length + ys.length) cap', noSub⟩)) (V := updV V st.h.length ⟨g', t2.n, xs.length + ys.length, .slice (some ⟨g', 0, none⟩) (xs.length + ys.length) cap', noSub⟩) (N := (dropId st.h (some id) ++ [some (LB.arr ti.elem t2 (xs ++ ys))]).length) st.h.length (by simp [dropId])
    simpa [updV, dropId] using this
  · rename_i hx
    obtain ⟨hc, hob, hk⟩ := hk
    simp only [Bool.and_eq_true, Nat.blt_eq] at hc
    obtain ⟨⟨c3, hsz⟩, c5⟩ := hc
    have c3 := Nat.eq_of_beq_eq_true c3
    have c5 := Nat.eq_of_beq_eq_true c5
    obtain ⟨hm, hbytes, hnm⟩ := hob.out
    have hbytes := mulOf hbytes
    intro C V a w h next Q hn
    obtain ⟨ad, c, news, ey, hl, hnews, h1, hcell2⟩ := h.srcStb (h.ev y) hsrc (by omega)
    obtain ⟨ad', rfl, hnews2⟩ := hnews hm
    have ex : a.eval x = .slice none 0 0 := h.evv hx
    obtain ⟨g', cap', cur', w', hr, hgg, hh, k1, k2, k3, k4, hgr, hbz⟩ := run_append_at_nil (P := P) w t o.type ti.elem inf te.zero te.size hu hinf hzero hsize c5 hsz ad' ys.length c news (by rw [← c3]; exact hl) hnews2 h1 hm (by have := maxLen_eq'; omega) (by rw [hby]; omega)
    have hs := h.regrow (dead := none) (row := none) (I := ⟨g', t2.n, ys.length, .slice (some ⟨g', 0, none⟩) ys.length cap', noSub⟩) (lb := .arr ti.elem t2 ys) (cur' := cur') (w' := w') (fun i hi => by cases hi) (fun k hk => by cases hk) hgr
      (.inr hgg) (Array.getElem?_eq_some_iff.1 hh).1 (fun hS => by
        refine BlkR.newArr (L := news) hh rfl k1 k2 (by rw [c3]; exact k3) (by simp only [bigLen]; omega) (by rw [c3]; exact k4) (fun k j c hk hj => ?_)
        obtain ⟨u, e1, e2⟩ := hcell2 k j c hk hj
        exact ⟨u, e1, h1 u (List.mem_of_getElem? e1), e2.mono hS⟩)
    have hrun := run_appendOp ho ex ey hr
    unfold Oper.wp
    rw [hrun]
    refine hn _ _ _ _ _ hk hs ?_ (fun _ => hbz)
    have := R.own (w := w') (S := Stb C.A w' (dropId st.h none ++ [some (.arr ti.elem t2 ys)]) (updV V st.h.length ⟨g', t2.n, ys.length, .slice (some ⟨g', 0, none⟩) ys.length cap', noSub⟩)) (V := updV V st.h.length ⟨g', t2.n, ys.length, .slice (some ⟨g', 0, none⟩) ys.length cap', noSub⟩) (N := (dropId st.h none ++ [some (LB.arr ti.elem t2 ys)]).length) st.h.length (by simp [dropId])
    simpa [updV, dropId] using this

/-! ### []T{..} -/
def zerosA (z : List AV) (n : Nat) : List AV := (List.range n).map fun k => (z[k % z.length]?).getD .any
def decRows (t : Ty) : Nat → List AV → Option (List t.den)
  | 0, _ => some []
  | n + 1, cs => match t.dec (cs.take t.n), decRows t n (cs.drop t.n) with
    | some x, some xs => some (x :: xs)
    | _, _ => none
theorem decRows_sound {t : Ty} : ∀ (n : Nat) (cs : List AV) (xs : List t.den), decRows t n cs = some xs → xs.length = n ∧ ∀ (k j : Nat) (c' : AV), k < n → (rowT t xs k)[j]? = some c' → ∃ c, cs[k * t.n + j]? = some c ∧ c.imp c'
  | 0, cs, xs, h => by cases h; exact ⟨rfl, fun k j c' hk => absurd hk (Nat.not_lt_zero _)⟩
  | n + 1, cs, xs, h => by
    unfold decRows at h
    split at h
    · rename_i y ys h1 h2
      cases h
      obtain ⟨g1, g2⟩ := dec_sound t _ y h1
      obtain ⟨k1, k2⟩ := decRows_sound n _ ys h2
      refine ⟨by simp [k1], fun k j c' hk hj => ?_⟩
      cases k with
      | zero =>
        have hj : (t.enc y)[j]? = some c' := hj
        have hl : j < (cs.take t.n).length := by rw [g1, ← enc_length t y]; exact (List.getElem?_eq_some_iff.1 hj).1
        have e1 := List.getElem?_eq_getElem hl
        refine ⟨_, ?_, g2 j _ c' e1 hj⟩
        rw [List.getElem?_take] at e1
        split at e1
        · simp
        · cases e1
      | succ k =>
        have hj : (rowT t ys k)[j]? = some c' := hj
        obtain ⟨c, e1, e2⟩ := k2 k j c' (by omega) hj
        refine ⟨c, ?_, e2⟩
        rw [List.getElem?_drop] at e1
        rw [← e1]; congr 1; rw [Nat.succ_mul]; omega
    · cases h
/-- Cells brought to rest: own slices and parts of them, as the heap h0 tells them. -/
def frzV (h0 h : List (Option LB)) : List AV → List AV × List (Option LB)
  | [] => ([], h)
  | .own id :: cs => match h0[id]? with
    | some (some (.arr _ t xs)) => match frzV h0 (h.set id none) cs with
      | (r, h') => (.tree t xs :: r, h')
    | _ => match frzV h0 h cs with
      | (r, h') => (.any :: r, h')
  | .view id lo n :: cs => match h0[id]? with
    | some (some (.arr _ t xs)) => match frzV h0 (h.set id none) cs with
      | (r, h') => (.tree t ((xs.drop lo).take n) :: r, h')
    | _ => match frzV h0 h cs with
      | (r, h') => (.any :: r, h')
  | c :: cs => match frzV h0 h cs with
    | (r, h') => (c :: r, h')
theorem Stb.sub {A : Nat → Prop} {w : World} {V : Nat → Info} {h h' : List (Option LB)} (hs : ∀ (i : Nat) (lb : LB), h'[i]? = some (some lb) → h[i]? = some (some lb)) (b : Nat) (hb : Stb A w h V b) : Stb A w h' V b :=
  ⟨hb.1, hb.2.1, fun i lb e => hb.2.2 i lb (hs i lb e)⟩
theorem set_none_sub {h : List (Option LB)} {id : Nat} (i : Nat) (lb : LB) (e : (h.set id none)[i]? = some (some lb)) : i ≠ id ∧ h[i]? = some (some lb) := by
  rw [List.getElem?_set] at e
  by_cases hi : id = i
  · rw [if_pos hi] at e; split at e <;> simp at e
  · rw [if_neg hi] at e; exact ⟨fun e => hi e.symm, e⟩
theorem SRV.freezeFrom {C : Ctx} {V a w} {s : Nat → AV} {h0 h : List (Option LB)} (hs0 : SRV C V ⟨s, h0⟩ a w) (hs : SRV C V ⟨s, h⟩ a w) (hsub : ∀ (i : Nat) (lb : LB), h[i]? = some (some lb) → h0[i]? = some (some lb)) {id ty : Nat} {t : Ty} {xs : List t.den} (e : h0[id]? = some (some (.arr ty t xs))) :
    SRV C V ⟨s, h.set id none⟩ a w ∧ Rt w (Stb C.A w (h.set id none) V) (.tree t xs) (V id).val := by
  refine ⟨hs.drop id, ?_⟩
  obtain ⟨_, ht⟩ := hs0.freeze (st := ⟨s, h0⟩) e rfl
  refine ht.mono fun b hb => ⟨Stb.sub (fun i lb e1 => ?_) b hb, rfl⟩
  obtain ⟨g1, g2⟩ := set_none_sub i lb e1
  show (h0.set id none)[i]? = _
  rw [List.getElem?_set_ne (Ne.symm g1)]
  exact hsub i lb g2
theorem Rt.drop_take {w : World} {S : Nat → Prop} {t : Ty} {xs : List t.den} {x : Value} (h : Rt w S (.tree t xs) x) {lo n : Nat} (hn : lo + n ≤ xs.length) : Rt w S (.tree t ((xs.drop lo).take n)) (partV x t.n lo n) := by
  cases h with
  | tree _ _ a len cap b o X hlen hb hc hm ha hx hh =>
    have hln : ((xs.drop lo).take n).length = n := by simp; omega
    have hrw : ∀ k, k < n → rowT t ((xs.drop lo).take n) k = rowT t xs (lo + k) := fun k hk => by
      simp only [rowT, List.getD_eq_getElem?_getD, List.getElem?_take, if_pos hk, List.getElem?_drop]
    simp only [partV]
    refine .tree t _ _ _ _ b (o + lo * t.n) (fun k j => X (lo + k) j) hln.symm (by omega) (by omega) (by omega) (fun hne => ?_) (fun k j c g1 g2 => ?_) (fun k j c g1 g2 => ?_)
    · obtain ⟨e1, e2⟩ := ha (by omega)
      refine ⟨?_, e2⟩
      rw [if_neg (by omega), e1]; simp [Addr.add_lit]
    · rw [hrw k (by omega)] at g2
      have := hx (lo + k) j c (by omega) g2
      rw [show o + lo * t.n + k * t.n + j = o + (lo + k) * t.n + j by rw [Nat.add_mul]; omega]
      exact this
    · rw [hrw k (by omega)] at g2
      exact hh (lo + k) j c (by omega) g2
theorem SRV.frzV {C : Ctx} {V a w} {s : Nat → AV} {h0 : List (Option LB)} (hs0 : SRV C V ⟨s, h0⟩ a w) : ∀ (cs : List AV) (h : List (Option LB)) (ys : List Value), SRV C V ⟨s, h⟩ a w → h.length = h0.length →
    (∀ (i : Nat) (lb : LB), h[i]? = some (some lb) → h0[i]? = some (some lb)) → ys.length = cs.length →
    (∀ (i : Nat) (c : AV) (y : Value), cs[i]? = some c → ys[i]? = some y → R w (Stb C.A w h0 V) V h0.length c y) →
    SRV C V ⟨s, (frzV h0 h cs).2⟩ a w ∧ (frzV h0 h cs).1.length = cs.length ∧ (frzV h0 h cs).2.length = h0.length ∧ (∀ (i : Nat) (lb : LB), (frzV h0 h cs).2[i]? = some (some lb) → h[i]? = some (some lb)) ∧
    ∀ (i : Nat) (c : AV) (y : Value), (frzV h0 h cs).1[i]? = some c → ys[i]? = some y → R w (Stb C.A w (frzV h0 h cs).2 V) V h0.length c y
  | [], h, ys, hs, hl, _, _, _ => ⟨hs, rfl, hl, fun _ _ e => e, fun i c y e => by simp [Go.Proofs.YtpmmaohaahbphaaDoor.frzV] at e⟩
  | c :: cs, h, [], _, _, _, hl, _ => by simp at hl
  | c :: cs, h, y :: ys, hs, hl0, hsub, hl, hr => by
    have hr0 := hr 0 c y rfl rfl
    have hrt := fun (i : Nat) (c : AV) (y : Value) (e1 : cs[i]? = some c) (e2 : ys[i]? = some y) => hr (i + 1) c y (by simpa using e1) (by simpa using e2)
    have other : ∀ d : AV, R w (Stb C.A w h0 V) V h0.length d y → Go.Proofs.YtpmmaohaahbphaaDoor.frzV h0 h (c :: cs) = (d :: (Go.Proofs.YtpmmaohaahbphaaDoor.frzV h0 h cs).1, (Go.Proofs.YtpmmaohaahbphaaDoor.frzV h0 h cs).2) →
        SRV C V ⟨s, (Go.Proofs.YtpmmaohaahbphaaDoor.frzV h0 h (c :: cs)).2⟩ a w ∧ (Go.Proofs.YtpmmaohaahbphaaDoor.frzV h0 h (c :: cs)).1.length = (c :: cs).length ∧ (Go.Proofs.YtpmmaohaahbphaaDoor.frzV h0 h (c :: cs)).2.length = h0.length ∧ (∀ (i : Nat) (lb : LB), (Go.Proofs.YtpmmaohaahbphaaDoor.frzV h0 h (c :: cs)).2[i]? = some (some lb) → h[i]? = some (some lb)) ∧
        ∀ (i : Nat) (c' : AV) (y' : Value), (Go.Proofs.YtpmmaohaahbphaaDoor.frzV h0 h (c :: cs)).1[i]? = some c' → (y :: ys)[i]? = some y' → R w (Stb C.A w (Go.Proofs.YtpmmaohaahbphaaDoor.frzV h0 h (c :: cs)).2 V) V h0.length c' y' := fun d hd e => by
      obtain ⟨g1, g2, g3, g4, g5⟩ := SRV.frzV hs0 cs h ys hs hl0 hsub (by simpa using hl) hrt
      rw [e]
      refine ⟨g1, by simp [g2], g3, g4, fun i c' y' e1 e2 => ?_⟩
      cases i with
      | zero => simp at e1 e2; subst e1 e2; exact hd.mono (fun b hb => ⟨Stb.sub (fun i lb e => hsub i lb (g4 i lb e)) b hb, rfl⟩) (fun _ _ => rfl) (Nat.le_refl _)
      | succ i => exact g5 i c' y' (by simpa using e1) (by simpa using e2)
    have frozen : ∀ (id ty : Nat) (t : Ty) (xs : List t.den) (d : AV), h0[id]? = some (some (.arr ty t xs)) → (∀ S : Nat → Prop, Rt w S (.tree t xs) (V id).val → Rt w S d y) →
        Go.Proofs.YtpmmaohaahbphaaDoor.frzV h0 h (c :: cs) = (d :: (Go.Proofs.YtpmmaohaahbphaaDoor.frzV h0 (h.set id none) cs).1, (Go.Proofs.YtpmmaohaahbphaaDoor.frzV h0 (h.set id none) cs).2) →
        SRV C V ⟨s, (Go.Proofs.YtpmmaohaahbphaaDoor.frzV h0 h (c :: cs)).2⟩ a w ∧ (Go.Proofs.YtpmmaohaahbphaaDoor.frzV h0 h (c :: cs)).1.length = (c :: cs).length ∧ (Go.Proofs.YtpmmaohaahbphaaDoor.frzV h0 h (c :: cs)).2.length = h0.length ∧ (∀ (i : Nat) (lb : LB), (Go.Proofs.YtpmmaohaahbphaaDoor.frzV h0 h (c :: cs)).2[i]? = some (some lb) → h[i]? = some (some lb)) ∧
        ∀ (i : Nat) (c' : AV) (y' : Value), (Go.Proofs.YtpmmaohaahbphaaDoor.frzV h0 h (c :: cs)).1[i]? = some c' → (y :: ys)[i]? = some y' → R w (Stb C.A w (Go.Proofs.YtpmmaohaahbphaaDoor.frzV h0 h (c :: cs)).2 V) V h0.length c' y' := fun id ty t xs d e hd e9 => by
      obtain ⟨h2, ht⟩ := hs0.freezeFrom hs hsub e
      obtain ⟨g1, g2, g3, g4, g5⟩ := SRV.frzV hs0 cs (h.set id none) ys h2 (by simpa using hl0) (fun i lb e => hsub i lb (set_none_sub i lb e).2) (by simpa using hl) hrt
      rw [e9]
      refine ⟨g1, by simp [g2], g3, fun i lb e => (set_none_sub i lb (g4 i lb e)).2, fun i c' y' e1 e2 => ?_⟩
      cases i with
      | zero => simp at e1 e2; subst e1 e2; exact .imm _ _ ((hd _ ht).mono fun b hb => ⟨Stb.sub g4 b hb, rfl⟩)
      | succ i => exact g5 i c' y' (by simpa using e1) (by simpa using e2)
    cases c with
    | own id =>
      by_cases hlive : ∃ ty t xs, h0[id]? = some (some (LB.arr ty t xs))
      · obtain ⟨ty, t, xs, e⟩ := hlive
        refine frozen id ty t xs (.tree t xs) e (fun S hS => by rw [hr0.own_inv]; exact hS) ?_
        simp only [Go.Proofs.YtpmmaohaahbphaaDoor.frzV, e]
      · refine other .any (.imm _ _ (.any _)) ?_
        simp only [Go.Proofs.YtpmmaohaahbphaaDoor.frzV]
        split
        · rename_i ty t xs e; exact (hlive ⟨ty, t, xs, e⟩).elim
        · rfl
    | view id lo n =>
      by_cases hlive : ∃ ty t xs, h0[id]? = some (some (LB.arr ty t xs))
      · obtain ⟨ty, t, xs, e⟩ := hlive
        refine frozen id ty t xs (.tree t ((xs.drop lo).take n)) e (fun S hS => ?_) ?_
        · obtain ⟨_, k2, k3⟩ := hr0.view_inv
          obtain ⟨cur, hc⟩ := hs0.hr.blk id _ e
          have e1 := hc.ln
          have e2 := hc.sz
          simp only [LB.len, LB.sz] at e1 e2
          rw [k3, e2]
          exact hS.drop_take (by omega)
        · simp only [Go.Proofs.YtpmmaohaahbphaaDoor.frzV, e]
      · refine other .any (.imm _ _ (.any _)) ?_
        simp only [Go.Proofs.YtpmmaohaahbphaaDoor.frzV]
        split
        · rename_i ty t xs e; exact (hlive ⟨ty, t, xs, e⟩).elim
        · rfl
    | _ => exact other _ hr0 rfl
def partsF (st : St) : List (Nat × Operand) → List (Option LB) → List (Nat × Option (List AV)) × List (Option LB)
  | [], h => ([], h)
  | (i, x) :: ps, h => match memCells st.h (st.ev x) with
    | some cs => match frzV st.h h cs with
      | (fs, h1) => match partsF st ps h1 with
        | (r, h2) => ((i, some fs) :: r, h2)
    | none => match partsF st ps h with
      | (r, h2) => ((i, none) :: r, h2)
def evBuildT (ty : Nat) (t : Ty) (xs : Option (List t.den)) (s : Nat → AV) (h : List (Option LB)) (K : AV → St → Prop) : Prop := match xs with
  | some xs => K (.own h.length) ⟨s, h ++ [some (.arr ty t xs)]⟩
  | none => False
def evBuildS (ty : Nat) (t : Ty) (len : Nat) (o : Option (List AV)) (s : Nat → AV) (h : List (Option LB)) (K : AV → St → Prop) : Prop := match o with
  | some res => (res.all AV.isImm) = true ∧ evBuildT ty t (decRows t len res) s h K
  | none => False
def evBuildSlice (T : Nat → Option TI) (i : Option TI) (st : St) (len : Nat) (ps : List (Nat × Operand)) (K : AV → St → Prop) : Prop :=
  match i, elemT T i with
  | some ti, some te => match te.cod with
    | some t => (te.zero.cells.toList.all Value.oneCell' && Nat.beq t.n te.size && Nat.beq te.zero.cells.size te.size && Nat.blt 0 te.size && Nat.ble (len * te.size) 16777216) = true ∧
      match partsF st ps st.h with
      | (pf, h) => evBuildS ti.elem t len (fillA (fun j => some (j * te.size, te.size)) (zerosA (te.zero.cells.toList.map AV.v) (len * te.size)) pf) st.s h K
    | none => False
  | _, _ => False
theorem fillA_length {place : Nat → Option (Nat × Nat)} : ∀ {ps : List (Nat × Option (List AV))} {acc res : List AV}, fillA place acc ps = some res → res.length = acc.length
  | [], acc, res, h => by simp only [fillA, Option.some.injEq] at h; rw [h]
  | (i, o) :: ps, acc, res, h => by
    unfold fillA at h
    split at h
    · split at h
      · rename_i hb
        rw [forceS_eq] at h
        simp only [Bool.and_eq_true] at hb
        have hb1 := Nat.eq_of_beq_eq_true hb.1
        have hb2 := Nat.le_of_ble_eq_true hb.2
        rw [fillA_length h, splice_length (by omega)]
      · cases h
    · cases h

theorem SRV.partsF {C : Ctx} {V a w} (h0 : SRV C V st a w) : ∀ (ps : List (Nat × Operand)) (h : List (Option LB)), SRV C V ⟨st.s, h⟩ a w → h.length = st.h.length → (∀ (i : Nat) (lb : LB), h[i]? = some (some lb) → st.h[i]? = some (some lb)) →
    SRV C V ⟨st.s, (partsF st ps h).2⟩ a w ∧ (partsF st ps h).2.length = st.h.length ∧ (∀ b, Stb C.A w h V b → Stb C.A w (partsF st ps h).2 V b) ∧ (partsF st ps h).1.length = ps.length ∧
    ∀ (j i i' : Nat) (o : Option (List AV)) (v : Value), (partsF st ps h).1[j]? = some (i, o) → (ps.map fun x => (x.1, a.eval x.2))[j]? = some (i', v) → i' = i ∧ ∀ cs, o = some cs → RelC (R w (Stb C.A w (partsF st ps h).2 V) V st.h.length) cs v.cells
  | [], h, hs, hl, hS => ⟨hs, hl, fun b hb => hb, rfl, fun j i i' o v e => by simp [Go.Proofs.YtpmmaohaahbphaaDoor.partsF] at e⟩
  | (i0, x) :: ps, h, hs, hl, hS => by
    unfold Go.Proofs.YtpmmaohaahbphaaDoor.partsF
    split
    · rename_i cs hmc
      obtain ⟨c1, c2, c3⟩ := h0.memCells (h0.ev x) hmc
      obtain ⟨f1, f2, f3, f4', f5⟩ := SRV.frzV (s := st.s) (h0 := st.h) h0 cs h (a.eval x).cells.toList hs hl hS (by simpa using c1) (fun i c y e1 e2 => c2 i c y e1 (by simpa using e2))
      have f4 := Stb.sub (A := C.A) (w := w) (V := V) f4'
      obtain ⟨g1, g2, g3, g4, g5⟩ := SRV.partsF h0 ps (Go.Proofs.YtpmmaohaahbphaaDoor.frzV st.h h cs).2 f1 (by omega) (fun i lb e => hS i lb (f4' i lb e))
      refine ⟨g1, g2, fun b hb => g3 b (f4 b hb), by simp [g4], fun j i i' o v e1 e2 => ?_⟩
      cases j with
      | zero =>
        simp at e1 e2
        obtain ⟨rfl, rfl⟩ := e1
        obtain ⟨rfl, rfl⟩ := e2
        refine ⟨rfl, fun cs' hcs => ?_⟩
        cases hcs
        refine ⟨by rw [f2]; exact c1, fun k c y k1 k2 => ⟨c3 y (Array.mem_toList_iff.2 (Array.mem_of_getElem? k2)), ?_⟩⟩
        have := f5 k c y k1 (by simpa using k2)
        exact this.mono (fun b hb => ⟨g3 b hb, rfl⟩) (fun _ _ => rfl) (by omega)
      | succ j => exact g5 j i i' o v (by simpa using e1) (by simpa using e2)
    · obtain ⟨g1, g2, g3, g4, g5⟩ := SRV.partsF h0 ps h hs hl hS
      refine ⟨g1, g2, g3, by simp [g4], fun j i i' o v e1 e2 => ?_⟩
      cases j with
      | zero =>
        simp at e1 e2
        obtain ⟨rfl, rfl⟩ := e1
        obtain ⟨rfl, rfl⟩ := e2
        exact ⟨rfl, fun cs hcs => by cases hcs⟩
      | succ j => exact g5 j i i' o v (by simpa using e1) (by simpa using e2)
theorem edoes_buildSlice {K : AV → St → Prop} (hT : TOk P T) (t : TypeId) (len : Nat) (ps : Array (Nat × Operand)) (ho : o.op = .buildSlice t len ps) (hk : evBuildSlice T (T t) st len ps.toList K) : EDoes P M o st K := by
  unfold evBuildSlice at hk
  split at hk
  case h_2 => exact hk.elim
  rename_i ti te hti hte
  split at hk
  case h_2 => exact hk.elim
  rename_i tt hcod
  obtain ⟨hc, hk⟩ := hk
  simp only [Bool.and_eq_true, Nat.blt_eq] at hc
  obtain ⟨⟨⟨⟨hz1, hz0⟩, hz2⟩, hz3⟩, hz4⟩ := hc
  have hz0 := Nat.eq_of_beq_eq_true hz0
  have hz2 := Nat.eq_of_beq_eq_true hz2
  have hz4 := Nat.le_of_ble_eq_true hz4
  obtain ⟨ti', hi, hel, hte'⟩ := elemT_sound hte
  rw [hti] at hi; cases hi
  have hu := (hT t ti hti).elem hel
  obtain ⟨inf, hinf, hzero, hsize, hby⟩ := (hT _ te hte').info
  have hk : evBuildS ti.elem tt len (fillA (fun j => some (j * te.size, te.size)) (zerosA (te.zero.cells.toList.map AV.v) (len * te.size)) (partsF st ps.toList st.h).1) st.s (partsF st ps.toList st.h).2 K := hk
  unfold evBuildS at hk
  split at hk
  case h_2 => exact hk.elim
  rename_i res hres
  obtain ⟨himm, hk⟩ := hk
  unfold evBuildT at hk
  split at hk
  case h_2 => exact hk.elim
  rename_i xs hdec
  obtain ⟨dl, dr⟩ := decRows_sound _ _ _ hdec
  intro C V a w h next Q hn
  obtain ⟨p1, p2, p3, p4, p5⟩ := SRV.partsF h ps.toList st.h h rfl (fun _ _ e => e)
  have hzr : RelC (R w (Stb C.A w (partsF st ps.toList st.h).2 V) V st.h.length) (zerosA (te.zero.cells.toList.map AV.v) (len * te.size)) (madeCells te.zero.cells (len * te.size)) := by
    refine ⟨by simp [zerosA, size_madeCells], fun k c y e1 e2 => ?_⟩
    have hkl : k < len * te.size := by have := (Array.getElem?_eq_some_iff.1 e2).1; rwa [size_madeCells] at this
    obtain ⟨d1, d2, d3⟩ := divmod hz3 hkl
    rw [← d3, made_get _ _ _ _ _ hz2 d2 (by rw [d3]; exact hkl)] at e2
    unfold zerosA at e1
    rw [List.getElem?_map, List.getElem?_range hkl] at e1
    simp only [Option.map_some, List.length_map, Array.length_toList, hz2, List.getElem?_map, Array.getElem?_toList, e2, Option.getD_some, Option.some.injEq] at e1
    subst e1
    exact ⟨List.all_eq_true.1 hz1 y (Array.mem_toList_iff.2 (Array.mem_of_getElem? e2)), .imm _ _ (.v y)⟩
  obtain ⟨r, hr, hrel⟩ := fill_rel (place' := fun j => some (j * te.size, te.size)) (Rel := R w (Stb C.A w (partsF st ps.toList st.h).2 V) V st.h.length) (fun j p hp => hp) (partsF st ps.toList st.h).1 (ps.toList.map fun x => (x.1, a.eval x.2)) _ res _ hzr (by simp [p4]) (fun j i i' o v e1 e2 => p5 j i i' o v e1 e2) hres
  have hlen : res.length = len * te.size := by rw [fillA_length hres]; simp [zerosA]
  have hrs : r.size = len * te.size := by rw [hrel.1, hlen]
  have hsz16 : len ≤ len * te.size := Nat.le_mul_of_pos_right _ hz3
  obtain ⟨hs, hown⟩ := p1.newArr (st := ⟨st.s, (partsF st ps.toList st.h).2⟩) (ty := ti.elem) (n := len) (m := len) (t := tt) (xs := xs) (cur := r) dl (Nat.le_refl _) (by have := maxLen_eq'; omega) (by rw [hz0]; exact hrs) (by simp only [bigLen]; omega) (fun k j c' hk hj => by
    obtain ⟨c, e1, e2⟩ := dr k j c' (by omega) hj
    have hlt : k * tt.n + j < r.size := by rw [hrel.1]; exact (List.getElem?_eq_some_iff.1 e1).1
    have hu : r[k * tt.n + j]? = some r[k * tt.n + j] := Array.getElem?_eq_getElem hlt
    obtain ⟨g1, g2⟩ := hrel.2 _ c _ e1 hu
    exact ⟨_, hu, g1, e2 _ _ _ (g2.toImm (List.all_eq_true.1 himm c (List.mem_of_getElem? e1)))⟩)
  have hrun : (execOp a.eval o).run P w = .ok (.value (.slice (some ⟨w.heap.size, 0, none⟩) len len)) (w.alloc (.cells r ti.elem)) := by
    have hfill : Instr.fill (fun j => some (j * te.size, te.size)) (madeCells te.zero.cells (len * te.size)) (ps.map fun x => (x.1, a.eval x.2)).toList = some r := by simpa using hr
    have hns : ¬ (len * te.size > 16777216) := by omega
    by_cases h0 : len * te.size = 0
    · have e0 : madeCells te.zero.cells (len * te.size) = #[] := by simp [h0, madeCells, Array.range_zero']
      have hr0 := hr
      rw [e0] at hr0
      simp [execOp, ho, Instr.buildSlice, run_underlying hu, sizeOf, typeInfo, hinf, hsize, h0, hr0, newRow, Array.range_zero']
    · simp [execOp, ho, Instr.buildSlice, run_underlying hu, sizeOf, typeInfo, hinf, hsize, hns, h0, zeroValue, hzero, newRow]
      have hr0 := hr
      unfold madeCells at hr0
      simp [hr0]
  unfold Oper.wp
  rw [hrun]
  refine hn _ _ _ _ _ hk (by simpa [p2] using hs) (by simpa [p2] using hown) fun _ => (Below.refl _ _).alloc (Nat.le_refl _) _
end
end Go.Proofs.YtpmmaohaahbphaaDoor
