/-
  The abstract evaluator, part 6b: slices that grow.
-/
import Derived.Test.YthjboaallleomaaAe61
import Derived.Laws.AppendOwn
namespace Go.Proofs.Ythjboaallleomaa
open Go.RowKit

section
variable {P : Program} {o : Oper} {st : St} {T : Nat → Option TI}

/-- The cells that are appended. -/
def Src (w : World) (Rl : AV → Value → Prop) (sz m : Nat) (rows : Nat → List AV) (x : Value) : Prop :=
  ∃ (ad : Addr) (c : Nat) (news : List Value), x = .slice (some ad) m c ∧ news.length = m * sz ∧ (∀ j u, news[j]? = some u → w.cell? (ad.add j) = some u) ∧ (∀ u ∈ news, u.oneCell' = true) ∧
    (∀ k, k < m → (rows k).length = sz) ∧ ∀ (k j : Nat) (c : AV), k < m → (rows k)[j]? = some c → ∃ u, news[k * sz + j]? = some u ∧ Rl c u
def srcA (h : List (Option LB)) : AV → Option (Nat × Nat × (Nat → List AV))
  | .own id => match h[id]? with
    | some (some ⟨_, sz, len, rows, true⟩) => some (sz, len, rows)
    | _ => none
  | .tree sz len rows => some (sz, len, rows)
  | _ => none
theorem maxLen_eq' : maxLen = 9223372036854775807 := by decide
theorem divmod {j m sz : Nat} (hsz : 0 < sz) (h : j < m * sz) : j / sz < m ∧ j % sz < sz ∧ j / sz * sz + j % sz = j :=
  ⟨Nat.div_lt_of_lt_mul (by rw [Nat.mul_comm]; exact h), Nat.mod_lt _ hsz, by rw [Nat.mul_comm]; exact Nat.div_add_mod j sz⟩
theorem SRV.src {C : Ctx} {V a w} (h : SRV C V st a w) {c : AV} {x : Value} (hr : R w (Stb C.A w st.h V) V st.h.length c x) {sz m : Nat} {rows : Nat → List AV} (hs : srcA st.h c = some (sz, m, rows)) (hsz : 0 < sz) (hm : 0 < m) :
    Src w (Rt w (Stb C.A w st.h V)) sz m rows x := by
  unfold srcA at hs
  split at hs
  · rename_i id
    split at hs
    · rename_i ty sz' len rows' hlb
      simp only [Option.some.injEq, Prod.mk.injEq] at hs
      obtain ⟨rfl, rfl, rfl⟩ := hs
      obtain ⟨cur, hcur⟩ := h.hr.blk id _ hlb
      obtain ⟨cap, eV, hlc, hcm, hcs, hbl⟩ := hcur.own rfl
      simp only at eV hlc hcs
      have hle : len * sz' ≤ cur.size := by rw [hcs]; exact Nat.mul_le_mul_right _ hlc
      have hget : ∀ j, j < len * sz' → (cur.toList.take (len * sz'))[j]? = cur[j]? := fun j hj => by rw [List.getElem?_take, if_pos hj]; simp
      refine ⟨⟨(V id).blk, 0, none⟩, cap, cur.toList.take (len * sz'), by rw [hr.own_inv, eV], by simp; omega, fun j u hu => ?_, fun u hu => ?_, hcur.rows, fun k j c hk hj => ?_⟩
      · rw [List.getElem?_take] at hu
        split at hu
        · have e : (⟨(V id).blk, 0, none⟩ : Addr).add j = ⟨(V id).blk, j, none⟩ := by unfold Addr.add; split <;> simp_all
          rw [e, cell_of_row _ _ _ _ _ _ hcur.heap]
          simpa using hu
        · cases hu
      · obtain ⟨j, hj, rfl⟩ := List.getElem_of_mem hu
        have hj' : j < len * sz' := by simp at hj; omega
        obtain ⟨d1, d2, d3⟩ := divmod hsz hj'
        have hrl := hcur.rows (j / sz') d1
        simp only at hrl
        obtain ⟨y, e1, e2, _⟩ := hcur.cell (j / sz') (j % sz') _ d1 (List.getElem?_eq_getElem (by rw [hrl]; exact d2))
        simp only at e1
        rw [d3] at e1
        have e3 := hget j hj'
        rw [e1, List.getElem?_eq_getElem hj] at e3
        cases e3; exact e2
      · obtain ⟨y, e1, e2, _⟩ := hcur.cell k j c hk hj
        have hj2 : j < sz' := by have := hcur.rows k hk; simp only at this; rw [← this]; exact (List.getElem?_eq_some_iff.1 hj).1
        have hlt : k * sz' + j < len * sz' := by
          have h2 : (k + 1) * sz' ≤ len * sz' := Nat.mul_le_mul_right _ hk
          rw [Nat.succ_mul] at h2; omega
        exact ⟨y, by rw [hget _ hlt]; exact e1, hcur.still rfl k j c y hk hj e1⟩
    · cases hs
  · rename_i sz' len rows'
    simp only [Option.some.injEq, Prod.mk.injEq] at hs
    obtain ⟨rfl, rfl, rfl⟩ := hs
    cases hr.tree_inv with
    | tree _ _ _ ad cap b o X hb hc hcm ha hz hx hh =>
      obtain ⟨rfl, hS⟩ := ha hm
      refine ⟨⟨b, o, none⟩, cap, (List.range (len * sz')).map fun j => X (j / sz') (j % sz'), rfl, by simp, fun j u hu => ?_, fun u hu => ?_, hz, fun k j c hk hj => ?_⟩
      · rw [List.getElem?_map] at hu
        by_cases hj : j < len * sz'
        · rw [List.getElem?_range hj] at hu
          cases hu
          obtain ⟨d1, d2, d3⟩ := divmod hsz hj
          have e : (⟨b, o, none⟩ : Addr).add j = ⟨b, o + j / sz' * sz' + j % sz', none⟩ := by rw [Nat.add_assoc, d3]; unfold Addr.add; split <;> simp_all
          rw [e]
          exact (hx _ _ _ d1 (List.getElem?_eq_getElem (by rw [hz _ d1]; exact d2))).1
        · rw [List.getElem?_eq_none (by simpa using hj)] at hu; cases hu
      · obtain ⟨j, hj, rfl⟩ := List.mem_map.1 hu
        obtain ⟨d1, d2, d3⟩ := divmod hsz (List.mem_range.1 hj)
        exact (hx _ _ _ d1 (List.getElem?_eq_getElem (by rw [hz _ d1]; exact d2))).2
      · have hj2 : j < sz' := by rw [← hz k hk]; exact (List.getElem?_eq_some_iff.1 hj).1
        have hlt : k * sz' + j < len * sz' := by
          have h2 : (k + 1) * sz' ≤ len * sz' := Nat.mul_le_mul_right _ hk
          rw [Nat.succ_mul] at h2; omega
        refine ⟨X k j, ?_, hh k j c hk hj⟩
        rw [List.getElem?_map, List.getElem?_range hlt]
        simp only [Option.map_some, Option.some.injEq]
        have e1 : (k * sz' + j) / sz' = k := by rw [Nat.mul_comm, Nat.mul_add_div hsz, Nat.div_eq_of_lt hj2, Nat.add_zero]
        have e2 : (k * sz' + j) % sz' = j := by rw [Nat.mul_comm, Nat.mul_add_mod, Nat.mod_eq_of_lt hj2]
        rw [e1, e2]
  · cases hs

/-- What an append to one's own slice yields, and where it lies. -/
theorem run_append_at (w : World) (t ty e : TypeId) (i : TypeInfo) (z : Value) (size : Nat) (ht : P.underlying t = some (.slice e)) (hi : P.info? e = some i) (hz : i.zero = some z) (hsize : i.size = size) (hzs : z.cells.size = size) (hsz : 0 < size)
    (g n cap : Nat) (cur : Array Value) (hg : w.heap[g]? = some (.cells cur e (0, 0))) (hnc : n ≤ cap) (hcm : cap ≤ maxLen) (hcs : cur.size = cap * size)
    (a : Addr) (m c : Nat) (news : List Value) (hl : news.length = m * size) (hnews : ∀ j u, news[j]? = some u → w.cell? (a.add j) = some u) (h1 : ∀ u ∈ news, u.oneCell' = true) (_hm : 0 < m) (h63 : n + m ≤ maxLen) (hbytes : (n + m) * i.bytes ≤ 140737488355328) :
    ∃ (g' cap' : Nat) (cur' : Array Value) (w' : World), (Builtin.append_ #[t, t] ty #[.slice (some ⟨g, 0, none⟩) n cap, .slice (some a) m c]).run P w = .ok (.slice (some ⟨g', 0, none⟩) (n + m) cap') w' ∧ (g' = g ∨ g' = w.heap.size) ∧
      w'.heap[g']? = some (.cells cur' e (0, 0)) ∧ n + m ≤ cap' ∧ cap' ≤ maxLen ∧ cur'.size = cap' * size ∧ cur'.toList.take ((n + m) * size) = cur.toList.take (n * size) ++ news ∧ w.grownBy w' (some g) := by
  have hxl : (cur.toList.take (n * size)).length = n * size := by
    have := Nat.mul_le_mul_right size hnc
    simp; omega
  have hown : w.ownsRow 0 e size (.slice (some ⟨g, 0, none⟩) n cap) n (cur.toList.take (n * size)) := ⟨hxl, .inr ⟨g, cap, cur, rfl, Nat.zero_le _, hg, hnc, hcm, hcs, rfl⟩⟩
  obtain ⟨v', w', hr, hown', hgr, _⟩ := run_append_own w 0 t ty e i z size i.bytes ht hi hz hsize rfl hzs hsz _ n _ hown a m c news hl hnews h1 h63 hbytes (Nat.zero_le _)
  have hg' : ∃ g' cap', v' = .slice (some ⟨g', 0, none⟩) (n + m) cap' ∧ (g' = g ∨ g' = w.heap.size) := by
    subst hsize
    by_cases hroom : n + m ≤ cap
    · have hfit : n * i.size + news.length ≤ cur.size := by rw [hl, hcs, ← Nat.add_mul]; exact Nat.mul_le_mul_right _ hroom
      rw [run_append_room (P := P) w t ty e i ht hi g n cap cur hg a m c news hl hnews h1 hroom hfit] at hr
      cases hr
      exact ⟨g, cap, rfl, .inl rfl⟩
    · rw [run_append_grow (P := P) w t ty e i z ht hi hz ⟨g, 0, none⟩ n cap _ hxl (hown.cells (g := g) rfl) a m c news hl hnews (by omega) (by simp only [maxLen] at h63; omega) (growslice_fits (by omega) hbytes)] at hr
      cases hr
      exact ⟨w.heap.size, _, rfl, .inr rfl⟩
  obtain ⟨g', cap', rfl, hgg⟩ := hg'
  rcases hown'.2 with ⟨h, _⟩ | ⟨g2, cap2, cur', hv, _, hh, k1, k2, k3, k4⟩
  · cases h
  · cases hv
    exact ⟨g', cap', cur', w', hr, hgg, hh, k1, k2, k3, k4, hgr⟩
theorem run_append_at_nil (w : World) (t ty e : TypeId) (i : TypeInfo) (z : Value) (size : Nat) (ht : P.underlying t = some (.slice e)) (hi : P.info? e = some i) (hz : i.zero = some z) (hsize : i.size = size) (hzs : z.cells.size = size) (hsz : 0 < size)
    (a : Addr) (m c : Nat) (news : List Value) (hl : news.length = m * size) (hnews : ∀ j u, news[j]? = some u → w.cell? (a.add j) = some u) (h1 : ∀ u ∈ news, u.oneCell' = true) (hm : 0 < m) (h63 : m ≤ maxLen) (hbytes : m * i.bytes ≤ 140737488355328) :
    ∃ (g' cap' : Nat) (cur' : Array Value) (w' : World), (Builtin.append_ #[t, t] ty #[.slice none 0 0, .slice (some a) m c]).run P w = .ok (.slice (some ⟨g', 0, none⟩) m cap') w' ∧ g' = w.heap.size ∧
      w'.heap[g']? = some (.cells cur' e (0, 0)) ∧ m ≤ cap' ∧ cap' ≤ maxLen ∧ cur'.size = cap' * size ∧ cur'.toList.take (m * size) = news ∧ w.grownBy w' none := by
  obtain ⟨v', w', hr, hown', hgr, _⟩ := run_append_own w 0 t ty e i z size i.bytes ht hi hz hsize rfl hzs hsz _ 0 _ (World.ownsRow_nil w 0 e size) a m c news hl hnews h1 (by omega) (by simpa using hbytes) (Nat.zero_le _)
  simp only [Nat.zero_add, List.nil_append] at hown'
  have hg' : ∃ cap', v' = .slice (some ⟨w.heap.size, 0, none⟩) m cap' := by
    subst hsize
    rw [run_append_nil (P := P) w t ty e i z ht hi hz a m c news hl hnews hm (by simp only [maxLen] at h63; omega) (by omega)] at hr
    cases hr
    exact ⟨_, rfl⟩
  obtain ⟨cap', rfl⟩ := hg'
  rcases hown'.2 with ⟨h, _⟩ | ⟨g2, cap2, cur', hv, _, hh, k1, k2, k3, k4⟩
  · cases h
  · cases hv
    exact ⟨_, cap', cur', w', hr, rfl, hh, k1, k2, k3, k4, hgr⟩

def catRows (n : Nat) (r r2 : Nat → List AV) (k : Nat) : List AV := if k < n then r k else r2 (k - n)
def evAppend (T : Nat → Option TI) (i : Option TI) (st : St) (x y : AV) (K : AV → St → Prop) : Prop :=
  match i, elemT T i, srcA st.h y with
  | some ti, some te, some (sz2, m, rows2) => match x with
    | .own id => match st.h[id]? with
      | some (some ⟨ty, sz, n, rows, true⟩) => (Nat.beq ty ti.elem && Nat.beq sz te.size && Nat.beq sz2 te.size && Nat.blt 0 te.size && Nat.beq te.zero.cells.size te.size) = true ∧ Ob (0 < m ∧ (n + m) * te.bytes ≤ 140737488355328 ∧ n + m ≤ 140737488355328) ∧
        K (.own st.h.length) ⟨st.s, st.h.set id none ++ [some ⟨ty, sz, n + m, catRows n rows rows2, true⟩]⟩
      | _ => False
    | .v (.slice none 0 0) => (Nat.beq sz2 te.size && Nat.blt 0 te.size && Nat.beq te.zero.cells.size te.size) = true ∧ Ob (0 < m ∧ m * te.bytes ≤ 140737488355328 ∧ m ≤ 140737488355328) ∧
        K (.own st.h.length) ⟨st.s, st.h ++ [some ⟨ti.elem, te.size, m, rows2, true⟩]⟩
    | _ => False
  | _, _, _ => False

def dropId (h : List (Option LB)) (dead : Option Nat) : List (Option LB) := match dead with
  | some id => h.set id none
  | none => h
/-- One own slice is done with, another begins. -/
theorem SRV.regrow {C : Ctx} {V a w} (h : SRV C V st a w) {w' : World} {dead : Option Nat} {I : Info} {lb : LB} {cur' : Array Value} {row : Option Nat} (hdead : ∀ id, dead = some id → ∃ l, st.h[id]? = some (some l) ∧ row = some (V id).blk)
    (hrow : ∀ k, row = some k → ∃ id, dead = some id) (hgr : w.grownBy w' row) (hI : row = some I.blk ∨ I.blk = w.heap.size) (_hnew : I.blk < w'.heap.size)
    (hb : (∀ b, Stb C.A w st.h V b → Stb C.A w' (dropId st.h dead ++ [some lb]) (updV V st.h.length I) b ∧ w'.heap[b]? = w.heap[b]?) → BlkR w' (Stb C.A w' (dropId st.h dead ++ [some lb]) (updV V st.h.length I)) (updV V st.h.length I) (st.h.length + 1) I lb cur') :
    SRV C (updV V st.h.length I) ⟨st.s, dropId st.h dead ++ [some lb]⟩ a w' := by
  have hN : (dropId st.h dead).length = st.h.length := by cases dead <;> simp [dropId]
  have hV : ∀ i, i < st.h.length → updV V st.h.length I i = V i := fun i hi => by simp [updV]; omega
  have hlive : ∀ i l, (dropId st.h dead ++ [some lb])[i]? = some (some l) → (i < st.h.length ∧ dead ≠ some i ∧ st.h[i]? = some (some l)) ∨ (i = st.h.length ∧ lb = l) := fun i l e => by
    by_cases hi : i < st.h.length
    · rw [List.getElem?_append_left (by omega)] at e
      refine .inl ⟨hi, ?_⟩
      cases dead with
      | none => exact ⟨by simp, e⟩
      | some id =>
        simp only [dropId] at e
        rw [List.getElem?_set] at e
        by_cases hid : id = i
        · subst hid; simp [hi] at e
        · rw [if_neg hid] at e; exact ⟨by simpa using hid, e⟩
    · rw [List.getElem?_append_right (by omega), hN] at e
      have : i - st.h.length = 0 := by
        have := (List.getElem?_eq_some_iff.1 e).1; simp at this; omega
      rw [this] at e
      exact .inr ⟨by omega, by simpa using e⟩
  have hne : ∀ i l, dead ≠ some i → st.h[i]? = some (some l) → row ≠ some (V i).blk := fun i l hd e hr => by
    obtain ⟨id, hid⟩ := hrow _ hr
    obtain ⟨l', e1, e2⟩ := hdead id hid
    rw [hr] at e2
    exact h.hr.inj i id l l' e e1 (fun e => hd (by rw [hid, e])) (by simpa using e2)
  have hS : ∀ b, Stb C.A w st.h V b → Stb C.A w' (dropId st.h dead ++ [some lb]) (updV V st.h.length I) b ∧ w'.heap[b]? = w.heap[b]? := fun b hs => by
    have hbr : row ≠ some b := fun hr => by
      obtain ⟨id, hid⟩ := hrow _ hr
      obtain ⟨l', e1, e2⟩ := hdead id hid
      rw [hr] at e2
      exact hs.2.2 id l' e1 (by simpa using e2.symm)
    refine ⟨⟨hs.1, Nat.lt_of_lt_of_le hs.2.1 hgr.size, fun i l e => ?_⟩, hgr.block b hs.2.1 (fun e => hbr e.symm)⟩
    rcases hlive i l e with ⟨h1, _, h2⟩ | ⟨h1, _⟩
    · rw [hV i h1]; exact hs.2.2 i l h2
    · subst h1
      simp only [updV, if_true]
      rcases hI with e | e
      · exact fun e2 => hbr (by rw [e, e2])
      · have := hs.2.1; omega
  have hk : Kept C.M C.w0 w' := ⟨hgr.os.trans h.kept.os, hgr.tape.trans h.kept.tape, hgr.output.trans h.kept.output, Nat.le_trans h.kept.size hgr.size, fun k hk hm => by
    rw [hgr.block k (Nat.lt_of_lt_of_le hk h.kept.size) (fun hr => ?_)]
    · exact h.kept.block k hk hm
    · obtain ⟨id, hid⟩ := hrow _ hr.symm
      obtain ⟨l', e1, e2⟩ := hdead id hid
      rw [← hr] at e2
      have e3 : k = (V id).blk := by simpa using e2
      exact hm (e3 ▸ h.hr.mine id l' e1 (e3 ▸ hk))⟩
  refine h.step hk ⟨fun i j li lj hi hj hij => ?_, fun i l e => ?_, fun i l e hlt => ?_⟩ hS hV (by simp [hN])
  · rcases hlive i li hi with ⟨h1, d1, h2⟩ | ⟨h1, h2⟩ <;> rcases hlive j lj hj with ⟨h3, d3, h4⟩ | ⟨h3, h4⟩
    · rw [hV i h1, hV j h3]; exact h.hr.inj i j li lj h2 h4 hij
    · subst h3; rw [hV i h1]; simp only [updV, if_true]
      rcases hI with e | e
      · exact fun e2 => hne i li d1 h2 (by rw [e, e2])
      · have := h.hr.lt h2; omega
    · subst h1; rw [hV j h3]; simp only [updV, if_true]
      rcases hI with e | e
      · exact fun e2 => hne j lj d3 h4 (by rw [e, e2])
      · have := h.hr.lt h4; omega
    · omega
  · rcases hlive i l e with ⟨h1, d1, h2⟩ | ⟨h1, h2⟩
    · obtain ⟨c, hc⟩ := h.hr.blk i l h2
      rw [hV i h1]
      exact ⟨c, hc.mono hS hV (by simp [hN]) (hgr.block _ (h.hr.lt h2) (fun e => hne i l d1 h2 e.symm))⟩
    · subst h1 h2
      refine ⟨cur', ?_⟩
      have e1 : updV V st.h.length I st.h.length = I := by simp [updV]
      rw [e1]
      have := hb hS
      simpa [hN] using this
  · rcases hlive i l e with ⟨h1, d1, h2⟩ | ⟨h1, h2⟩
    · rw [hV i h1] at hlt ⊢; exact h.hr.mine i l h2 hlt
    · subst h1
      have e1 : updV V st.h.length I st.h.length = I := by simp [updV]
      rw [e1] at hlt ⊢
      rcases hI with e | e
      · obtain ⟨id, hid⟩ := hrow _ e
        obtain ⟨l', f1, f2⟩ := hdead id hid
        rw [e] at f2
        have f3 : I.blk = (V id).blk := by simpa using f2
        rw [f3] at hlt ⊢
        exact h.hr.mine id l' f1 hlt
      · have := h.kept.size; omega
end
end Go.Proofs.Ythjboaallleomaa
