/-
  The abstract evaluator, part 5: contracts, calls.
-/
import Derived.Test.YtpmmaohaahbphaaDoorB4
namespace Go.Proofs.YtpmmaohaahbphaaDoor
open Go.RowKit

def blkOf (h : List (Option LB)) (V : Nat → Info) (b : Nat) : Prop := ∃ id lb, h[id]? = some (some lb) ∧ foot (V id) lb b

/-- Where trees may lie in the course of a call. -/
def atR (S0 : Nat → Prop) (h : List (Option LB)) (V : Nat → Info) (w : World) (b : Nat) : Prop := S0 b ∨ w.heap.size ≤ b ∨ blkOf h V b

/-- THE CONTRACT OF A FUNCTION: called with values that stand to 'args' as told, the blocks 'h' being its to write, it returns 'r' and leaves the blocks as 'h1' tells; of all else nothing has turned.
    S0: what its arguments' trees may lie in; what it hands back lies there, or in new memory. GB: what is laid for good. -/
def Spec (P : Program) (f : FuncId) (args : List AV) (h : List (Option LB)) (r : AV) (h1 : List (Option LB)) : Prop :=
  ∀ (w : World) (GB : Nat → Prop) (V : Nat → Info) (S0 : Nat → Prop) (vs : Array Value), Lw GB w → (∀ b, GB b → b < w.heap.size ∧ ¬ blkOf h V b ∧ S0 b) → HR w (blkOf h V) (atR S0 h V w) V h w → vs.size = args.length →
    (∀ (i : Nat) (c : AV) (x : Value), args[i]? = some c → vs[i]? = some x → R w (Stb (atR S0 h V w) w h V) V h.length c x) →
    Calls P f vs w fun e w' => ∃ x V', e = .returned x ∧ Kept (blkOf h V) w w' ∧ h.length ≤ h1.length ∧ (∀ i, i < h.length → V' i = V i) ∧
      HR w (blkOf h V) (atR S0 h V w) V' h1 w' ∧ R w' (Stb (atR S0 h V w) w' h1 V') V' h1.length r x

def allF : List Bool → Bool
  | [] => true
  | true :: _ => false
  | false :: l => allF l
/-- Operations that write nothing that was there. M: which arguments of a function are handed over for writing. -/
def belB (M : Nat → List Bool) (o : Op) : Bool :=
  match o with
  | .store _ _ _ => false
  | .call ⟨.builtin .append, _, _⟩ => false
  | .call ⟨.builtin .clear, _, _⟩ => false
  | .mapUpdate _ _ _ _ => false
  | .insert _ _ _ _ => false
  | .call ⟨.value x, _, _⟩ => match x with
    | .func f => allF (M f)
    | _ => false
  | _ => true
/-- An append to a slice without room. -/
def capZ (o : Op) (a : Act) : Prop := ∃ x l ts ad n, o = .call ⟨.builtin .append, ⟨x :: l⟩, ts⟩ ∧ a.eval x = .slice ad n 0
def belA (M : Nat → List Bool) (o : Op) (a : Act) : Prop := belB M o = true ∨ capZ o a
theorem belA_no {M : Nat → List Bool} {o : Op} {a : Act} {p : Prop} (h1 : belB M o = false) (h2 : ∀ x l ts, o ≠ .call ⟨.builtin .append, ⟨x :: l⟩, ts⟩) (h : belA M o a) : p := by
  rcases h with h | ⟨x, l, ts, _, _, h, _⟩
  · rw [h1] at h; cases h
  · exact absurd h (h2 x l ts)
theorem belA_bel {M : Nat → List Bool} {o : Op} {a : Act} (h2 : ∀ x l ts, o ≠ .call ⟨.builtin .append, ⟨x :: l⟩, ts⟩) (h : belA M o a) : belB M o = true := by
  rcases h with h | ⟨x, l, ts, _, _, h, _⟩
  · exact h
  · exact absurd h (h2 x l ts)
theorem belA_cap {M : Nat → List Bool} {o : Op} {a : Act} {x y : Operand} {ts : Array TypeId} (ho : o = .call { callee := .builtin .append, args := #[x, y], argTypes := ts }) (h : belA M o a) : ∃ ad n, a.eval x = .slice ad n 0 := by
  subst ho
  rcases h with h | ⟨x', l, ts', ad, n, h, h'⟩
  · cases h
  · cases h; exact ⟨ad, n, h'⟩
/-- Operation o, its effect on the abstract heap included. -/
def EDoes (P : Program) (M : Nat → List Bool) (o : Oper) (st : St) (K : AV → St → Prop) : Prop :=
  ∀ (C : Ctx) V a w, SRV C V st a w → ∀ (next : Act → World → Prop) (Q : Exit → Act → World → Prop),
    (∀ c h' V' x w', K c ⟨st.s, h'⟩ → SRV C V' ⟨st.s, h'⟩ a w' → R w' (Stb C.A w' h' V') V' h'.length c x → (belA M o.op a → Below w.heap.size w w') → next (a.put o.dst x) w') → o.wp P a w next Q

theorem VDoes.toE {P : Program} {M : Nat → List Bool} {o : Oper} {st : St} {K : AV → St → Prop} (h : VDoes P o st (fun c => K c st)) : EDoes P M o st K := by
  intro C V a w hs next Q hn
  obtain ⟨c, x, hk, hr, hrun⟩ := h C V a w hs
  unfold Oper.wp
  rw [hrun w (Below.refl _ _)]
  exact hn c st.h V x w hk hs hr fun _ => Below.refl _ _

def renB (ρ : Nat → Nat) : LB → LB
  | .box ty cs => .box ty (AV.renL ρ cs)
  | .arr ty t xs => .arr ty t xs
  | .mp ty t ks => .mp ty t ks
  | .nst ty tyI t xss => .nst ty tyI t xss
theorem foot_ren {ρ : Nat → Nat} {I : Info} {lb : LB} {b : Nat} : foot I (renB ρ lb) b ↔ foot I lb b := by
  cases lb <;> exact Iff.rfl
/-- A block that is no plain one: no name stands in it. -/
theorem BlkR.deaf {w w' : World} {S S' : Nat → Prop} {V V' : Nat → Info} {N N' : Nat} {I : Info} {lb : LB} {cur : Array Value} (h : BlkR w S V N I lb cur) (hp : lb.plain = false)
    (hS : ∀ b, S b → S' b ∧ w'.heap[b]? = w.heap[b]?) (hb : ∀ b, foot I lb b → w'.heap[b]? = w.heap[b]?) : BlkR w' S' V' N' I lb cur := by
  have h2 := h.mono (V' := V) (N' := N) hS (fun _ _ => rfl) (Nat.le_refl _) hb
  refine ⟨h2.sz, h2.ln, h2.heap, fun k j c g1 g2 => ?_, h2.still, h2.box, h2.own, h2.ex⟩
  obtain ⟨x, e1, e2, e3⟩ := h2.cell k j c g1 g2
  refine ⟨x, e1, e2, ?_⟩
  cases lb with
  | box ty cs => cases hp
  | arr ty t xs => cases hp
  | mp ty t ks => exact absurd g1 (Nat.not_lt_zero _)
  | nst ty tyI t xss =>
    cases j with
    | zero => simp [LB.rows] at g2; subst g2; exact .imm _ _ (.any _)
    | succ j => simp [LB.rows] at g2
theorem renB_deaf {ρ : Nat → Nat} {lb : LB} (h : lb.plain = false) : renB ρ lb = lb := by
  cases lb <;> first | rfl | cases h
def renLB (ρ : Nat → Nat) (o : Option LB) : Option LB := match o with
  | some lb => some (renB ρ lb)
  | none => none
theorem renLB_some {ρ : Nat → Nat} {o : Option LB} {lb : LB} (h : renLB ρ o = some lb) : ∃ lb0, o = some lb0 ∧ lb = renB ρ lb0 := by
  cases o with
  | none => cases h
  | some lb0 => exact ⟨lb0, rfl, by simpa [renLB] using h.symm⟩
def renH (ρ : Nat → Nat) : List (Option LB) → List (Option LB)
  | [] => []
  | o :: h => renLB ρ o :: renH ρ h
theorem renH_length (ρ : Nat → Nat) : ∀ h, (renH ρ h).length = h.length
  | [] => rfl
  | o :: h => by simp [renH, renH_length ρ h]
theorem renH_get (ρ : Nat → Nat) : ∀ (h : List (Option LB)) (i : Nat), (renH ρ h)[i]? = (h[i]?).map (renLB ρ)
  | [], i => by simp [renH]
  | o :: h, 0 => by simp [renH]
  | o :: h, i + 1 => by simpa [renH] using renH_get ρ h i

/-- Which arguments are handed over for writing ('true'), and which are lent to be read. -/
def passL (ρ : Nat → Nat) (hl : List (Option LB)) : List Bool → List AV → List AV
  | _, [] => []
  | true :: ms, c :: cs => c.ren ρ :: passL ρ hl ms cs
  | false :: ms, c :: cs => c.lend hl :: passL ρ hl ms cs
  | [], c :: cs => c.lend hl :: passL ρ hl [] cs
def wIds : List Bool → List AV → List Nat
  | true :: ms, c :: cs => c.ids ++ wIds ms cs
  | false :: ms, _ :: cs => wIds ms cs
  | _, _ => []
/-- Is nothing of the call's own lent? -/
def bImm : List Bool → List AV → Bool
  | _, [] => true
  | true :: ms, _ :: cs => bImm ms cs
  | false :: ms, c :: cs => match c.isImm with
    | true => bImm ms cs
    | false => false
  | [], c :: cs => match c.isImm with
    | true => bImm [] cs
    | false => false
theorem passL_length (ρ : Nat → Nat) (hl : List (Option LB)) : ∀ (ms : List Bool) (cs : List AV), (passL ρ hl ms cs).length = cs.length
  | ms, [] => by cases ms <;> rfl
  | true :: ms, c :: cs => by simp [passL, passL_length ρ hl ms cs]
  | false :: ms, c :: cs => by simp [passL, passL_length ρ hl ms cs]
  | [], c :: cs => by simp [passL, passL_length ρ hl [] cs]
theorem passL_get (ρ : Nat → Nat) (hl : List (Option LB)) : ∀ (ms : List Bool) (cs : List AV) (i : Nat) (c : AV), (passL ρ hl ms cs)[i]? = some c →
    ∃ c', cs[i]? = some c' ∧ ((c = c'.ren ρ ∧ ∀ k ∈ c'.ids, k ∈ wIds ms cs) ∨ (c = c'.lend hl ∧ (bImm ms cs = true → c'.isImm = true)))
  | ms, [], i, c, h => by cases ms <;> simp [passL] at h
  | true :: ms, d :: cs, i, c, h => by
    cases i with
    | zero => simp [passL] at h; exact ⟨d, rfl, .inl ⟨h.symm, fun k hk => by simp [wIds, hk]⟩⟩
    | succ i =>
      simp [passL] at h
      obtain ⟨c', e1, e2⟩ := passL_get ρ hl ms cs i c h
      refine ⟨c', by simpa using e1, e2.imp (fun ⟨g1, g2⟩ => ⟨g1, fun k hk => by simp [wIds, g2 k hk]⟩) fun ⟨g1, g2⟩ => ⟨g1, fun hb => g2 (by simpa [bImm] using hb)⟩⟩
  | false :: ms, d :: cs, i, c, h => by
    have hb : bImm (false :: ms) (d :: cs) = true → d.isImm = true ∧ bImm ms cs = true := fun hb => by
      unfold bImm at hb
      split at hb
      · rename_i e; exact ⟨e, hb⟩
      · cases hb
    cases i with
    | zero => simp [passL] at h; exact ⟨d, rfl, .inr ⟨h.symm, fun e => (hb e).1⟩⟩
    | succ i =>
      simp [passL] at h
      obtain ⟨c', e1, e2⟩ := passL_get ρ hl ms cs i c h
      refine ⟨c', by simpa using e1, e2.imp (fun ⟨g1, g2⟩ => ⟨g1, fun k hk => by simp [wIds, g2 k hk]⟩) fun ⟨g1, g2⟩ => ⟨g1, fun e => g2 (hb e).2⟩⟩
  | [], d :: cs, i, c, h => by
    have hb : bImm [] (d :: cs) = true → d.isImm = true ∧ bImm [] cs = true := fun hb => by
      unfold bImm at hb
      split at hb
      · rename_i e; exact ⟨e, hb⟩
      · cases hb
    cases i with
    | zero => simp [passL] at h; exact ⟨d, rfl, .inr ⟨h.symm, fun e => (hb e).1⟩⟩
    | succ i =>
      simp [passL] at h
      obtain ⟨c', e1, e2⟩ := passL_get ρ hl [] cs i c h
      refine ⟨c', by simpa using e1, e2.imp (fun ⟨g1, g2⟩ => ⟨g1, fun k hk => by have := g2 k hk; simp [wIds] at this⟩) fun ⟨g1, g2⟩ => ⟨g1, fun e => g2 (hb e).2⟩⟩

/-- Of an immutable value 'lend' gives it back. -/
theorem Rt.lendImm {w : World} {S : Nat → Prop} {h : List (Option LB)} {c : AV} {x : Value} (hc : Rt w S c x) : Rt w S (c.lend h) x := by
  have lk : ∀ (cs : List AV) (vs : Array Value), (∀ (i : Nat) (c : AV) (x : Value), cs[i]? = some c → vs[i]? = some x → Rt w S (c.lend h) x) → ∀ (i : Nat) (c : AV) (x : Value), (AV.lendL h cs)[i]? = some c → vs[i]? = some x → Rt w S c x := fun cs vs ih i c x h1 h2 => by
    rw [lendL_get] at h1
    obtain ⟨c', h3, rfl⟩ := Option.map_eq_some_iff.1 h1
    exact ih i c' x h3 h2
  induction hc with
  | any x => exact .any x
  | v x => exact .v x
  | bl x => exact .bl x
  | agg cs vs hl _ ih => exact .agg _ vs (by rw [lendL_length]; exact hl) (lk cs vs ih)
  | tup cs vs hl _ ih => exact .tup _ vs (by rw [lendL_length]; exact hl) (lk cs vs ih)
  | fn f cs vs hl _ ih => exact .fn f _ vs (by rw [lendL_length]; exact hl) (lk cs vs ih)
  | tree t xs a len cap b o X hlen hb hc hm ha hx h _ => exact .tree t xs a len cap b o X hlen hb hc hm ha hx h
  | tptr t xs row off b o X ha hrow hx h _ => exact .tptr t xs row off b o X ha hrow hx h
  | bptr cs off b o X ha hx h _ => exact .bptr cs off b o X ha hx h

def rowsNoTree (h : List (Option LB)) : Prop := ∀ (i : Nat) (lb : LB), h[i]? = some (some lb) → ∀ (k j : Nat) (c : AV), k < lb.len → (lb.rows k)[j]? = some c → c.noTree = true
/-- By sight: no trees in a heap. -/
def Ty.flat : Ty → Bool
  | .int _ => true
  | .bool => true
  | .str => true
  | .st fs => flats fs
  | .sl _ => false
where flats : List Ty → Bool
  | [] => true
  | t :: ts => match Ty.flat t with
    | true => flats ts
    | false => false
def heapNoTree : List (Option LB) → Bool
  | [] => true
  | none :: h => heapNoTree h
  | some (.box _ cs) :: h => match AV.noTreeL cs with
    | true => heapNoTree h
    | false => false
  | some (.arr _ t _) :: h => match t.flat with
    | true => heapNoTree h
    | false => false
  | some (.mp _ _ _) :: h => heapNoTree h
  | some (.nst _ _ t _) :: h => match t.flat with
    | true => heapNoTree h
    | false => false
mutual
theorem flat_enc : ∀ (t : Ty) (x : t.den), t.flat = true → ∀ (j : Nat) (c : AV), (t.enc x)[j]? = some c → c.noTree = true
  | .int k, x, _, j, c, h => by
    cases j with
    | zero => simp [Ty.enc] at h; subst h; rfl
    | succ j => simp [Ty.enc] at h
  | .bool, x, _, j, c, h => by
    cases j with
    | zero => simp [Ty.enc] at h; subst h; rfl
    | succ j => simp [Ty.enc] at h
  | .str, x, _, j, c, h => by
    cases j with
    | zero => simp [Ty.enc] at h; subst h; rfl
    | succ j => simp [Ty.enc] at h
  | .st fs, x, hf, j, c, h => flats_enc fs x (by simpa [Ty.flat] using hf) j c h
  | .sl e, x, hf, j, c, h => by simp [Ty.flat] at hf
theorem flats_enc : ∀ (ts : List Ty) (x : Ty.dens ts), Ty.flat.flats ts = true → ∀ (j : Nat) (c : AV), (Ty.encs ts x)[j]? = some c → c.noTree = true
  | [], x, _, j, c, h => by simp [Ty.encs] at h
  | t :: ts, x, hf, j, c, h => by
    unfold Ty.flat.flats at hf
    split at hf
    · rename_i e
      simp only [Ty.encs] at h
      by_cases hj : j < (t.enc x.1).length
      · rw [List.getElem?_append_left hj] at h; exact flat_enc t x.1 e j c h
      · rw [List.getElem?_append_right (by omega)] at h; exact flats_enc ts x.2 hf _ c h
    · cases hf
end
theorem heapNoTree_out : ∀ {h : List (Option LB)}, heapNoTree h = true → rowsNoTree h
  | [], _, i, lb, e, _, _, _, _, _ => by simp at e
  | none :: h, hh, i, lb, e, k, j, c, h1, h2 => by
    cases i with
    | zero => simp at e
    | succ i => exact heapNoTree_out (h := h) (by simpa [heapNoTree] using hh) i lb (by simpa using e) k j c h1 h2
  | some (.box ty cs) :: h, hh, i, lb, e, k, j, c, h1, h2 => by
    unfold heapNoTree at hh
    split at hh
    · rename_i e1
      cases i with
      | zero => simp at e; subst e; exact noTreeL_get cs e1 j c h2
      | succ i => exact heapNoTree_out (h := h) hh i lb (by simpa using e) k j c h1 h2
    · cases hh
  | some (.arr ty t xs) :: h, hh, i, lb, e, k, j, c, h1, h2 => by
    unfold heapNoTree at hh
    split at hh
    · rename_i e1
      cases i with
      | zero => simp at e; subst e; exact flat_enc t _ e1 j c h2
      | succ i => exact heapNoTree_out (h := h) hh i lb (by simpa using e) k j c h1 h2
    · cases hh
  | some (.mp ty t ks) :: h, hh, i, lb, e, k, j, c, h1, h2 => by
    unfold heapNoTree at hh
    cases i with
    | zero => simp at e; subst e; simp [LB.rows] at h2
    | succ i => exact heapNoTree_out (h := h) hh i lb (by simpa using e) k j c h1 h2
  | some (.nst ty tyI t xss) :: h, hh, i, lb, e, k, j, c, h1, h2 => by
    unfold heapNoTree at hh
    split at hh
    · rename_i e1
      cases i with
      | zero =>
        simp at e; subst e
        cases j with
        | zero => simp [LB.rows] at h2; subst h2; rfl
        | succ j => simp [LB.rows] at h2
      | succ i => exact heapNoTree_out (h := h) hh i lb (by simpa using e) k j c h1 h2
    · cases hh
/-- .. and none in the rows of an own slice of slices. -/
def deafNoTree (h : List (Option LB)) : Prop := ∀ (i : Nat) (ty tyI : TypeId) (t : Ty) (xss : List (List t.den)), h[i]? = some (some (.nst ty tyI t xss)) → t.flat = true
theorem heapNoTree_deaf : ∀ {h : List (Option LB)}, heapNoTree h = true → deafNoTree h
  | [], _, i, _, _, _, _, e => by simp at e
  | none :: h, hh, i, ty, tyI, t, xss, e => by
    cases i with
    | zero => simp at e
    | succ i => exact heapNoTree_deaf (h := h) (by simpa [heapNoTree] using hh) i ty tyI t xss (by simpa using e)
  | some (.box _ _) :: h, hh, i, ty, tyI, t, xss, e => by
    unfold heapNoTree at hh
    split at hh
    · cases i with
      | zero => simp at e
      | succ i => exact heapNoTree_deaf (h := h) hh i ty tyI t xss (by simpa using e)
    · cases hh
  | some (.arr _ _ _) :: h, hh, i, ty, tyI, t, xss, e => by
    unfold heapNoTree at hh
    split at hh
    · cases i with
      | zero => simp at e
      | succ i => exact heapNoTree_deaf (h := h) hh i ty tyI t xss (by simpa using e)
    · cases hh
  | some (.mp _ _ _) :: h, hh, i, ty, tyI, t, xss, e => by
    unfold heapNoTree at hh
    cases i with
    | zero => simp at e
    | succ i => exact heapNoTree_deaf (h := h) hh i ty tyI t xss (by simpa using e)
  | some (.nst _ _ t' _) :: h, hh, i, ty, tyI, t, xss, e => by
    unfold heapNoTree at hh
    split at hh
    · rename_i e1
      cases i with
      | zero => simp only [List.getElem?_cons_zero, Option.some.injEq, LB.nst.injEq] at e; obtain ⟨_, _, rfl, _⟩ := e; exact e1
      | succ i => exact heapNoTree_deaf (h := h) hh i ty tyI t xss (by simpa using e)
    · cases hh

/-- Names in lent variables are lent too. -/
def boxIds : Option (Option LB) → List Nat
  | some (some (.box _ cs)) => AV.idsL cs
  | _ => []
def subNat (l m : List Nat) : Bool := l.all fun i => m.any (Nat.beq i)
theorem subNat_mem {l m : List Nat} (h : subNat l m = true) {i : Nat} (hi : i ∈ l) : i ∈ m := by
  have := List.all_eq_true.1 h i hi
  obtain ⟨j, hj, e⟩ := List.any_eq_true.1 this
  rw [Nat.eq_of_beq_eq_true e]; exact hj
def closedIds (h : List (Option LB)) (ids : List Nat) : List Nat → Bool
  | [] => true
  | i :: is => match subNat (boxIds h[i]?) ids with
    | true => closedIds h ids is
    | false => false
theorem closedIds_out {h : List (Option LB)} {ids : List Nat} : ∀ {is : List Nat}, closedIds h ids is = true → ∀ i ∈ is, ∀ ty cs, h[i]? = some (some (.box ty cs)) → ∀ k ∈ AV.idsL cs, k ∈ ids
  | [], _, i, hi, _, _, _, _, _ => by simp at hi
  | j :: is, hc, i, hi, ty, cs, e, k, hk => by
    unfold closedIds at hc
    split at hc
    · rename_i e1
      rcases List.mem_cons.1 hi with e2 | e2
      · subst e2; exact subNat_mem e1 (by rw [e]; exact hk)
      · exact closedIds_out hc i e2 ty cs e k hk
    · cases hc
def backId (ids : List Nat) (N m : Nat) (j : Nat) : Nat := match Nat.blt j m with
  | true => ids.getD j 0
  | false => N + (j - m)
theorem backId_lt {ids : List Nat} {N m j : Nat} (h : j < m) : backId ids N m j = ids.getD j 0 := by
  have : Nat.blt j m = true := by rw [Nat.blt_eq]; exact h
  simp [backId, this]
theorem backId_ge {ids : List Nat} {N m j : Nat} (h : m ≤ j) : backId ids N m j = N + (j - m) := by
  have : Nat.blt j m = false := by
    cases e : Nat.blt j m with
    | true => rw [Nat.blt_eq] at e; omega
    | false => rfl
  simp [backId, this]
/-- The heap behind a call. -/
def backH (h : List (Option LB)) (ids : List Nat) (h1 : List (Option LB)) : List (Option LB) :=
  putIds h ids ((renH (backId ids h.length ids.length) h1).take ids.length) ++ (renH (backId ids h.length ids.length) h1).drop ids.length

theorem SRV.callG {C : Ctx} {V st a w} (h : SRV C V st a w) {P : Program} {f : FuncId} {ms : List Bool} {cs : List AV} {ids : List Nat} {r : AV} {h1 : List (Option LB)} {vs : Array Value} (hvs : vs.size = cs.length)
    (hr : ∀ (i : Nat) (c : AV) (x : Value), cs[i]? = some c → vs[i]? = some x → R w (Stb C.A w st.h V) V st.h.length c x) (hnd : ids.Nodup) (hocc : ∀ k ∈ wIds ms cs, k ∈ ids) (hlive0 : ∀ i ∈ ids, ∃ lb, st.h[i]? = some (some lb))
    (hclos : ∀ i ∈ ids, ∀ ty cs, st.h[i]? = some (some (.box ty cs)) → ∀ k ∈ AV.idsL cs, k ∈ ids)
    (hs : Spec P f (passL (fun i => posOf i ids) (killIds st.h ids) ms cs) (renH (fun i => posOf i ids) (lentH st.h ids)) r h1) (hl1 : ids.length ≤ h1.length) (hsafe : bImm ms cs = true ∨ (r.noTree = true ∧ rowsNoTree h1 ∧ deafNoTree h1)) :
    Calls P f vs w fun e w' => ∃ x V2, e = .returned x ∧ SRV C V2 ⟨st.s, backH st.h ids h1⟩ a w' ∧ R w' (Stb C.A w' (backH st.h ids h1) V2) V2 (backH st.h ids h1).length (r.ren (backId ids st.h.length ids.length)) x ∧ Kept (fun b => ∃ i ∈ ids, ∃ lb, st.h[i]? = some (some lb) ∧ foot (V i) lb b) w w' := by
  let V0 : Nat → Info := fun j => V (ids.getD j 0)
  let hin := renH (fun i => posOf i ids) (lentH st.h ids)
  let hk := killIds st.h ids
  let S0 : Nat → Prop := fun b => if bImm ms cs = true then Stb C.A w st.h V b else Lent C.A w st.h hk V b
  let N := st.h.length
  let m := ids.length
  have hinl : hin.length = m := by simp only [hin, renH_length, lentH_length, m]
  have hV0 : ∀ j i, ids[j]? = some i → V0 j = V i := fun j i e => by simp only [V0, List.getD, e, Option.getD_some]
  have hlt : ∀ i ∈ ids, i < N := fun i hi => by obtain ⟨lb, e⟩ := hlive0 i hi; exact (List.getElem?_eq_some_iff.1 e).1
  have hlent : ∀ (j : Nat) (lb : LB), hin[j]? = some (some lb) → ∃ i lb0, ids[j]? = some i ∧ st.h[i]? = some (some lb0) ∧ lb = renB (fun i => posOf i ids) lb0 := fun j lb e => by
    have e : (renH (fun i => posOf i ids) (lentH st.h ids))[j]? = some (some lb) := e
    rw [renH_get] at e
    obtain ⟨o, e1, e2⟩ := Option.map_eq_some_iff.1 e
    obtain ⟨lb0, rfl, e3⟩ := renLB_some e2
    rw [lentH_get] at e1
    obtain ⟨i, e4, e5⟩ := Option.map_eq_some_iff.1 e1
    refine ⟨i, lb0, e4, ?_, e3⟩
    cases e6 : st.h[i]? with
    | none => rw [e6] at e5; cases e5
    | some o => rw [e6] at e5; simp at e5; rw [e5]
  have hksub : ∀ (id : Nat) (lb : LB), hk[id]? = some (some lb) → st.h[id]? = some (some lb) := fun id lb e => (killIds_get _ _ _ _ e).2
  have hS0lt : ∀ b, S0 b → b < w.heap.size := fun b hb => by
    simp only [S0] at hb
    split at hb
    · exact hb.2.1
    · rcases hb with hb | ⟨id, lb, e, hf⟩
      · exact hb.2.1
      · exact h.hr.ltf (hksub id lb e) hf
  have hStbS0 : ∀ b, Stb C.A w st.h V b → S0 b := fun b hb => by
    simp only [S0]; split
    · exact hb
    · exact .inl hb
  have hS : ∀ b, Stb C.A w st.h V b → Stb (atR S0 hin V0 w) w hin V0 b := fun b hb => ⟨.inl (hStbS0 b hb), hb.2.1, fun j lb e => by
    obtain ⟨i, lb0, e1, e2, rfl⟩ := hlent j lb e
    rw [hV0 j i e1]; exact fun hf => hb.2.2 i lb0 e2 (foot_ren.1 hf)⟩
  have hidx : ∀ j j' i, ids[j]? = some i → ids[j']? = some i → j = j' := fun j j' i e1 e2 => by
    have f1 := List.getElem?_eq_some_iff.1 e1
    have f2 := List.getElem?_eq_some_iff.1 e2
    exact (List.getElem_inj hnd).1 (f1.2.trans f2.2.symm)
  have hren0 : ∀ i ∈ ids, posOf i ids < hin.length ∧ V0 (posOf i ids) = V i := fun i hi => by
    obtain ⟨g1, g2⟩ := posOf_get hi
    exact ⟨by rw [hinl]; exact g1, by simp only [V0, g2]⟩
  have hhr : HR w (blkOf hin V0) (atR S0 hin V0 w) V0 hin w := by
    refine ⟨fun j j' lj lj' e1 e2 hne b g1 g2 => ?_, fun j lb e => ?_, fun j lb e b hf _ => ⟨j, lb, e, hf⟩⟩
    · obtain ⟨i, l0, f1, f2, rfl⟩ := hlent j lj e1
      obtain ⟨i', l0', f3, f4, rfl⟩ := hlent j' lj' e2
      rw [hV0 j i f1] at g1
      rw [hV0 j' i' f3] at g2
      refine h.hr.inj i i' l0 l0' f2 f4 (fun e => hne ?_) b (foot_ren.1 g1) (foot_ren.1 g2)
      subst e; exact hidx j j' i f1 f3
    · obtain ⟨i, lb0, f1, f2, rfl⟩ := hlent j lb e
      obtain ⟨cur, hc⟩ := h.hr.blk i lb0 f2
      rw [hV0 j i f1]
      refine ⟨cur, ?_⟩
      have hi := List.mem_of_getElem? f1
      cases lb0 with
      | box ty cells =>
        refine ⟨by simpa [renB, LB.sz, renL_length] using hc.sz, hc.ln, hc.heap, fun k jj c g1 g2 => ?_, fun g => by simp [renB, LB.isArr] at g, fun _ => by simpa [renB, LB.sz, LB.len, renL_length] using hc.box rfl, fun g => by simp [renB, LB.isArr] at g, trivial⟩
        simp only [renB, LB.rows, renL_get] at g2
        obtain ⟨c', e3, rfl⟩ := Option.map_eq_some_iff.1 g2
        obtain ⟨x, k1, k2, k3⟩ := hc.cell k jj c' g1 e3
        refine ⟨x, by simpa [renB, LB.sz, renL_length] using k1, k2, ?_⟩
        exact (k3.renOcc (ρ := fun i => posOf i ids) (V' := V0) (N' := hin.length) fun q hq _ => hren0 q (hclos i hi ty cells f2 q (idsL_mem e3 hq))).mono (fun b hb => ⟨hS b hb, rfl⟩) (fun _ _ => rfl) (Nat.le_refl _)
      | arr ty t xs =>
        have hst : ∀ (k j : Nat) (c : AV) (x : Value), k < xs.length → (rowT t xs k)[j]? = some c → cur[k * t.n + j]? = some x → Rt w (Stb (atR S0 hin V0 w) w hin V0) c x := fun k jj c x g1 g2 g3 => (hc.still rfl k jj c x g1 g2 g3).mono fun b hb => ⟨hS b hb, rfl⟩
        refine ⟨hc.sz, hc.ln, hc.heap, fun k jj c g1 g2 => ?_, fun _ => hst, hc.box, hc.own, trivial⟩
        obtain ⟨x, k1, k2, _⟩ := hc.cell k jj c g1 g2
        exact ⟨x, k1, k2, .imm _ _ (hst k jj c x g1 g2 k1)⟩
      | mp ty t ks => exact hc.deaf rfl (fun b hb => ⟨hS b hb, rfl⟩) fun _ _ => rfl
      | nst ty tyI t xss => exact hc.deaf rfl (fun b hb => ⟨hS b hb, rfl⟩) fun _ _ => rfl
  have hGB : ∀ b, C.GB b → b < w.heap.size ∧ ¬ blkOf hin V0 b ∧ S0 b := fun b hb => by
    have hst := h.stbGB hb
    refine ⟨hst.2.1, fun ⟨j, lb, e1, e2⟩ => ?_, hStbS0 b hst⟩
    obtain ⟨i, lb0, f1, f2, rfl⟩ := hlent j lb e1
    rw [hV0 j i f1] at e2
    exact hst.2.2 i lb0 f2 (foot_ren.1 e2)
  refine (hs w C.GB V0 S0 vs h.laid hGB hhr (by rw [passL_length]; exact hvs) fun i c x e1 e2 => ?_).mono ?_
  · obtain ⟨c', e3, ⟨rfl, e4⟩ | ⟨rfl, e4⟩⟩ := passL_get _ _ _ _ _ _ e1
    · exact ((hr i c' x e3 e2).renOcc (ρ := fun i => posOf i ids) (V' := V0) (N' := hin.length) fun k hk _ => hren0 k (hocc k (e4 k hk))).mono (fun b hb => ⟨hS b hb, rfl⟩) (fun _ _ => rfl) (Nat.le_refl _)
    · by_cases hb : bImm ms cs = true
      · exact .imm _ _ ((((hr i c' x e3 e2).toImm (e4 hb)).lendImm (h := hk)).mono fun b hb => ⟨hS b hb, rfl⟩)
      · refine .imm _ _ ((h.lend hksub (hr i c' x e3 e2)).mono fun b hb' => ⟨⟨.inl (by simp only [S0, if_neg hb]; exact hb'), ?_, fun j lb e => ?_⟩, rfl⟩)
        · rcases hb' with hb' | ⟨id, lb, e, hf⟩
          · exact hb'.2.1
          · exact h.hr.ltf (hksub id lb e) hf
        · obtain ⟨i', lb0, f1, f2, rfl⟩ := hlent j lb e
          rw [hV0 j i' f1]
          intro hf
          replace hf := foot_ren.1 hf
          rcases hb' with hb' | ⟨id, lb', e', hf'⟩
          · exact hb'.2.2 i' lb0 f2 hf
          · obtain ⟨g1, g2⟩ := killIds_get _ _ _ _ e'
            exact h.hr.inj i' id lb0 lb' f2 g2 (fun e => g1 (e ▸ List.mem_of_getElem? f1)) b hf hf'
  · rintro e w' ⟨x, V', rfl, hkept, _, hV', hhr', hres⟩
    let ρ := backId ids N m
    let V2 : Nat → Info := fun i => if i < N then V i else V' (m + (i - N))
    have hH2 : backH st.h ids h1 = putIds st.h ids ((renH ρ h1).take m) ++ (renH ρ h1).drop m := rfl
    have hrl : (renH ρ h1).length = h1.length := renH_length ..
    have hpl : (putIds st.h ids ((renH ρ h1).take m)).length = N := putIds_length ..
    have hlen2 : (backH st.h ids h1).length = N + (h1.length - m) := by rw [hH2, List.length_append, hpl, List.length_drop, hrl]
    have hV2old : ∀ i, i < N → V2 i = V i := fun i hi => by simp [V2, hi]
    have hρ : ∀ j, j < h1.length → ρ j < (backH st.h ids h1).length ∧ V2 (ρ j) = V' j := fun j hj => by
      by_cases hjm : j < m
      · have e1 : ids[j]? = some ids[j] := List.getElem?_eq_getElem hjm
        have e2 : ids.getD j 0 = ids[j] := by simp [List.getD, e1]
        have e3 := hlt _ (List.getElem_mem hjm)
        simp only [ρ, backId_lt hjm, e2]
        refine ⟨by omega, ?_⟩
        rw [hV2old _ e3, hV' j (by rw [hinl]; exact hjm), hV0 j _ e1]
      · have hjm := Nat.le_of_not_lt hjm
        simp only [ρ, backId_ge hjm]
        refine ⟨by omega, ?_⟩
        have : ¬ (N + (j - m) < N) := by omega
        simp only [V2, this, if_false]
        congr 1; omega
    have hl : ∀ (i : Nat) (lb : LB), (backH st.h ids h1)[i]? = some (some lb) → (∃ j lb0, j < h1.length ∧ i = ρ j ∧ h1[j]? = some (some lb0) ∧ lb = renB ρ lb0) ∨ (i < N ∧ i ∉ ids ∧ st.h[i]? = some (some lb)) := fun i lb e => by
      rw [hH2] at e
      by_cases hi : i < N
      · rw [List.getElem?_append_left (by rw [hpl]; exact hi)] at e
        rcases putIds_get st.h ids ((renH ρ h1).take m) hnd (by rw [List.length_take, hrl]; omega) hlt i with ⟨j, e1, e2⟩ | ⟨e1, e2⟩
        · have hjm : j < m := (List.getElem?_eq_some_iff.1 e1).1
          rw [e2, List.getElem?_take, if_pos hjm, renH_get] at e
          obtain ⟨o, f1, f2⟩ := Option.map_eq_some_iff.1 e
          obtain ⟨lb0, rfl, f3⟩ := renLB_some f2
          refine .inl ⟨j, lb0, by omega, ?_, f1, f3⟩
          simp only [ρ, backId_lt hjm, List.getD, e1, Option.getD_some]
        · rw [e2] at e; exact .inr ⟨hi, e1, e⟩
      · rw [List.getElem?_append_right (by omega), hpl, List.getElem?_drop, renH_get] at e
        obtain ⟨o, f1, f2⟩ := Option.map_eq_some_iff.1 e
        obtain ⟨lb0, rfl, f3⟩ := renLB_some f2
        have hj := (List.getElem?_eq_some_iff.1 f1).1
        refine .inl ⟨m + (i - N), lb0, hj, ?_, f1, f3⟩
        simp only [ρ]
        rw [backId_ge (by omega)]; omega
    have hnotM : ∀ b, (∀ (i : Nat) (lb : LB), st.h[i]? = some (some lb) → i ∈ ids → ¬ foot (V i) lb b) → ¬ blkOf hin V0 b := fun b hb ⟨j, lb, e1, e2⟩ => by
      obtain ⟨i, lb0, f1, f2, rfl⟩ := hlent j lb e1
      rw [hV0 j i f1] at e2
      exact hb i lb0 f2 (List.mem_of_getElem? f1) (foot_ren.1 e2)
    -- a block that the callee has left is one of those lent, or new
    have hnew : ∀ (j : Nat) (lb0 : LB), h1[j]? = some (some lb0) → ∀ b, foot (V' j) lb0 b → (∃ i lb, i ∈ ids ∧ st.h[i]? = some (some lb) ∧ foot (V i) lb b) ∨ w.heap.size ≤ b := fun j lb0 e b hf => by
      rcases Nat.lt_or_ge b w.heap.size with hb | hb
      · obtain ⟨j', lb', e1, e2⟩ := hhr'.mine j lb0 e b hf hb
        obtain ⟨i, l0, f1, f2, rfl⟩ := hlent j' lb' e1
        rw [hV0 j' i f1] at e2
        exact .inl ⟨i, l0, List.mem_of_getElem? f1, f2, foot_ren.1 e2⟩
      · exact .inr hb
    have hS2 : ∀ b, Stb C.A w st.h V b → Stb C.A w' (backH st.h ids h1) V2 b ∧ w'.heap[b]? = w.heap[b]? := fun b hb => by
      refine ⟨⟨hb.1, Nat.lt_of_lt_of_le hb.2.1 hkept.size, fun i lb e => ?_⟩, hkept.block b hb.2.1 (hnotM b fun i lb e _ => hb.2.2 i lb e)⟩
      rcases hl i lb e with ⟨j, lb0, hj, rfl, e1, rfl⟩ | ⟨hi, _, e1⟩
      · rw [(hρ j hj).2]
        intro hf
        rcases hnew j lb0 e1 b (foot_ren.1 hf) with ⟨i, l, _, f2, f3⟩ | hge
        · exact hb.2.2 i l f2 f3
        · have := hb.2.1; omega
      · rw [hV2old i hi]; exact hb.2.2 i lb e1
    -- what the callee's trees lie in is at rest for the caller too, or there are none
    have hStb : bImm ms cs = true → ∀ b, Stb (atR S0 hin V0 w) w' h1 V' b → Stb C.A w' (backH st.h ids h1) V2 b := fun himm b hb => by
      have hb1 : Stb C.A w st.h V b ∨ w.heap.size ≤ b ∨ ∃ i lb, i ∈ ids ∧ st.h[i]? = some (some lb) ∧ foot (V i) lb b := by
        rcases hb.1 with g | g | ⟨j, lb, e1, e2⟩
        · simp only [S0, himm, if_true] at g; exact .inl g
        · exact .inr (.inl g)
        · obtain ⟨i, lb0, f1, f2, rfl⟩ := hlent j lb e1
          rw [hV0 j i f1] at e2
          exact .inr (.inr ⟨i, lb0, List.mem_of_getElem? f1, f2, foot_ren.1 e2⟩)
      refine ⟨?_, hb.2.1, fun i lb e => ?_⟩
      · rcases hb1 with g | g | ⟨i, lb, g1, g2, g3⟩
        · exact g.1
        · exact C.hA b (Nat.le_trans h.kept.size g)
        · exact h.inAf g2 g3
      · rcases hl i lb e with ⟨j, lb0, hj, rfl, e1, rfl⟩ | ⟨hi, hni, e1⟩
        · rw [(hρ j hj).2]; exact fun hf => hb.2.2 j lb0 e1 (foot_ren.1 hf)
        · rw [hV2old i hi]
          intro hf
          rcases hb1 with g | g | ⟨i', lb', g1, g2, g3⟩
          · exact g.2.2 i lb e1 hf
          · have := h.hr.ltf e1 hf; omega
          · exact h.hr.inj i i' lb lb' e1 g2 (fun e => hni (e ▸ g1)) b hf g3
    have hTt : ∀ (c : AV) (x : Value), (bImm ms cs = true) ∨ c.noTree = true → Rt w' (Stb (atR S0 hin V0 w) w' h1 V') c x → Rt w' (Stb C.A w' (backH st.h ids h1) V2) c x := fun c x hh hr => by
      rcases hh with himm | hn
      · exact hr.mono fun b hb => ⟨hStb himm b hb, rfl⟩
      · exact hr.noTree hn
    have hT : ∀ (c : AV) (x : Value), (bImm ms cs = true) ∨ c.noTree = true → R w' (Stb (atR S0 hin V0 w) w' h1 V') V' h1.length c x → R w' (Stb C.A w' (backH st.h ids h1) V2) V2 (backH st.h ids h1).length (c.ren ρ) x := fun c x hh hr => by
      refine R.ren (ρ := ρ) ?_ hρ
      rcases hh with himm | hn
      · exact hr.mono (fun b hb => ⟨hStb himm b hb, rfl⟩) (fun _ _ => rfl) (Nat.le_refl _)
      · exact hr.noTree hn
    refine ⟨x, V2, rfl, ?_, hT r x (hsafe.imp id (·.1)) hres, ⟨hkept.os, hkept.tape, hkept.output, hkept.size, fun k hk hm => hkept.block k hk (hnotM k fun i lb e hi hf => hm ⟨i, hi, lb, e, hf⟩)⟩⟩
    refine h.step (h' := backH st.h ids h1) ⟨hkept.os.trans h.kept.os, hkept.tape.trans h.kept.tape, hkept.output.trans h.kept.output, Nat.le_trans h.kept.size hkept.size, fun k hk hm => ?_⟩ ⟨fun i j li lj e1 e2 hne b b1 b2 => ?_, fun i lb e => ?_, fun i lb e b hf hlt2 => ?_⟩ hS2 hV2old (by rw [hlen2]; omega)
    · rw [hkept.block k (Nat.lt_of_lt_of_le hk h.kept.size) (hnotM k fun i lb e _ e2 => hm (h.hr.mine i lb e k e2 hk))]
      exact h.kept.block k hk hm
    · have key : ∀ (j : Nat) (lb0 : LB) (i : Nat) (lb : LB), h1[j]? = some (some lb0) → i ∉ ids → st.h[i]? = some (some lb) → foot (V' j) lb0 b → ¬ foot (V i) lb b := fun j lb0 i lb e1 e2 e3 e4 e5 => by
        rcases hnew j lb0 e1 b e4 with ⟨i', l, f1, f2, f3⟩ | hge
        · exact h.hr.inj i' i l lb f2 e3 (fun e => e2 (e ▸ f1)) b f3 e5
        · have := h.hr.ltf e3 e5; omega
      rcases hl i li e1 with ⟨q, l0, hq, rfl, g1, rfl⟩ | ⟨hi, g2, g1⟩ <;> rcases hl j lj e2 with ⟨q', l0', hq', rfl, g3, rfl⟩ | ⟨hj, g4, g3⟩
      · rw [(hρ q hq).2] at b1
        rw [(hρ q' hq').2] at b2
        exact hhr'.inj q q' l0 l0' g1 g3 (fun e => hne (by rw [e])) b (foot_ren.1 b1) (foot_ren.1 b2)
      · rw [(hρ q hq).2] at b1
        rw [hV2old j hj] at b2; exact key q l0 j lj g1 g4 g3 (foot_ren.1 b1) b2
      · rw [(hρ q' hq').2] at b2
        rw [hV2old i hi] at b1; exact key q' l0' i li g3 g2 g1 (foot_ren.1 b2) b1
      · rw [hV2old i hi] at b1
        rw [hV2old j hj] at b2; exact h.hr.inj i j li lj g1 g3 hne b b1 b2
    · rcases hl i lb e with ⟨j, lb0, hj, rfl, e1, rfl⟩ | ⟨hi, g2, e1⟩
      · obtain ⟨cur, hc⟩ := hhr'.blk j lb0 e1
        rw [(hρ j hj).2]
        refine ⟨cur, ?_⟩
        have hcells : ∀ (k i : Nat) (c : AV), k < lb0.len → (lb0.rows k)[i]? = some c → (bImm ms cs = true) ∨ c.noTree = true := fun k i c g1 g2 => by
          rcases hsafe with h5 | ⟨_, h5, _⟩
          · exact .inl h5
          · exact .inr (h5 j lb0 e1 k i c g1 g2)
        cases lb0 with
        | box ty cells =>
          refine ⟨by simpa [renB, LB.sz, renL_length] using hc.sz, hc.ln, hc.heap, fun k jj c g1 g2 => ?_, fun g => by simp [renB, LB.isArr] at g, fun _ => by simpa [renB, LB.sz, LB.len, renL_length] using hc.box rfl, fun g => by simp [renB, LB.isArr] at g, trivial⟩
          simp only [renB, LB.rows, renL_get] at g2
          obtain ⟨c', e3, rfl⟩ := Option.map_eq_some_iff.1 g2
          obtain ⟨y, k1, k2, k3⟩ := hc.cell k jj c' g1 e3
          exact ⟨y, by simpa [renB, LB.sz, renL_length] using k1, k2, hT c' y (hcells k jj c' g1 e3) k3⟩
        | arr ty t xs =>
          have hst : ∀ (k j : Nat) (c : AV) (x : Value), k < xs.length → (rowT t xs k)[j]? = some c → cur[k * t.n + j]? = some x → Rt w' (Stb C.A w' (backH st.h ids h1) V2) c x := fun k jj c y g1 g2 g3 => hTt c y (hcells k jj c g1 g2) (hc.still rfl k jj c y g1 g2 g3)
          refine ⟨hc.sz, hc.ln, hc.heap, fun k jj c g1 g2 => ?_, fun _ => hst, hc.box, hc.own, trivial⟩
          obtain ⟨y, k1, k2, _⟩ := hc.cell k jj c g1 g2
          exact ⟨y, k1, k2, .imm _ _ (hst k jj c y g1 g2 k1)⟩
        | mp ty t ks =>
          refine ⟨hc.sz, hc.ln, hc.heap, fun k jj c g1 g2 => absurd g1 (Nat.not_lt_zero _), (fun g => by cases g), hc.box, (fun g => by cases g), hc.ex⟩
        | nst ty tyI t xss =>
          have hex : NstOk w' _ (V' j) tyI t xss cur := hc.ex
          have hfl : ∀ (i jj : Nat) (c : AV) (x : Value) (xs : List t.den), (rowT t xs i)[jj]? = some c → Rt w' (Stb (atR S0 hin V0 w) w' h1 V') c x → Rt w' (Stb C.A w' (backH st.h ids h1) V2) c x := fun i jj c x xs g1 g2 => by
            rcases hsafe with h5 | ⟨_, _, h5⟩
            · exact hTt c x (.inl h5) g2
            · exact hTt c x (.inr (flat_enc t _ (h5 j ty tyI t xss e1) jj c g1)) g2
          refine ⟨hc.sz, hc.ln, hc.heap, fun k jj c g1 g2 => ?_, fun _ k jj c x g1 g2 g3 => ?_, hc.box, hc.own, hex.frh, hex.apart, hex.at_, hex.ok, fun k hk => ?_⟩
          · obtain ⟨y, k1, k2, _⟩ := hc.cell k jj c g1 g2
            refine ⟨y, k1, k2, ?_⟩
            cases jj with
            | zero => simp [renB, LB.rows] at g2; subst g2; exact .imm _ _ (.any _)
            | succ jj => simp [renB, LB.rows] at g2
          · cases jj with
            | zero => simp [renB, LB.rows] at g2; subst g2; exact .any _
            | succ jj => simp [renB, LB.rows] at g2
          · obtain ⟨ck, k1, k2, k3⟩ := hex.row k hk
            refine ⟨ck, k1, k2, fun i jj c g1 g2 => ?_⟩
            obtain ⟨x, f1, f2, f3⟩ := k3 i jj c g1 g2
            exact ⟨x, f1, f2, hfl i jj c x _ g2 f3⟩
      · obtain ⟨cur, hc⟩ := h.hr.blk i lb e1
        rw [hV2old i hi]
        refine ⟨cur, hc.mono hS2 hV2old (by rw [hlen2]; omega) fun b hf => hkept.block _ (h.hr.ltf e1 hf) (hnotM _ fun i' lb' f1 f2 f3 => ?_)⟩
        exact h.hr.inj i' i lb' lb f1 e1 (fun e => g2 (e ▸ f2)) b f3 hf
    · rcases hl i lb e with ⟨j, lb0, hj, rfl, e1, rfl⟩ | ⟨hi, _, e1⟩
      · rw [(hρ j hj).2] at hf
        rcases hnew j lb0 e1 b (foot_ren.1 hf) with ⟨i, l, f1, f2, f3⟩ | hge
        · exact h.hr.mine i l f2 b f3 hlt2
        · have := h.kept.size; omega
      · rw [hV2old i hi] at hf; exact h.hr.mine i lb e1 b hf hlt2

/-- The callee and its arguments. -/
def St.callee (st : St) (c : Call) : Option (FuncId × List AV) :=
  match c.callee with
  | .value x => match st.ev x with
    | .fn f cap => some (f, c.args.toList.map st.ev ++ cap)
    | _ => none
  | _ => none

/-- A function with a body is entered. -/
def Enters (P : Program) (f : FuncId) : Prop := ∀ args w, (callFunc f args).run P w = .ok (.enter f args) w

theorem SRV.callee {P : Program} {o : Oper} {C : Ctx} {V st a w} (h : SRV C V st a w) {c : Call} {f : FuncId} {cs : List AV} (hc : st.callee c = some (f, cs)) (ho : o.op = .call c) (hent : Enters P f) :
    ∃ vs : Array Value, (∀ w', (execOp a.eval o).run P w' = .ok (.enter f vs) w') ∧ vs.size = cs.length ∧ ∀ (i : Nat) (c : AV) (x : Value), cs[i]? = some c → vs[i]? = some x → R w (Stb C.A w st.h V) V st.h.length c x := by
  unfold St.callee at hc
  split at hc
  · rename_i x hx
    split at hc
    · rename_i f' cap hf
      simp only [Option.some.injEq, Prod.mk.injEq] at hc
      obtain ⟨rfl, rfl⟩ := hc
      obtain ⟨vs, e, hl, hr⟩ := (hf ▸ h.ev x).fn_inv
      refine ⟨c.args.map a.eval ++ vs, fun w' => ?_, by simp [hl], fun i c' y h1 h2 => ?_⟩
      · simp [execOp, ho, resolve, hx, e, Deferred.ofValue, invoke, hent _ w']
      · by_cases hi : i < c.args.size
        · rw [List.getElem?_append_left (by simpa using hi)] at h1
          rw [Array.getElem?_append_left (by simpa using hi)] at h2
          simp [hi] at h1 h2
          subst h1 h2; exact h.ev _
        · rw [List.getElem?_append_right (by simp; omega)] at h1
          rw [Array.getElem?_append_right (by simp; omega)] at h2
          simp at h1 h2
          exact hr _ c' y h1 h2
    · cases hc
  · cases hc

end Go.Proofs.YtpmmaohaahbphaaDoor
