/-
  The abstract evaluator, part 6: more operations on values; regions; code; the road from a body to its contract.
-/
import Derived.Test.YthjboaallleomaaAe5
import Derived.Laws.MakeOwn
namespace Go.Proofs.Ythjboaallleomaa
open Go.RowKit

section
variable {P : Program} {o : Oper} {st : St} {K : AV → Prop} {T : Nat → Option TI}

def evNil (x : AV) (K : AV → Prop) : Prop :=
  match x with
  | .loc _ _ _ => K x
  | .tptr _ _ _ _ _ => K x
  | .fn _ _ => K x
  | _ => False
theorem vdoes_nil (x : Operand) (ho : o.op = .nilCheck x) (hk : evNil (st.ev x) K) : VDoes P o st K := by
  intro C V a w h
  have hr := h.ev x
  unfold evNil at hk
  split at hk
  · rename_i id row off hx
    have e := (hx ▸ hr).loc_inv
    refine ⟨_, a.eval x, hk, hr, fun w' _ => ?_⟩
    simp [execOp, ho, e]
  · rename_i sz len rows row off hx
    have hr' := (hx ▸ hr).tptr_inv
    refine ⟨_, a.eval x, hk, hr, fun w' _ => ?_⟩
    generalize hv : a.eval x = v at hr'
    cases hr'
    simp [execOp, ho, hv]
  · rename_i f cs hx
    obtain ⟨vs, e, _, _⟩ := (hx ▸ hr).fn_inv
    refine ⟨_, a.eval x, hk, hr, fun w' _ => ?_⟩
    simp [execOp, ho, e]
  · exact hk.elim

theorem vdoes_makeFunc (f : FuncId) (cap : Array Operand) (ho : o.op = .makeFunc (.func f) #[] cap) (hk : K (.fn f (cap.toList.map st.ev))) : VDoes P o st K := by
  intro C V a w h
  refine ⟨_, .func (.func f) #[] (cap.map a.eval), hk, .fn f _ _ (by simp) (fun i c x h1 h2 => ?_), fun w' _ => ?_⟩
  · simp only [List.getElem?_map, Array.getElem?_map] at h1 h2
    obtain ⟨y, e1, rfl⟩ := Option.map_eq_some_iff.1 h1
    obtain ⟨z, e2, rfl⟩ := Option.map_eq_some_iff.1 h2
    have : y = z := by simpa [e2] using e1.symm
    subst this; exact h.ev y
  · simp [execOp, ho, Instr.makeFunc]

/-- A bound of a slice expression. -/
def bnd (c : Option AV) (d : Int) : Option Int :=
  match c with
  | none => some d
  | some (.v (.int _ q)) => some q
  | _ => none
/-- 's[lo:hi]' of a string, and of a slice at rest. -/
def evSliceS (s : ByteArray) (lo hi : Option Int) (K : AV → Prop) : Prop :=
  match lo, hi with
  | some l, some h => Ob (0 ≤ l ∧ l ≤ h ∧ h ≤ s.size) ∧ K (.v (.string (s.extract l.toNat h.toNat)))
  | _, _ => False
def evSliceT (e : Option TI) (sz len : Nat) (rows : Nat → List AV) (lo hi : Option Int) (K : AV → Prop) : Prop :=
  match e, lo, hi with
  | some e, some l, some h => e.size = sz ∧ Ob (0 ≤ l ∧ l ≤ h ∧ h ≤ len) ∧ K (.tree sz (h - l).toNat (fun k => rows (l.toNat + k)))
  | _, _, _ => False
def evSlice (T : Nat → Option TI) (i : Option TI) (x : AV) (lo hi : Option AV) (K : AV → Prop) : Prop :=
  match i, x with
  | some i, .v (.string s) => i.str = true ∧ evSliceS s (bnd lo 0) (bnd hi s.size) K
  | i, .tree sz len rows => evSliceT (elemT T i) sz len rows (bnd lo 0) (bnd hi len) K
  | _, _ => False

/-- A bound that is within. -/
theorem run_sliceBound (k : IntKind) (n : Int) (y : Nat) (code : BoundsCode) (w : World) (h0 : 0 ≤ n) (hy : n ≤ y) : (Instr.sliceBound (.int k n) y code).run P w = .ok n.toNat w := by
  simp [Instr.sliceBound, asIntOf, h0, hy]

def BndIs (a : Act) (o : Option Operand) (d q : Int) : Prop :=
  match o with
  | none => q = d
  | some x => ∃ k, a.eval x = .int k q
theorem run_sliceBounds (isSlice : Bool) (len cap : Nat) (lo hi : Option Operand) (l h : Int) (w : World) (a : Act) (hl : BndIs a lo 0 l) (hh : BndIs a hi len h)
    (h0 : 0 ≤ l) (h1 : l ≤ h) (h2 : h ≤ len) (h3 : len ≤ cap) : (Instr.sliceBounds isSlice len cap (lo.map a.eval) (hi.map a.eval) none).run P w = .ok (l.toNat, h.toNat, cap) w := by
  have hcap : h ≤ (cap : Int) := by omega
  unfold Instr.sliceBounds
  unfold BndIs at hl hh
  cases hi with
  | none =>
    simp only at hh
    subst hh
    cases lo with
    | none => simp only at hl; subst hl; simp
    | some y =>
      obtain ⟨k, e⟩ := hl
      simp [e, run_sliceBound k l len .sliceB w h0 (by omega)]
  | some z =>
    obtain ⟨k', e'⟩ := hh
    have hb := run_sliceBound (P := P) k' h cap (if isSlice = true then .sliceAcap else .sliceAlen) w (by omega) hcap
    cases lo with
    | none => simp only at hl; subst hl; simp [e', hb]
    | some y =>
      obtain ⟨k, e⟩ := hl
      have hb2 := run_sliceBound (P := P) k l h.toNat .sliceB w h0 (by omega)
      simp [e, e', hb, hb2]

theorem bnd_sound {C : Ctx} {V st a w} (hs : SRV C V st a w) {o : Option Operand} {d q : Int} (h : bnd (o.map st.ev) d = some q) : BndIs a o d q := by
  unfold BndIs
  cases o with
  | none => simp [bnd] at h; exact h.symm
  | some x =>
    simp only [bnd, Option.map_some] at h
    split at h
    · rename_i e; cases e
    · rename_i k q' e
      simp only [Option.some.injEq] at h e
      subst h
      exact ⟨k, hs.evv e⟩
    · cases h

theorem vdoes_slice (hT : TOk P T) (t : TypeId) (x : Operand) (lo hi : Option Operand) (ho : o.op = .slice t x lo hi none) (hk : evSlice T (T t) (st.ev x) (lo.map st.ev) (hi.map st.ev) K) : VDoes P o st K := by
  unfold evSlice at hk
  split at hk
  · rename_i i s hi' hx
    obtain ⟨hstr, hk⟩ := hk
    unfold evSliceS at hk
    split at hk
    · rename_i l h hl hh
      obtain ⟨hob, hk⟩ := hk
      obtain ⟨h0, h1, h2⟩ := hob.out
      refine vdoes_plain _ (fun C V a w hs w' => ?_) hk
      have hb := run_sliceBounds (P := P) false s.size s.size lo hi l h w' a (bnd_sound hs hl) (bnd_sound hs hh) h0 h1 h2 (Nat.le_refl _)
      simp [execOp, ho, hs.evv hx, Instr.sliceAt, Instr.slice, run_underlying ((hT t i hi').str hstr), hb]
    · exact hk.elim
  · rename_i sz len rows hx
    unfold evSliceT at hk
    split at hk
    · rename_i te l h hte hl hh
      obtain ⟨ti, hi', hel, hte⟩ := elemT_sound hte
      obtain ⟨hsz, hob, hk⟩ := hk
      obtain ⟨h0, h1, h2⟩ := hob.out
      intro C V a w hs
      have hr' := (hx ▸ hs.ev x).tree_inv
      generalize hv : a.eval x = v at hr'
      cases hr' with
      | tree _ _ _ ad cap b o' X hb hc hm ha hz hx2 hh2 =>
        have hbd := fun w' => run_sliceBounds (P := P) true len cap lo hi l h w' a (bnd_sound hs hl) (bnd_sound hs hh) h0 h1 h2 hc
        have hsize := (hT ti.elem te hte).size
        refine ⟨_, .slice (if cap = l.toNat then ad else ad.map (·.add (l.toNat * sz))) (h - l).toNat (cap - l.toNat), hk, .imm _ _ ?_, fun w' _ => ?_⟩
        · have hlt : ∀ k, k < (h - l).toNat → l.toNat + k < len := fun k hk => by omega
          refine .tree sz _ _ _ _ b (o' + l.toNat * sz) (fun k j => X (l.toNat + k) j) (by omega) (by omega) (by omega) (fun hne => ?_) (fun k hk => hz _ (hlt k hk)) (fun k j c e1 e2 => ?_) (fun k j c e1 e2 => hh2 _ j c (hlt k e1) e2)
          · obtain ⟨e1, e2⟩ := ha (by omega)
            rw [if_neg (by omega), e1]
            exact ⟨by simp [Addr.add_lit], e2⟩
          · have := hx2 (l.toNat + k) j c (hlt k e1) e2
            rw [show o' + l.toNat * sz + k * sz + j = o' + (l.toNat + k) * sz + j by rw [Nat.add_mul]; omega]
            exact this
        · have e9 : h.toNat - l.toNat = (h - l).toNat := by omega
          simp [execOp, ho, hv, Instr.sliceAt, Instr.slice, run_underlying ((hT t ti hi').elem hel), hbd w', hsize, hsz, e9]
    · exact hk.elim
  · exact hk.elim

def evMinMax (isMin : Bool) : List AV → (AV → Prop) → Prop
  | [.v (.int k x), .v (.int _ y)], K => K (.v (.int k (if isMin = true then (if y < x then y else x) else (if y > x then y else x))))
  | _, _ => False
theorem vdoes_min (x y : Operand) (ts : Array TypeId) (ho : o.op = .call { callee := .builtin .min, args := #[x, y], argTypes := ts }) (hk : evMinMax true [st.ev x, st.ev y] K) : VDoes P o st K := by
  unfold evMinMax at hk
  split at hk
  · rename_i k p _ q _ he
    simp only [List.cons.injEq, and_true] at he
    obtain ⟨h1, h2⟩ := he
    exact vdoes_plain _ (fun C V a w h w' => by simp [execOp, ho, h.evv h1, h.evv h2, resolve, invoke, builtin, run_min_int2]) hk
  · exact hk.elim
theorem vdoes_max (x y : Operand) (ts : Array TypeId) (ho : o.op = .call { callee := .builtin .max, args := #[x, y], argTypes := ts }) (hk : evMinMax false [st.ev x, st.ev y] K) : VDoes P o st K := by
  unfold evMinMax at hk
  split at hk
  · rename_i k p _ q _ he
    simp only [List.cons.injEq, and_true] at he
    obtain ⟨h1, h2⟩ := he
    exact vdoes_plain _ (fun C V a w h w' => by simp [execOp, ho, h.evv h1, h.evv h2, resolve, invoke, builtin, run_max_int2]) hk
  · exact hk.elim


/-! ### make([]T, n) -/
def evMake (T : Nat → Option TI) (i : Option TI) (st : St) (l c : AV) (K : AV → St → Prop) : Prop :=
  match i, elemT T i, l, c with
  | some ti, some te, .v (.int _ n), .v (.int _ m) => (te.zero.cells.toList.all Value.oneCell' && Nat.beq te.zero.cells.size te.size && Nat.blt 0 te.size) = true ∧ Ob (0 ≤ n ∧ n ≤ m ∧ te.bytes * m ≤ 140737488355328 ∧ m ≤ 140737488355328) ∧
    K (.own st.h.length) ⟨st.s, st.h ++ [some ⟨ti.elem, te.size, n.toNat, fun _ => te.zero.cells.toList.map AV.v, true⟩]⟩
  | _, _, _, _ => False
theorem made_get (z : Array Value) (n k s j : Nat) (hz : z.size = s) (hj : j < s) (hk : k * s + j < n) : (madeCells z n)[k * s + j]? = z[j]? := by
  have hjz : j < z.size := by omega
  have e : (k * s + j) % z.size = j := by rw [hz, Nat.mul_add_mod_self_right, Nat.mod_eq_of_lt hj]
  simp [madeCells, hk, e, hjz]
theorem edoes_make {K : AV → St → Prop} (hT : TOk P T) (t : TypeId) (l c : Operand) (ho : o.op = .makeSlice t l c) (hk : evMake T (T t) st (st.ev l) (st.ev c) K) : EDoes P o st K := by
  unfold evMake at hk
  split at hk
  · rename_i ti te kl n kc m hti hte hl hc
    obtain ⟨hz, hb, hk⟩ := hk
    simp only [Bool.and_eq_true, Nat.blt_eq] at hz
    obtain ⟨⟨hz1, hz2⟩, hz3⟩ := hz
    have hz2 := Nat.eq_of_beq_eq_true hz2
    obtain ⟨h0, hnm, hbytes, hm⟩ := hb.out
    obtain ⟨ti', hi, hel, hte'⟩ := elemT_sound hte
    rw [hti] at hi; cases hi
    have hu := (hT t ti hti).elem hel
    obtain ⟨inf, hinf, hzero, hsize, hby⟩ := (hT _ te hte').info
    intro C V a w h next Q hn
    have e1 := h.evv hl
    have e2 := h.evv hc
    have hcs : (madeCells te.zero.cells (m.toNat * te.size)).size = m.toNat * te.size := size_madeCells _ _
    have hs := h.alloc ⟨w.heap.size, te.size, .slice (some ⟨w.heap.size, 0, none⟩) n.toNat m.toNat⟩ ⟨ti.elem, te.size, n.toNat, fun _ => te.zero.cells.toList.map AV.v, true⟩ (madeCells te.zero.cells (m.toNat * te.size)) rfl (fun S' V' N' hS hV hN => by
      have hcell : ∀ (k j : Nat) (c : AV), k < n.toNat → (te.zero.cells.toList.map AV.v)[j]? = some c → ∃ x, (madeCells te.zero.cells (m.toNat * te.size))[k * te.size + j]? = some x ∧ x.oneCell' = true ∧ c = .v x := fun k j c e1 e2 => by
        rw [List.getElem?_map] at e2
        obtain ⟨x, e3, rfl⟩ := Option.map_eq_some_iff.1 e2
        have hj : j < te.size := by rw [← hz2]; simpa using (List.getElem?_eq_some_iff.1 e3).1
        have hlt : k * te.size + j < m.toNat * te.size := by
          have h1 : k + 1 ≤ m.toNat := by omega
          have h2 : (k + 1) * te.size ≤ m.toNat * te.size := Nat.mul_le_mul_right _ h1
          rw [Nat.succ_mul] at h2; omega
        refine ⟨x, ?_, List.all_eq_true.1 hz1 x (List.mem_of_getElem? e3), rfl⟩
        rw [made_get _ _ _ _ _ hz2 hj hlt]
        simpa using e3
      refine ⟨rfl, heap_alloc_new w _, fun k hk => by simp [hz2], fun k j c e1 e2 => ?_, fun _ k j c x e1 e2 e3 => ?_, fun e => by simp at e, fun _ => ⟨m.toNat, rfl, by simp only; omega, by rw [show maxLen = 9223372036854775807 from by decide]; omega, hcs, by simp only [bigLen]; omega⟩⟩
      · obtain ⟨x, f1, f2, rfl⟩ := hcell k j c e1 e2
        exact ⟨x, f1, f2, .imm _ _ (.v x)⟩
      · obtain ⟨y, f1, f2, rfl⟩ := hcell k j c e1 e2
        rw [f1] at e3; cases e3; exact .v _)
    have hrun : (execOp a.eval o).run P w = .ok (.value (.slice (some ⟨w.heap.size, 0, none⟩) n.toNat m.toNat)) (w.alloc (.cells (madeCells te.zero.cells (m.toNat * te.size)) ti.elem)) := by
      have := run_make (P := P) w t ti.elem inf te.zero hu hinf hzero kl kc n m h0 hnm (by rw [hby]; omega) (by omega)
      rw [hsize] at this
      simp [execOp, ho, e1, e2, this]
    unfold Oper.wp
    rw [hrun]
    refine hn _ _ _ _ _ hk hs ?_
    have := R.own (w := w.alloc (.cells (madeCells te.zero.cells (m.toNat * te.size)) ti.elem)) (S := Stb C.A (w.alloc (.cells (madeCells te.zero.cells (m.toNat * te.size)) ti.elem)) (st.h ++ [some ⟨ti.elem, te.size, n.toNat, fun _ => te.zero.cells.toList.map AV.v, true⟩]) (updV V st.h.length ⟨w.heap.size, te.size, .slice (some ⟨w.heap.size, 0, none⟩) n.toNat m.toNat⟩)) (V := updV V st.h.length ⟨w.heap.size, te.size, .slice (some ⟨w.heap.size, 0, none⟩) n.toNat m.toNat⟩) (N := (st.h ++ [some (⟨ti.elem, te.size, n.toNat, fun _ => te.zero.cells.toList.map AV.v, true⟩ : LB)]).length) st.h.length (by simp)
    simpa [updV] using this
  · exact hk.elim
end
end Go.Proofs.Ythjboaallleomaa
