/-
  The abstract evaluator, part 10: regions and code; barer states; loops; the road from a body to its contract.
-/
import Derived.Test.YtpmmaohaahbphaaDoorB9
import Derived.OrdersHeld
namespace Go.Proofs.YtpmmaohaahbphaaDoor
open Go.RowKit

section
variable {P : Program} {T : Nat → Option TI} {G : Env}

/-! ### Regions -/
def wantB (want : Bool) (x y : Prop) : Prop :=
  match want with
  | true => x
  | false => y
def putL (st : St) (d : Nat) (b : Bool) : St :=
  match st with
  | ⟨s, h⟩ => ⟨upd s d (.v (.bool b)), h⟩
def evG (c : AV) (want : Bool) (d : Nat) (st : St) (yes no : St → Prop) : Prop :=
  match c with
  | .v (.bool true) => wantB want (yes st) (no st)
  | .v (.bool false) => wantB want (no st) (yes st)
  | .bl b => (b = true → wantB want (yes (putL st d true)) (no (putL st d true))) ∧ (b = false → wantB want (no (putL st d false)) (yes (putL st d false)))
  | .v (.tuple _) => no st
  | _ => False
def evGs (d : Option Nat) (st : St) (want : Bool) (yes no : St → Prop) : Prop :=
  match d with
  | none => no st
  | some d => evG (st.s d) want d st yes no
def evGuard (ops : List Oper) (st : St) (g : Option (Nat × Bool)) (yes no : St → Prop) : Prop :=
  match g with
  | none => yes st
  | some (j, want) => evGs ((ops[j]?).bind (·.dst)) st want yes no
/-- A value is brought to its outer form before one goes on, a struct cell by cell. -/
def forceA (c : AV) (K : AV → Prop) : Prop :=
  match c with
  | .agg cs => forceL cs fun cs => K (.agg cs)
  | .tup cs => forceL cs fun cs => K (.tup cs)
  | c => forceC c K
theorem forceA_eq (c : AV) (K : AV → Prop) : forceA c K = K c := by
  cases c <;> simp only [forceA, forceL_eq, forceC_eq]
def putS (st : St) (d : Nat) (K : St → Prop) (c : AV) : Prop :=
  match st with
  | ⟨s, h⟩ => K ⟨upd s d c, h⟩
def putO (st : St) (d : Option Nat) (c : AV) (K : St → Prop) : Prop :=
  match d with
  | none => K st
  | some d => forceA c (putS st d K)
/-- One operation; the slots as they were before it. -/
def stepH (s : Nat → AV) (d : Option Nat) (K : St → Prop) (c : AV) (st : St) : Prop :=
  match st with
  | ⟨_, h⟩ => putO ⟨s, h⟩ d c K
/-- Parts of own slices that get a new name, by the slots that they go to. -/
def trAt (tr : List Nat) (d : Option Nat) : Bool :=
  match tr with
  | [] => false
  | _ => match d with
    | some d => tr.any (Nat.beq d)
    | none => false
def evTr (G : Env) (st : St) (o : Op) (K : AV → St → Prop) : Prop :=
  match o with
  | .slice t x none (some hi) none => evTrunc G.T (G.T t) st (st.ev x) (st.ev hi) (forceK K)
  | .buildSlice t len ps => evBuildN G.T (G.T t) st len ps.toList (forceK K)
  | _ => False
def stepK (G : Env) (st : St) (o : Op) (d : Option Nat) (K : St → Prop) : Prop :=
  match st with
  | ⟨s, h⟩ => match trAt G.tr d with
    | true => evTr G ⟨s, h⟩ o (stepH s d K)
    | false => evOp G ⟨s, h⟩ o (stepH s d K)
theorem stepK_sound (hG : EnvOk P G) {o : Oper} {st : St} {K : St → Prop} (h : stepK G st o.op o.dst K) : EDoes P G.M o st (stepH st.s o.dst K) := by
  unfold stepK at h
  dsimp only at h
  split at h
  · unfold evTr at h
    split at h
    · rename_i ho
      rw [forceK_eq] at h
      exact edoes_trunc hG.T _ _ _ ho h
    · rename_i ho
      rw [forceK_eq] at h
      exact edoes_buildN hG.T _ _ _ ho h
    · exact h.elim
  · exact evOp_sound hG h
def evOps (G : Env) (ops : List Oper) : List Oper → St → (St → Prop) → Prop
  | [], st, K => K st
  | o :: rest, st, K => evGuard ops st o.guard (fun st => stepK G st o.op o.dst fun st'' => evOps G ops rest st'' K) (fun st => putO st o.dst (.v (.tuple #[])) fun st'' => evOps G ops rest st'' K)
def evQs (G : Env) (ops : List Oper) : List Oper → St → (St → Prop) → Prop
  | [], st, K => K st
  | o :: rest, st, K => evGuard ops st o.guard (fun st => evQ G st o.op fun c => putO st o.dst c fun st'' => evQs G ops rest st'' K) (fun st => putO st o.dst (.v (.tuple #[])) fun st'' => evQs G ops rest st'' K)

theorem SRV.putL {C : Ctx} {V : Nat → Info} {st : St} {a : Act} {w : World} (h : SRV C V st a w) {d : Nat} {b : Bool} (hb : a.tmps.getD d undef = .bool b) : SRV C V (putL st d b) a w :=
  h.retell (by rw [hb]; exact .imm _ _ (.v _))
theorem evGuard_sound {C : Ctx} {V : Nat → Info} {ops : List Oper} {st : St} {a : Act} {w : World} (h : SRV C V st a w) {o : Oper} {yes no : St → Prop} (hg : evGuard ops st o.guard yes no) :
    ∃ st', SRV C V st' a w ∧ ((Region.wanted o (yielded ops.toArray a.tmps) = true ∧ yes st') ∨ (Region.wanted o (yielded ops.toArray a.tmps) = false ∧ no st')) := by
  unfold evGuard at hg
  split at hg
  · rename_i e; exact ⟨st, h, .inl ⟨by simp [Region.wanted, e], hg⟩⟩
  · rename_i j want e
    unfold evGs at hg
    split at hg
    · rename_i e2
      refine ⟨st, h, .inr ⟨?_, hg⟩⟩
      simp [Region.wanted, e, yielded, e2]
    · rename_i d e2
      have e2' : (ops.toArray[j]?).bind (·.dst) = some d := by simpa using e2
      have hslot := h.slots d
      have hyield : ∀ b : Bool, a.tmps.getD d undef = .bool b → yielded ops.toArray a.tmps j = some b := fun b e4 => by
        have e5 : a.tmps[d]? = some (.bool b) := by
          rw [Array.getD_eq_getD_getElem?] at e4
          cases e6 : a.tmps[d]? with
          | none => rw [e6] at e4; simp [undef] at e4
          | some y => rw [e6] at e4; simp at e4; rw [e4]
        simp [yielded, e2, e5]
      have fin : ∀ (b : Bool) (st' : St), SRV C V st' a w → a.tmps.getD d undef = .bool b → (match b with | true => wantB want (yes st') (no st') | false => wantB want (no st') (yes st')) →
          ∃ st', SRV C V st' a w ∧ ((Region.wanted o (yielded ops.toArray a.tmps) = true ∧ yes st') ∨ (Region.wanted o (yielded ops.toArray a.tmps) = false ∧ no st')) := fun b st' hs hb hk => by
        have hy := hyield b hb
        refine ⟨st', hs, ?_⟩
        cases b <;> cases want
        · exact .inl ⟨by simp [Region.wanted, e, hy], hk⟩
        · exact .inr ⟨by simp [Region.wanted, e, hy], hk⟩
        · exact .inr ⟨by simp [Region.wanted, e, hy], hk⟩
        · exact .inl ⟨by simp [Region.wanted, e, hy], hk⟩
      unfold evG at hg
      split at hg
      · rename_i e3
        rw [e3] at hslot
        exact fin true st h hslot.v_inv hg
      · rename_i e3
        rw [e3] at hslot
        exact fin false st h hslot.v_inv hg
      · rename_i b e3
        rw [e3] at hslot
        have hb := b_inv (c := .bl b) rfl hslot
        cases b with
        | true => exact fin true _ (h.putL hb) hb (hg.1 rfl)
        | false => exact fin false _ (h.putL hb) hb (hg.2 rfl)
      · rename_i vs e3
        rw [e3] at hslot
        have e4 : a.tmps.getD d undef = .tuple vs := hslot.v_inv
        refine ⟨st, h, .inr ⟨?_, hg⟩⟩
        have e6 : yielded ops.toArray a.tmps j = none := by
          rw [Array.getD_eq_getD_getElem?] at e4
          unfold yielded
          rw [e2']
          cases e6 : a.tmps[d]? with
          | none => simp [e6]
          | some y => rw [e6] at e4; simp at e4; simp [e6, e4]
        simp [Region.wanted, e, e6]
      · exact hg.elim

theorem putO_sound {C : Ctx} {V : Nat → Info} {st : St} {a : Act} {w : World} (h : SRV C V st a w) {d : Option Nat} (hd : ∀ i, d = some i → i < C.n) {c : AV} {x : Value} {K : St → Prop} (hr : R w (Stb C.A w st.h V) V st.h.length c x) (hk : putO st d c K) :
    ∃ st', K st' ∧ SRV C V st' (a.put d x) w := by
  cases d with
  | none => exact ⟨st, hk, h⟩
  | some d =>
    unfold putO at hk
    simp only [forceA_eq] at hk
    rcases h.put (d := d) hr with h' | h'
    · exact ⟨_, hk, h'⟩
    · have := hd d rfl; omega

def dstOk (n : Nat) (l : List Oper) : Bool := l.all fun o => match o.dst with
  | none => true
  | some d => Nat.blt d n
theorem dstOk_take {n : Nat} {l : List Oper} (k : Nat) (h : dstOk n l = true) : dstOk n (l.take k) = true := by
  unfold dstOk at *
  rw [List.all_eq_true] at *
  exact fun o ho => h o (List.mem_of_mem_take ho)
theorem dstOk_drop {n : Nat} {l : List Oper} (k : Nat) (h : dstOk n l = true) : dstOk n (l.drop k) = true := by
  unfold dstOk at *
  rw [List.all_eq_true] at *
  exact fun o ho => h o (List.mem_of_mem_drop ho)
theorem dstOk_cons {n : Nat} {o : Oper} {l : List Oper} (h : dstOk n (o :: l) = true) : (∀ i, o.dst = some i → i < n) ∧ dstOk n l = true := by
  simp only [dstOk, List.all_cons, Bool.and_eq_true] at h
  refine ⟨fun i e => ?_, h.2⟩
  have h1 := h.1
  rw [e] at h1
  simpa [Nat.blt_eq] using h1

theorem evOps_sound (hG : EnvOk P G) {ops : List Oper} {K : St → Prop} {C : Ctx} {Q : Exit → Act → World → Prop} (hQ : ∀ st' V' a' w', K st' → SRV C V' st' a' w' → Q .normal a' w') :
    ∀ (l : List Oper), dstOk C.n l = true → ∀ (st : St) (V : Nat → Info) (a : Act) (w : World), SRV C V st a w → evOps G ops l st K → wpList P ops.toArray Q l a w
  | [], _, st, V, a, w, h, he => hQ st V a w he h
  | o :: rest, hd, st, V, a, w, h, he => by
    obtain ⟨hd1, hd2⟩ := dstOk_cons hd
    unfold evOps at he
    unfold wpList
    obtain ⟨st, h, ⟨hw, hy⟩ | ⟨hw, hn⟩⟩ := evGuard_sound h he
    · rw [if_pos hw]
      refine .inl (stepK_sound hG hy C V a w h _ _ ?_)
      intro c h' V' x w' hk hs hr _
      have hk : putO ⟨st.s, h'⟩ o.dst c (fun st'' => evOps G ops rest st'' K) := hk
      obtain ⟨st', hk', hs'⟩ := putO_sound hs hd1 hr hk
      exact evOps_sound hG hQ rest hd2 st' V' _ w' hs' hk'
    · rw [if_neg (by simp [hw])]
      obtain ⟨st', hk', hs'⟩ := putO_sound h hd1 (x := undef) (.imm _ _ (.v _)) hn
      exact evOps_sound hG hQ rest hd2 st' V _ w hs' hk'

theorem evQs_sound (hG : EnvOk P G) {ops : List Oper} {K : St → Prop} {C : Ctx} {V : Nat → Info} {w : World} {Q : Act → Prop} (hQ : ∀ st' a', K st' → SRV C V st' a' w → Q a') :
    ∀ (l : List Oper), dstOk C.n l = true → ∀ (st : St) (a : Act), SRV C V st a w → evQs G ops l st K → wpQuiet P ops.toArray (Below w.heap.size w) Q l a
  | [], _, st, a, h, he => hQ st a he h
  | o :: rest, hd, st, a, h, he => by
    obtain ⟨hd1, hd2⟩ := dstOk_cons hd
    unfold evQs at he
    unfold wpQuiet
    obtain ⟨st, h, ⟨hw, hy⟩ | ⟨hw, hn⟩⟩ := evGuard_sound h he
    · rw [if_pos hw]
      obtain ⟨c, x, hk, hr, hq⟩ := evQ_sound hG hy C V a w h
      refine ⟨x, hq, ?_⟩
      obtain ⟨st', hk', hs'⟩ := putO_sound h hd1 hr hk
      exact evQs_sound hG hQ rest hd2 st' _ hs' hk'
    · rw [if_neg (by simp [hw])]
      obtain ⟨st', hk', hs'⟩ := putO_sound h hd1 (x := undef) (.imm _ _ (.v _)) hn
      exact evQs_sound hG hQ rest hd2 st' _ hs' hk'

/-- In a drawn region ahead of what writes: operations on values. -/
def evSs (T : Nat → Option TI) (ops : List Oper) : List Oper → St → (St → Prop) → Prop
  | [], st, K => K st
  | o :: rest, st, K => evGuard ops st o.guard (fun st => evV T st o.op fun c => putO st o.dst c fun st'' => evSs T ops rest st'' K) (fun st => putO st o.dst (.v (.tuple #[])) fun st'' => evSs T ops rest st'' K)
theorem evSs_sound {T : Nat → Option TI} (hT : TOk P T) {ops : List Oper} {K : St → Prop} {C : Ctx} {V : Nat → Info} {w : World} {Q : Act → Prop} (hQ : ∀ st' a', K st' → SRV C V st' a' w → Q a') :
    ∀ (l : List Oper), dstOk C.n l = true → ∀ (st : St) (a : Act), SRV C V st a w → evSs T ops l st K → wpStill P ops.toArray w Q l a
  | [], _, st, a, h, he => hQ st a he h
  | o :: rest, hd, st, a, h, he => by
    obtain ⟨hd1, hd2⟩ := dstOk_cons hd
    unfold evSs at he
    unfold wpStill
    obtain ⟨st, h, ⟨hw, hy⟩ | ⟨hw, hn⟩⟩ := evGuard_sound h he
    · rw [if_pos hw]
      obtain ⟨c, x, hk, hr, hq⟩ := evV_sound hT hy C V a w h
      unfold Oper.still
      rw [hq w (Below.refl _ _), Oper.stillUpon_value]
      obtain ⟨st', hk', hs'⟩ := putO_sound h hd1 hr hk
      exact evSs_sound hT hQ rest hd2 st' _ hs' hk'
    · rw [if_neg (by simp [hw])]
      obtain ⟨st', hk', hs'⟩ := putO_sound h hd1 (x := undef) (.imm _ _ (.v _)) hn
      exact evSs_sound hT hQ rest hd2 st' _ hs' hk'
/-- What writes. -/
def effOp : Op → Bool
  | .store _ _ _ => true
  | .box _ _ => true
  | .alloc _ => true
  | .makeSlice _ _ _ => true
  | .buildSlice _ _ _ => true
  | .call ⟨.builtin .append, _, _⟩ => true
  | .call ⟨.builtin .clear, _, _⟩ => true
  | .makeMap _ _ => true
  | .mapUpdate _ _ _ _ => true
  | .insert _ _ _ _ => true
  | _ => false
def hasEff : List Oper → Bool
  | [] => false
  | o :: l => match effOp o.op with
    | true => true
    | false => hasEff l
def stopOp : Op → Bool
  | .call ⟨.value _, _, _⟩ => true
  | o => effOp o
def headN : List Oper → Nat
  | [] => 0
  | o :: l => match stopOp o.op with
    | true => 0
    | false => headN l + 1
/-- Values that hold memory. -/
def Ty.heapy : Ty → Bool
  | .sl _ => true
  | .st fs => heapys fs
  | _ => false
where
  heapys : List Ty → Bool
    | [] => false
    | t :: ts => Ty.heapy t || heapys ts
def tyHeap (i : Option TI) : Bool :=
  match i with
  | some ⟨some t, _, _, _, _, _, _, _, _, _, _⟩ => t.heapy
  | _ => false
/-- A text made into bytes. -/
def convB (T : Nat → Option TI) : Op → Bool
  | .convert s d _ => strSl T (T s) (T d)
  | _ => false
def hasConv (T : Nat → Option TI) : List Oper → Bool
  | [] => false
  | o :: l => match convB T o.op with
    | true => true
    | false => hasConv T l
def heavyOp (T : Nat → Option TI) (t : Nat) : Op → Bool
  | .call ⟨.value _, _, _⟩ => tyHeap (T t)
  | .convert s d x => convB T (.convert s d x)
  | o => effOp o
def hasEffT (T : Nat → Option TI) : List Oper → Bool
  | [] => false
  | o :: l => match heavyOp T o.type o.op with
    | true => true
    | false => hasEffT T l
/-- A condition without variables. -/
def KOb (p : Prop) : Prop := p
theorem KOb.mk {p : Prop} (h : p) : KOb p := h
/-! ### Every order that may come up -/
/-- What returns hangs on no world, and leaves it. -/
def WI {α : Type} (P : Program) (m : Sem α) : Prop := ∀ w r w1, m.run P w = .ok r w1 → w1 = w ∧ ∀ w', m.run P w' = .ok r w'
theorem WI.pure {α : Type} {P : Program} (a : α) : WI P (pure a : Sem α) := fun w r w1 h => by
  have h : Result.ok a w = .ok r w1 := h
  cases h
  exact ⟨rfl, fun _ => rfl⟩
theorem WI.halt {α : Type} {P : Program} (a : Halt) : WI P (Sem.halt a : Sem α) := fun w r w1 h => by
  have h : (Result.halt a w : Result α) = .ok r w1 := h
  cases h
theorem WI.bind {α β : Type} {P : Program} {m : Sem α} {f : α → Sem β} (h : WI P m) (hf : ∀ a, WI P (f a)) : WI P (m >>= f) := fun w r w1 e => by
  simp only [Sem.run_bind] at e ⊢
  cases hm : m.run P w with
  | halt a b => rw [hm] at e; cases e
  | ok a w2 =>
    rw [hm] at e
    obtain ⟨rfl, h2⟩ := h w a w2 hm
    obtain ⟨rfl, h3⟩ := hf a _ _ _ e
    refine ⟨rfl, fun w' => ?_⟩
    rw [h2 w']
    exact h3 w'
theorem WI.prog {P : Program} : WI P program := fun w r w1 h => by
  have h : Result.ok P w = .ok r w1 := h
  cases h
  exact ⟨rfl, fun _ => rfl⟩
theorem WI.map {α β : Type} {P : Program} {m : Sem α} {f : α → β} (h : WI P m) : WI P (f <$> m) := WI.bind (f := fun a => Pure.pure (f a)) h fun _ => .pure _
theorem WI.underlying {P : Program} (t : TypeId) : WI P (underlying t) := .bind .prog fun p => by
  split
  · exact .pure _
  · exact .halt _
theorem WI.sizeOf {P : Program} (t : TypeId) : WI P (sizeOf t) := .bind (.bind .prog fun p => by
  split
  · exact .pure _
  · exact .halt _) fun _ => .pure _
theorem WI.never {α : Type} {P : Program} {m : Sem α} (h : ∀ w r w1, m.run P w ≠ .ok r w1) : WI P m := fun w r w1 e => absurd e (h w r w1)
theorem boundsPanic_no {α : Type} {P : Program} (k : IntKind) (x y : Int) (c : BoundsCode) (w : World) (v : α) (w1 : World) : (boundsPanic k x y c : Sem α).run P w ≠ .ok v w1 := by
  intro h
  simp [boundsPanic, runtimePanic] at h
  repeat' split at h
  all_goals simp at h
theorem asIntOf_wi {P : Program} (i : Value) : WI P (asIntOf i) := by
  unfold asIntOf
  split
  · exact .pure _
  · exact .halt _
  · exact .halt _
theorem sureAddr_wi {P : Program} (i : Value) : WI P (Instr.sureAddr i) := by
  unfold Instr.sureAddr
  split
  · exact .pure _
  · exact .halt _
theorem indexTail_wi {P : Program} (t : TypeId) (k : IntKind) (n : Int) (q : Option Addr × Nat × TypeId) : WI P (do
      let __do_lift ← underlying t
      match q.fst with
        | some a =>
          if 0 ≤ n ∧ n < (q.2.fst : Int) then do
            let __do_lift ← sizeOf q.2.snd
            pure (Value.pointer (some (a.add (n.toNat * __do_lift))))
          else
            if (decide (q.2.fst ≤ 1) && match __do_lift with | TypeDesc.array .. => true | _ => false) = true then
              unsupported (Unsupported.noEntry "op/indexAddr.an index out of range at an array of length 0 or 1 (ledger 616)")
            else boundsPanic k n (q.2.fst : Int) BoundsCode.index
        | none => boundsPanic k n 0 BoundsCode.index) := by
  refine .bind (.underlying t) fun d => ?_
  split
  · split
    · exact .bind (.sizeOf _) fun _ => .pure _
    · repeat' split
      all_goals first
        | exact .halt _
        | exact .never (boundsPanic_no _ _ _ _)
  · exact .never (boundsPanic_no _ _ _ _)
theorem indexAt_wi {P : Program} (t : TypeId) (x i : Value) : WI P (Instr.indexAt t x i) := by
  unfold Instr.indexAt
  refine .bind (asIntOf_wi i) fun ⟨k, n⟩ => ?_
  dsimp only
  refine .bind (.underlying t) fun d => ?_
  split
  · exact .bind (sureAddr_wi _) fun _ => .bind (.pure _) fun _ => indexTail_wi t k n _
  · exact .bind (.pure _) fun _ => indexTail_wi t k n _
  · exact .bind (.halt _) fun _ => indexTail_wi t k n _
/-- Copies and places: what they leave hangs on no world. -/
def wiOp : Op → Bool
  | .move _ => true
  | .assign _ => true
  | .extract _ _ => true
  | .indexAddr _ _ _ => true
  | _ => false
/-- Operations whose value hangs on no world. -/
def wiOp2 : Op → Bool
  | .fieldAddr _ _ _ => true
  | o => wiOp o
theorem wi_run {P : Program} {o : Oper} {ev : Operand → Value} {v : Value} {w : World} (h : wiOp o.op = true) (hr : (execOp ev o).run P w = .ok (.value v) w) (w' : World) : (execOp ev o).run P w' = .ok (.value v) w' := by
  unfold wiOp at h
  split at h
  · rename_i ho; simp [execOp, ho] at hr ⊢; exact hr
  · rename_i ho; simp [execOp, ho] at hr ⊢; exact hr
  · rename_i x j ho
    simp only [execOp, ho, Instr.extract] at hr ⊢
    cases hx : ev x <;> simp [hx] at hr ⊢
    rename_i vs
    cases hv : vs[j]? <;> simp [hv] at hr ⊢
    exact hr
  · rename_i t x i ho
    have hw : WI P (execOp ev o) := by
      simp only [execOp, ho]
      exact .map (indexAt_wi t (ev x) (ev i))
    exact (hw _ _ _ hr).2 w'
  · cases h
theorem evV_wi {P : Program} {T : Nat → Option TI} (hT : TOk P T) {o : Oper} {st : St} {K : AV → Prop} (hw : wiOp2 o.op = true) (h : evV T st o.op K) : VDoesW P o st K := by
  unfold wiOp2 at hw
  split at hw
  · rename_i t x f ho
    rw [ho] at h
    exact vdoes_fieldAddrW hT _ _ _ ho h
  · intro C V a w hs
    obtain ⟨c, x, h1, h2, h3⟩ := evV_sound hT h C V a w hs
    exact ⟨c, x, h1, h2, fun w' => wi_run hw (h3 w (Below.refl _ _)) w'⟩
def bitArr (n m : Nat) : Array Bool := ((List.range n).map fun i => m.testBit i).toArray
def gBinds : Ground → Bool
  | .textOnly _ => false
  | .gcOnly _ => false
  | _ => true
def waitsB (m : Nat) : List Edge → Bool
  | [] => true
  | e :: l => match gBinds e.ground with
    | true => match m.testBit e.on with
      | true => waitsB m l
      | false => false
    | false => waitsB m l
def rdys (m : Nat) : Nat → List Oper → List (Nat × Oper)
  | _, [] => []
  | k, o :: l => match m.testBit k with
    | true => rdys m (k + 1) l
    | false => match waitsB m o.after.toList with
      | true => (k, o) :: rdys m (k + 1) l
      | false => rdys m (k + 1) l
theorem rdys_get (m : Nat) : ∀ (l : List Oper) (k : Nat) (x : Nat × Oper), x ∈ rdys m k l → ∃ j, x.1 = k + j ∧ l[j]? = some x.2
  | [], _, x, h => by simp [rdys] at h
  | o :: l, k, x, h => by
    have rec_ : x ∈ rdys m (k + 1) l → ∃ j, x.1 = k + j ∧ (o :: l)[j]? = some x.2 := fun h => by
      obtain ⟨j, h1, h2⟩ := rdys_get m l (k + 1) x h
      exact ⟨j + 1, by omega, by simpa using h2⟩
    unfold rdys at h
    split at h
    · exact rec_ h
    · split at h
      · rcases List.mem_cons.1 h with rfl | h
        · exact ⟨0, rfl, rfl⟩
        · exact rec_ h
      · exact rec_ h
def pickWI : List (Nat × Oper) → Option (Nat × Oper)
  | [] => none
  | (i, o) :: l => match o.guard with
    | none => match wiOp2 o.op with
      | true => some (i, o)
      | false => pickWI l
    | some _ => pickWI l
theorem pickWI_spec (l : List (Nat × Oper)) (x : Nat × Oper) (h : pickWI l = some x) : x ∈ l ∧ x.2.guard = none ∧ wiOp2 x.2.op = true := by
  induction l with
  | nil => simp [pickWI] at h
  | cons y l ih =>
    obtain ⟨i, o⟩ := y
    have rec_ : pickWI l = some x → x ∈ (i, o) :: l ∧ x.2.guard = none ∧ wiOp2 x.2.op = true := fun h => ⟨List.mem_cons_of_mem _ (ih h).1, (ih h).2⟩
    simp only [pickWI] at h
    split at h
    · rename_i hg
      split at h
      · rename_i hw; cases h; exact ⟨List.mem_cons_self, hg, hw⟩
      · exact rec_ h
    · exact rec_ h
def allR (p : Nat × Oper → Prop) : List (Nat × Oper) → Prop
  | [] => True
  | x :: l => p x ∧ allR p l
theorem allR_mem {p : Nat × Oper → Prop} (l : List (Nat × Oper)) (h : allR p l) (x : Nat × Oper) (hx : x ∈ l) : p x := by
  induction l with
  | nil => cases hx
  | cons y l ih =>
    rcases List.mem_cons.1 hx with e | hx
    · rw [e]; exact h.1
    · exact ih h.2 hx
theorem dstOk_mem {n : Nat} {l : List Oper} (h : dstOk n l = true) {o : Oper} (ho : o ∈ l) : dstOk n [o] = true := by
  unfold dstOk at *
  rw [List.all_eq_true] at *
  exact fun x hx => h x (by rw [List.mem_singleton.1 hx]; exact ho)
/-- What is checked at a step: the listed ones, those that may come up. -/
def stepB (l : List Oper) (m : Nat) (rs : List (Nat × Oper)) : Bool :=
  decide (Region.ready .any l.toArray (bitArr l.length m) = rs.map (·.1)) && rs.all fun x => decide ((bitArr l.length m).setIfInBounds x.1 true = bitArr l.length (m + 2 ^ x.1))
def takeB (l : List Oper) (m : Nat) (i : Nat) : Bool := Region.free .any l.toArray (bitArr l.length m) i && decide ((bitArr l.length m).setIfInBounds i true = bitArr l.length (m + 2 ^ i)) && (Region.ready .any l.toArray (bitArr l.length m)).contains i
/-! An operation on values may be taken first where all that may come up before it writes nothing that was there. -/
def wpAnyF (P : Program) (ops : Array Oper) (Q : Exit → Act → World → Prop) (B : Nat → Bool) : Nat → Array Bool → Act → World → Prop
  | 0, listed, a, w => Region.ready .any ops listed = [] ∧ Q .normal a w
  | fuel + 1, listed, a, w => (Region.ready .any ops listed = [] → Q .normal a w) ∧
    ∀ j ∈ Region.ready .any ops listed, wpOp P ops Q j (fun a' w' => (B j = true → Below w.heap.size w w') ∧ wpAnyF P ops Q B fuel (listed.setIfInBounds j true) a' w') a w
theorem wpAny_of_F {ops : Array Oper} {Q : Exit → Act → World → Prop} {B : Nat → Bool} : ∀ (fuel : Nat) (listed : Array Bool) (a : Act) (w : World), wpAnyF P ops Q B fuel listed a w → wpAny P .any ops Q fuel listed a w
  | 0, _, _, _, h => h
  | fuel + 1, _, _, _, h => ⟨h.1, fun i hi => wpOp_mono (fun a' w' h' => wpAny_of_F fuel _ a' w' h'.2) (h.2 i hi)⟩
theorem wpAnyF_done {ops : Array Oper} {Q : Exit → Act → World → Prop} {B : Nat → Bool} {listed : Array Bool} {a : Act} {w : World} (hr : Region.ready .any ops listed = []) (h : Q .normal a w) : ∀ fuel : Nat, wpAnyF P ops Q B fuel listed a w
  | 0 => ⟨hr, h⟩
  | _ + 1 => ⟨fun _ => h, fun i hi => by rw [hr] at hi; cases hi⟩
theorem wpAnyF_first {ops : Array Oper} {Q : Exit → Act → World → Prop} {B late : Nat → Bool} {S : World → Prop} {i : Nat} {oi : Oper} {v : Value} (hi : ops[i]? = some oi)
    (hsel : ∀ (j : Nat) (o : Oper) cs b, ops[j]? = some o → o.op ≠ .select cs b) (hQ : ∀ c a w, Q (.panic c) (a.put oi.dst v) w → Q (.panic c) a w)
    (hlate : ∀ j oj, ops[j]? = some oj → late j = true → ∃ e ∈ oj.after, Region.binds .any e = true ∧ (e.on = i ∨ late e.on = true)) :
    ∀ (fuel : Nat) (listed : Array Bool) (a : Act) (w : World), (∀ j, late j = true → listed.getD j false = false) →
      (∀ j oj, ops[j]? = some oj → j ≠ i → listed.getD j true = false → (∀ e ∈ oj.after, Region.binds .any e = true → e.on ≠ i) → oi.apart ops oj = true) →
      (∀ j oj, ops[j]? = some oj → j ≠ i → listed.getD j true = false → late j = false → ∀ w w', S w → (B j = true → Below w.heap.size w w') → S w') →
      i ∈ Region.ready .any ops listed → YieldsIf P ops S oi v a → S w →
      wpAnyF P ops Q B fuel (listed.setIfInBounds i true) (a.put oi.dst v) w → wpAnyF P ops Q B (fuel + 1) listed a w := by
  intro fuel
  induction fuel with
  | zero =>
    intro listed a w _ _ _ hr hy hS H
    refine ⟨fun h => (by rw [h] at hr; cases hr), fun j hj => ?_⟩
    by_cases hji : j = i
    · subst hji; exact hy.wpOp hi hS ⟨fun _ => Below.refl _ _, H⟩
    · have := ready_mono hj hji
      rw [H.1] at this
      cases this
  | succ fuel ih =>
    intro listed a w hun hfree hstep hr hy hS H
    refine ⟨fun h => (by rw [h] at hr; cases hr), fun j hj => ?_⟩
    by_cases hji : j = i
    · subst hji; exact hy.wpOp hi hS ⟨fun _ => Below.refl _ _, H⟩
    · have h1 := H.2 j (ready_mono hj hji)
      obtain ⟨hjun, oj, hoj, hall⟩ := mem_ready.1 hj
      have hnot : ∀ e ∈ oj.after, Region.binds .any e = true → e.on ≠ i := fun e he hb heq => by
        have h1 := hall e he hb
        have h0 := (mem_ready.1 hr).1
        rw [heq] at h1
        rcases Nat.lt_or_ge i listed.size with h' | h'
        · simp [h'] at h0 h1; rw [h0] at h1; cases h1
        · simp [Array.getElem?_eq_none h'] at h1
      have hearly : late j = false := by
        cases hl : late j with
        | false => rfl
        | true =>
          obtain ⟨e, he, hb, hor⟩ := hlate j oj hoj hl
          rcases hor with h' | h'
          · exact absurd h' (hnot e he hb)
          · have h2 := hall e he hb
            rw [hun _ h'] at h2; cases h2
      have h2 := wpOp_putIf hoj (hfree j oj hoj hji hjun hnot) (fun cs b => hsel i oi cs b hi) (fun cs b => hsel j oj cs b hoj) hQ hy h1
      have hfree' : ∀ k ok, ops[k]? = some ok → k ≠ i → (listed.setIfInBounds j true).getD k true = false →
          (∀ e ∈ ok.after, Region.binds .any e = true → e.on ≠ i) → oi.apart ops ok = true := fun k ok hk hki hu hno => by
        refine hfree k ok hk hki ?_ hno
        by_cases hjk : j = k
        · subst hjk; exact hjun
        · rw [getD_set_ne true hjk] at hu; exact hu
      have hstep' : ∀ k ok, ops[k]? = some ok → k ≠ i → (listed.setIfInBounds j true).getD k true = false → late k = false → ∀ w w', S w → (B k = true → Below w.heap.size w w') → S w' := fun k ok hk hki hu hl => by
        refine hstep k ok hk hki ?_ hl
        by_cases hjk : j = k
        · subst hjk; exact hjun
        · rw [getD_set_ne true hjk] at hu; exact hu
      have hun' : ∀ k, late k = true → (listed.setIfInBounds j true).getD k false = false := fun k hk => by
        have hne : j ≠ k := fun e => by rw [e, hk] at hearly; cases hearly
        rw [getD_set_ne false hne]; exact hun k hk
      refine wpOp_mono (fun a' w' h3 => ⟨h3.2.1, ih (listed.setIfInBounds j true) a' w' hun' hfree' hstep' (ready_mono hr (Ne.symm hji)) h3.1 (hstep j oj hoj hji hjun hearly w w' hS h3.2.1) ?_⟩) h2
      rw [Array.setIfInBounds_comm _ _ hji]
      exact h3.2.2
def hitsE (L : List Nat) : List Edge → Bool
  | [] => false
  | e :: es => match gBinds e.ground with
    | true => match L.any (Nat.beq e.on) with
      | true => true
      | false => hitsE L es
    | false => hitsE L es
theorem hitsE_out {L : List Nat} : ∀ {es : List Edge}, hitsE L es = true → ∃ e ∈ es, Region.binds .any e = true ∧ e.on ∈ L
  | [], h => by simp [hitsE] at h
  | e :: es, h => by
    have rec_ : hitsE L es = true → ∃ e' ∈ e :: es, Region.binds .any e' = true ∧ e'.on ∈ L := fun h => by
      obtain ⟨e', h1, h2⟩ := hitsE_out h
      exact ⟨e', List.mem_cons_of_mem _ h1, h2⟩
    unfold hitsE at h
    split at h
    · rename_i hg
      split at h
      · rename_i ha
        refine ⟨e, List.mem_cons_self, ?_, ?_⟩
        · unfold gBinds at hg; unfold Region.binds
          split at hg <;> simp_all
        · obtain ⟨x, hx, hb⟩ := List.any_eq_true.1 ha
          rw [Nat.eq_of_beq_eq_true hb]; exact hx
      · exact rec_ h
    · exact rec_ h
/-- Who waits for one of L, or for one that does. -/
def lateP : List Nat → Nat → List Oper → List Nat
  | L, _, [] => L
  | L, k, o :: l => match hitsE L o.after.toList with
    | true => lateP (k :: L) (k + 1) l
    | false => lateP L (k + 1) l
theorem bitArr_getD {n m k : Nat} (d : Bool) (hk : k < n) : (bitArr n m).getD k d = m.testBit k := by
  simp [bitArr, hk]
/-! ### A slice without room -/
def zeroS : Op → Bool
  | .buildSlice _ 0 ⟨[]⟩ => true
  | _ => false
def dstIs (t : Nat) : Option Nat → Bool
  | some d => Nat.beq d t
  | none => false
theorem dstIs_out {t : Nat} {d : Option Nat} (h : dstIs t d = true) : d = some t := by
  unfold dstIs at h
  split at h
  · rw [Nat.eq_of_beq_eq_true h]
  · cases h
/-- Whatever is put at t is a slice without room. -/
def zeroAt (t : Nat) : List Oper → Bool
  | [] => true
  | o :: l => match dstIs t o.dst with
    | false => zeroAt t l
    | true => match o.guard with
      | some _ => false
      | none => match zeroS o.op with
        | true => zeroAt t l
        | false => false
theorem zeroAt_out {t : Nat} : ∀ {l : List Oper}, zeroAt t l = true → ∀ o ∈ l, o.dst = some t → o.guard = none ∧ zeroS o.op = true
  | [], _, o, ho, _ => by cases ho
  | o' :: l, h, o, ho, hd => by
    unfold zeroAt at h
    split at h
    · rename_i hd'
      rcases List.mem_cons.1 ho with rfl | ho
      · rw [hd] at hd'; simp [dstIs] at hd'
      · exact zeroAt_out h o ho hd
    · split at h
      · cases h
      · rename_i hg
        split at h
        · rename_i hz
          rcases List.mem_cons.1 ho with rfl | ho
          · exact ⟨hg, hz⟩
          · exact zeroAt_out h o ho hd
        · cases h
def waitsOn (t : Nat) (es : List Edge) : Nat → List Oper → Bool
  | _, [] => false
  | k, o :: l => match dstIs t o.dst with
    | false => waitsOn t es (k + 1) l
    | true => match hitsE [k] es with
      | true => true
      | false => waitsOn t es (k + 1) l
theorem waitsOn_out {t : Nat} {es : List Edge} : ∀ {l : List Oper} {k : Nat}, waitsOn t es k l = true → ∃ j o, l[j]? = some o ∧ o.dst = some t ∧ ∃ e ∈ es, Region.binds .any e = true ∧ e.on = k + j
  | [], _, h => by cases h
  | o :: l, k, h => by
    have rec_ : waitsOn t es (k + 1) l = true → ∃ j o', (o :: l)[j]? = some o' ∧ o'.dst = some t ∧ ∃ e ∈ es, Region.binds .any e = true ∧ e.on = k + j := fun h => by
      obtain ⟨j, o', h1, h2, e, h3, h4, h5⟩ := waitsOn_out h
      exact ⟨j + 1, o', by simpa using h1, h2, e, h3, h4, by omega⟩
    unfold waitsOn at h
    split at h
    · exact rec_ h
    · rename_i hd
      split at h
      · rename_i hh
        obtain ⟨e, h1, h2, h3⟩ := hitsE_out hh
        exact ⟨0, o, rfl, dstIs_out hd, e, h1, h2, by simpa using h3⟩
      · exact rec_ h
def appT : Op → Option Nat
  | .call ⟨.builtin .append, ⟨.tmp t :: _⟩, _⟩ => some t
  | _ => none
theorem appT_out {o : Op} {t : Nat} (h : appT o = some t) : ∃ l ts, o = .call ⟨.builtin .append, ⟨.tmp t :: l⟩, ts⟩ := by
  unfold appT at h
  split at h
  · cases h; exact ⟨_, _, rfl⟩
  · cases h
/-- An append to a slice that was made without room in the same region. -/
def freshA (l : List Oper) (o : Oper) : Bool :=
  match appT o.op with
  | none => false
  | some t => match zeroAt t l with
    | false => false
    | true => waitsOn t o.after.toList 0 l
def belF (M : Nat → List Bool) (l : List Oper) (o : Oper) : Bool :=
  match belB M o.op with
  | true => true
  | false => freshA l o
/-- What holds of the slots that are made so. -/
def ZeroI (l : List Oper) (m : Nat) (a : Act) : Prop := ∀ t, zeroAt t l = true → ∀ j o, l[j]? = some o → o.dst = some t → m.testBit j = true → ∃ ad n, a.tmps.getD t undef = .slice ad n 0
theorem wp_zero {o : Oper} {a : Act} {w : World} {K : Act → World → Prop} {Q : Exit → Act → World → Prop} (hd : ∀ t, o.dst = some t → t < a.tmps.size)
    (h : o.wp P a w (fun a' w' => (zeroS o.op = true → ∀ t, o.dst = some t → ∃ ad n, a'.tmps.getD t undef = .slice ad n 0) → K a' w') Q) : o.wp P a w K Q := by
  cases hz : zeroS o.op with
  | false => exact Oper.wp_mono (fun a' w' hk => hk (fun e => by rw [hz] at e; cases e)) h
  | true =>
    unfold zeroS at hz
    split at hz
    · rename_i t ho
      unfold Oper.wp at h ⊢
      have key : ∀ r, (execOp a.eval o).run P w = r → (∃ ad w', r = .ok (.value (.slice ad 0 0)) w') ∨ ∃ x w', r = .halt x w' := by
        intro r hr
        subst hr
        unfold execOp
        simp only [ho]
        unfold Instr.buildSlice
        cases hu : P.underlying t with
        | none => right; simp [underlying, hu, stuck]
        | some d =>
          cases d <;> try (right; simp [run_underlying hu, stuck]; done)
          rename_i e
          cases hi : P.info? e with
          | none => right; simp [run_underlying hu, sizeOf, typeInfo, hi, stuck]
          | some i => left; simp [run_underlying hu, sizeOf, typeInfo, hi, Instr.fill, newRow]
      rcases key _ rfl with ⟨ad, w', hr⟩ | ⟨x, w', hr⟩
      · rw [hr] at h ⊢
        rw [Oper.upon_value] at h ⊢
        refine h (fun _ t ht => ⟨ad, 0, ?_⟩)
        simp [Act.put, ht, hd t ht]
      · rw [hr] at h ⊢
        cases x <;> simp only [Oper.upon] at h ⊢ <;> exact h
    · cases hz
theorem ZeroI.step {l : List Oper} {m : Nat} {a a' : Act} {x : Nat} {o : Oper} {v : Value} (h : ZeroI l m a) (hx : l[x]? = some o) (hset : (bitArr l.length m).setIfInBounds x true = bitArr l.length (m + 2 ^ x)) (ha : a' = a.put o.dst v)
    (hz : o.guard = none → zeroS o.op = true → ∀ t, o.dst = some t → ∃ ad n, a'.tmps.getD t undef = .slice ad n 0) : ZeroI l (m + 2 ^ x) a' := by
  intro t ht j oj hj hd hb
  by_cases hox : o.dst = some t
  · obtain ⟨h1, h2⟩ := zeroAt_out ht o (List.mem_of_getElem? hx) hox
    exact hz h1 h2 t hox
  · have hjx : j ≠ x := fun e => by subst e; rw [hx] at hj; cases hj; exact hox hd
    have hjl := (List.getElem?_eq_some_iff.1 hj).1
    have hm : m.testBit j = true := by
      have h1 : ((bitArr l.length m).setIfInBounds x true).getD j false = (bitArr l.length (m + 2 ^ x)).getD j false := by rw [hset]
      rw [getD_set_ne false (Ne.symm hjx), bitArr_getD _ hjl, bitArr_getD _ hjl, hb] at h1
      exact h1
    obtain ⟨ad, n, e⟩ := h t ht j oj hj hd hm
    refine ⟨ad, n, ?_⟩
    rw [ha, ← e]
    unfold Act.put
    split
    · rename_i d hdd
      have : d ≠ t := fun e => hox (by rw [hdd, e])
      simp [Array.getD_eq_getD_getElem?, Array.getElem?_setIfInBounds_ne this]
    · rfl
theorem ZeroI.cap {M : Nat → List Bool} {l : List Oper} {m : Nat} {a : Act} {o : Oper} (h : ZeroI l m a) (hall : ∀ e ∈ o.after, Region.binds .any e = true → (bitArr l.length m).getD e.on false = true) (hb : belF M l o = true) : belA M o.op a := by
  unfold belF at hb
  split at hb
  · rename_i hq; exact .inl hq
  · unfold freshA at hb
    split at hb
    · cases hb
    · rename_i t ht
      split at hb
      · cases hb
      · rename_i hz
        obtain ⟨j, oj, hj, hd, e, he, heb, heo⟩ := waitsOn_out hb
        have hjl := (List.getElem?_eq_some_iff.1 hj).1
        have h1 := hall e (by simpa using he) heb
        rw [heo, Nat.zero_add, bitArr_getD _ hjl] at h1
        obtain ⟨ad, n, hv⟩ := h t hz j oj hj hd h1
        obtain ⟨az, ts, ho⟩ := appT_out ht
        exact .inr ⟨_, _, _, ad, n, ho, hv⟩
/-- All others write nothing that was there. -/
def lateOk (B : Oper → Bool) (m i : Nat) (L : List Nat) : Nat → List Oper → Bool
  | _, [] => true
  | k, o :: l => match Nat.beq k i with
    | true => lateOk B m i L (k + 1) l
    | false => match L.any (Nat.beq k) with
      | true => match hitsE L o.after.toList with
        | true => match m.testBit k with
          | true => false
          | false => lateOk B m i L (k + 1) l
        | false => false
      | false => match m.testBit k with
        | true => lateOk B m i L (k + 1) l
        | false => match B o with
          | true => lateOk B m i L (k + 1) l
          | false => false
theorem any_beq {L : List Nat} {k : Nat} : L.any (Nat.beq k) = true ↔ k ∈ L := by
  rw [List.any_eq_true]
  constructor
  · rintro ⟨x, hx, hb⟩; rw [Nat.eq_of_beq_eq_true hb]; exact hx
  · exact fun h => ⟨k, h, Nat.beq_refl k⟩
theorem lateOk_out {B : Oper → Bool} {m i : Nat} {L : List Nat} : ∀ {l : List Oper} {k : Nat}, lateOk B m i L k l = true → ∀ j o, l[j]? = some o → k + j ≠ i →
    (k + j ∈ L → hitsE L o.after.toList = true ∧ m.testBit (k + j) = false) ∧ (k + j ∉ L → m.testBit (k + j) = true ∨ B o = true)
  | [], k, h, j, o, e, _ => by simp at e
  | o' :: l, k, h, j, o, e, hne => by
    have rec_ : lateOk B m i L (k + 1) l = true → ∀ j', j = j' + 1 → (k + j ∈ L → hitsE L o.after.toList = true ∧ m.testBit (k + j) = false) ∧ (k + j ∉ L → m.testBit (k + j) = true ∨ B o = true) := fun h j' hj => by
      subst hj
      have := lateOk_out h j' o (by simpa using e) (by omega)
      rw [show k + 1 + j' = k + (j' + 1) by omega] at this
      exact this
    have zero : j = 0 → o' = o := fun hj => by subst hj; simpa using e
    unfold lateOk at h
    split at h
    · rename_i hb
      have := Nat.eq_of_beq_eq_true hb
      cases j with
      | zero => exact absurd (by omega) hne
      | succ j => exact rec_ h j rfl
    · split at h
      · rename_i hL
        split at h
        · rename_i hh
          split at h
          · cases h
          · rename_i ht
            cases j with
            | zero =>
              obtain rfl := zero rfl
              exact ⟨fun _ => ⟨hh, by simpa using ht⟩, fun hn => absurd (any_beq.1 hL) (by simpa using hn)⟩
            | succ j => exact rec_ h j rfl
        · cases h
      · rename_i hL
        have hL : k ∉ L := fun hk => by rw [any_beq.2 hk] at hL; cases hL
        split at h
        · rename_i ht
          cases j with
          | zero => exact ⟨fun hk => absurd hk (by simpa using hL), fun _ => .inl (by simpa using ht)⟩
          | succ j => exact rec_ h j rfl
        · split at h
          · rename_i hb
            cases j with
            | zero =>
              obtain rfl := zero rfl
              exact ⟨fun hk => absurd hk (by simpa using hL), fun _ => .inr hb⟩
            | succ j => exact rec_ h j rfl
          · cases h
def pickV (T : Nat → Option TI) (M : Nat → List Bool) (l : List Oper) (m : Nat) : List (Nat × Oper) → Option (Nat × Oper)
  | [] => none
  | (i, o) :: r => match o.guard with
    | none => match stopOp o.op with
      | true => pickV T M l m r
      | false => match convB T o.op with
        | true => pickV T M l m r
        | false => match lateOk (belF M l) m i (lateP [i] 0 l) 0 l with
          | true => some (i, o)
          | false => pickV T M l m r
    | some _ => pickV T M l m r
theorem pickV_spec {T : Nat → Option TI} {M : Nat → List Bool} {l : List Oper} {m : Nat} (r : List (Nat × Oper)) (x : Nat × Oper) (h : pickV T M l m r = some x) : x ∈ r ∧ x.2.guard = none ∧ stopOp x.2.op = false ∧ lateOk (belF M l) m x.1 (lateP [x.1] 0 l) 0 l = true := by
  induction r with
  | nil => simp [pickV] at h
  | cons y r ih =>
    obtain ⟨i, o⟩ := y
    have rec_ : pickV T M l m r = some x → x ∈ (i, o) :: r ∧ x.2.guard = none ∧ stopOp x.2.op = false ∧ lateOk (belF M l) m x.1 (lateP [x.1] 0 l) 0 l = true := fun h => ⟨List.mem_cons_of_mem _ (ih h).1, (ih h).2⟩
    simp only [pickV] at h
    split at h
    · rename_i hg
      split at h
      · exact rec_ h
      · rename_i hst
        split at h
        · exact rec_ h
        · split at h
          · rename_i hl; cases h; exact ⟨List.mem_cons_self, hg, hst, hl⟩
          · exact rec_ h
    · exact rec_ h
theorem bitArr_big {n m k : Nat} (d : Bool) (hk : n ≤ k) : (bitArr n m).getD k d = d := by
  have : (bitArr n m).size = n := by simp [bitArr]
  simp [Array.getD_eq_getD_getElem?, Array.getElem?_eq_none (by omega : (bitArr n m).size ≤ k)]
def evAny (G : Env) (l : List Oper) : Nat → Nat → St → (St → Prop) → Prop
  | 0, m, st, K => KOb (stepB l m [] = true) ∧ K st
  | f + 1, m, st, K =>
    match pickWI (rdys m 0 l) with
    | some (i, o) => KOb (takeB l m i = true) ∧ evV G.T st o.op fun c => putO st o.dst c fun st'' => evAny G l f (m + 2 ^ i) st'' K
    | none => match pickV G.T G.M l m (rdys m 0 l) with
      | some (i, o) => KOb (takeB l m i = true) ∧ evV G.T st o.op fun c => putO st o.dst c fun st'' => evAny G l f (m + 2 ^ i) st'' K
      | none => match rdys m 0 l with
        | [] => KOb (stepB l m [] = true) ∧ K st
        | rs => KOb (stepB l m rs = true) ∧ allR (fun x => evGuard l st x.2.guard (fun st => stepK G st x.2.op x.2.dst fun st'' => evAny G l f (m + 2 ^ x.1) st'' K) (fun st => putO st x.2.dst (.v (.tuple #[])) fun st'' => evAny G l f (m + 2 ^ x.1) st'' K)) rs
abbrev belAt (M : Nat → List Bool) (l : List Oper) (j : Nat) : Bool :=
  match l[j]? with
  | some o => belF M l o
  | none => false
theorem evAny_soundF (hG : EnvOk P G) {l : List Oper} (hsel : Region.noSelect l.toArray = true) {K : St → Prop} {C : Ctx} {Q : Exit → Act → World → Prop} (hp : ∀ c a w, ¬ Q (.panic c) a w) (hQ : ∀ st' V' a' w', K st' → SRV C V' st' a' w' → Q .normal a' w') (hd : dstOk C.n l = true) :
    ∀ (f m : Nat) (st : St) (V : Nat → Info) (a : Act) (w : World), SRV C V st a w → ZeroI l m a → evAny G l f m st K → wpAnyF P l.toArray Q (belAt G.M l) f (bitArr l.length m) a w
  | 0, m, st, V, a, w, h, _, he => by
    obtain ⟨hb, hk⟩ := he
    have hb : stepB l m [] = true := hb
    simp only [stepB, Bool.and_eq_true, decide_eq_true_eq] at hb
    exact ⟨hb.1, hQ st V a w hk h⟩
  | f + 1, m, st, V, a, w, h, hJ, he => by
    have hdst : ∀ x : Nat × Oper, l[x.1]? = some x.2 → dstOk C.n [x.2] = true := fun x hx => dstOk_mem hd (List.mem_of_getElem? hx)
    unfold evAny at he
    split at he
    · rename_i i o hpick
      obtain ⟨hmem, hg, hw⟩ := pickWI_spec _ _ hpick
      have hg : o.guard = none := hg
      obtain ⟨j, hj, hget⟩ := rdys_get m l 0 _ hmem
      have hj : i = j := by simpa using hj
      subst hj
      have hget : l[i]? = some o := hget
      obtain ⟨hb, he⟩ := he
      have hb : takeB l m i = true := hb
      simp only [takeB, Bool.and_eq_true, decide_eq_true_eq] at hb
      obtain ⟨⟨hf, hs⟩, hr⟩ := hb
      obtain ⟨c, x, hk, hrr, hrun⟩ := evV_wi hG.T hw he C V a w h
      obtain ⟨st', hk', hs'⟩ := putO_sound h (dstOk_cons (hdst (i, o) hget)).1 hrr hk
      have hi : l.toArray[i]? = some o := by simpa using hget
      refine wpAnyF_first (v := x) (S := fun _ => True) (late := fun _ => false) hi (Region.noSelect_spec hsel) (fun c a w hq => absurd hq (hp _ _ _)) (fun _ _ _ e => by cases e) f _ a w (fun _ e => by cases e) (Region.free_spec hi hf) (fun _ _ _ _ _ _ _ _ _ _ => trivial) (by simpa using hr)
        (.inl ⟨by simp [Region.wanted, hg], fun w' _ => hrun w'⟩) trivial ?_
      rw [hs]
      exact evAny_soundF hG hsel hp hQ hd f _ st' V _ w hs' (hJ.step hget hs rfl fun _ e => by unfold wiOp2 at hw; unfold zeroS at e; split at e <;> simp_all [wiOp]) hk'
    · split at he
      · rename_i i o hpick
        obtain ⟨hmem, hg, hst, hlo⟩ := pickV_spec _ _ hpick
        have hst : stopOp o.op = false := hst
        have hg : o.guard = none := hg
        obtain ⟨j, hj, hget⟩ := rdys_get m l 0 _ hmem
        have hj : i = j := by simpa using hj
        subst hj
        have hget : l[i]? = some o := hget
        have hlo : lateOk (belF G.M l) m i (lateP [i] 0 l) 0 l = true := hlo
        obtain ⟨hb, he⟩ := he
        have hb : takeB l m i = true := hb
        simp only [takeB, Bool.and_eq_true, decide_eq_true_eq] at hb
        obtain ⟨⟨hf, hs⟩, hr⟩ := hb
        obtain ⟨c, x, hk, hrr, hrun⟩ := evV_sound hG.T he C V a w h
        obtain ⟨st', hk', hs'⟩ := putO_sound h (dstOk_cons (hdst (i, o) hget)).1 hrr hk
        have hi : l.toArray[i]? = some o := by simpa using hget
        have hlt : i < l.length := (List.getElem?_eq_some_iff.1 hget).1
        refine wpAnyF_first (v := x) (S := fun w' => Below w.heap.size w w') (late := fun j => decide (j ≠ i ∧ j < l.length ∧ j ∈ lateP [i] 0 l)) hi (Region.noSelect_spec hsel) (fun c a w hq => absurd hq (hp _ _ _))
          (fun j oj hj hl => ?_) f _ a w (fun j hl => ?_) (Region.free_spec hi hf) (fun j oj hj hji hun hl w1 w2 h1 h2 => ?_) (by simpa using hr)
          (.inl ⟨by simp [Region.wanted, hg], fun w' hw' => hrun w' hw'⟩) (Below.refl _ _) ?_
        · obtain ⟨h1, h2, h3⟩ := of_decide_eq_true hl
          have hj : l[j]? = some oj := by simpa using hj
          have := (lateOk_out hlo j oj hj (by omega)).1 (by simpa using h3)
          obtain ⟨e, he1, he2, he3⟩ := hitsE_out this.1
          refine ⟨e, by simpa using he1, he2, ?_⟩
          by_cases hei : e.on = i
          · exact .inl hei
          · right
            refine decide_eq_true ⟨hei, ?_, he3⟩
            have hsub : ∀ (l' : List Oper) (L : List Nat) (k : Nat) (z : Nat), z ∈ lateP L k l' → z ∈ L ∨ z < k + l'.length := by
              intro l'
              induction l' with
              | nil => intro L k z hz; exact .inl (by simpa [lateP] using hz)
              | cons o l' ih =>
                intro L k z hz
                unfold lateP at hz
                split at hz
                · rcases ih _ _ _ hz with h' | h'
                  · rcases List.mem_cons.1 h' with h' | h'
                    · right; simp; omega
                    · exact .inl h'
                  · right; simp; omega
                · rcases ih _ _ _ hz with h' | h'
                  · exact .inl h'
                  · right; simp; omega
            rcases hsub l [i] 0 e.on he3 with h' | h'
            · exact absurd (by simpa using h') hei
            · simpa using h'
        · obtain ⟨h1, h2, h3⟩ := of_decide_eq_true hl
          have := (lateOk_out hlo j l[j] (List.getElem?_eq_getElem h2) (by omega)).1 (by simpa using h3)
          rw [bitArr_getD _ h2]
          simpa using this.2
        · have hj : l[j]? = some oj := by simpa using hj
          have hjl := (List.getElem?_eq_some_iff.1 hj).1
          rw [bitArr_getD _ hjl] at hun
          have hn : j ∉ lateP [i] 0 l := fun hm => by
            have := of_decide_eq_false hl
            exact this ⟨hji, hjl, hm⟩
          have := (lateOk_out hlo j oj hj (by omega)).2 (by simpa using hn)
          rw [Nat.zero_add, hun] at this
          have hB : belAt G.M l j = true := by
            unfold belAt; rw [hj]; exact this.resolve_left (by simp)
          exact h1.trans ((h2 hB).mono h1.size)
        · rw [hs]
          exact evAny_soundF hG hsel hp hQ hd f _ st' V _ w hs' (hJ.step hget hs rfl fun _ e => by unfold zeroS at e; split at e <;> simp_all [stopOp, effOp]) hk'
      · split at he
        · obtain ⟨hb, hk⟩ := he
          have hb : stepB l m [] = true := hb
          simp only [stepB, Bool.and_eq_true, decide_eq_true_eq] at hb
          exact wpAnyF_done hb.1 (hQ st V a w hk h) _
        · rename_i rs hne
          obtain ⟨hb, hall⟩ := he
          have hb : stepB l m (rdys m 0 l) = true := hb
          simp only [stepB, Bool.and_eq_true, decide_eq_true_eq, List.all_eq_true] at hb
          refine ⟨fun h0 => ?_, fun i hi => ?_⟩
          · rw [hb.1] at h0
            exact absurd (List.map_eq_nil_iff.1 h0) (by simpa using hne)
          have hrdy := hi
          rw [hb.1] at hi
          obtain ⟨x, hx, rfl⟩ := List.mem_map.1 hi
          obtain ⟨j, hj, hget⟩ := rdys_get m l 0 x hx
          have hget : l[x.1]? = some x.2 := by rw [hj]; simpa using hget
          have hstep := allR_mem _ hall x hx
          have hset := hb.2 x hx
          obtain ⟨hd1, _⟩ := dstOk_cons (hdst x hget)
          unfold wpOp
          rw [show l.toArray[x.1]? = some x.2 by simpa using hget]
          simp only [hset]
          have hbel : belAt G.M l x.1 = belF G.M l x.2 := by unfold belAt; rw [hget]
          obtain ⟨_, ox, hox, hall2⟩ := mem_ready.1 hrdy
          rw [show l.toArray[x.1]? = some x.2 by simpa using hget] at hox; cases hox
          obtain ⟨st2, h2, ⟨hw, hy⟩ | ⟨hw, hn⟩⟩ := evGuard_sound h hstep
          · rw [if_pos hw]
            refine .inl (wp_zero (fun t ht => by rw [h.size]; exact hd1 t ht) (stepK_sound hG hy C V a w h2 _ _ ?_))
            intro c h' V' y w' hk hs hr hbl hzz
            have hk : putO ⟨st2.s, h'⟩ x.2.dst c (fun st'' => evAny G l f (m + 2 ^ x.1) st'' K) := hk
            obtain ⟨st', hk', hs'⟩ := putO_sound hs hd1 hr hk
            exact ⟨fun e => hbl (hJ.cap hall2 (hbel ▸ e)), evAny_soundF hG hsel hp hQ hd f _ st' V' _ w' hs' (hJ.step hget hset rfl fun _ e t ht => hzz e t ht) hk'⟩
          · rw [if_neg (by simp [hw])]
            obtain ⟨st', hk', hs'⟩ := putO_sound h2 hd1 (x := undef) (.imm _ _ (.v _)) hn
            exact ⟨fun _ => Below.refl _ _, evAny_soundF hG hsel hp hQ hd f _ st' V _ w hs' (hJ.step hget hset rfl fun e => by rw [Region.wanted, e] at hw; simp at hw) hk'⟩
theorem evAny_sound (hG : EnvOk P G) {l : List Oper} (hsel : Region.noSelect l.toArray = true) {K : St → Prop} {C : Ctx} {Q : Exit → Act → World → Prop} (hp : ∀ c a w, ¬ Q (.panic c) a w) (hQ : ∀ st' V' a' w', K st' → SRV C V' st' a' w' → Q .normal a' w') (hd : dstOk C.n l = true)
    (f m : Nat) (st : St) (V : Nat → Info) (a : Act) (w : World) (h : SRV C V st a w) (hJ : ZeroI l m a) (he : evAny G l f m st K) : wpAny P .any l.toArray Q f (bitArr l.length m) a w :=
  wpAny_of_F _ _ _ _ (evAny_soundF hG hsel hp hQ hd f m st V a w h hJ he)
def edgeTo (k : Nat) : List Edge → Bool
  | [] => false
  | e :: l => match gBinds e.ground with
    | true => match Nat.beq e.on k with
      | true => true
      | false => edgeTo k l
    | false => edgeTo k l
def anyTo (k : Nat) : List Oper → Bool
  | [] => false
  | o :: l => match edgeTo k o.after.toList with
    | true => true
    | false => anyTo k l
/-- Each of the first n has one behind it, up to number n, that waits for it. -/
def sinkL (n : Nat) : Nat → List Oper → Bool
  | _, [] => true
  | k, _ :: l => match Nat.blt k n with
    | true => match anyTo k (l.take (n - k)) with
      | true => sinkL n (k + 1) l
      | false => false
    | false => true
/-- Which walk a region is given. 0: nothing writes; 1: what reads comes first, then one order; 2: every order. -/
def drawMode (T : Nat → Option TI) (l : List Oper) : Nat :=
  match hasEffT T l with
  | false => 0
  | true => match hasConv T l with
    | true => 2
    | false => match sinkL (headN l) 0 l with
      | true => match tailish (l.length - headN l) (2 ^ headN l - 1) (headN l) (l.drop (headN l)) with
        | true => 1
        | false => 2
      | false => 2
where
  /-- From here on just one may come up, each time. -/
  tailish : Nat → Nat → Nat → List Oper → Bool
    | 0, _, _, _ => true
    | f + 1, m, k, rest => match rdys m 0 l with
      | [(i, _)] => match Nat.beq i k with
        | true => tailish f (m + 2 ^ i) (k + 1) rest
        | false => false
      | _ => false
def evDraw (G : Env) (l : List Oper) (st : St) (K : St → Prop) : Prop :=
  match drawMode G.T l with
  | 0 => KOb (Region.lexB .any l.toArray = true) ∧ evQs G l l st K
  | 1 => KOb (Region.lexTailB .any l.toArray (headN l) = true) ∧ evSs G.T l (l.take (headN l)) st fun st' => evOps G l (l.drop (headN l)) st' K
  | _ => KOb (Region.noSelect l.toArray = true) ∧ evAny G l l.length 0 st K

/-! ### Code -/
def seqQ (f : St → Prop) (Q : Exit → St → Prop) : Exit → St → Prop
  | .normal, st => f st
  | e, st => Q e st
def blockQ (id : Nat) (Q : Exit → St → Prop) : Exit → St → Prop
  | .exit id', st => match Nat.beq id' id with
    | true => Q .normal st
    | false => Q (.exit id') st
  | e, st => Q e st
def liftQ (C : Ctx) (Q : Exit → St → Prop) (e : Exit) (a : Act) (w : World) : Prop := ∃ st V, Q e st ∧ SRV C V st a w
/-- A loop, by what it does (no evaluation). m: how many names the call began with. -/
def loopwp (P : Program) (n m : Nat) (body : Code) (st : St) (Q : Exit → St → Prop) : Prop :=
  ∀ (C : Ctx), C.n = n → C.N0 = m → ∀ V a w, SRV C V st a w → (Code.loop body).wp P (liftQ C Q) a w


def putOp (st : St) (x : Operand) (b : Bool) : St :=
  match x with
  | .tmp d => putL st d b
  | _ => st
def evCond (c : AV) (st : St) (x : Operand) (A B : St → Prop) : Prop :=
  match c with
  | .v (.bool true) => A st
  | .v (.bool false) => B st
  | .bl b => (b = true → A (putOp st x true)) ∧ (b = false → B (putOp st x false))
  | _ => False
/-- FROM ONE STATE TO A BARER ONE. -/
def Sub (m : Nat) (st st' : St) : Prop := ∀ (C : Ctx), C.N0 = m → ∀ V a w, SRV C V st a w → ∃ V', SRV C V' st' a w
/-- A joint: what comes behind it begins with a barer state. -/
def CutC (_id m : Nat) (E : (St → Prop) → Prop) (K : St → Prop) : Prop := (∃ F, E (fun st' => Sub m st' F) ∧ K F) ∨ E fun _ => False
theorem CutC.mk {id m : Nat} {E : (St → Prop) → Prop} {K : St → Prop} (F : St) (h1 : E fun st' => Sub m st' F) (h2 : K F) : CutC id m E K := .inl ⟨F, h1, h2⟩
/-- The joint is not reached. -/
theorem CutC.no {id m : Nat} {E : (St → Prop) → Prop} {K : St → Prop} (h : E fun _ => False) : CutC id m E K := .inr h
theorem cutAt {id m : Nat} {E : (St → Prop) → Prop} {K : St → Prop} (h : CutC id m E K) : CutC id m E K := h
/-- The first region of a piece of code. -/
def headId : Code → Option Nat
  | .region id _ _ => some id
  | .seq x y => match headId x with
    | some i => some i
    | none => headId y
  | .cond _ x y => match headId x with
    | some i => some i
    | none => headId y
  | .block _ x => headId x
  | .loop x => headId x
  | _ => none
/-- Where ways are joined (none), and where slots are let go (all but these). -/
abbrev CT := List (Nat × Option (List Nat))
def jointAt (ct : CT) (o : Option Nat) : Option (Nat × Option (List Nat)) :=
  match o with
  | some i => ct.find? fun e => Nat.beq i e.1
  | none => none
def sl : List (Nat × AV) → Nat → AV
  | [] => fun _ => .any
  | (d, c) :: l => upd (sl l) d c
def forgetL (s : Nat → AV) : List Nat → (List (Nat × AV) → Prop) → Prop
  | [], K => K []
  | d :: ds, K => forceA (s d) fun c => forgetL s ds fun l => K ((d, c) :: l)
def forget (live : List Nat) (st : St) (K : St → Prop) : Prop :=
  match st with
  | ⟨s, h⟩ => forgetL s live fun l => K ⟨sl l, h⟩
theorem forgetL_out {s : Nat → AV} : ∀ {ds : List Nat} {K : List (Nat × AV) → Prop}, forgetL s ds K → ∃ l, K l ∧ ∀ t, sl l t = s t ∨ sl l t = .any
  | [], K, h => ⟨[], h, fun _ => .inr rfl⟩
  | d :: ds, K, h => by
    unfold forgetL at h
    rw [forceA_eq] at h
    obtain ⟨l, hk, hl⟩ := forgetL_out h
    refine ⟨_, hk, fun t => ?_⟩
    by_cases ht : t = d
    · subst ht; left; simp only [sl, upd_same]
    · simp only [sl, upd_other _ _ ht]; exact hl t
theorem forget_out {C : Ctx} {V : Nat → Info} {live : List Nat} {st : St} {a : Act} {w : World} {K : St → Prop} (h : SRV C V st a w) (hf : forget live st K) : ∃ st', K st' ∧ SRV C V st' a w := by
  unfold forget at hf
  obtain ⟨l, hk, hl⟩ := forgetL_out hf
  refine ⟨_, hk, ⟨h.size, h.defers, h.kept, h.long, h.agree, h.hr, fun t => ?_⟩⟩
  rcases hl t with e | e
  · rw [show (⟨sl l, st.h⟩ : St).s t = st.s t from e]; exact h.slots t
  · rw [show (⟨sl l, st.h⟩ : St).s t = .any from e]; exact .imm _ _ (.any _)
def evC (P : Program) (G : Env) (ct : CT) (n m : Nat) : Code → St → (Exit → St → Prop) → Prop
  | .skip, st, Q => Q .normal st
  | .region _ ops true, st, Q => evDraw G ops.toList st (Q .normal)
  | .region _ ops false, st, Q => evOps G ops.toList ops.toList st (Q .normal)
  | .seq x y, st, Q => match jointAt ct (headId y) with
    | some (i, none) => CutC i m (fun K => evC P G ct n m x st (seqQ K Q)) (fun st' => evC P G ct n m y st' Q)
    | some (_, some live) => evC P G ct n m x st (seqQ (fun st' => forget live st' fun st'' => evC P G ct n m y st'' Q) Q)
    | none => evC P G ct n m x st (seqQ (fun st' => evC P G ct n m y st' Q) Q)
  | .cond c x y, st, Q => evCond (st.ev c) st c (fun st => evC P G ct n m x st Q) (fun st => evC P G ct n m y st Q)
  | .block id x, st, Q => evC P G ct n m x st (blockQ id Q)
  | .loop x, st, Q => loopwp P n m x st Q
  | .exit id, st, Q => Q (.exit id) st
  | .ret, st, Q => Q .ret st
  | _, _, _ => False

/-- The drawn regions may be carried out in the order of the text. -/
def okCode (n : Nat) : Code → Bool
  | .region _ ops _ => dstOk n ops.toList
  | .seq x y => okCode n x && okCode n y
  | .cond _ x y => okCode n x && okCode n y
  | .block _ x => okCode n x
  | .loop x => okCode n x
  | _ => true

theorem evC_sound (hG : EnvOk P G) {ct : CT} {C : Ctx} : ∀ (c : Code), okCode C.n c = true → ∀ (st : St) (Q : Exit → St → Prop) (V : Nat → Info) (a : Act) (w : World), SRV C V st a w → evC P G ct C.n C.N0 c st Q → c.wp P (liftQ C Q) a w
  | .skip, _, st, Q, V, a, w, h, he => wp_skip ⟨st, V, he, h⟩
  | .region id ops d, hok, st, Q, V, a, w, h, he => by
    cases d with
    | true =>
      have hok : dstOk C.n ops.toList = true := hok
      unfold evC evDraw at he
      split at he
      · obtain ⟨hB, he⟩ := he
        have hB : Region.lexB .any ops.toList.toArray = true := hB
        refine wp_region_quiet (C := Below w.heap.size w) hG.mix (by simpa using hB) ⟨rfl, rfl, rfl, Nat.le_refl _, fun _ _ => rfl⟩ ?_
        have := evQs_sound hG (ops := ops.toList) (K := Q .normal) (C := C) (V := V) (w := w) (Q := fun a' => ∀ w', Below w.heap.size w w' → liftQ C Q .normal a' w')
          (fun st' a' hk hs w' hb => ⟨st', V, hk, hs.below hb⟩) ops.toList hok st a h he
        simpa using this
      · obtain ⟨hB, he⟩ := he
        have hb1 : Below w.heap.size w { w with drawn := w.drawn + 1 } := ⟨rfl, rfl, rfl, Nat.le_refl _, fun _ _ => rfl⟩
        have key : (Code.region id ops.toList.toArray true).wp P (liftQ C Q) a w := by
          refine wp_region_still_tail (headN ops.toList) hG.mix hB ?_
          refine evSs_sound hG.T (C := C) (V := V) (fun st' a' hk hs => ?_) _ (dstOk_take _ hok) st a (h.below hb1) he
          exact evOps_sound hG (ops := ops.toList) (K := Q .normal) (C := C) (Q := liftQ C Q) (fun st' V' a' w' hk hs => ⟨st', V', hk, hs⟩) _ (dstOk_drop _ hok) st' V a' _ hs hk
        simpa using key
      · obtain ⟨hB, he⟩ := he
        have hb1 : Below w.heap.size w { w with drawn := w.drawn + 1 } := ⟨rfl, rfl, rfl, Nat.le_refl _, fun _ _ => rfl⟩
        have key : (Code.region id ops.toList.toArray true).wp P (liftQ C Q) a w := by
          refine wp_mono (Q := fun e a' w' => e = .normal ∧ liftQ C Q .normal a' w') (wp_region_any hG.mix ?_) (fun e a' w' ⟨h1, h2⟩ => h1 ▸ h2)
          have := evAny_sound hG (l := ops.toList) hB (K := Q .normal) (C := C) (Q := fun e a' w' => e = .normal ∧ liftQ C Q .normal a' w') (fun c a w hq => by cases hq.1) (fun st' V' a' w' hk hs => ⟨rfl, st', V', hk, hs⟩) hok ops.toList.length 0 st V a _ (h.below hb1) (fun t _ j o _ _ hb => by simp at hb) he
          have e0 : bitArr ops.toList.length 0 = Array.replicate ops.toList.toArray.size false := by
            simp [bitArr, List.map_const']
          rw [e0] at this
          simpa using this
        simpa using key
    | false =>
      have hok : dstOk C.n ops.toList = true := hok
      refine wp_region_list ?_
      have := evOps_sound hG (ops := ops.toList) (K := Q .normal) (C := C) (Q := liftQ C Q) (fun st' V' a' w' hk hs => ⟨st', V', hk, hs⟩) ops.toList hok st V a w h he
      simpa using this
  | .seq x y, hok, st, Q, V, a, w, h, he => by
    simp only [okCode, Bool.and_eq_true] at hok
    unfold evC at he
    split at he
    · rcases he with ⟨F, hE, hK⟩ | hE
      · refine wp_seq (wp_mono (evC_sound hG x hok.1 st _ V a w h hE) fun e a' w' ⟨st', V', hq, hs⟩ => ?_)
        cases e with
        | normal =>
          obtain ⟨V2, hs2⟩ := hq C rfl V' a' w' hs
          exact evC_sound hG y hok.2 F Q V2 a' w' hs2 hK
        | _ => exact ⟨st', V', hq, hs⟩
      · refine wp_seq (wp_mono (evC_sound hG x hok.1 st _ V a w h hE) fun e a' w' ⟨st', V', hq, hs⟩ => ?_)
        cases e with
        | normal => exact False.elim hq
        | _ => exact ⟨st', V', hq, hs⟩
    · rename_i live _
      refine wp_seq (wp_mono (evC_sound hG x hok.1 st _ V a w h he) fun e a' w' ⟨st', V', hq, hs⟩ => ?_)
      cases e with
      | normal =>
        have hq : forget live st' (fun st'' => evC P G ct C.n C.N0 y st'' Q) := hq
        obtain ⟨st2, hk, hs2⟩ := forget_out hs hq
        exact evC_sound hG y hok.2 st2 Q V' a' w' hs2 hk
      | _ => exact ⟨st', V', hq, hs⟩
    · refine wp_seq (wp_mono (evC_sound hG x hok.1 st _ V a w h he) fun e a' w' ⟨st', V', hq, hs⟩ => ?_)
      cases e with
      | normal => exact evC_sound hG y hok.2 st' Q V' a' w' hs hq
      | _ => exact ⟨st', V', hq, hs⟩
  | .cond c x y, hok, st, Q, V, a, w, h, he => by
    simp only [okCode, Bool.and_eq_true] at hok
    unfold evC evCond at he
    split at he
    · rename_i hc; exact wp_cond_true (h.evv hc) (evC_sound hG x hok.1 st Q V a w h he)
    · rename_i hc; exact wp_cond_false (h.evv hc) (evC_sound hG y hok.2 st Q V a w h he)
    · rename_i b hc
      have hb := b_inv (c := .bl b) rfl (hc ▸ h.ev c)
      have hput : SRV C V (putOp st c b) a w := by
        cases c with
        | tmp d => exact h.putL hb
        | _ => exact h
      cases b with
      | true => exact wp_cond_true hb (evC_sound hG x hok.1 _ Q V a w hput (he.1 rfl))
      | false => exact wp_cond_false hb (evC_sound hG y hok.2 _ Q V a w hput (he.2 rfl))
    · exact he.elim
  | .block id x, hok, st, Q, V, a, w, h, he => by
    unfold evC at he
    refine wp_block (wp_mono (evC_sound hG x (by simpa [okCode] using hok) st _ V a w h he) fun e a' w' ⟨st', V', hq, hs⟩ => ?_)
    cases e with
    | exit id' =>
      simp only [blockQ] at hq
      simp only [Exit.inBlock]
      split at hq
      · rename_i e; rw [if_pos (Nat.eq_of_beq_eq_true e)]; exact ⟨st', V', hq, hs⟩
      · rename_i e; rw [if_neg (Nat.ne_of_beq_eq_false e)]; exact ⟨st', V', hq, hs⟩
    | _ => exact ⟨st', V', hq, hs⟩
  | .loop x, _, st, Q, V, a, w, h, he => he C rfl rfl V a w h
  | .exit id, _, st, Q, V, a, w, h, he => wp_exit ⟨st, V, he, h⟩
  | .ret, _, st, Q, V, a, w, h, he => wp_ret ⟨st, V, he, h⟩
  | .rangeFunc .., _, _, _, _, _, _, _, he => he.elim
  | .scope _, _, _, _, _, _, _, _, he => he.elim
  | .label _, _, _, _, _, _, _, _, he => he.elim
  | .goto _, _, _, _, _, _, _, _, he => he.elim
  | .refuse _, _, _, _, _, _, _, _, he => he.elim


/-- A LOOP: a family of states, a condition on its members, a measure. -/
theorem loop_rule (hG : EnvOk P G) {ct : CT} {n m : Nat} {body : Code} {st : St} {Q : Exit → St → Prop} (hok : okCode n body = true) {α : Type} (F : α → St) (I : α → Prop) (μ : α → Nat) (x0 : α) (h0 : I x0) (hs : Sub m st (F x0))
    (hround : ∀ x, I x → evC P G ct n m body (F x) (seqQ (fun st' => ∃ y, I y ∧ μ y < μ x ∧ Sub m st' (F y)) Q)) : loopwp P n m body st Q := by
  intro C hn hm V a w h
  obtain ⟨V0, h1⟩ := hs C hm V a w h
  intro b k cs
  have key : ∀ (g : Nat) (x : α), μ x = g → I x → ∀ (V : Nat → Info) (a : Act) (w : World), SRV C V (F x) a w →
      ∃ e a' w', liftQ C Q e a' w' ∧ Arrives P (lone (b.at a (.code body :: .inLoop body :: k)) cs w) b k cs e a' w' := by
    intro g
    induction g using Nat.strongRecOn with
    | _ g ih =>
      intro x hx hI V a w hV
      subst hn hm
      obtain ⟨e, a1, w1, ⟨st1, V1, hq, hV1⟩, harr⟩ := evC_sound hG body hok (F x) _ V a w hV (hround x hI) b (.inLoop body :: k) cs
      cases e with
      | normal =>
        obtain ⟨y, hy, hlt, hsub⟩ := hq
        obtain ⟨V2, h2⟩ := hsub C rfl V1 a1 w1 hV1
        obtain ⟨e2, a2, w2, hq2, harr2⟩ := ih (μ y) (hx ▸ hlt) y rfl hy V2 a1 w1 h2
        exact ⟨e2, a2, w2, hq2, .of_steps (Steps.trans harr (.one step_inLoop)) harr2⟩
      | exit id => exact ⟨_, a1, w1, ⟨st1, V1, hq, hV1⟩, .pass (x := .inLoop body) rfl (fun _ _ => .inl (by simp)) harr⟩
      | goto l => exact ⟨_, a1, w1, ⟨st1, V1, hq, hV1⟩, .pass (x := .inLoop body) rfl (fun _ _ => .inl (by simp)) harr⟩
      | ret => exact ⟨_, a1, w1, ⟨st1, V1, hq, hV1⟩, .pass (x := .inLoop body) rfl (fun _ _ => .inl (by simp)) harr⟩
      | panic ch => exact ⟨_, a1, w1, ⟨st1, V1, hq, hV1⟩, .pass (x := .inLoop body) rfl (fun _ _ => .inl (by simp)) harr⟩
      | outgrown => exact ⟨_, a1, w1, ⟨st1, V1, hq, hV1⟩, .pass (x := .inLoop body) rfl (fun _ _ => .inl (by simp)) harr⟩
  obtain ⟨e, a', w', hq, harr⟩ := key _ x0 rfl h0 V0 a w h1
  exact ⟨e, a', w', hq, .of_steps (.one step_loop) harr⟩
end
end Go.Proofs.YtpmmaohaahbphaaDoor
