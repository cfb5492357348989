/-
  The abstract evaluator, part 7: the evaluator itself, over regions and code; its soundness.
-/
import Derived.Test.YthjboaallleomaaAe63
import Derived.StillTail
namespace Go.Proofs.Ythjboaallleomaa
open Go.RowKit

def evPick (c x y : AV) (K : AV → Prop) : Prop :=
  match c with
  | .v (.bool true) => K x
  | .v (.bool false) => K y
  | _ => False

/-- Operations that yield a value and leave the world alone. -/
def evV (T : Nat → Option TI) (st : St) (o : Op) (K : AV → Prop) : Prop :=
  match o with
  | .move x => K (st.ev x)
  | .assign x => K (st.ev x)
  | .pick c x y => evPick (st.ev c) (st.ev x) (st.ev y) K
  | .binOp op t x y _ => evBin (T t) op (st.ev x) (st.ev y) K
  | .unOp op _ x => evUn op (st.ev x) K
  | .convert s d x => evConv (T s) (T d) (st.ev x) K
  | .load t p => evLoad (T t) (cellsAt st.h (st.ev p)) K
  | .fieldAddr t x f => evFieldAddr (offOf (T t) f) (st.ev x) K
  | .field t x f => evField (offOf (T t) f) (st.ev x) K
  | .indexAddr t x i => evIndexAddr (elemT T (T t)) st.h (st.ev x) (st.ev i) K
  | .index t x i => evIndex (T t) (st.ev x) (st.ev i) K
  | .extract x j => evExtract (st.ev x) j K
  | .build t ps => evBuild (T t) st ps.toList K
  | .nilCheck x => evNil (st.ev x) K
  | .slice t x lo hi none => evSlice T (T t) (st.ev x) (lo.map st.ev) (hi.map st.ev) K
  | .makeFunc (.func f) ⟨[]⟩ cap => K (.fn f (cap.toList.map st.ev))
  | .call ⟨.builtin .len, ⟨[x]⟩, ⟨[t]⟩⟩ => evLen (T t) st.h (st.ev x) K
  | .call ⟨.builtin .min, ⟨[x, y]⟩, _⟩ => evMinMax true [st.ev x, st.ev y] K
  | .call ⟨.builtin .max, ⟨[x, y]⟩, _⟩ => evMinMax false [st.ev x, st.ev y] K
  | _ => False

section
variable {P : Program} {T : Nat → Option TI}

theorem evV_sound (hT : TOk P T) {o : Oper} {st : St} {K : AV → Prop} (h : evV T st o.op K) : VDoes P o st K := by
  unfold evV at h
  split at h
  · rename_i x ho; exact vdoes_same x (.inl ho) h
  · rename_i x ho; exact vdoes_same x (.inr ho) h
  · rename_i c x y ho
    unfold evPick at h
    split at h
    · rename_i hc; exact vdoes_pick c x y true ho hc h
    · rename_i hc; exact vdoes_pick c x y false ho hc h
    · exact h.elim
  · rename_i ho; exact vdoes_bin hT _ _ _ _ _ ho h
  · rename_i ho; exact vdoes_un _ _ _ ho h
  · rename_i ho; exact vdoes_conv hT _ _ _ ho h
  · rename_i ho; exact vdoes_load hT _ _ ho h
  · rename_i ho; exact vdoes_fieldAddr hT _ _ _ ho h
  · rename_i ho; exact vdoes_field hT _ _ _ ho h
  · rename_i ho; exact vdoes_indexAddr hT _ _ _ ho h
  · rename_i ho; exact vdoes_index hT _ _ _ ho h
  · rename_i ho; exact vdoes_extract _ _ ho h
  · rename_i ho; exact vdoes_build hT _ _ ho h
  · rename_i ho; exact vdoes_nil _ ho h
  · rename_i ho; exact vdoes_slice hT _ _ _ _ ho h
  · rename_i ho; exact vdoes_makeFunc _ _ ho h
  · rename_i ho; exact vdoes_len hT _ _ ho h
  · rename_i ho; exact vdoes_min _ _ _ ho h
  · rename_i ho; exact vdoes_max _ _ _ ho h
  · exact h.elim

/-- What is known beforehand: of the types; of functions that hand back a plain value; of others. -/
structure Env where
  T : Nat → Option TI
  isD : Nat → Bool
  D : Nat → List AV → (Value → Prop) → Prop
  E : Nat → List AV → (AV → List (Option LB) → Prop) → Prop
structure EnvOk (P : Program) (G : Env) : Prop where
  T : TOk P G.T
  mix : P.follows .mixedOrders = true
  D : ∀ f as K, G.D f as K → Enters P f ∧ ∃ r, Spec P f as [] (fun c h => c = .v r ∧ h = []) ∧ K r
  E : ∀ f as K, G.E f as K → Enters P f ∧ Spec P f as [] K

def metOk (cs : List AV) (c : AV) (h' : List (Option LB)) (p : Prop) : Prop :=
  match AV.isImmL cs with
  | true => p
  | false => match c.noTree with
    | true => Ob (rowsNoTree h') ∧ p
    | false => False
theorem metOk_out {st : St} {cs : List AV} {c : AV} {h' : List (Option LB)} {p : Prop} (h : metOk cs c h' p) : Met st cs c h' ∧ p := by
  unfold metOk at h
  split at h
  · rename_i e; exact ⟨⟨.inl e⟩, h⟩
  · split at h
    · rename_i e; exact ⟨⟨.inr ⟨e, h.1.out⟩⟩, h.2⟩
    · exact h.elim
def callK (st : St) (cs : List AV) (L : AV → St → Prop) (c : AV) (h' : List (Option LB)) : Prop := metOk cs c h' (L (c.ren (st.h.length + ·)) ⟨st.s, st.h ++ h'.map (renLB (st.h.length + ·))⟩)
def atSt (L : AV → St → Prop) (st : St) (c : AV) : Prop := L c st
def splitK (K : AV → Prop) (r : Value) : Prop := splitX r K
def evCallF (G : Env) (st : St) (c : AV) (as : List AV) (L : AV → St → Prop) : Prop :=
  match c with
  | .fn f cap => match G.isD f with
    | true => G.D f (AV.lendL st.h (as ++ cap)) (splitK (atSt L st))
    | false => G.E f (AV.lendL st.h (as ++ cap)) (callK st (as ++ cap) L)
  | _ => False
def evQCallF (G : Env) (st : St) (c : AV) (as : List AV) (K : AV → Prop) : Prop :=
  match c with
  | .fn f cap => G.D f (AV.lendL st.h (as ++ cap)) (splitK K)
  | _ => False
def evCall (G : Env) (st : St) (x : Operand) (as : List Operand) (L : AV → St → Prop) : Prop := evCallF G st (st.ev x) (as.map st.ev) L
def evQCall (G : Env) (st : St) (x : Operand) (as : List Operand) (K : AV → Prop) : Prop := evQCallF G st (st.ev x) (as.map st.ev) K

variable {G : Env}
/-- Is it a call of a Go function? -/
def isCall : Op → Bool
  | .call ⟨.value _, _, _⟩ => true
  | _ => false
def callOf : Op → Call
  | .call c => c
  | _ => ⟨.builtin .len, #[], #[]⟩

/-- All operations that are served. -/
def evOp (G : Env) (st : St) (o : Op) (K : AV → St → Prop) : Prop :=
  match o with
  | .box t x => evBox st t (memCells st.h (st.ev x)) K
  | .alloc t => evAlloc st t (G.T t) K
  | .buildSlice t len ps => evBuildSlice G.T (G.T t) st len ps.toList K
  | .call ⟨.builtin .append, ⟨[x, y]⟩, ⟨[t, t']⟩⟩ => t = t' ∧ evAppend G.T (G.T t) st (st.ev x) (st.ev y) K
  | .makeSlice t l c => evMake G.T (G.T t) st (st.ev l) (st.ev c) K
  | .store t p x => evStore (G.T t) st (st.ev p) (memCells st.h (st.ev x)) K
  | .call ⟨.value x, as, _⟩ => evCall G st x as.toList K
  | o => evV G.T st o (atSt K st)

theorem renL_v (ρ : Nat → Nat) : ∀ l : List Value, AV.renL ρ (l.map .v) = l.map .v
  | [] => rfl
  | x :: l => by simp [AV.renL, AV.ren, renL_v ρ l]
theorem ren_ofV (ρ : Nat → Nat) (x : Value) : (AV.ofV x).ren ρ = AV.ofV x := by
  cases x <;> simp [AV.ofV, AV.ren, renL_v]
theorem renL_ofV (ρ : Nat → Nat) : ∀ l : List Value, AV.renL ρ (l.map AV.ofV) = l.map AV.ofV
  | [] => rfl
  | x :: l => by simp [AV.renL, ren_ofV, renL_ofV ρ l]
theorem ren_ofVal (ρ : Nat → Nat) (x : Value) : (AV.ofVal x).ren ρ = AV.ofVal x := by
  cases x <;> simp [AV.ofVal, ren_ofV, AV.ren, renL_ofV]
theorem noTreeL_v : ∀ l : List Value, AV.noTreeL (l.map .v) = true
  | [] => rfl
  | x :: l => by simp [AV.noTreeL, AV.noTree, noTreeL_v l]
theorem noTree_ofV (x : Value) : (AV.ofV x).noTree = true := by
  cases x <;> simp [AV.ofV, AV.noTree, noTreeL_v]
theorem noTreeL_ofV : ∀ l : List Value, AV.noTreeL (l.map AV.ofV) = true
  | [] => rfl
  | x :: l => by simp [AV.noTreeL, noTree_ofV, noTreeL_ofV l]
theorem noTree_ofVal (x : Value) : (AV.ofVal x).noTree = true := by
  cases x <;> simp [AV.ofVal, noTree_ofV, AV.noTree, noTreeL_ofV]
theorem callee_of {st : St} {x : Operand} {as : Array Operand} {ts : Array TypeId} {f : FuncId} {cap : List AV} (h : st.ev x = .fn f cap) : st.callee ⟨.value x, as, ts⟩ = some (f, as.toList.map st.ev ++ cap) := by
  simp [St.callee, h]

theorem evOp_sound (hG : EnvOk P G) {o : Oper} {st : St} {K : AV → St → Prop} (h : evOp G st o.op K) : EDoes P o st K := by
  unfold evOp at h
  split at h
  · rename_i ho; exact edoes_box _ _ ho h
  · rename_i ho; exact edoes_alloc hG.T _ ho h
  · rename_i ho; exact edoes_buildSlice hG.T _ _ _ ho h
  · rename_i ho; obtain ⟨rfl, h⟩ := h; exact edoes_append hG.T _ _ _ ho h
  · rename_i ho; exact edoes_make hG.T _ _ _ ho h
  · rename_i ho; exact edoes_store hG.T _ _ _ ho h
  · rename_i x as ts ho
    unfold evCall evCallF at h
    split at h
    · rename_i f cap hx
      split at h
      · obtain ⟨hent, r, hs, hk⟩ := hG.D _ _ _ h
        refine edoes_call _ f _ ho (callee_of hx) hent ⟨_, hs.ofVal, fun c h' hq => ?_⟩
        obtain ⟨rfl, rfl⟩ := hq
        exact ⟨⟨.inr ⟨noTree_ofVal r, rowsNoTree_nil⟩⟩, by have := splitX_sound hk; simpa [ren_ofVal, atSt] using this⟩
      · obtain ⟨hent, hs⟩ := hG.E _ _ _ h
        exact edoes_call _ f _ ho (callee_of hx) hent ⟨_, hs, fun c h' hq => metOk_out hq⟩
    · exact h.elim
  · exact (evV_sound hG.T h).toE

/-- In a region that draws its order: operations on values, and calls that hand back a plain value. -/
def evQ (G : Env) (st : St) (o : Op) (K : AV → Prop) : Prop :=
  match o with
  | .call ⟨.value x, as, _⟩ => evQCall G st x as.toList K
  | o => evV G.T st o K

def QDoes (P : Program) (o : Oper) (st : St) (K : AV → Prop) : Prop :=
  ∀ C V a w, SRV C V st a w → ∃ c x, K c ∧ R w (Stb C.A w st.h V) V st.h.length c x ∧ ∀ w', Below w.heap.size w w' → o.quietAt P a (Below w.heap.size w) w' x

theorem VDoes.toQ {o : Oper} {st : St} {K : AV → Prop} (h : VDoes P o st K) : QDoes P o st K := by
  intro C V a w hs
  obtain ⟨c, x, hk, hr, hrun⟩ := h C V a w hs
  refine ⟨c, x, hk, hr, fun w' hb => ?_⟩
  unfold Oper.quietAt
  rw [hrun w' hb]
  exact ⟨rfl, rfl⟩

theorem qdoes_call {o : Oper} {st : St} {K : AV → Prop} (c : Call) (f : FuncId) (cs : List AV) (ho : o.op = .call c) (hc : st.callee c = some (f, cs)) (hent : Enters P f) (hk : ∃ r, Spec P f (AV.lendL st.h cs) [] (fun c h' => c = .v r ∧ h' = []) ∧ K (AV.ofVal r)) : QDoes P o st K := by
  obtain ⟨r, hs, hk⟩ := hk
  intro C V a w h
  obtain ⟨vs, hrun, hl, hr⟩ := h.callee hc ho hent
  refine ⟨AV.ofVal r, r, hk, R_ofVal .., fun w' hb => ?_⟩
  unfold Oper.quietAt
  rw [hrun w']
  refine ⟨rfl, ?_⟩
  have h' := h.below hb
  refine (h'.call hl (fun i c x h1 h2 => (hr i c x h1 h2).mono (fun b hb' => ⟨⟨hb'.1, Nat.lt_of_lt_of_le hb'.2.1 hb.size, hb'.2.2⟩, hb.block b hb'.2.1⟩) (fun _ _ => rfl) (Nat.le_refl _)) hs (fun c h' e => ⟨.inr ⟨by rw [e.1]; rfl, by rw [e.2]; exact rowsNoTree_nil⟩⟩)).mono ?_
  rintro e w'' ⟨c', x, V', h'', rfl, ⟨rfl, rfl⟩, hb2, _, hres⟩
  have : x = r := by
    have := hres
    simp only [AV.ren] at this
    exact this.v_inv
  subst this
  exact ⟨rfl, hb.trans (hb2.mono hb.size)⟩

theorem evQ_sound (hG : EnvOk P G) {o : Oper} {st : St} {K : AV → Prop} (h : evQ G st o.op K) : QDoes P o st K := by
  unfold evQ at h
  split at h
  · rename_i x as ts ho
    unfold evQCall evQCallF at h
    split at h
    · rename_i f cap hx
      obtain ⟨hent, r, hs, hk⟩ := hG.D _ _ _ h
      exact qdoes_call _ f _ ho (callee_of hx) hent ⟨r, hs, splitX_sound hk⟩
    · exact h.elim
  · exact (evV_sound hG.T h).toQ

/-! ### Regions -/
def evG (c : AV) (want : Bool) (yes no : Prop) : Prop :=
  match c, want with
  | .v (.bool true), true => yes
  | .v (.bool false), true => no
  | .v (.bool true), false => no
  | .v (.bool false), false => yes
  | .v (.tuple _), _ => no
  | _, _ => False
def evGs (d : Option Nat) (st : St) (want : Bool) (yes no : Prop) : Prop :=
  match d with
  | none => no
  | some d => evG (st.s d) want yes no
def evGuard (ops : List Oper) (st : St) (g : Option (Nat × Bool)) (yes no : Prop) : Prop :=
  match g with
  | none => yes
  | some (j, want) => evGs ((ops[j]?).bind (·.dst)) st want yes no
/-- A value is brought to its outer form before one goes on. -/
def forceA (c : AV) (K : AV → Prop) : Prop :=
  match c with
  | .any => K .any
  | .v x => K (.v x)
  | .agg cs => K (.agg cs)
  | .tup cs => K (.tup cs)
  | .tree sz len rows => K (.tree sz len rows)
  | .tptr sz len rows row off => K (.tptr sz len rows row off)
  | .loc id row off => K (.loc id row off)
  | .own id => K (.own id)
  | .fn f cap => K (.fn f cap)
theorem forceA_eq (c : AV) (K : AV → Prop) : forceA c K = K c := by cases c <;> rfl
def putS (st : St) (d : Nat) (K : St → Prop) (c : AV) : Prop :=
  match st with
  | ⟨s, h⟩ => K ⟨upd s d c, h⟩
def putO (st : St) (d : Option Nat) (c : AV) (K : St → Prop) : Prop :=
  match d with
  | none => K st
  | some d => forceA c (putS st d K)
def evOps (G : Env) (ops : List Oper) : List Oper → St → (St → Prop) → Prop
  | [], st, K => K st
  | o :: rest, st, K => evGuard ops st o.guard (evOp G st o.op fun c st' => putO st' o.dst c fun st'' => evOps G ops rest st'' K) (putO st o.dst (.v (.tuple #[])) fun st'' => evOps G ops rest st'' K)

def evQs (G : Env) (ops : List Oper) : List Oper → St → (St → Prop) → Prop
  | [], st, K => K st
  | o :: rest, st, K => evGuard ops st o.guard (evQ G st o.op fun c => putO st o.dst c fun st'' => evQs G ops rest st'' K) (putO st o.dst (.v (.tuple #[])) fun st'' => evQs G ops rest st'' K)

theorem evGuard_sound {C : Ctx} {V : Nat → Info} {ops : List Oper} {st : St} {a : Act} {w : World} (h : SRV C V st a w) {o : Oper} {yes no : Prop} (hg : evGuard ops st o.guard yes no) :
    (Region.wanted o (yielded ops.toArray a.tmps) = true ∧ yes) ∨ (Region.wanted o (yielded ops.toArray a.tmps) = false ∧ no) := by
  unfold evGuard at hg
  split at hg
  · rename_i e; exact .inl ⟨by simp [Region.wanted, e], hg⟩
  · rename_i j want e
    unfold evGs at hg
    split at hg
    · rename_i e2
      refine .inr ⟨?_, hg⟩
      simp [Region.wanted, e, yielded, e2]
    · rename_i d e2
      have e2' : (ops.toArray[j]?).bind (·.dst) = some d := by simpa using e2
      have hslot := h.slots d
      have hb : ∀ b : Bool, st.s d = .v (.bool b) → yielded ops.toArray a.tmps j = some b := fun b e3 => by
        rw [e3] at hslot
        have e4 : a.tmps.getD d undef = .bool b := hslot.v_inv
        have e5 : a.tmps[d]? = some (.bool b) := by
          rw [Array.getD_eq_getD_getElem?] at e4
          cases e6 : a.tmps[d]? with
          | none => rw [e6] at e4; simp [undef] at e4
          | some y => rw [e6] at e4; simp at e4; rw [e4]
        simp [yielded, e2, e5]
      unfold evG at hg
      split at hg
      · rename_i e3; exact .inl ⟨by simp [Region.wanted, e, hb true e3], hg⟩
      · rename_i e3; exact .inr ⟨by simp [Region.wanted, e, hb false e3], hg⟩
      · rename_i e3; exact .inr ⟨by simp [Region.wanted, e, hb true e3], hg⟩
      · rename_i e3; exact .inl ⟨by simp [Region.wanted, e, hb false e3], hg⟩
      · rename_i vs e3
        rw [e3] at hslot
        have e4 : a.tmps.getD d undef = .tuple vs := hslot.v_inv
        refine .inr ⟨?_, hg⟩
        have e6 : yielded ops.toArray a.tmps j = none := by
          rw [Array.getD_eq_getD_getElem?] at e4
          unfold yielded
          rw [e2']
          cases e6 : a.tmps[d]? with
          | none => simp [e6]
          | some y => rw [e6] at e4; simp at e4; simp [e6, e4]
        simp [Region.wanted, e, e6]
      · exact hg.elim

theorem putO_sound {C : Ctx} {V : Nat → Info} {st : St} {a : Act} {w : World} (h : SRV C V st a w) {d : Option Nat} (hd : ∀ i, d = some i → i < C.n) {c : AV} {x : Value} {K : St → Prop} (hr : R w (Stb C.A w st.h V) V st.h.length c x) (hk : putO st d c K) :
    ∃ st', K st' ∧ SRV C V st' (a.put d x) w := by
  cases d with
  | none => exact ⟨st, hk, h⟩
  | some d =>
    unfold putO at hk
    simp only [forceA_eq] at hk
    rcases h.put (d := d) hr with h' | h'
    · exact ⟨_, hk, h'⟩
    · have := hd d rfl; omega

def dstOk (n : Nat) (l : List Oper) : Bool := l.all fun o => match o.dst with
  | none => true
  | some d => Nat.blt d n
theorem dstOk_take {n : Nat} {l : List Oper} (k : Nat) (h : dstOk n l = true) : dstOk n (l.take k) = true := by
  unfold dstOk at *
  rw [List.all_eq_true] at *
  exact fun o ho => h o (List.mem_of_mem_take ho)
theorem dstOk_drop {n : Nat} {l : List Oper} (k : Nat) (h : dstOk n l = true) : dstOk n (l.drop k) = true := by
  unfold dstOk at *
  rw [List.all_eq_true] at *
  exact fun o ho => h o (List.mem_of_mem_drop ho)
theorem dstOk_cons {n : Nat} {o : Oper} {l : List Oper} (h : dstOk n (o :: l) = true) : (∀ i, o.dst = some i → i < n) ∧ dstOk n l = true := by
  simp only [dstOk, List.all_cons, Bool.and_eq_true] at h
  refine ⟨fun i e => ?_, h.2⟩
  have h1 := h.1
  rw [e] at h1
  simpa [Nat.blt_eq] using h1

theorem evOps_sound (hG : EnvOk P G) {ops : List Oper} {K : St → Prop} {C : Ctx} {Q : Exit → Act → World → Prop} (hQ : ∀ st' V' a' w', K st' → SRV C V' st' a' w' → Q .normal a' w') :
    ∀ (l : List Oper), dstOk C.n l = true → ∀ (st : St) (V : Nat → Info) (a : Act) (w : World), SRV C V st a w → evOps G ops l st K → wpList P ops.toArray Q l a w
  | [], _, st, V, a, w, h, he => hQ st V a w he h
  | o :: rest, hd, st, V, a, w, h, he => by
    obtain ⟨hd1, hd2⟩ := dstOk_cons hd
    unfold evOps at he
    unfold wpList
    rcases evGuard_sound h he with ⟨hw, hy⟩ | ⟨hw, hn⟩
    · rw [if_pos hw]
      refine .inl (evOp_sound hG hy C V a w h _ _ ?_)
      intro c h' V' x w' hk hs hr
      obtain ⟨st', hk', hs'⟩ := putO_sound hs hd1 hr hk
      exact evOps_sound hG hQ rest hd2 st' V' _ w' hs' hk'
    · rw [if_neg (by simp [hw])]
      obtain ⟨st', hk', hs'⟩ := putO_sound h hd1 (x := undef) (.imm _ _ (.v _)) hn
      exact evOps_sound hG hQ rest hd2 st' V _ w hs' hk'

theorem evQs_sound (hG : EnvOk P G) {ops : List Oper} {K : St → Prop} {C : Ctx} {V : Nat → Info} {w : World} {Q : Act → Prop} (hQ : ∀ st' a', K st' → SRV C V st' a' w → Q a') :
    ∀ (l : List Oper), dstOk C.n l = true → ∀ (st : St) (a : Act), SRV C V st a w → evQs G ops l st K → wpQuiet P ops.toArray (Below w.heap.size w) Q l a
  | [], _, st, a, h, he => hQ st a he h
  | o :: rest, hd, st, a, h, he => by
    obtain ⟨hd1, hd2⟩ := dstOk_cons hd
    unfold evQs at he
    unfold wpQuiet
    rcases evGuard_sound h he with ⟨hw, hy⟩ | ⟨hw, hn⟩
    · rw [if_pos hw]
      obtain ⟨c, x, hk, hr, hq⟩ := evQ_sound hG hy C V a w h
      refine ⟨x, hq, ?_⟩
      obtain ⟨st', hk', hs'⟩ := putO_sound h hd1 hr hk
      exact evQs_sound hG hQ rest hd2 st' _ hs' hk'
    · rw [if_neg (by simp [hw])]
      obtain ⟨st', hk', hs'⟩ := putO_sound h hd1 (x := undef) (.imm _ _ (.v _)) hn
      exact evQs_sound hG hQ rest hd2 st' _ hs' hk'

/-- In a drawn region ahead of what writes: operations on values. -/
def evSs (T : Nat → Option TI) (ops : List Oper) : List Oper → St → (St → Prop) → Prop
  | [], st, K => K st
  | o :: rest, st, K => evGuard ops st o.guard (evV T st o.op fun c => putO st o.dst c fun st'' => evSs T ops rest st'' K) (putO st o.dst (.v (.tuple #[])) fun st'' => evSs T ops rest st'' K)
theorem evSs_sound {T : Nat → Option TI} (hT : TOk P T) {ops : List Oper} {K : St → Prop} {C : Ctx} {V : Nat → Info} {w : World} {Q : Act → Prop} (hQ : ∀ st' a', K st' → SRV C V st' a' w → Q a') :
    ∀ (l : List Oper), dstOk C.n l = true → ∀ (st : St) (a : Act), SRV C V st a w → evSs T ops l st K → wpStill P ops.toArray w Q l a
  | [], _, st, a, h, he => hQ st a he h
  | o :: rest, hd, st, a, h, he => by
    obtain ⟨hd1, hd2⟩ := dstOk_cons hd
    unfold evSs at he
    unfold wpStill
    rcases evGuard_sound h he with ⟨hw, hy⟩ | ⟨hw, hn⟩
    · rw [if_pos hw]
      obtain ⟨c, x, hk, hr, hq⟩ := evV_sound hT hy C V a w h
      unfold Oper.still
      rw [hq w (Below.refl _ _), Oper.stillUpon_value]
      obtain ⟨st', hk', hs'⟩ := putO_sound h hd1 hr hk
      exact evSs_sound hT hQ rest hd2 st' _ hs' hk'
    · rw [if_neg (by simp [hw])]
      obtain ⟨st', hk', hs'⟩ := putO_sound h hd1 (x := undef) (.imm _ _ (.v _)) hn
      exact evSs_sound hT hQ rest hd2 st' _ hs' hk'
/-- What writes. -/
def effOp : Op → Bool
  | .store _ _ _ => true
  | .box _ _ => true
  | .alloc _ => true
  | .makeSlice _ _ _ => true
  | .buildSlice _ _ _ => true
  | .call ⟨.builtin .append, _, _⟩ => true
  | _ => false
def hasEff : List Oper → Bool
  | [] => false
  | o :: l => match effOp o.op with
    | true => true
    | false => hasEff l
def headN : List Oper → Nat
  | [] => 0
  | o :: l => match effOp o.op with
    | true => 0
    | false => headN l + 1
def evDraw (G : Env) (l : List Oper) (st : St) (K : St → Prop) : Prop :=
  match hasEff l with
  | false => evQs G l l st K
  | true => evSs G.T l (l.take (headN l)) st fun st' => evOps G l (l.drop (headN l)) st' K
def drawOk (ops : Array Oper) : Bool :=
  match hasEff ops.toList with
  | false => Region.lexB .any ops
  | true => Region.lexTailB .any ops (headN ops.toList)

/-! ### Code -/
def seqQ (f : St → Prop) (Q : Exit → St → Prop) : Exit → St → Prop
  | .normal, st => f st
  | e, st => Q e st
def blockQ (id : Nat) (Q : Exit → St → Prop) : Exit → St → Prop
  | .exit id', st => match Nat.beq id' id with
    | true => Q .normal st
    | false => Q (.exit id') st
  | e, st => Q e st
def liftQ (C : Ctx) (Q : Exit → St → Prop) (e : Exit) (a : Act) (w : World) : Prop := ∃ st V, Q e st ∧ SRV C V st a w
/-- A loop, by what it does (no evaluation). m: how many names the call began with. -/
def loopwp (P : Program) (n m : Nat) (body : Code) (st : St) (Q : Exit → St → Prop) : Prop :=
  ∀ (C : Ctx), C.n = n → C.N0 = m → ∀ V a w, SRV C V st a w → (Code.loop body).wp P (liftQ C Q) a w

def evCond (c : AV) (x y : Prop) : Prop :=
  match c with
  | .v (.bool true) => x
  | .v (.bool false) => y
  | _ => False
def evC (P : Program) (G : Env) (n m : Nat) : Code → St → (Exit → St → Prop) → Prop
  | .skip, st, Q => Q .normal st
  | .region _ ops true, st, Q => evDraw G ops.toList st (Q .normal)
  | .region _ ops false, st, Q => evOps G ops.toList ops.toList st (Q .normal)
  | .seq x y, st, Q => evC P G n m x st (seqQ (fun st' => evC P G n m y st' Q) Q)
  | .cond c x y, st, Q => evCond (st.ev c) (evC P G n m x st Q) (evC P G n m y st Q)
  | .block id x, st, Q => evC P G n m x st (blockQ id Q)
  | .loop x, st, Q => loopwp P n m x st Q
  | .exit id, st, Q => Q (.exit id) st
  | .ret, st, Q => Q .ret st
  | _, _, _ => False

/-- The drawn regions may be carried out in the order of the text. -/
def okCode (n : Nat) : Code → Bool
  | .region _ ops d => dstOk n ops.toList && (!d || drawOk ops)
  | .seq x y => okCode n x && okCode n y
  | .cond _ x y => okCode n x && okCode n y
  | .block _ x => okCode n x
  | .loop x => okCode n x
  | _ => true

theorem evC_sound (hG : EnvOk P G) {C : Ctx} : ∀ (c : Code), okCode C.n c = true → ∀ (st : St) (Q : Exit → St → Prop) (V : Nat → Info) (a : Act) (w : World), SRV C V st a w → evC P G C.n C.N0 c st Q → c.wp P (liftQ C Q) a w
  | .skip, _, st, Q, V, a, w, h, he => wp_skip ⟨st, V, he, h⟩
  | .region id ops d, hok, st, Q, V, a, w, h, he => by
    cases d with
    | true =>
      simp only [okCode, Bool.and_eq_true, Bool.not_true, Bool.false_or] at hok
      have hB := hok.2
      unfold evC evDraw at he
      unfold drawOk at hB
      split at he
      · rename_i e
        rw [e] at hB
        refine wp_region_quiet (C := Below w.heap.size w) hG.mix hB ⟨rfl, rfl, rfl, Nat.le_refl _, fun _ _ => rfl⟩ ?_
        have := evQs_sound hG (ops := ops.toList) (K := Q .normal) (C := C) (V := V) (w := w) (Q := fun a' => ∀ w', Below w.heap.size w w' → liftQ C Q .normal a' w')
          (fun st' a' hk hs w' hb => ⟨st', V, hk, hs.below hb⟩) ops.toList hok.1 st a h he
        simpa using this
      · rename_i e
        rw [e] at hB
        have hb1 : Below w.heap.size w { w with drawn := w.drawn + 1 } := ⟨rfl, rfl, rfl, Nat.le_refl _, fun _ _ => rfl⟩
        have hd := hok.1
        have key : (Code.region id ops.toList.toArray true).wp P (liftQ C Q) a w := by
          refine wp_region_still_tail (headN ops.toList) hG.mix (by simpa using hB) ?_
          refine evSs_sound hG.T (C := C) (V := V) (fun st' a' hk hs => ?_) _ (dstOk_take _ hd) st a (h.below hb1) he
          exact evOps_sound hG (ops := ops.toList) (K := Q .normal) (C := C) (Q := liftQ C Q) (fun st' V' a' w' hk hs => ⟨st', V', hk, hs⟩) _ (dstOk_drop _ hd) st' V a' _ hs hk
        simpa using key
    | false =>
      simp only [okCode, Bool.and_eq_true] at hok
      refine wp_region_list ?_
      have := evOps_sound hG (ops := ops.toList) (K := Q .normal) (C := C) (Q := liftQ C Q) (fun st' V' a' w' hk hs => ⟨st', V', hk, hs⟩) ops.toList hok.1 st V a w h he
      simpa using this
  | .seq x y, hok, st, Q, V, a, w, h, he => by
    simp only [okCode, Bool.and_eq_true] at hok
    unfold evC at he
    refine wp_seq (wp_mono (evC_sound hG x hok.1 st _ V a w h he) fun e a' w' ⟨st', V', hq, hs⟩ => ?_)
    cases e with
    | normal => exact evC_sound hG y hok.2 st' Q V' a' w' hs hq
    | _ => exact ⟨st', V', hq, hs⟩
  | .cond c x y, hok, st, Q, V, a, w, h, he => by
    simp only [okCode, Bool.and_eq_true] at hok
    unfold evC evCond at he
    split at he
    · rename_i hc; exact wp_cond_true (h.evv hc) (evC_sound hG x hok.1 st Q V a w h he)
    · rename_i hc; exact wp_cond_false (h.evv hc) (evC_sound hG y hok.2 st Q V a w h he)
    · exact he.elim
  | .block id x, hok, st, Q, V, a, w, h, he => by
    unfold evC at he
    refine wp_block (wp_mono (evC_sound hG x (by simpa [okCode] using hok) st _ V a w h he) fun e a' w' ⟨st', V', hq, hs⟩ => ?_)
    cases e with
    | exit id' =>
      simp only [blockQ] at hq
      simp only [Exit.inBlock]
      split at hq
      · rename_i e; rw [if_pos (Nat.eq_of_beq_eq_true e)]; exact ⟨st', V', hq, hs⟩
      · rename_i e; rw [if_neg (Nat.ne_of_beq_eq_false e)]; exact ⟨st', V', hq, hs⟩
    | _ => exact ⟨st', V', hq, hs⟩
  | .loop x, _, st, Q, V, a, w, h, he => he C rfl rfl V a w h
  | .exit id, _, st, Q, V, a, w, h, he => wp_exit ⟨st, V, he, h⟩
  | .ret, _, st, Q, V, a, w, h, he => wp_ret ⟨st, V, he, h⟩
  | .rangeFunc .., _, _, _, _, _, _, _, he => he.elim
  | .scope _, _, _, _, _, _, _, _, he => he.elim
  | .label _, _, _, _, _, _, _, _, he => he.elim
  | .goto _, _, _, _, _, _, _, _, he => he.elim
  | .refuse _, _, _, _, _, _, _, _, he => he.elim

/-- FROM ONE STATE TO A BARER ONE. -/
def Sub (m : Nat) (st st' : St) : Prop := ∀ (C : Ctx), C.N0 = m → ∀ V a w, SRV C V st a w → ∃ V', SRV C V' st' a w

/-- A LOOP: a family of states, a condition on its members, a measure. -/
theorem loop_rule (hG : EnvOk P G) {n m : Nat} {body : Code} {st : St} {Q : Exit → St → Prop} (hok : okCode n body = true) {α : Type} (F : α → St) (I : α → Prop) (μ : α → Nat) (x0 : α) (h0 : I x0) (hs : Sub m st (F x0))
    (hround : ∀ x, I x → evC P G n m body (F x) (seqQ (fun st' => ∃ y, I y ∧ μ y < μ x ∧ Sub m st' (F y)) Q)) : loopwp P n m body st Q := by
  intro C hn hm V a w h
  obtain ⟨V0, h1⟩ := hs C hm V a w h
  intro b k cs
  have key : ∀ (g : Nat) (x : α), μ x = g → I x → ∀ (V : Nat → Info) (a : Act) (w : World), SRV C V (F x) a w →
      ∃ e a' w', liftQ C Q e a' w' ∧ Arrives P (lone (b.at a (.code body :: .inLoop body :: k)) cs w) b k cs e a' w' := by
    intro g
    induction g using Nat.strongRecOn with
    | _ g ih =>
      intro x hx hI V a w hV
      subst hn hm
      obtain ⟨e, a1, w1, ⟨st1, V1, hq, hV1⟩, harr⟩ := evC_sound hG body hok (F x) _ V a w hV (hround x hI) b (.inLoop body :: k) cs
      cases e with
      | normal =>
        obtain ⟨y, hy, hlt, hsub⟩ := hq
        obtain ⟨V2, h2⟩ := hsub C rfl V1 a1 w1 hV1
        obtain ⟨e2, a2, w2, hq2, harr2⟩ := ih (μ y) (hx ▸ hlt) y rfl hy V2 a1 w1 h2
        exact ⟨e2, a2, w2, hq2, .of_steps (Steps.trans harr (.one step_inLoop)) harr2⟩
      | exit id => exact ⟨_, a1, w1, ⟨st1, V1, hq, hV1⟩, .pass (x := .inLoop body) rfl (fun _ _ => .inl (by simp)) harr⟩
      | goto l => exact ⟨_, a1, w1, ⟨st1, V1, hq, hV1⟩, .pass (x := .inLoop body) rfl (fun _ _ => .inl (by simp)) harr⟩
      | ret => exact ⟨_, a1, w1, ⟨st1, V1, hq, hV1⟩, .pass (x := .inLoop body) rfl (fun _ _ => .inl (by simp)) harr⟩
      | panic ch => exact ⟨_, a1, w1, ⟨st1, V1, hq, hV1⟩, .pass (x := .inLoop body) rfl (fun _ _ => .inl (by simp)) harr⟩
      | outgrown => exact ⟨_, a1, w1, ⟨st1, V1, hq, hV1⟩, .pass (x := .inLoop body) rfl (fun _ _ => .inl (by simp)) harr⟩
  obtain ⟨e, a', w', hq, harr⟩ := key _ x0 rfl h0 V0 a w h1
  exact ⟨e, a', w', hq, .of_steps (.one step_loop) harr⟩

end
end Go.Proofs.Ythjboaallleomaa
