/-
  The abstract evaluator, part 9: the evaluator itself, over regions and code; its soundness.
-/
import Derived.Test.YtpmmaohaahbphaaDoorB8m
import Derived.StillTail
namespace Go.Proofs.YtpmmaohaahbphaaDoor
open Go.RowKit

/-- Operations that yield a value and leave the world alone. -/
def evV (T : Nat → Option TI) (st : St) (o : Op) (K : AV → Prop) : Prop :=
  match o with
  | .move x => K (st.ev x)
  | .assign x => K (st.ev x)
  | .pick c x y => evPick (st.ev c) (st.ev x) (st.ev y) K
  | .binOp op t x y _ => evBin2 (T t) st.h op (st.ev x) (st.ev y) K
  | .unOp op _ x => evUn op (st.ev x) K
  | .convert s d x => evConv2 T (T s) (T d) st.h (st.ev x) K
  | .load t p => evLoad (T t) (cellsAt st.h (st.ev p)) K
  | .fieldAddr t x f => evFieldAddr (offOf (T t) f) (st.ev x) K
  | .field t x f => evField (offOf (T t) f) (st.ev x) K
  | .indexAddr t x i => evIndexAddr2 T (T t) st.h (st.ev x) (st.ev i) K
  | .index t x i => evIndex T (T t) (st.ev x) (st.ev i) K
  | .extract x j => evExtract (st.ev x) j K
  | .build t ps => evBuild T (T t) st ps.toList K
  | .nilCheck x => evNil (st.ev x) K
  | .slice t x lo hi none => evSlice2 T (T t) st.h (st.ev x) (lo.map st.ev) (hi.map st.ev) K
  | .makeFunc (.func f) ⟨[]⟩ cap => K (.fn f (cap.toList.map st.ev))
  | .lookup t m k ok => evLookup T t st.h (st.ev m) (st.ev k) ok K
  | .call ⟨.builtin .len, ⟨[x]⟩, ⟨[t]⟩⟩ => evLen (T t) st.h (st.ev x) K
  | .call ⟨.builtin .cap, ⟨[x]⟩, ⟨[t]⟩⟩ => evCap (T t) (st.ev x) K
  | .call ⟨.builtin .min, ⟨[x, y]⟩, _⟩ => evMinMax true [st.ev x, st.ev y] K
  | .call ⟨.builtin .max, ⟨[x, y]⟩, _⟩ => evMinMax false [st.ev x, st.ev y] K
  | .call ⟨.builtin .min, ⟨[x, y, z]⟩, _⟩ => evMinMax3 true [st.ev x, st.ev y, st.ev z] K
  | .call ⟨.builtin .max, ⟨[x, y, z]⟩, _⟩ => evMinMax3 false [st.ev x, st.ev y, st.ev z] K
  | _ => False

section
variable {P : Program} {T : Nat → Option TI}

theorem evV_sound (hT : TOk P T) {o : Oper} {st : St} {K : AV → Prop} (h : evV T st o.op K) : VDoes P o st K := by
  unfold evV at h
  split at h
  · rename_i x ho; exact vdoes_same x (.inl ho) h
  · rename_i x ho; exact vdoes_same x (.inr ho) h
  · rename_i ho; exact vdoes_pick' _ _ _ ho h
  · rename_i ho; exact vdoes_bin2 hT _ _ _ _ _ ho h
  · rename_i ho; exact vdoes_un _ _ _ ho h
  · rename_i ho; exact vdoes_conv2 hT _ _ _ ho h
  · rename_i ho; exact vdoes_load hT _ _ ho h
  · rename_i ho; exact vdoes_fieldAddr hT _ _ _ ho h
  · rename_i ho; exact vdoes_field hT _ _ _ ho h
  · rename_i ho; exact vdoes_indexAddr2 hT _ _ _ ho h
  · rename_i ho; exact vdoes_index hT _ _ _ ho h
  · rename_i ho; exact vdoes_extract _ _ ho h
  · rename_i ho; exact vdoes_build hT _ _ ho h
  · rename_i ho; exact vdoes_nil _ ho h
  · rename_i ho; exact vdoes_slice2 hT _ _ _ _ ho h
  · rename_i ho; exact vdoes_makeFunc _ _ ho h
  · rename_i ho; exact vdoes_lookup hT _ _ _ _ ho h
  · rename_i ho; exact vdoes_len hT _ _ ho h
  · rename_i ho; exact vdoes_cap hT _ _ ho h
  · rename_i ho; exact vdoes_min _ _ _ ho h
  · rename_i ho; exact vdoes_max _ _ _ ho h
  · rename_i ho; exact vdoes_min3 _ _ _ _ ho h
  · rename_i ho; exact vdoes_max3 _ _ _ _ ho h
  · exact h.elim

/-- What is known beforehand: of the types; of functions: which arguments are handed over for writing, and what is promised. -/
structure Env where
  T : Nat → Option TI
  M : Nat → List Bool
  S : Nat → List AV → List (Option LB) → AV → List (Option LB) → Prop
  tr : List Nat
structure EnvOk (P : Program) (G : Env) : Prop where
  T : TOk P G.T
  mix : P.follows .mixedOrders = true
  S : ∀ f az h r h1, G.S f az h r h1 → Enters P f ∧ Spec P f az h r h1

def liveAll (h : List (Option LB)) : List Nat → Bool
  | [] => true
  | i :: is => match h[i]? with
    | some (some _) => liveAll h is
    | _ => false
theorem liveAll_get {h : List (Option LB)} : ∀ {is : List Nat}, liveAll h is = true → ∀ i ∈ is, ∃ lb, h[i]? = some (some lb)
  | [], _, i, hi => by simp at hi
  | j :: is, hl, i, hi => by
    unfold liveAll at hl
    split at hl
    · rename_i lb e
      rcases List.mem_cons.1 hi with e2 | e2
      · subst e2; exact ⟨lb, e⟩
      · exact liveAll_get hl i e2
    · cases hl
/-- Names in the variables of these names. -/
def innerIds (h : List (Option LB)) : List Nat → List Nat
  | [] => []
  | i :: is => boxIds h[i]? ++ innerIds h is
def callIds (h : List (Option LB)) (ms : List Bool) (cs : List AV) : List Nat := dedup (wIds ms cs ++ innerIds h (wIds ms cs))
def safeB (ms : List Bool) (cs : List AV) (r : AV) (h1 : List (Option LB)) : Bool :=
  match bImm ms cs with
  | true => true
  | false => match r.noTree with
    | true => heapNoTree h1
    | false => false
/-- A value is brought to its outer form before one goes on; so are the cells of variables. -/
def forceC (c : AV) (K : AV → Prop) : Prop :=
  match c with
  | .any => K .any
  | .v x => K (.v x)
  | .bl b => K (.bl b)
  | .agg cs => K (.agg cs)
  | .tup cs => K (.tup cs)
  | .tree t xs => K (.tree t xs)
  | .tptr t xs row off => K (.tptr t xs row off)
  | .bptr cs off => K (.bptr cs off)
  | .loc id row off => K (.loc id row off)
  | .own id => K (.own id)
  | .view id lo n => K (.view id lo n)
  | .rowv id k => K (.rowv id k)
  | .rloc id k row off => K (.rloc id k row off)
  | .fn f cap => K (.fn f cap)
theorem forceC_eq (c : AV) (K : AV → Prop) : forceC c K = K c := by cases c <;> rfl
def forceL : List AV → (List AV → Prop) → Prop
  | [], K => K []
  | c :: cs, K => forceC c fun c => forceL cs fun cs => K (c :: cs)
theorem forceL_eq : ∀ (cs : List AV) (K : List AV → Prop), forceL cs K = K cs
  | [], _ => rfl
  | c :: cs, K => by simp only [forceL, forceC_eq, forceL_eq cs]
/-- Names as numerals. -/
def forceN : Nat → (Nat → Prop) → Prop
  | 0, K => K 0
  | n + 1, K => forceN n fun m => K (m + 1)
theorem forceN_eq : ∀ (n : Nat) (K : Nat → Prop), forceN n K = K n
  | 0, _ => rfl
  | n + 1, K => by simp only [forceN, forceN_eq n]
mutual
def forceI : AV → (AV → Prop) → Prop
  | .any, K => K .any
  | .v x, K => K (.v x)
  | .bl b, K => K (.bl b)
  | .agg cs, K => forceIL cs fun cs => K (.agg cs)
  | .tup cs, K => forceIL cs fun cs => K (.tup cs)
  | .tree t xs, K => K (.tree t xs)
  | .tptr t xs row off, K => K (.tptr t xs row off)
  | .bptr cs off, K => K (.bptr cs off)
  | .loc id row off, K => forceN id fun id => K (.loc id row off)
  | .own id, K => forceN id fun id => K (.own id)
  | .view id lo n, K => forceN id fun id => K (.view id lo n)
  | .rowv id k, K => forceN id fun id => K (.rowv id k)
  | .rloc id k row off, K => forceN id fun id => K (.rloc id k row off)
  | .fn f cap, K => forceIL cap fun cap => K (.fn f cap)
def forceIL : List AV → (List AV → Prop) → Prop
  | [], K => K []
  | c :: cs, K => forceI c fun c => forceIL cs fun cs => K (c :: cs)
end
mutual
theorem forceI_eq : ∀ (c : AV) (K : AV → Prop), forceI c K = K c
  | .any, K => by simp only [forceI]
  | .v x, K => by simp only [forceI]
  | .bl b, K => by simp only [forceI]
  | .agg cs, K => by simp only [forceI, forceIL_eq cs]
  | .tup cs, K => by simp only [forceI, forceIL_eq cs]
  | .tree t xs, K => by simp only [forceI]
  | .tptr t xs row off, K => by simp only [forceI]
  | .bptr cs off, K => by simp only [forceI]
  | .loc id row off, K => by simp only [forceI, forceN_eq]
  | .own id, K => by simp only [forceI, forceN_eq]
  | .view id lo n, K => by simp only [forceI, forceN_eq]
  | .rowv id k, K => by simp only [forceI, forceN_eq]
  | .rloc id k row off, K => by simp only [forceI, forceN_eq]
  | .fn f cap, K => by simp only [forceI, forceIL_eq cap]
theorem forceIL_eq : ∀ (cs : List AV) (K : List AV → Prop), forceIL cs K = K cs
  | [], K => by simp only [forceIL]
  | c :: cs, K => by simp only [forceIL, forceI_eq c, forceIL_eq cs]
end
def forceB (o : Option LB) (K : Option LB → Prop) : Prop :=
  match o with
  | none => K none
  | some (.box ty cs) => forceIL cs fun cs => K (some (.box ty cs))
  | some (.arr ty t xs) => K (some (.arr ty t xs))
  | some (.mp ty t ks) => K (some (.mp ty t ks))
  | some (.nst ty tyI t xss) => K (some (.nst ty tyI t xss))
theorem forceB_eq (o : Option LB) (K : Option LB → Prop) : forceB o K = K o := by
  cases o with
  | none => rfl
  | some b => cases b <;> simp only [forceB, forceIL_eq]
def forceH : List (Option LB) → (List (Option LB) → Prop) → Prop
  | [], K => K []
  | o :: h, K => forceB o fun o => forceH h fun h => K (o :: h)
theorem forceH_eq : ∀ (h : List (Option LB)) (K : List (Option LB) → Prop), forceH h K = K h
  | [], _ => rfl
  | o :: h, K => by simp only [forceH, forceB_eq, forceH_eq h]
def forceNs : List Nat → (List Nat → Prop) → Prop
  | [], K => K []
  | n :: l, K => forceN n fun n => forceNs l fun l => K (n :: l)
theorem forceNs_eq : ∀ (l : List Nat) (K : List Nat → Prop), forceNs l K = K l
  | [], _ => rfl
  | n :: l, K => by simp only [forceNs, forceN_eq, forceNs_eq l]
def whenB (b : Bool) (p : Prop) : Prop :=
  match b with
  | true => p
  | false => False
theorem whenB_out {b : Bool} {p : Prop} (h : whenB b p) : b = true ∧ p := by
  cases b
  · exact h.elim
  · exact ⟨rfl, h⟩
/-- A call, left to whoever evaluates. -/
def CallW (p : Prop) : Prop := p
theorem CallW.mk {p : Prop} (h : p) : CallW p := h
def evCallS (G : Env) (st : St) (f : Nat) (cs : List AV) (ids : List Nat) (K : AV → St → Prop) : Prop :=
  forceNs ids fun ids => whenB (liveAll st.h ids) (whenB (closedIds st.h ids ids) (forceIL (passL (fun i => posOf i ids) (killIds st.h ids) (G.M f) cs) fun ar => forceH (renH (fun i => posOf i ids) (lentH st.h ids)) fun hh => CallW (∃ r h1, G.S f ar hh r h1 ∧
    Nat.ble ids.length h1.length = true ∧ safeB (G.M f) cs r h1 = true ∧ K (r.ren (backId ids st.h.length ids.length)) ⟨st.s, backH st.h ids h1⟩)))
/-- Own slices that are handed to one who writes other things are given away. -/
def maskW : List Bool → List AV → List AV
  | [], cs => cs
  | _ :: _, [] => []
  | true :: ms, _ :: cs => .any :: maskW ms cs
  | false :: ms, c :: cs => c :: maskW ms cs
def unmask : List Bool → List AV → List AV → List AV
  | [], _, ds => ds
  | true :: ms, c :: cs, _ :: ds => c :: unmask ms cs ds
  | false :: ms, _ :: cs, d :: ds => d :: unmask ms cs ds
  | _ :: _, _, _ => []
theorem maskW_length : ∀ (ms : List Bool) (cs : List AV), (maskW ms cs).length = cs.length
  | [], _ => rfl
  | _ :: _, [] => rfl
  | true :: ms, _ :: cs => by simp [maskW, maskW_length ms cs]
  | false :: ms, _ :: cs => by simp [maskW, maskW_length ms cs]
theorem maskW_get : ∀ (ms : List Bool) (cs : List AV) (i : Nat) (c : AV), (maskW ms cs)[i]? = some c → c = .any ∨ cs[i]? = some c
  | [], _, _, _, h => .inr h
  | _ :: _, [], _, _, h => by simp [maskW] at h
  | true :: ms, _ :: cs, 0, c, h => by simp [maskW] at h; exact .inl h.symm
  | false :: ms, _ :: cs, 0, c, h => by simp [maskW] at h; exact .inr (by simpa using h)
  | true :: ms, _ :: cs, i + 1, c, h => by simpa using maskW_get ms cs i c (by simpa [maskW] using h)
  | false :: ms, _ :: cs, i + 1, c, h => by simpa using maskW_get ms cs i c (by simpa [maskW] using h)
theorem unmask_length : ∀ (ms : List Bool) (cs ds : List AV), cs.length = ds.length → (unmask ms cs ds).length = cs.length
  | [], _, _, h => h.symm
  | true :: _, [], [], _ => rfl
  | false :: _, [], [], _ => rfl
  | true :: ms, _ :: cs, _ :: ds, h => by simp [unmask, unmask_length ms cs ds (by simpa using h)]
  | false :: ms, _ :: cs, _ :: ds, h => by simp [unmask, unmask_length ms cs ds (by simpa using h)]
  | _ :: _, [], _ :: _, h => by simp at h
  | _ :: _, _ :: _, [], h => by simp at h
theorem unmask_get : ∀ (ms : List Bool) (cs ds : List AV) (i : Nat) (c : AV), (unmask ms cs ds)[i]? = some c → cs[i]? = some c ∨ ds[i]? = some c
  | [], _, _, _, _, h => .inr h
  | true :: _, [], _, _, _, h => by simp [unmask] at h
  | false :: _, [], _, _, _, h => by simp [unmask] at h
  | true :: _, _ :: _, [], _, _, h => by simp [unmask] at h
  | false :: _, _ :: _, [], _, _, h => by simp [unmask] at h
  | true :: ms, c' :: cs, d :: ds, 0, c, h => by simp [unmask] at h; exact .inl (by simpa using h)
  | false :: ms, c' :: cs, d :: ds, 0, c, h => by simp [unmask] at h; exact .inr (by simpa using h)
  | true :: ms, c' :: cs, d :: ds, i + 1, c, h => by simpa using unmask_get ms cs ds i c (by simpa [unmask] using h)
  | false :: ms, c' :: cs, d :: ds, i + 1, c, h => by simpa using unmask_get ms cs ds i c (by simpa [unmask] using h)
def evCallF (G : Env) (st : St) (c : AV) (az : List AV) (K : AV → St → Prop) : Prop :=
  match c with
  | .fn f cap => forceIL (az ++ cap) fun cs => match allF (G.M f) with
    | true => evCallS G st f cs (callIds st.h (G.M f) cs) K
    | false => forceIL (unmask (G.M f) cs (frzV st.h st.h (maskW (G.M f) cs)).1) fun cs' => forceH (frzV st.h st.h (maskW (G.M f) cs)).2 fun h' => evCallS G ⟨st.s, h'⟩ f cs' (callIds h' (G.M f) cs') K
  | _ => False
/-- In a region that draws its order: what is called leaves nothing behind but its result. -/
def evQCallS (G : Env) (st : St) (f : Nat) (cs : List AV) (K : AV → Prop) : Prop :=
  forceIL (AV.lendL st.h cs) fun ar => CallW (∃ r h1, G.S f ar [] r h1 ∧ Nat.ble 0 0 = true ∧ ((match h1 with | [] => true | _ => false) && allFalse (G.M f) && plainB r) = true ∧ K r)
where
  allFalse : List Bool → Bool
    | [] => true
    | true :: _ => false
    | false :: l => allFalse l
  plainB : AV → Bool
    | .v _ => true
    | .bl _ => true
    | .agg cs => plainBs cs
    | .tup cs => plainBs cs
    | _ => false
  plainBs : List AV → Bool
    | [] => true
    | c :: cs => plainB c && plainBs cs
def evQCallF (G : Env) (st : St) (c : AV) (az : List AV) (K : AV → Prop) : Prop :=
  match c with
  | .fn f cap => evQCallS G st f (az ++ cap) K
  | _ => False
def evCall (G : Env) (st : St) (x : Operand) (az : List Operand) (K : AV → St → Prop) : Prop := evCallF G st (st.ev x) (az.map st.ev) K
def evQCall (G : Env) (st : St) (x : Operand) (az : List Operand) (K : AV → Prop) : Prop := evQCallF G st (st.ev x) (az.map st.ev) K
def atSt (L : AV → St → Prop) (st : St) (c : AV) : Prop := L c st

variable {G : Env}
def forceK (K : AV → St → Prop) (c : AV) (st : St) : Prop :=
  match st with
  | ⟨s, h⟩ => forceI c fun c => forceH h fun h => K c ⟨s, h⟩
theorem forceK_eq (K : AV → St → Prop) : forceK K = K := by
  funext c st; simp only [forceK, forceH_eq, forceI_eq]
def isNst (o : Option (Option LB)) : Bool :=
  match o with
  | some (some (.nst _ _ _ _)) => true
  | _ => false
def ownNst (h : List (Option LB)) (x : AV) : Bool :=
  match x with
  | .own id => isNst h[id]?
  | _ => false
def evAppend2 (T : Nat → Option TI) (i : Option TI) (st : St) (x y : AV) (K : AV → St → Prop) : Prop :=
  match ownNst st.h x with
  | true => evAppN T i st x y K
  | false => evAppend T i st x y K
/-- All operations that are served. -/
def evOp (G : Env) (st : St) (o : Op) (K : AV → St → Prop) : Prop :=
  match o with
  | .box t x => evBox st t (memCells st.h (st.ev x)) (forceK K)
  | .alloc t => evAlloc st t (G.T t) (forceK K)
  | .buildSlice t len ps => evBuildSlice G.T (G.T t) st len ps.toList (forceK K)
  | .call ⟨.builtin .append, ⟨[x, y]⟩, ⟨[t, t']⟩⟩ => match intT (G.T t') with
    | true => evAppZ G.T (G.T t) st (st.ev x) (st.ev y) (forceK K)
    | false => t = t' ∧ evAppend2 G.T (G.T t) st (st.ev x) (st.ev y) (forceK K)
  | .makeSlice t l c => evMake G.T (G.T t) st (st.ev l) (st.ev c) (forceK K)
  | .store t p x => evStore (G.T t) st (st.ev p) (memCells st.h (st.ev x)) (forceK K)
  | .call ⟨.builtin .clear, ⟨[x]⟩, ⟨[t]⟩⟩ => evClear G.T (G.T t) st (st.ev x) (forceK K)
  | .makeMap t r => evMakeMap G.T t st (r.map st.ev) (forceK K)
  | .mapUpdate t m k x => evMapUpdate G.T t st (st.ev m) (st.ev k) (st.ev x) (forceK K)
  | .insert t m k x => evMapUpdate G.T t st (st.ev m) (st.ev k) (st.ev x) (forceK K)
  | .makeInterface _ _ => Ob False
  | .convert s d x => match strSl G.T (G.T s) (G.T d) with
    | true => evBytes G.T (G.T d) st (st.ev x) (forceK K)
    | false => evV G.T st (.convert s d x) (atSt K st)
  | .call ⟨.value x, az, _⟩ => evCall G st x az.toList (forceK K)
  | o => evV G.T st o (atSt K st)
theorem callee_of {st : St} {x : Operand} {az : Array Operand} {ts : Array TypeId} {f : FuncId} {cap : List AV} (h : st.ev x = .fn f cap) : st.callee ⟨.value x, az, ts⟩ = some (f, az.toList.map st.ev ++ cap) := by
  simp [St.callee, h]


theorem allF_wIds : ∀ (ms : List Bool) (cs : List AV), allF ms = true → wIds ms cs = []
  | [], _, _ => by simp [wIds]
  | false :: ms, [], _ => by simp [wIds]
  | false :: ms, c :: cs, h => by simpa [wIds] using allF_wIds ms cs (by simpa [allF] using h)
  | true :: _, _, h => by simp [allF] at h
theorem evOp_sound (hG : EnvOk P G) {o : Oper} {st : St} {K : AV → St → Prop} (h : evOp G st o.op K) : EDoes P G.M o st K := by
  unfold evOp at h
  simp only [forceK_eq] at h
  split at h
  · rename_i ho; exact edoes_box _ _ ho h
  · rename_i ho; exact edoes_alloc hG.T _ ho h
  · rename_i ho; exact edoes_buildSlice hG.T _ _ _ ho h
  · rename_i ho
    split at h
    · rename_i hi; obtain ⟨tu, k, e1, e2⟩ := intT_out hi; exact edoes_appZ hG.T _ _ tu k e1 e2 _ _ ho h
    · obtain ⟨rfl, h⟩ := h
      unfold evAppend2 at h
      split at h
      · exact edoes_appN hG.T _ _ _ ho h
      · exact edoes_append hG.T _ _ _ ho h
  · rename_i ho; exact edoes_make hG.T _ _ _ ho h
  · rename_i ho; exact edoes_store hG.T _ _ _ ho h
  · rename_i ho; exact edoes_clear hG.T _ _ ho h (by rw [ho]; rfl)
  · rename_i ho; exact edoes_makeMap hG.T _ _ ho h
  · rename_i ho; exact edoes_mapUpdate hG.T _ _ _ _ (.inl ho) h fun e => belA_no (by rw [ho]; rfl) (fun _ _ _ e => by rw [ho] at e; cases e) e
  · rename_i ho; exact edoes_mapUpdate hG.T _ _ _ _ (.inr ho) h fun e => belA_no (by rw [ho]; rfl) (fun _ _ _ e => by rw [ho] at e; cases e) e
  · exact h.out.elim
  · rename_i ho
    split at h
    · rename_i hb; exact edoes_bytes hG.T _ _ _ ho hb h
    · rw [← ho] at h; exact (evV_sound hG.T h).toE
  · rename_i x az ts ho
    unfold evCall evCallF at h
    split at h
    · rename_i f cap hx
      rw [forceIL_eq] at h
      have main : ∀ (C : Ctx) V a w, SRV C V st a w → ∀ (h' : List (Option LB)) (cs : List AV) (vs : Array Value), SRV C V ⟨st.s, h'⟩ a w → (∀ w', (execOp a.eval o).run P w' = .ok (.enter f vs) w') → vs.size = cs.length →
          (∀ (i : Nat) (c : AV) (x : Value), cs[i]? = some c → vs[i]? = some x → R w (Stb C.A w h' V) V h'.length c x) → evCallS G ⟨st.s, h'⟩ f cs (callIds h' (G.M f) cs) K →
          ∀ (next : Act → World → Prop) (Q : Exit → Act → World → Prop), (∀ c h' V' x w', K c ⟨st.s, h'⟩ → SRV C V' ⟨st.s, h'⟩ a w' → R w' (Stb C.A w' h' V') V' h'.length c x → (belA G.M o.op a → Below w.heap.size w w') → next (a.put o.dst x) w') → o.wp P a w next Q := by
        intro C V a w _ h' cs vs hsr hrun hvl hvr h next Q hn
        simp only [evCallS, forceIL_eq, forceNs_eq, forceH_eq] at h
        obtain ⟨hl, h⟩ := whenB_out h
        obtain ⟨hcl, h⟩ := whenB_out h
        obtain ⟨r, h1, hs, hlen, hsafe, hk⟩ := h
        obtain ⟨_, hs⟩ := hG.S _ _ _ _ _ hs
        unfold Oper.wp
        rw [hrun w]
        have hsafe' : bImm (G.M f) cs = true ∨ (r.noTree = true ∧ rowsNoTree h1 ∧ deafNoTree h1) := by
          unfold safeB at hsafe
          split at hsafe
          · rename_i e; exact .inl e
          · split at hsafe
            · rename_i e; exact .inr ⟨e, heapNoTree_out hsafe, heapNoTree_deaf hsafe⟩
            · cases hsafe
        refine (hsr.callG hvl hvr (dedup_nodup _) (fun k hk => dedup_mem (List.mem_append_left _ hk)) (liveAll_get hl) (closedIds_out hcl) hs (Nat.le_of_ble_eq_true hlen) hsafe').mono ?_
        rintro e w' ⟨y, V2, rfl, hs', hr', hk2⟩
        refine hn _ _ _ _ _ hk hs' hr' fun hb => ?_
        replace hb := belA_bel (fun _ _ _ e => by rw [ho] at e; cases e) hb
        rw [ho] at hb
        simp only [belB] at hb
        split at hb
        · rename_i f'
          have hf : f' = f ∧ [] = cap := by simpa [St.ev] using hx
          obtain ⟨rfl, rfl⟩ := hf
          have hw0 : wIds (G.M f') cs = [] := allF_wIds _ _ hb
          (try unfold callIds at hk2)
          rw [hw0] at hk2
          exact ⟨hk2.os, hk2.tape, hk2.output, hk2.size, fun k hk' => hk2.block k hk' fun ⟨i, hi, _⟩ => by simp [innerIds, dedup] at hi⟩
        · cases hb
      have hent : ∀ {h' : List (Option LB)} {cs : List AV} {ids : List Nat}, evCallS G ⟨st.s, h'⟩ f cs ids K → Enters P f := fun h => by
        simp only [evCallS, forceIL_eq, forceNs_eq, forceH_eq] at h
        obtain ⟨_, h⟩ := whenB_out h
        obtain ⟨_, h⟩ := whenB_out h
        obtain ⟨r, h1, hs, _⟩ := h
        exact (hG.S _ _ _ _ _ hs).1
      split at h
      · intro C V a w hsr next Q hn
        obtain ⟨vs, hrun, hvl, hvr⟩ := hsr.callee (callee_of hx) ho (hent h)
        exact main C V a w hsr st.h _ vs hsr hrun hvl hvr h next Q hn
      · rw [forceIL_eq, forceH_eq] at h
        intro C V a w hsr next Q hn
        obtain ⟨vs, hrun, hvl, hvr⟩ := hsr.callee (callee_of hx) ho (hent h)
        have hml := maskW_length (G.M f) (az.toList.map st.ev ++ cap)
        obtain ⟨g1, g2, g3, g4, g5⟩ := SRV.frzV (s := st.s) (h0 := st.h) hsr (maskW (G.M f) (az.toList.map st.ev ++ cap)) st.h vs.toList hsr rfl (fun _ _ e => e) (by rw [hml]; simpa using hvl) fun i c y e1 e2 => by
          rcases maskW_get _ _ i c e1 with rfl | e1
          · exact .imm _ _ (.any _)
          · exact hvr i c y e1 (by simpa using e2)
        have hul := unmask_length (G.M f) (az.toList.map st.ev ++ cap) (frzV st.h st.h (maskW (G.M f) (az.toList.map st.ev ++ cap))).1 (by rw [g2, hml])
        refine main C V a w hsr _ _ vs g1 hrun (by rw [hul]; exact hvl) (fun i c y e1 e2 => ?_) h next Q hn
        rcases unmask_get _ _ _ i c e1 with e1 | e1
        · exact (hvr i c y e1 e2).mono (fun b hb => ⟨Stb.sub g4 b hb, rfl⟩) (fun _ _ => rfl) (by omega)
        · have := g5 i c y e1 (by simpa using e2)
          first
            | exact this
            | (rw [g3]; exact this)
    · exact h.elim
  · exact (evV_sound hG.T h).toE

/-- In a region that draws its order: operations on values, and calls that hand back a plain value. -/
def evQ (G : Env) (st : St) (o : Op) (K : AV → Prop) : Prop :=
  match o with
  | .call ⟨.value x, az, _⟩ => evQCall G st x az.toList K
  | o => evV G.T st o K

def QDoes (P : Program) (o : Oper) (st : St) (K : AV → Prop) : Prop :=
  ∀ C V a w, SRV C V st a w → ∃ c x, K c ∧ R w (Stb C.A w st.h V) V st.h.length c x ∧ ∀ w', Below w.heap.size w w' → o.quietAt P a (Below w.heap.size w) w' x

theorem VDoes.toQ {o : Oper} {st : St} {K : AV → Prop} (h : VDoes P o st K) : QDoes P o st K := by
  intro C V a w hs
  obtain ⟨c, x, hk, hr, hrun⟩ := h C V a w hs
  refine ⟨c, x, hk, hr, fun w' hb => ?_⟩
  unfold Oper.quietAt
  rw [hrun w' hb]
  exact ⟨rfl, rfl⟩


/-- A plain value is one value. -/
theorem plain_one : ∀ (c : AV), evQCallS.plainB c = true → ∃ y, (∀ w S V N x, R w S V N c x → x = y) ∧ (∀ w S V N, R w S V N c y) := by
  intro c h
  exact go c h
where
  go : ∀ (c : AV), evQCallS.plainB c = true → ∃ y, (∀ w S V N x, R w S V N c x → x = y) ∧ (∀ w S V N, R w S V N c y)
    | .v x, _ => ⟨x, fun _ _ _ _ _ h => h.v_inv, fun _ _ _ _ => .imm _ _ (.v x)⟩
    | .bl b, _ => ⟨.bool b, fun _ _ _ _ _ h => b_inv (c := .bl b) rfl h, fun _ _ _ _ => .imm _ _ (.bl b)⟩
    | .agg cs, h => by
      obtain ⟨ys, hl, h1, h2⟩ := gos cs (by simpa [evQCallS.plainB] using h)
      refine ⟨.agg ys.toArray, fun w S V N x hx => ?_, fun w S V N => .agg _ _ (by simpa using hl) fun i c x e1 e2 => h2 i c x e1 (by simpa using e2) w S V N⟩
      obtain ⟨vs, rfl, hvl, hr⟩ := hx.agg_inv
      have := h1 vs.toList (by simpa using hvl) fun i c x e1 e2 => ⟨w, S, V, N, hr i c x e1 (by simpa using e2)⟩
      rw [← this]
    | .tup cs, h => by
      obtain ⟨ys, hl, h1, h2⟩ := gos cs (by simpa [evQCallS.plainB] using h)
      refine ⟨.tuple ys.toArray, fun w S V N x hx => ?_, fun w S V N => .tup _ _ (by simpa using hl) fun i c x e1 e2 => h2 i c x e1 (by simpa using e2) w S V N⟩
      obtain ⟨vs, rfl, hvl, hr⟩ := hx.tup_inv
      have := h1 vs.toList (by simpa using hvl) fun i c x e1 e2 => ⟨w, S, V, N, hr i c x e1 (by simpa using e2)⟩
      rw [← this]
    | .any, h => by simp [evQCallS.plainB] at h
    | .tree _ _, h => by simp [evQCallS.plainB] at h
    | .tptr _ _ _ _, h => by simp [evQCallS.plainB] at h
    | .bptr _ _, h => by simp [evQCallS.plainB] at h
    | .loc _ _ _, h => by simp [evQCallS.plainB] at h
    | .own _, h => by simp [evQCallS.plainB] at h
    | .view _ _ _, h => by simp [evQCallS.plainB] at h
    | .rowv _ _, h => by simp [evQCallS.plainB] at h
    | .rloc _ _ _ _, h => by simp [evQCallS.plainB] at h
    | .fn _ _, h => by simp [evQCallS.plainB] at h
  gos : ∀ (cs : List AV), evQCallS.plainBs cs = true → ∃ ys : List Value, ys.length = cs.length ∧
      (∀ vs : List Value, vs.length = cs.length → (∀ (i : Nat) (c : AV) (x : Value), cs[i]? = some c → vs[i]? = some x → ∃ w S V N, R w S V N c x) → vs = ys) ∧
      ∀ (i : Nat) (c : AV) (x : Value), cs[i]? = some c → ys[i]? = some x → ∀ w S V N, R w S V N c x
    | [], _ => ⟨[], rfl, fun vs h _ => List.length_eq_zero_iff.1 h, fun i c x e => by simp at e⟩
    | c :: cs, h => by
      simp only [evQCallS.plainBs, Bool.and_eq_true] at h
      obtain ⟨y, g1, g2⟩ := go c h.1
      obtain ⟨ys, hl, h1, h2⟩ := gos cs h.2
      refine ⟨y :: ys, by simp [hl], fun vs hv hr => ?_, fun i d x e1 e2 w S V N => ?_⟩
      · cases vs with
        | nil => simp at hv
        | cons v vs =>
          obtain ⟨w, S, V, N, hr0⟩ := hr 0 c v rfl rfl
          rw [g1 _ _ _ _ _ hr0, h1 vs (by simpa using hv) fun i d x e1 e2 => hr (i + 1) d x (by simpa using e1) (by simpa using e2)]
      · cases i with
        | zero => simp at e1 e2; subst e1 e2; exact g2 w S V N
        | succ i => exact h2 i d x (by simpa using e1) (by simpa using e2) w S V N

theorem dedup_nil : dedup [] = [] := rfl
theorem allFalse_wIds : ∀ (ms : List Bool) (cs : List AV), evQCallS.allFalse ms = true → wIds ms cs = []
  | [], _, _ => by simp [wIds]
  | false :: ms, [], _ => by simp [wIds]
  | false :: ms, c :: cs, h => by simpa [wIds] using allFalse_wIds ms cs (by simpa [evQCallS.allFalse] using h)
  | true :: _, _, h => by simp [evQCallS.allFalse] at h
theorem allFalse_pass (ρ : Nat → Nat) (hl : List (Option LB)) : ∀ (ms : List Bool) (cs : List AV), evQCallS.allFalse ms = true → passL ρ hl ms cs = AV.lendL hl cs
  | ms, [], _ => by cases ms <;> simp [passL, AV.lendL]
  | [], c :: cs, h => by simp [passL, AV.lendL, allFalse_pass ρ hl [] cs h]
  | false :: ms, c :: cs, h => by simp [passL, AV.lendL, allFalse_pass ρ hl ms cs (by simpa [evQCallS.allFalse] using h)]
  | true :: _, _, h => by simp [evQCallS.allFalse] at h
theorem plain_noTree : ∀ (c : AV), evQCallS.plainB c = true → c.noTree = true := by
  intro c h; exact go c h
where
  go : ∀ (c : AV), evQCallS.plainB c = true → c.noTree = true
    | .v _, _ => rfl
    | .bl _, _ => rfl
    | .agg cs, h => by simpa [AV.noTree] using gos cs (by simpa [evQCallS.plainB] using h)
    | .tup cs, h => by simpa [AV.noTree] using gos cs (by simpa [evQCallS.plainB] using h)
    | .any, h => by simp [evQCallS.plainB] at h
    | .tree _ _, h => by simp [evQCallS.plainB] at h
    | .tptr _ _ _ _, h => by simp [evQCallS.plainB] at h
    | .bptr _ _, h => by simp [evQCallS.plainB] at h
    | .loc _ _ _, h => by simp [evQCallS.plainB] at h
    | .own _, h => by simp [evQCallS.plainB] at h
    | .view _ _ _, h => by simp [evQCallS.plainB] at h
    | .rowv _ _, h => by simp [evQCallS.plainB] at h
    | .rloc _ _ _ _, h => by simp [evQCallS.plainB] at h
    | .fn _ _, h => by simp [evQCallS.plainB] at h
  gos : ∀ (cs : List AV), evQCallS.plainBs cs = true → AV.noTreeL cs = true
    | [], _ => rfl
    | c :: cs, h => by
      simp only [evQCallS.plainBs, Bool.and_eq_true] at h
      simp [AV.noTreeL, go c h.1, gos cs h.2]

theorem plain_ren (ρ : Nat → Nat) : ∀ (c : AV), evQCallS.plainB c = true → c.ren ρ = c := by
  intro c h; exact go c h
where
  go : ∀ (c : AV), evQCallS.plainB c = true → c.ren ρ = c
    | .v _, _ => rfl
    | .bl _, _ => rfl
    | .agg cs, h => by simp only [AV.ren]; rw [gos cs (by simpa [evQCallS.plainB] using h)]
    | .tup cs, h => by simp only [AV.ren]; rw [gos cs (by simpa [evQCallS.plainB] using h)]
    | .any, h => by simp [evQCallS.plainB] at h
    | .tree _ _, h => by simp [evQCallS.plainB] at h
    | .tptr _ _ _ _, h => by simp [evQCallS.plainB] at h
    | .bptr _ _, h => by simp [evQCallS.plainB] at h
    | .loc _ _ _, h => by simp [evQCallS.plainB] at h
    | .own _, h => by simp [evQCallS.plainB] at h
    | .view _ _ _, h => by simp [evQCallS.plainB] at h
    | .rowv _ _, h => by simp [evQCallS.plainB] at h
    | .rloc _ _ _ _, h => by simp [evQCallS.plainB] at h
    | .fn _ _, h => by simp [evQCallS.plainB] at h
  gos : ∀ (cs : List AV), evQCallS.plainBs cs = true → AV.renL ρ cs = cs
    | [], _ => rfl
    | c :: cs, h => by
      simp only [evQCallS.plainBs, Bool.and_eq_true] at h
      simp only [AV.renL]; rw [go c h.1, gos cs h.2]

theorem qdoes_call {o : Oper} {st : St} {K : AV → Prop} (c : Call) (f : FuncId) (cs : List AV) {r : AV} (ho : o.op = .call c) (hc : st.callee c = some (f, cs)) (hent : Enters P f) (hs : Spec P f (AV.lendL st.h cs) [] r []) (hp : evQCallS.plainB r = true) (hk : K r) : QDoes P o st K := by
  intro C V a w h
  obtain ⟨vs, hrun, hl, hr⟩ := h.callee hc ho hent
  obtain ⟨y, hy1, hy2⟩ := plain_one r hp
  refine ⟨r, y, hk, hy2 .., fun w' hb => ?_⟩
  unfold Oper.quietAt
  rw [hrun w']
  refine ⟨rfl, ?_⟩
  have h' := h.below hb
  have hpass : passL (fun i => posOf i []) (killIds st.h []) [] cs = AV.lendL st.h cs := allFalse_pass _ _ [] cs rfl
  refine (h'.callG (ms := []) (ids := []) (r := r) (h1 := []) hl (fun i c x h1 h2 => (hr i c x h1 h2).mono (fun b hb' => ⟨⟨hb'.1, Nat.lt_of_lt_of_le hb'.2.1 hb.size, hb'.2.2⟩, hb.block b hb'.2.1⟩) (fun _ _ => rfl) (Nat.le_refl _)) List.nodup_nil (fun k hk => by simp [wIds] at hk) (fun i hi => by simp at hi) (fun i hi => by simp at hi)
    (by rw [hpass]; exact hs) (Nat.le_refl _) (.inr ⟨plain_noTree r hp, (fun i lb e => by simp at e), fun i _ _ _ _ e => by simp at e⟩)).mono ?_
  rintro e w'' ⟨x, V2, rfl, _, hr', hk⟩
  have hren : ∀ w S V N x, R w S V N (r.ren (backId [] st.h.length ([] : List Nat).length)) x → x = y := fun w S V N x hx => hy1 w S V N x ((plain_ren _ r hp) ▸ hx)
  rw [hren _ _ _ _ _ hr']
  exact ⟨rfl, hb.trans ((⟨hk.os, hk.tape, hk.output, hk.size, fun k hk' => hk.block k hk' fun ⟨i, hi, _⟩ => by simp at hi⟩ : Below w'.heap.size w' w'').mono hb.size)⟩

theorem evQ_sound (hG : EnvOk P G) {o : Oper} {st : St} {K : AV → Prop} (h : evQ G st o.op K) : QDoes P o st K := by
  unfold evQ at h
  split at h
  · rename_i x az ts ho
    unfold evQCall evQCallF at h
    split at h
    · rename_i f cap hx
      simp only [evQCallS, forceIL_eq] at h
      obtain ⟨r, h1, hs, _, hb, hk⟩ := h
      simp only [Bool.and_eq_true] at hb
      obtain ⟨⟨hb1, hb2⟩, hb3⟩ := hb
      obtain ⟨hent, hs⟩ := hG.S _ _ _ _ _ hs
      cases h1 with
      | nil => exact qdoes_call _ f _ ho (callee_of hx) hent hs hb3 hk
      | cons _ _ => cases hb1
    · exact h.elim
  · exact (evV_sound hG.T h).toQ

end
end Go.Proofs.YtpmmaohaahbphaaDoor
