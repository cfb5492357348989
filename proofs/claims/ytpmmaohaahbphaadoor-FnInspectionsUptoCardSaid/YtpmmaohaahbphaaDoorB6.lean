/-
  The abstract evaluator, part 6: cells as data; operations that make or write memory.
-/
import Derived.Test.YtpmmaohaahbphaaDoorB5
import Derived.Laws.Tables
import Derived.Laws.MakeOwn
import Derived.Laws.AppendOwn
import Derived.Great.FillDense
namespace Go.Proofs.YtpmmaohaahbphaaDoor
open Go.RowKit

/-! ### Cells as data -/
mutual
def Ty.same : Ty → Ty → Bool
  | .int k, .int k' => decide (k = k')
  | .bool, .bool => true
  | .str, .str => true
  | .st fs, .st gs => Ty.sames fs gs
  | .sl e, .sl e' => Ty.same e e'
  | _, _ => false
def Ty.sames : List Ty → List Ty → Bool
  | [], [] => true
  | t :: ts, u :: us => match Ty.same t u with
    | true => Ty.sames ts us
    | false => false
  | _, _ => false
end
mutual
theorem same_eq : ∀ {t u : Ty}, Ty.same t u = true → t = u
  | .int k, .int k', h => by simp [Ty.same] at h; rw [h]
  | .bool, .bool, _ => rfl
  | .str, .str, _ => rfl
  | .st fs, .st gs, h => by rw [sames_eq (ts := fs) (us := gs) (by simpa [Ty.same] using h)]
  | .sl e, .sl e', h => by rw [same_eq (t := e) (u := e') (by simpa [Ty.same] using h)]
  | .int _, .bool, h => by simp [Ty.same] at h
  | .int _, .str, h => by simp [Ty.same] at h
  | .int _, .st _, h => by simp [Ty.same] at h
  | .int _, .sl _, h => by simp [Ty.same] at h
  | .bool, .int _, h => by simp [Ty.same] at h
  | .bool, .str, h => by simp [Ty.same] at h
  | .bool, .st _, h => by simp [Ty.same] at h
  | .bool, .sl _, h => by simp [Ty.same] at h
  | .str, .int _, h => by simp [Ty.same] at h
  | .str, .bool, h => by simp [Ty.same] at h
  | .str, .st _, h => by simp [Ty.same] at h
  | .str, .sl _, h => by simp [Ty.same] at h
  | .st _, .int _, h => by simp [Ty.same] at h
  | .st _, .bool, h => by simp [Ty.same] at h
  | .st _, .str, h => by simp [Ty.same] at h
  | .st _, .sl _, h => by simp [Ty.same] at h
  | .sl _, .int _, h => by simp [Ty.same] at h
  | .sl _, .bool, h => by simp [Ty.same] at h
  | .sl _, .str, h => by simp [Ty.same] at h
  | .sl _, .st _, h => by simp [Ty.same] at h
theorem sames_eq : ∀ {ts us : List Ty}, Ty.sames ts us = true → ts = us
  | [], [], _ => rfl
  | t :: ts, u :: us, h => by
    unfold Ty.sames at h
    split at h
    · rename_i e; rw [same_eq e, sames_eq h]
    · cases h
  | [], _ :: _, h => by simp [Ty.sames] at h
  | _ :: _, [], h => by simp [Ty.sames] at h
end
def castL {t u : Ty} (h : t = u) (xs : List t.den) : List u.den := h ▸ xs
def decInt (k : IntKind) : List AV → Option Int
  | [.v (.int k' n)] => match decide (k' = k) with
    | true => some n
    | false => none
  | _ => none
def decBool : List AV → Option Bool
  | [c] => c.b?
  | _ => none
def decStr : List AV → Option ByteArray
  | [.v (.string s)] => some s
  | _ => none
def decSl (e : Ty) : List AV → Option (List e.den)
  | [.v (.slice none 0 0)] => some []
  | [.tree t xs] => if h : Ty.same t e = true then some (castL (same_eq h) xs) else none
  | _ => none
mutual
def Ty.dec : (t : Ty) → List AV → Option t.den
  | .int k, cs => decInt k cs
  | .bool, cs => decBool cs
  | .str, cs => decStr cs
  | .st fs, cs => Ty.decs fs cs
  | .sl e, cs => decSl e cs
def Ty.decs : (ts : List Ty) → List AV → Option (Ty.dens ts)
  | [], cs => match cs with
    | [] => some ()
    | _ :: _ => none
  | t :: ts, cs => match Ty.dec t (cs.take t.n), Ty.decs ts (cs.drop t.n) with
    | some x, some y => some (x, y)
    | _, _ => none
end
/-- What stands for the one stands for the other. -/
def AV.imp (c c' : AV) : Prop := ∀ w S x, Rt w S c x → Rt w S c' x
theorem nil_imp (t : Ty) : AV.imp (.v (.slice none 0 0)) (.tree t []) := fun w S x h => by
  cases h
  exact .tree t [] none 0 0 0 0 (fun _ _ => .bool false) rfl (Nat.zero_le _) (Nat.le_refl _) (Nat.zero_le _) (fun h => absurd h (Nat.lt_irrefl _)) (fun k j c h => absurd h (Nat.not_lt_zero _)) (fun k j c h => absurd h (Nat.not_lt_zero _))
theorem b_imp {c : AV} {b : Bool} (h : c.b? = some b) : AV.imp c (.bl b) := fun w S x hr => by
  unfold AV.b? at h
  split at h
  · cases h; exact hr
  · cases h; cases hr; exact .bl _
  · cases h
def DecOk (cs r : List AV) : Prop := ∀ (j : Nat) (c c' : AV), cs[j]? = some c → r[j]? = some c' → c.imp c'
theorem DecOk.one {c c' : AV} (h : c.imp c') : DecOk [c] [c'] := fun j d d' e1 e2 => by
  cases j with
  | zero => simp at e1 e2; subst e1 e2; exact h
  | succ j => simp at e1
theorem decInt_sound {k : IntKind} {cs : List AV} {x : Int} (h : decInt k cs = some x) : cs.length = 1 ∧ DecOk cs [.v (.int k x)] := by
  unfold decInt at h
  split at h
  · split at h
    · rename_i e
      cases h
      obtain rfl := of_decide_eq_true e
      exact ⟨rfl, .one fun _ _ _ h => h⟩
    · cases h
  · cases h
theorem decBool_sound {cs : List AV} {x : Bool} (h : decBool cs = some x) : cs.length = 1 ∧ DecOk cs [.bl x] := by
  unfold decBool at h
  split at h
  · exact ⟨rfl, .one (b_imp h)⟩
  · cases h
theorem decStr_sound {cs : List AV} {x : ByteArray} (h : decStr cs = some x) : cs.length = 1 ∧ DecOk cs [.v (.string x)] := by
  unfold decStr at h
  split at h
  · cases h; exact ⟨rfl, .one fun _ _ _ h => h⟩
  · cases h
theorem decSl_sound {e : Ty} {cs : List AV} {x : List e.den} (h : decSl e cs = some x) : cs.length = 1 ∧ DecOk cs [.tree e x] := by
  unfold decSl at h
  split at h
  · cases h; exact ⟨rfl, .one (nil_imp _)⟩
  · split at h
    · rename_i hs
      cases h
      have := same_eq hs
      subst this
      exact ⟨rfl, .one fun _ _ _ h => h⟩
    · cases h
  · cases h
mutual
theorem dec_sound : ∀ (t : Ty) (cs : List AV) (x : t.den), t.dec cs = some x → cs.length = t.n ∧ DecOk cs (t.enc x)
  | .int _, _, _, h => decInt_sound h
  | .bool, _, _, h => decBool_sound h
  | .str, _, _, h => decStr_sound h
  | .st fs, cs, x, h => decs_sound fs cs x h
  | .sl _, _, _, h => decSl_sound h
theorem decs_sound : ∀ (ts : List Ty) (cs : List AV) (x : Ty.dens ts), Ty.decs ts cs = some x → cs.length = Ty.ns ts ∧ DecOk cs (Ty.encs ts x)
  | [], cs, x, h => by
    cases cs with
    | nil => exact ⟨rfl, fun j c c' e1 => by simp at e1⟩
    | cons c cs => simp [Ty.decs] at h
  | t :: ts, cs, x, h => by
    unfold Ty.decs at h
    split at h
    · rename_i y z h1 h2
      cases h
      obtain ⟨g1, g2⟩ := dec_sound t _ y h1
      obtain ⟨k1, k2⟩ := decs_sound ts _ z h2
      rw [List.length_take] at g1
      rw [List.length_drop] at k1
      have hn : t.n + Ty.ns ts = Ty.ns (t :: ts) := rfl
      have hle : t.n ≤ cs.length := by omega
      refine ⟨by omega, fun j c c' e1 e2 => ?_⟩
      simp only [Ty.encs] at e2
      by_cases hj : j < t.n
      · rw [List.getElem?_append_left (by rw [enc_length]; exact hj)] at e2
        exact g2 j c c' (by rw [List.getElem?_take, if_pos hj]; exact e1) e2
      · rw [List.getElem?_append_right (by rw [enc_length]; omega), enc_length] at e2
        refine k2 (j - t.n) c c' ?_ e2
        rw [List.getElem?_drop, show t.n + (j - t.n) = j by omega]; exact e1
    · cases h
end

/-- A value that fits one cell of memory. -/
def AV.cellOk (h : List (Option LB)) : AV → Bool
  | .any => false
  | .bl _ => true
  | .agg _ => false
  | .tup _ => false
  | .v x => x.oneCell'
  | .own id => match h[id]? with
    | some (some (.arr _ _ _)) => true
    | some (some (.nst _ _ _ _)) => true
    | _ => false
  | .view id _ _ => match h[id]? with
    | some (some (.arr _ _ _)) => true
    | _ => false
  | .tree _ _ => true
  | .tptr _ _ _ _ => true
  | .bptr _ _ => true
  | .loc _ _ _ => true
  | .rowv _ _ => true
  | .rloc _ _ _ _ => true
  | .fn _ _ => true
/-- The cells of a value, each fit for memory. -/
def memCells (h : List (Option LB)) (c : AV) : Option (List AV) :=
  match c with
  | .agg cs => match cs.all (AV.cellOk h) with
    | true => some cs
    | false => none
  | c => match c.cellOk h with
    | true => some [c]
    | false => none

theorem SRV.oneCell {C : Ctx} {V st a w} (h : SRV C V st a w) {c : AV} {x : Value} (hr : R w (Stb C.A w st.h V) V st.h.length c x) (hc : c.cellOk st.h = true) : x.oneCell' = true := by
  cases c with
  | any => simp [AV.cellOk] at hc
  | agg cs => simp [AV.cellOk] at hc
  | tup cs => simp [AV.cellOk] at hc
  | v y => rw [hr.v_inv]; exact hc
  | bl b => rw [b_inv (c := .bl b) rfl hr]; rfl
  | tree t xs => cases hr.tree_inv; rfl
  | tptr t xs row off => cases hr.tptr_inv; rfl
  | bptr cs off => cases hr.bptr_inv; rfl
  | loc id row off => rw [hr.loc_inv.2.2]; rfl
  | own id =>
    rw [hr.own_inv]
    simp only [AV.cellOk] at hc
    split at hc
    · rename_i ty t xs hlb
      obtain ⟨cur, hcur⟩ := h.hr.blk id _ hlb
      obtain ⟨cap, e, _⟩ := hcur.own rfl
      rw [e]; rfl
    · rename_i ty tyI t xss hlb
      obtain ⟨cur, cap, _, e, _⟩ := h.nst hlb
      rw [e]; rfl
    · cases hc
  | rowv id k => rw [hr.rowv_inv.2.2]; rfl
  | rloc id k row off => rw [hr.rloc_inv.2.2.2]; rfl
  | view id lo n =>
    simp only [AV.cellOk] at hc
    split at hc
    · rename_i ty t xs hlb
      obtain ⟨_, cap, _, _, e⟩ := h.part hlb hr
      rw [e]; rfl
    · cases hc
  | fn f cs => obtain ⟨vs, rfl, _⟩ := hr.fn_inv; rfl

theorem cells_of_one {x : Value} (h : x.oneCell' = true) : x.cells = #[x] := by
  cases x <;> first | rfl | cases h

theorem SRV.memCells {C : Ctx} {V st a w} (h : SRV C V st a w) {c : AV} {x : Value} {cs : List AV} (hr : R w (Stb C.A w st.h V) V st.h.length c x) (hc : Go.Proofs.YtpmmaohaahbphaaDoor.memCells st.h c = some cs) :
    x.cells.size = cs.length ∧ (∀ (i : Nat) (c : AV) (y : Value), cs[i]? = some c → x.cells[i]? = some y → R w (Stb C.A w st.h V) V st.h.length c y) ∧ ∀ y ∈ x.cells.toList, y.oneCell' = true := by
  have one : ∀ c : AV, R w (Stb C.A w st.h V) V st.h.length c x → c.cellOk st.h = true → cs = [c] → x.cells.size = cs.length ∧ (∀ (i : Nat) (c : AV) (y : Value), cs[i]? = some c → x.cells[i]? = some y → R w (Stb C.A w st.h V) V st.h.length c y) ∧ ∀ y ∈ x.cells.toList, y.oneCell' = true := by
    rintro c hr hok rfl
    have h1 := h.oneCell hr hok
    rw [cells_of_one h1]
    refine ⟨rfl, fun i c' y e1 e2 => ?_, fun y hy => by simp at hy; subst hy; exact h1⟩
    cases i with
    | zero => simp at e1 e2; subst e1 e2; exact hr
    | succ i => simp at e1
  unfold Go.Proofs.YtpmmaohaahbphaaDoor.memCells at hc
  split at hc
  · rename_i cs'
    split at hc
    · rename_i hall
      cases hc
      obtain ⟨vs, rfl, hl, hh⟩ := hr.agg_inv
      refine ⟨hl, hh, fun y hy => ?_⟩
      obtain ⟨i, hi, rfl⟩ := List.getElem_of_mem hy
      have hi' : i < cs.length := by rw [← hl]; simpa [Value.cells] using hi
      have hlen : i < vs.size := by rw [hl]; exact hi'
      exact h.oneCell (hh i cs[i] _ (List.getElem?_eq_getElem hi') (by simp [Value.cells, hlen])) (List.all_eq_true.1 hall _ (List.getElem_mem hi'))
    · cases hc
  · split at hc
    · rename_i hok
      cases hc
      exact one _ hr hok rfl
    · cases hc

section
variable {P : Program} {M : Nat → List Bool} {o : Oper} {st : St} {K : AV → St → Prop} {T : Nat → Option TI}

/-- A new variable with these cells. -/
def newLB (t : Nat) (cs : List AV) : LB := .box t cs
theorem SRV.newBox {C : Ctx} {V st a w} (h : SRV C V st a w) (t : TypeId) (cs : List AV) (cur : Array Value) (hl : cur.size = cs.length)
    (hr : ∀ (i : Nat) (c : AV) (y : Value), cs[i]? = some c → cur[i]? = some y → R w (Stb C.A w st.h V) V st.h.length c y) (h1 : ∀ y ∈ cur.toList, y.oneCell' = true) :
    SRV C (updV V st.h.length ⟨w.heap.size, cs.length, 1, undef, noSub⟩) ⟨st.s, st.h ++ [some (newLB t cs)]⟩ a (w.alloc (.cells cur t)) ∧
    R (w.alloc (.cells cur t)) (Stb C.A (w.alloc (.cells cur t)) (st.h ++ [some (newLB t cs)]) (updV V st.h.length ⟨w.heap.size, cs.length, 1, undef, noSub⟩)) (updV V st.h.length ⟨w.heap.size, cs.length, 1, undef, noSub⟩) (st.h ++ [some (newLB t cs)]).length (.loc st.h.length 0 0) (.pointer (some ⟨w.heap.size, 0, none⟩)) := by
  have hs := h.alloc ⟨w.heap.size, cs.length, 1, undef, noSub⟩ (newLB t cs) cur rfl (fun S' V' N' hS hV hN => by
    refine ⟨rfl, rfl, fun _ => ⟨_, heap_alloc_new w _, .inl rfl⟩, fun k j c e1 e2 => ?_, (fun e => by simp [newLB, LB.isArr] at e), (fun _ => by simp [hl, newLB, LB.len, LB.sz]), (fun e => by simp [newLB, LB.isArr] at e), trivial⟩
    have hk : k = 0 := by simp only [newLB, LB.len] at e1; omega
    subst hk
    simp only [newLB, LB.rows] at e2
    have hj : j < cur.size := by rw [hl]; exact (List.getElem?_eq_some_iff.1 e2).1
    refine ⟨cur[j], by simp [hj, newLB, LB.sz], h1 _ (by simp), ?_⟩
    refine (hr j c _ e2 (by simp [hj])).mono (fun b hb => ⟨hS b hb, ?_⟩) hV hN
    exact heap_alloc_old w _ hb.2.1)
  refine ⟨hs, ?_⟩
  have := R.loc (w := w.alloc (.cells cur t)) (S := Stb C.A (w.alloc (.cells cur t)) (st.h ++ [some (newLB t cs)]) (updV V st.h.length ⟨w.heap.size, cs.length, 1, undef, noSub⟩)) (V := updV V st.h.length ⟨w.heap.size, cs.length, 1, undef, noSub⟩) (N := (st.h ++ [some (newLB t cs)]).length) st.h.length 0 0 (by simp) (by simp [updV])
  simpa [updV] using this

def evBox (st : St) (t : Nat) (cs : Option (List AV)) (K : AV → St → Prop) : Prop :=
  match cs with
  | some cs => K (.loc st.h.length 0 0) ⟨st.s, st.h ++ [some (newLB t cs)]⟩
  | none => False
theorem edoes_box (t : TypeId) (x : Operand) (ho : o.op = .box t x) (hk : evBox st t (memCells st.h (st.ev x)) K) : EDoes P M o st K := by
  unfold evBox at hk
  split at hk
  · rename_i cs hc
    intro C V a w h next Q hn
    obtain ⟨h1, h2, h3⟩ := h.memCells (h.ev x) hc
    obtain ⟨g1, g2⟩ := h.newBox t cs (a.eval x).cells h1 h2 h3
    have hrun : (execOp a.eval o).run P w = .ok (.value (.pointer (some ⟨w.heap.size, 0, none⟩))) (w.alloc (.cells (a.eval x).cells t)) := by
      simp [execOp, ho, Instr.box, newVar, newRow]
    unfold Oper.wp
    rw [hrun]
    exact hn _ _ _ _ _ hk g1 g2 fun _ => (Below.refl _ _).alloc (Nat.le_refl _) _
  · exact hk.elim

def evAlloc (st : St) (t : Nat) (i : Option TI) (K : AV → St → Prop) : Prop :=
  match i with
  | some i => (i.zero.cells.toList.all Value.oneCell') = true ∧ K (.loc st.h.length 0 0) ⟨st.s, st.h ++ [some (newLB t (i.zero.cells.toList.map AV.v))]⟩
  | none => False
theorem edoes_alloc (hT : TOk P T) (t : TypeId) (ho : o.op = .alloc t) (hk : evAlloc st t (T t) K) : EDoes P M o st K := by
  unfold evAlloc at hk
  split at hk
  · rename_i i hi
    obtain ⟨hz, hk⟩ := hk
    intro C V a w h next Q hn
    obtain ⟨g1, g2⟩ := h.newBox t (i.zero.cells.toList.map AV.v) i.zero.cells (by simp) (fun j c y e1 e2 => by
      simp only [List.getElem?_map, Array.getElem?_toList, e2, Option.map_some, Option.some.injEq] at e1
      subst e1; exact .imm _ _ (.v y)) (fun y hy => List.all_eq_true.1 hz y hy)
    have hrun : (execOp a.eval o).run P w = .ok (.value (.pointer (some ⟨w.heap.size, 0, none⟩))) (w.alloc (.cells i.zero.cells t)) := by
      simp [execOp, ho, Instr.alloc, newVar, newRow, (hT t i hi).zero]
    unfold Oper.wp
    rw [hrun]
    exact hn _ _ _ _ _ hk g1 g2 fun _ => (Below.refl _ _).alloc (Nat.le_refl _) _
  · exact hk.elim


/-- Own slices that are put where they are only read come to rest. -/
def frz (h : List (Option LB)) : List AV → List AV × List (Option LB)
  | [] => ([], h)
  | .own id :: cs => match h[id]? with
    | some (some (.arr _ t xs)) => match frz (h.set id none) cs with
      | (r, h') => (.tree t xs :: r, h')
    | some (some (.nst _ _ t xss)) => match frz (h.set id none) cs with
      | (r, h') => (.tree (.sl t) xss :: r, h')
    | _ => match frz h cs with
      | (r, h') => (.any :: r, h')
  | c :: cs => match frz h cs with
    | (r, h') => (c :: r, h')
theorem SRV.freeze {C : Ctx} {V st a w} (h : SRV C V st a w) {id ty : Nat} {t : Ty} {xs : List t.den} (e : st.h[id]? = some (some (.arr ty t xs))) {x : Value} (hx : x = (V id).val) :
    SRV C V ⟨st.s, st.h.set id none⟩ a w ∧ Rt w (Stb C.A w (st.h.set id none) V) (.tree t xs) x := by
  have h2 := h.drop id
  refine ⟨h2, ?_⟩
  obtain ⟨cur, hc⟩ := h.hr.blk id _ e
  obtain ⟨cap, e1, e2, e3, e4, e5⟩ := hc.own rfl
  have hlive : ∀ (i : Nat) (l : LB), (st.h.set id none)[i]? = some (some l) → i ≠ id ∧ st.h[i]? = some (some l) := fun i l e => by
    rw [List.getElem?_set] at e
    by_cases hi : id = i
    · rw [if_pos hi] at e; split at e <;> simp at e
    · rw [if_neg hi] at e; exact ⟨fun e => hi e.symm, e⟩
  have hS : ∀ b, Stb C.A w st.h V b → Stb C.A w (st.h.set id none) V b ∧ w.heap[b]? = w.heap[b]? := fun b hs => ⟨⟨hs.1, hs.2.1, fun i l e => hs.2.2 i l (hlive i l e).2⟩, rfl⟩
  rw [hx, e1]
  refine .tree t xs _ _ cap (V id).blk 0 (fun k j => (cur[k * t.n + j]?).getD undef) rfl e5 e2 e3 (fun _ => ⟨rfl, h.inA e, h.hr.lt e, fun i l e' => ?_⟩) (fun k j c g1 g2 => ?_) (fun k j c g1 g2 => ?_)
  · obtain ⟨g1, g2⟩ := hlive i l e'
    exact fun hf => h.hr.inj i id l _ g2 e g1 _ hf (.inl rfl)
  · obtain ⟨y, f1, f2, f3⟩ := hc.cell k j c g1 g2
    have f1' : cur[k * t.n + j]? = some y := f1
    rw [cell_of_row _ _ _ _ _ _ (hc.heap rfl).choose_spec.1, Nat.zero_add, f1']
    exact ⟨rfl, f2⟩
  · obtain ⟨y, f1, f2, f3⟩ := hc.cell k j c g1 g2
    have f1' : cur[k * t.n + j]? = some y := f1
    simp only [f1', Option.getD_some]
    exact (hc.still rfl k j c y g1 g2 f1').mono hS
theorem SRV.freezeN {C : Ctx} {V st a w} (h : SRV C V st a w) {id ty tyI : Nat} {t : Ty} {xss : List (List t.den)} (e : st.h[id]? = some (some (.nst ty tyI t xss))) {x : Value} (hx : x = (V id).val) :
    SRV C V ⟨st.s, st.h.set id none⟩ a w ∧ Rt w (Stb C.A w (st.h.set id none) V) (.tree (.sl t) xss) x := by
  have h2 := h.drop id
  refine ⟨h2, ?_⟩
  have hl := h.lendNst (hl := st.h) (fun _ _ e => e) e
  obtain ⟨cur, cap, hn, e1, e2, e3, e4, e5, e6, e7⟩ := h.nst e
  have hlive : ∀ (i : Nat) (l : LB), (st.h.set id none)[i]? = some (some l) → i ≠ id ∧ st.h[i]? = some (some l) := fun i l e => by
    rw [List.getElem?_set] at e
    by_cases hi : id = i
    · rw [if_pos hi] at e; split at e <;> simp at e
    · rw [if_neg hi] at e; exact ⟨fun e => hi e.symm, e⟩
  have hS : ∀ b, Stb C.A w st.h V b → Stb C.A w (st.h.set id none) V b ∧ w.heap[b]? = w.heap[b]? := fun b hs => ⟨⟨hs.1, hs.2.1, fun i l e => hs.2.2 i l (hlive i l e).2⟩, rfl⟩
  have hmine : ∀ b, foot (V id) (.nst ty tyI t xss) b → Stb C.A w (st.h.set id none) V b := fun b hf => ⟨h.inAf e hf, h.hr.ltf e hf, fun i l e' hf' => by
    obtain ⟨g1, g2⟩ := hlive i l e'
    exact h.hr.inj i id l _ g2 e g1 b hf' hf⟩
  rw [hx, e1]
  refine .tree (.sl t) xss _ _ cap (V id).blk 0 (fun k _ => ((V id).subs k).val) rfl e5 e2 e3 (fun _ => ⟨rfl, hmine _ (.inl rfl)⟩) (fun k j c h1 h2 => ?_) (fun k j c h1 h2 => ?_)
  · rw [rowT_sl] at h2
    cases j with
    | zero =>
      rw [cell_of_row _ _ _ _ _ _ hn.frh.choose_spec]
      refine ⟨?_, rfl⟩
      have := hn.at_ k h1
      simpa [Ty.n] using this
    | succ j => simp at h2
  · rw [rowT_sl] at h2
    cases j with
    | succ j => simp at h2
    | zero =>
      simp only [List.getElem?_cons_zero, Option.some.injEq] at h2
      subst h2
      obtain ⟨f1, f2, f3, f4, f5⟩ := hn.ok k h1
      obtain ⟨ck, g1, g2, g3⟩ := hn.row k h1
      unfold RowI.val
      refine .tree t _ _ _ _ ((V id).subs k).blk 0 (fun i j => (ck[i * t.n + j]?).getD undef) f2 (by omega) (by omega) f4 (fun _ => ⟨rfl, hmine _ (.inr ⟨k, h1, rfl⟩)⟩) (fun i j c k1 k2 => ?_) (fun i j c k1 k2 => ?_)
      · obtain ⟨x, m1, m2, _⟩ := g3 i j c k1 k2
        rw [cell_of_row _ _ _ _ _ _ g1, Nat.zero_add, m1]
        exact ⟨rfl, m2⟩
      · obtain ⟨x, m1, _, m3⟩ := g3 i j c k1 k2
        simp only [m1, Option.getD_some]
        exact m3.mono hS
theorem SRV.frz {C : Ctx} {V a w} {s : Nat → AV} : ∀ (cs : List AV) (h : List (Option LB)) (ys : List Value), SRV C V ⟨s, h⟩ a w → ys.length = cs.length →
    (∀ (i : Nat) (c : AV) (y : Value), cs[i]? = some c → ys[i]? = some y → R w (Stb C.A w h V) V h.length c y) →
    SRV C V ⟨s, (frz h cs).2⟩ a w ∧ (frz h cs).1.length = cs.length ∧ (frz h cs).2.length = h.length ∧ (∀ b, Stb C.A w h V b → Stb C.A w (frz h cs).2 V b) ∧ ∀ (i : Nat) (c : AV) (y : Value), (frz h cs).1[i]? = some c → ys[i]? = some y → R w (Stb C.A w (frz h cs).2 V) V h.length c y
  | [], h, ys, hs, _, _ => ⟨hs, rfl, rfl, fun b hb => hb, fun i c y e => by simp [Go.Proofs.YtpmmaohaahbphaaDoor.frz] at e⟩
  | c :: cs, h, [], _, hl, _ => by simp at hl
  | c :: cs, h, y :: ys, hs, hl, hr => by
    have hr0 := hr 0 c y rfl rfl
    have hrt := fun (i : Nat) (c : AV) (y : Value) (e1 : cs[i]? = some c) (e2 : ys[i]? = some y) => hr (i + 1) c y (by simpa using e1) (by simpa using e2)
    have other : ∀ d : AV, R w (Stb C.A w h V) V h.length d y → Go.Proofs.YtpmmaohaahbphaaDoor.frz h (c :: cs) = (d :: (Go.Proofs.YtpmmaohaahbphaaDoor.frz h cs).1, (Go.Proofs.YtpmmaohaahbphaaDoor.frz h cs).2) →
        SRV C V ⟨s, (Go.Proofs.YtpmmaohaahbphaaDoor.frz h (c :: cs)).2⟩ a w ∧ (Go.Proofs.YtpmmaohaahbphaaDoor.frz h (c :: cs)).1.length = (c :: cs).length ∧ (Go.Proofs.YtpmmaohaahbphaaDoor.frz h (c :: cs)).2.length = h.length ∧ (∀ b, Stb C.A w h V b → Stb C.A w (Go.Proofs.YtpmmaohaahbphaaDoor.frz h (c :: cs)).2 V b) ∧ ∀ (i : Nat) (c' : AV) (y' : Value), (Go.Proofs.YtpmmaohaahbphaaDoor.frz h (c :: cs)).1[i]? = some c' → (y :: ys)[i]? = some y' → R w (Stb C.A w (Go.Proofs.YtpmmaohaahbphaaDoor.frz h (c :: cs)).2 V) V h.length c' y' := fun d hd e => by
      obtain ⟨g1, g2, g3, g4, g5⟩ := SRV.frz cs h ys hs (by simpa using hl) hrt
      rw [e]
      refine ⟨g1, by simp [g2], g3, g4, fun i c' y' e1 e2 => ?_⟩
      cases i with
      | zero => simp at e1 e2; subst e1 e2; exact hd.mono (fun b hb => ⟨g4 b hb, rfl⟩) (fun _ _ => rfl) (Nat.le_refl _)
      | succ i => exact g5 i c' y' (by simpa using e1) (by simpa using e2)
    have gone : ∀ (id : Nat) (u : Ty) (us : List u.den), c = .own id → SRV C V ⟨s, h.set id none⟩ a w → Rt w (Stb C.A w (h.set id none) V) (.tree u us) y → Go.Proofs.YtpmmaohaahbphaaDoor.frz h (c :: cs) = (.tree u us :: (Go.Proofs.YtpmmaohaahbphaaDoor.frz (h.set id none) cs).1, (Go.Proofs.YtpmmaohaahbphaaDoor.frz (h.set id none) cs).2) →
        SRV C V ⟨s, (Go.Proofs.YtpmmaohaahbphaaDoor.frz h (c :: cs)).2⟩ a w ∧ (Go.Proofs.YtpmmaohaahbphaaDoor.frz h (c :: cs)).1.length = (c :: cs).length ∧ (Go.Proofs.YtpmmaohaahbphaaDoor.frz h (c :: cs)).2.length = h.length ∧ (∀ b, Stb C.A w h V b → Stb C.A w (Go.Proofs.YtpmmaohaahbphaaDoor.frz h (c :: cs)).2 V b) ∧ ∀ (i : Nat) (c' : AV) (y' : Value), (Go.Proofs.YtpmmaohaahbphaaDoor.frz h (c :: cs)).1[i]? = some c' → (y :: ys)[i]? = some y' → R w (Stb C.A w (Go.Proofs.YtpmmaohaahbphaaDoor.frz h (c :: cs)).2 V) V h.length c' y' := fun id u us hc h2 ht e9 => by
      have hS : ∀ b, Stb C.A w h V b → Stb C.A w (h.set id none) V b := fun b hb => ⟨hb.1, hb.2.1, fun i l e => hb.2.2 i l (by
        rw [List.getElem?_set] at e
        by_cases hi : id = i
        · rw [if_pos hi] at e; split at e <;> simp at e
        · rw [if_neg hi] at e; exact e)⟩
      obtain ⟨g1, g2, g3, g4, g5⟩ := SRV.frz cs (h.set id none) ys h2 (by simpa using hl) fun i c y e1 e2 => (hrt i c y e1 e2).mono (fun b hb => ⟨hS b hb, rfl⟩) (fun _ _ => rfl) (by simp)
      rw [e9]
      refine ⟨g1, by simp [g2], by simpa using g3, fun b hb => g4 b (hS b hb), fun i c' y' e1 e2 => ?_⟩
      cases i with
      | zero => simp at e1 e2; subst e1 e2; exact .imm _ _ (ht.mono fun b hb => ⟨g4 b hb, rfl⟩)
      | succ i => have := g5 i c' y' (by simpa using e1) (by simpa using e2); simpa using this
    cases c with
    | own id =>
      cases e : h[id]? with
      | none => exact other .any (.imm _ _ (.any _)) (by simp only [Go.Proofs.YtpmmaohaahbphaaDoor.frz, e])
      | some ob =>
        cases ob with
        | none => exact other .any (.imm _ _ (.any _)) (by simp only [Go.Proofs.YtpmmaohaahbphaaDoor.frz, e])
        | some lb =>
          cases lb with
          | box ty cells => exact other .any (.imm _ _ (.any _)) (by simp only [Go.Proofs.YtpmmaohaahbphaaDoor.frz, e])
          | mp ty t ks => exact other .any (.imm _ _ (.any _)) (by simp only [Go.Proofs.YtpmmaohaahbphaaDoor.frz, e])
          | arr ty t xs =>
            obtain ⟨h2, ht⟩ := hs.freeze (st := ⟨s, h⟩) e hr0.own_inv
            exact gone id t xs rfl h2 ht (by simp only [Go.Proofs.YtpmmaohaahbphaaDoor.frz, e])
          | nst ty tyI t xss =>
            obtain ⟨h2, ht⟩ := hs.freezeN (st := ⟨s, h⟩) e hr0.own_inv
            exact gone id (.sl t) xss rfl h2 ht (by simp only [Go.Proofs.YtpmmaohaahbphaaDoor.frz, e])
    | _ => exact other _ hr0 rfl
end
end Go.Proofs.YtpmmaohaahbphaaDoor
