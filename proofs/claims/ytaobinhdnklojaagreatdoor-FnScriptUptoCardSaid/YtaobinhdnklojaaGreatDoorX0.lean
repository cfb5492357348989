/-
  Contracts of functions of Go's library, brought into the form of these texts.
-/
import Derived.Test.YtaobinhdnklojaaGreatDoorB10
import Derived.KernelRfl
import Derived.Test.YtaobinhdnklojaaGreatDoorProg
import Derived.Sort.Grow
import Derived.Deep.Draws
namespace Go.Proofs.YtaobinhdnklojaaGreatDoor
open Go.RowKit

def posM (i : Nat) : List Nat → Option Nat
 | [] => none
 | j :: l => match Nat.beq i j with
   | true => some 0
   | false => match posM i l with
     | some k => some (k + 1)
     | none => none
theorem pMs : ∀ {l : List Nat} {i k : Nat}, posM i l = some k → k < l.length ∧ l.getD k 0 = i
 | [], i, k, h => by simp [posM] at h
 | j :: l, i, k, h => by
   unfold posM at h
   split at h
   ·rename_i e; cases h; exact ⟨by simp, by simpa using (Nat.eq_of_beq_eq_true e).symm⟩
   ·split at h
    ·rename_i k' e
     cases h
     obtain ⟨h1, h2⟩ := pMs e
     exact ⟨by simp; exact h1, by simpa using h2⟩
    ·cases h
theorem pMn : ∀ {l : List Nat} {i : Nat}, posM i l = none → i ∉ l
 | [], i, _ => by simp
 | j :: l, i, h => by
   unfold posM at h
   split at h
   ·cases h
   ·rename_i e
    split at h
    ·cases h
    ·rename_i e2
     simp [Nat.ne_of_beq_eq_false e, pMn e2]
mutual
def AV.settle (σ : List Nat) (h : List (Option LB)) : AV → AV
 | .any => .any
 | .v x => .v x
 | .bl b => .bl b
 | .agg cs => .agg (AV.settleL σ h cs)
 | .tup cs => .tup (AV.settleL σ h cs)
 | .tree t xs => .tree t xs
 | .tptr t xs row off => .tptr t xs row off
 | .bptr cs off => .bptr cs off
 | .loc id row off => match posM id σ with
   | some k => .loc k row off
   | none => .any
 | .own id => match posM id σ with
   | some k => .own k
   | none => match h[id]? with
     | some (some (.arr _ t xs)) => .tree t xs
     | _ => .any
 | .view id lo n => match posM id σ with
   | some k => .view k lo n
   | none => match h[id]? with
     | some (some (.arr _ t xs)) => .tree t ((xs.drop lo).take n)
     | _ => .any
 | .fn f cs => .fn f (AV.settleL σ h cs)
def AV.settleL (σ : List Nat) (h : List (Option LB)) : List AV → List AV
 | [] => []
 | c :: cs => AV.settle σ h c :: AV.settleL σ h cs
end
theorem sLg (σ : List Nat) (h : List (Option LB)) : ∀ (cs : List AV) (i : Nat), (AV.settleL σ h cs)[i]? = (cs[i]?).map (AV.settle σ h)
 | [], i => by simp [AV.settleL]
 | c :: cs, 0 => by simp [AV.settleL]
 | c :: cs, i + 1 => by simpa [AV.settleL] using sLg σ h cs i
theorem sLl (σ : List Nat) (h : List (Option LB)) : ∀ (cs : List AV), (AV.settleL σ h cs).length = cs.length
 | [] => rfl
 | c :: cs => by simp [AV.settleL, sLl σ h cs]

mutual
def leC (c' : AV) : AV → Prop
 | .any => True
 | .bl b => match c' with
   | .v (.bool b') => Ob (b' = b)
   | c' => Ob (c' = .bl b)
 | .tree t xs => match c' with
   | .v (.slice none 0 0) => Ob (xs = [])
   | c' => Ob (c' = .tree t xs)
 | .agg cs => match c' with
   | .agg cs' => leL cs' cs
   | _ => False
 | .tup cs => match c' with
   | .tup cs' => leL cs' cs
   | _ => False
 | .fn f cs => match c' with
   | .fn f' cs' => Nat.beq f' f = true ∧ leL cs' cs
   | _ => False
 | .v x => Ob (c' = .v x)
 | .tptr t xs row off => Ob (c' = .tptr t xs row off)
 | .bptr cs off => Ob (c' = .bptr cs off)
 | .loc id row off => Ob (c' = .loc id row off)
 | .own id => Ob (c' = .own id)
 | .view id lo n => Ob (c' = .view id lo n)
def leL (cs' : List AV) : List AV → Prop
 | [] => match cs' with
   | [] => True
   | _ => False
 | c :: cs => match cs' with
   | c' :: cs' => leC c' c ∧ leL cs' cs
   | [] => False
end
mutual
theorem leC_R {w : World} {S : Nat → Prop} {V : Nat → Info} {N : Nat} {c' : AV} {x : Value} : ∀ {c : AV}, leC c' c → R w S V N c' x → R w S V N c x
 | .any, _, _ => .imm _ _ (.any _)
 | .bl b, h, hr => by
   unfold leC at h
   split at h
   ·rename_i b'
    have := h.out
    subst this
    rw [hr.v_inv]; exact .imm _ _ (.bl _)
   ·rw [h.out] at hr; exact hr
 | .tree t xs, h, hr => by
   unfold leC at h
   split at h
   ·have := h.out
    subst this
    rw [hr.v_inv]; exact .imm _ _ (nil_imp t w S _ (.v _))
   ·rw [h.out] at hr; exact hr
 | .agg cs, h, hr => by
   unfold leC at h
   split at h
   ·rename_i cs'
    obtain ⟨vs, rfl, hl, hh⟩ := hr.agg_inv
    obtain ⟨e1, e2⟩ := leL_R (w := w) (S := S) (V := V) (N := N) h vs.toList (by simpa using hl) fun i c x g1 g2 => hh i c x g1 (by simpa using g2)
    exact .agg _ vs (by omega) fun i c x g1 g2 => e2 i c x g1 (by simpa using g2)
   ·exact h.elim
 | .tup cs, h, hr => by
   unfold leC at h
   split at h
   ·rename_i cs'
    obtain ⟨vs, rfl, hl, hh⟩ := hr.tup_inv
    obtain ⟨e1, e2⟩ := leL_R (w := w) (S := S) (V := V) (N := N) h vs.toList (by simpa using hl) fun i c x g1 g2 => hh i c x g1 (by simpa using g2)
    exact .tup _ vs (by omega) fun i c x g1 g2 => e2 i c x g1 (by simpa using g2)
   ·exact h.elim
 | .fn f cs, h, hr => by
   unfold leC at h
   split at h
   ·rename_i f' cs'
    obtain ⟨h1, h⟩ := h
    obtain rfl := Nat.eq_of_beq_eq_true h1
    obtain ⟨vs, rfl, hl, hh⟩ := hr.fn_inv
    obtain ⟨e1, e2⟩ := leL_R (w := w) (S := S) (V := V) (N := N) h vs.toList (by simpa using hl) fun i c x g1 g2 => hh i c x g1 (by simpa using g2)
    exact .fn _ _ vs (by omega) fun i c x g1 g2 => e2 i c x g1 (by simpa using g2)
   ·exact h.elim
 | .v x, h, hr => by unfold leC at h; rw [h.out] at hr; exact hr
 | .tptr t xs row off, h, hr => by unfold leC at h; rw [h.out] at hr; exact hr
 | .bptr cs off, h, hr => by unfold leC at h; rw [h.out] at hr; exact hr
 | .loc id row off, h, hr => by unfold leC at h; rw [h.out] at hr; exact hr
 | .own id, h, hr => by unfold leC at h; rw [h.out] at hr; exact hr
 | .view id lo n, h, hr => by unfold leC at h; rw [h.out] at hr; exact hr
theorem leL_R {w : World} {S : Nat → Prop} {V : Nat → Info} {N : Nat} {cs' : List AV} : ∀ {cs : List AV}, leL cs' cs → ∀ (vs : List Value), vs.length = cs'.length → (∀ (i : Nat) (c : AV) (x : Value), cs'[i]? = some c → vs[i]? = some x → R w S V N c x) →
  cs'.length = cs.length ∧ ∀ (i : Nat) (c : AV) (x : Value), cs[i]? = some c → vs[i]? = some x → R w S V N c x
 | [], h, vs, _, _ => by
   unfold leL at h
   split at h
   ·exact ⟨rfl, fun i c x e => by simp at e⟩
   ·exact h.elim
 | c :: cs, h, vs, hl, hr => by
   unfold leL at h
   split at h
   ·rename_i c' cs''
    cases vs with
    | nil => simp at hl
    | cons v vs =>
      obtain ⟨e1, e2⟩ := leL_R h.2 vs (by simpa using hl) fun i d x g1 g2 => hr (i + 1) d x (by simpa using g1) (by simpa using g2)
      refine ⟨by simp [e1], fun i d x g1 g2 => ?_⟩
      cases i with
      | zero => simp at g1 g2; subst g1 g2; exact leC_R h.1 (hr 0 c' v rfl rfl)
      | succ i => exact e2 i d x (by simpa using g1) (by simpa using g2)
   ·exact h.elim
end

def selLB (σ : List Nat) (h : List (Option LB)) (o' : Option (Option LB)) (b : LB) : Prop :=
 match b with
 | .box ty cs => match o' with
   | some (some (.box ty' cs')) => Nat.beq ty' ty = true ∧ leL (AV.settleL σ h cs') cs
   | _ => False
 | .arr ty t xs => match o' with
   | some (some b') => Ob (b' = .arr ty t xs)
   | _ => False
def selH (σ : List Nat) (h : List (Option LB)) : List Nat → List (Option LB) → Prop
 | [], [] => True
 | _ :: is, none :: os => selH σ h is os
 | i :: is, some b :: os => selLB σ h h[i]? b ∧ selH σ h is os
 | _, _ => False
theorem sHg {σ : List Nat} {h : List (Option LB)} : ∀ {is : List Nat} {os : List (Option LB)}, selH σ h is os → is.length = os.length ∧ ∀ (k : Nat) (b : LB), os[k]? = some (some b) → ∃ i, is[k]? = some i ∧ selLB σ h h[i]? b
 | [], [], _ => ⟨rfl, fun k o e => by simp at e⟩
 | i :: is, none :: os, hh => by
   obtain ⟨h4, h5⟩ := sHg (is := is) (os := os) (by simpa [selH] using hh)
   refine ⟨by simp [h4], fun k p hp => ?_⟩
   cases k with
   | zero => simp at hp
   | succ k => simp at hp; obtain ⟨j, e1, e2⟩ := h5 k p hp; exact ⟨j, by simpa using e1, e2⟩
 | i :: is, some b :: os, hh => by
   obtain ⟨h1, h2⟩ := hh
   obtain ⟨h4, h5⟩ := sHg h2
   refine ⟨by simp [h4], fun k p hp => ?_⟩
   cases k with
   | zero => simp at hp; subst hp; exact ⟨i, by simp, h1⟩
   | succ k => simp at hp; obtain ⟨j, e1, e2⟩ := h5 k p hp; exact ⟨j, by simpa using e1, e2⟩
 | [], _ :: _, hh => by simp [selH] at hh
 | _ :: _, [], hh => by simp [selH] at hh
def lO : List Nat → List (Option LB) → List Nat
 | i :: is, some _ :: os => i :: lO is os
 | _ :: is, none :: os => lO is os
 | _, _ => []
def ndB : List Nat → Bool
 | [] => true
 | i :: l => match l.any (Nat.beq i) with
   | true => false
   | false => ndB l
theorem lOm : ∀ {is : List Nat} {os : List (Option LB)} {k i : Nat} {b : LB}, is[k]? = some i → os[k]? = some (some b) → i ∈ lO is os
 | [], _, k, i, b, h, _ => by simp at h
 | j :: is, [], k, i, b, _, h => by simp at h
 | j :: is, none :: os, k, i, b, h1, h2 => by
   cases k with
   | zero => simp at h2
   | succ k => simp only [lO]; exact lOm (k := k) (by simpa using h1) (by simpa using h2)
 | j :: is, some _ :: os, k, i, b, h1, h2 => by
   cases k with
   | zero => simp at h1; subst h1; simp [lO]
   | succ k => simp only [lO]; exact List.mem_cons_of_mem _ (lOm (k := k) (by simpa using h1) (by simpa using h2))
theorem lOi : ∀ {is : List Nat} {os : List (Option LB)}, ndB (lO is os) = true → ∀ {k k' i : Nat} {b b' : LB}, is[k]? = some i → os[k]? = some (some b) → is[k']? = some i → os[k']? = some (some b') → k = k'
 | [], _, _, k, _, _, _, _, h, _, _, _ => by simp at h
 | j :: is, [], _, k, _, _, _, _, _, h, _, _ => by simp at h
 | j :: is, none :: os, hnd, k, k', i, b, b', h1, h2, h3, h4 => by
   cases k with
   | zero => simp at h2
   | succ k =>
     cases k' with
     | zero => simp at h4
     | succ k' => rw [lOi (is := is) (os := os) (by simpa [lO] using hnd) (k := k) (k' := k') (by simpa using h1) (by simpa using h2) (by simpa using h3) (by simpa using h4)]
 | j :: is, some _ :: os, hnd, k, k', i, b, b', h1, h2, h3, h4 => by
   simp only [lO] at hnd
   unfold ndB at hnd
   split at hnd
   ·cases hnd
   ·rename_i e
    have hni : j ∉ lO is os := fun hm => by
     have : (lO is os).any (Nat.beq j) = true := List.any_eq_true.2 ⟨j, hm, Nat.beq_refl j⟩
     rw [this] at e; cases e
    cases k with
    | zero =>
      cases k' with
      | zero => rfl
      | succ k' => simp at h1; subst h1; exact (hni (lOm (k := k') (by simpa using h3) (by simpa using h4))).elim
    | succ k =>
      cases k' with
      | zero => simp at h3; subst h3; exact (hni (lOm (k := k) (by simpa using h1) (by simpa using h2))).elim
      | succ k' => rw [lOi hnd (k := k) (k' := k') (by simpa using h1) (by simpa using h2) (by simpa using h3) (by simpa using h4)]
def fixB : Nat → Nat → List Nat → Bool
 | 0, _, _ => true
 | m + 1, k, i :: l => match Nat.beq i k with
   | true => fixB m (k + 1) l
   | false => false
 | _ + 1, _, [] => false
theorem fixB_out : ∀ {m k : Nat} {l : List Nat}, fixB m k l = true → m ≤ l.length ∧ ∀ i, i < m → l.getD i 0 = k + i
 | 0, k, l, _ => ⟨Nat.zero_le _, fun i h => absurd h (Nat.not_lt_zero _)⟩
 | m + 1, k, j :: l, h => by
   unfold fixB at h
   split at h
   ·rename_i e
    obtain ⟨h1, h2⟩ := fixB_out h
    refine ⟨by simp; exact h1, fun i hi => ?_⟩
    cases i with
    | zero => simpa using Nat.eq_of_beq_eq_true e
    | succ i => have := h2 i (by omega); simp only [List.getD_cons_succ]; omega
   ·cases h
 | m + 1, k, [], h => by simp [fixB] at h

section
variable {C : Ctx} {V : Nat → Info} {st : St} {a : Act} {w : World} {σ : List Nat} {h' : List (Option LB)}
theorem SRV.settle (h : SRV C V st a w) (hs : selH σ st.h σ h') {c : AV} {x : Value} (hr : R w (Stb C.A w st.h V) V st.h.length c x) : R w (Stb C.A w h' (fun i => V (σ.getD i 0))) (fun i => V (σ.getD i 0)) σ.length (c.settle σ st.h) x := by
 obtain ⟨hl, hk⟩ := sHg hs
 have hlive : ∀ (k : Nat) (b : LB), h'[k]? = some (some b) → ∃ i b', σ[k]? = some i ∧ st.h[i]? = some (some b') := fun k b e => by
  obtain ⟨i, e1, e2⟩ := hk k b e
  unfold selLB at e2
  split at e2
  ·split at e2
   ·rename_i e3; exact ⟨i, _, e1, e3⟩
   ·exact e2.elim
  ·split at e2
   ·rename_i e3; exact ⟨i, _, e1, e3⟩
   ·exact e2.elim
 have hgetD : ∀ (k i : Nat), σ[k]? = some i → σ.getD k 0 = i := fun k i e => by rw [List.getD, e]; rfl
 have hS : ∀ b, Stb C.A w st.h V b → Stb C.A w h' (fun i => V (σ.getD i 0)) b := fun b hb => ⟨hb.1, hb.2.1, fun k lb e => by
  obtain ⟨i, b', e1, e2⟩ := hlive k lb e
  show (V (σ.getD k 0)).blk ≠ b
  rw [hgetD k i e1]
  exact hb.2.2 i b' e2⟩
 have hrest : ∀ (id : Nat) (lb : LB), st.h[id]? = some (some lb) → id ∉ σ → Stb C.A w h' (fun i => V (σ.getD i 0)) (V id).blk := fun id lb e hni => ⟨h.inA e, h.hr.lt e, fun k lb' e' => by
  obtain ⟨i, b', e1, e2⟩ := hlive k lb' e'
  show (V (σ.getD k 0)).blk ≠ _
  rw [hgetD k i e1]
  exact h.hr.inj i id b' lb e2 e fun g => hni (g ▸ List.mem_of_getElem? e1)⟩
 have tree : ∀ (id ty : Nat) (t : Ty) (xs : List t.den) (lo n cap : Nat), st.h[id]? = some (some (.arr ty t xs)) → id ∉ σ → lo + n ≤ xs.length → n ≤ cap → cap ≤ maxLen → ∀ (ad : Option Addr), (0 < n → ad = some ⟨(V id).blk, lo * t.n, none⟩) →
   R w (Stb C.A w h' (fun i => V (σ.getD i 0))) (fun i => V (σ.getD i 0)) σ.length (.tree t ((xs.drop lo).take n)) (.slice ad n cap) := fun id ty t xs lo n cap e hni hle hnc hcm ad had => by
  obtain ⟨_, X, e1, e2, e3, e4, e5, e6, _⟩ := h.lendArr (hl := st.h) (fun _ _ e => e) e
  obtain ⟨cur, hc⟩ := h.hr.blk id _ e
  have hln : ((xs.drop lo).take n).length = n := by simp; omega
  have hrw : ∀ k, k < n → rowT t ((xs.drop lo).take n) k = rowT t xs (lo + k) := fun k hk => by
   simp only [rowT, List.getD_eq_getElem?_getD, List.getElem?_take, if_pos hk, List.getElem?_drop]
  refine .imm _ _ (.tree t _ _ _ cap (V id).blk (lo * t.n) (fun k j => (cur[(lo + k) * t.n + j]?).getD undef) hln.symm (by omega) (by omega) hcm (fun hne => ⟨had (by omega), hrest id _ e hni⟩) (fun k j c g1 g2 => ?_) (fun k j c g1 g2 => ?_))
  ·rw [hrw k (by omega)] at g2
   obtain ⟨y, f1, f2, _⟩ := hc.cell (lo + k) j c (by show lo + k < xs.length; omega) g2
   have f1 : cur[(lo + k) * t.n + j]? = some y := f1
   rw [show lo * t.n + k * t.n + j = (lo + k) * t.n + j by rw [Nat.add_mul], cell_of_row _ _ _ _ _ _ hc.heap.choose_spec.1]
   simp only [f1, Option.getD_some]
   exact ⟨trivial, f2⟩
  ·rw [hrw k (by omega)] at g2
   obtain ⟨y, f1, f2, _⟩ := hc.cell (lo + k) j c (by show lo + k < xs.length; omega) g2
   have f1 : cur[(lo + k) * t.n + j]? = some y := f1
   simp only [f1, Option.getD_some]
   exact (hc.still rfl (lo + k) j c y (by show lo + k < xs.length; omega) g2 f1).mono fun b hb => ⟨hS b hb, rfl⟩
 have lk : ∀ (cs : List AV) (vs : Array Value), (∀ (i : Nat) (c : AV) (x : Value), cs[i]? = some c → vs[i]? = some x → R w (Stb C.A w h' (fun i => V (σ.getD i 0))) (fun i => V (σ.getD i 0)) σ.length (c.settle σ st.h) x) → ∀ (i : Nat) (c : AV) (x : Value), (AV.settleL σ st.h cs)[i]? = some c → vs[i]? = some x → R w (Stb C.A w h' (fun i => V (σ.getD i 0))) (fun i => V (σ.getD i 0)) σ.length c x := fun cs vs ih i c x h1 h2 => by
  rw [sLg] at h1
  obtain ⟨c', h3, rfl⟩ := Option.map_eq_some_iff.1 h1
  exact ih i c' x h3 h2
 induction hr with
 | imm c x hr =>
   induction hr with
   | any x => exact .imm _ _ (.any _)
   | v x => exact .imm _ _ (.v _)
   | bl x => exact .imm _ _ (.bl _)
   | agg cs vs hl _ ih => exact .agg _ vs (by rw [sLl]; exact hl) (lk cs vs ih)
   | tup cs vs hl _ ih => exact .tup _ vs (by rw [sLl]; exact hl) (lk cs vs ih)
   | fn f cs vs hl _ ih => exact .fn f _ vs (by rw [sLl]; exact hl) (lk cs vs ih)
   | tree t xs a len cap b o X hlen hb hc hm ha hx h _ => exact .imm _ _ (Rt.mono (.tree t xs a len cap b o X hlen hb hc hm ha hx h) fun b hb => ⟨hS b hb, rfl⟩)
   | tptr t xs row off b o X ha hrow hx h _ => exact .imm _ _ (Rt.mono (.tptr t xs row off b o X ha hrow hx h) fun b hb => ⟨hS b hb, rfl⟩)
   | bptr cs off b o X ha hx h _ => exact .imm _ _ (Rt.mono (.bptr cs off b o X ha hx h) fun b hb => ⟨hS b hb, rfl⟩)
 | agg cs vs hl _ ih => exact .agg _ vs (by rw [sLl]; exact hl) (lk cs vs ih)
 | tup cs vs hl _ ih => exact .tup _ vs (by rw [sLl]; exact hl) (lk cs vs ih)
 | fn f cs vs hl _ ih => exact .fn f _ vs (by rw [sLl]; exact hl) (lk cs vs ih)
 | loc id row off hid hrow =>
   unfold AV.settle
   split
   ·rename_i k e
    obtain ⟨h1, h2⟩ := pMs e
    have := R.loc (w := w) (S := Stb C.A w h' (fun i => V (σ.getD i 0))) (V := fun i => V (σ.getD i 0)) (N := σ.length) k row off h1 (by simp only [h2]; exact hrow)
    simp only [h2] at this
    exact this
   ·exact .imm _ _ (.any _)
 | own id hid =>
   unfold AV.settle
   split
   ·rename_i k e
    obtain ⟨h1, h2⟩ := pMs e
    have := R.own (w := w) (S := Stb C.A w h' (fun i => V (σ.getD i 0))) (V := fun i => V (σ.getD i 0)) (N := σ.length) k h1
    simp only [h2] at this
    exact this
   ·rename_i e
    split
    ·rename_i ty t xs e2
     obtain ⟨cur, hc⟩ := h.hr.blk id _ e2
     obtain ⟨cap, g1, g2, g3, _⟩ := hc.own rfl
     simp only [LB.len] at g1 g2
     rw [g1]
     have := tree id ty t xs 0 xs.length cap e2 (pMn e) (by omega) g2 g3 (some ⟨(V id).blk, 0, none⟩) (fun _ => by simp)
     simpa using this
    ·exact .imm _ _ (.any _)
 | view id lo n hid hrow =>
   unfold AV.settle
   split
   ·rename_i k e
    obtain ⟨h1, h2⟩ := pMs e
    have := R.view (w := w) (S := Stb C.A w h' (fun i => V (σ.getD i 0))) (V := fun i => V (σ.getD i 0)) (N := σ.length) k lo n h1 (by simp only [h2]; exact hrow)
    simp only [h2] at this
    exact this
   ·rename_i e
    split
    ·rename_i ty t xs e2
     obtain ⟨hle, cap, g1, g2, g3⟩ := h.part e2 (R.view (w := w) (S := Stb C.A w st.h V) (V := V) (N := st.h.length) id lo n hid hrow)
     rw [g3]
     exact tree id ty t xs lo n (cap - lo) e2 (pMn e) hle (by omega) (by omega) _ (fun hn => by rw [if_neg (by omega)])
    ·exact .imm _ _ (.any _)

theorem SRV.sel (h : SRV C V st a w) (hs : selH σ st.h σ h') (hnd : ndB (lO σ h') = true) (hfix : fixB C.N0 0 σ = true) {s' : Nat → AV} (hsl : ∀ j, leC ((st.s j).settle σ st.h) (s' j)) : SRV C (fun i => V (σ.getD i 0)) ⟨s', h'⟩ a w := by
 obtain ⟨hl, hk⟩ := sHg hs
 obtain ⟨hm, hfix⟩ := fixB_out hfix
 have hgetD : ∀ (k i : Nat), σ[k]? = some i → σ.getD k 0 = i := fun k i e => by rw [List.getD, e]; rfl
 have hlive : ∀ (k : Nat) (b : LB), h'[k]? = some (some b) → ∃ i b', σ[k]? = some i ∧ st.h[i]? = some (some b') ∧ selLB σ st.h (some (some b')) b := fun k b e => by
  obtain ⟨i, e1, e2⟩ := hk k b e
  have e2' := e2
  unfold selLB at e2
  split at e2
  ·split at e2
   ·rename_i e3; exact ⟨i, _, e1, e3, by rw [← e3]; exact e2'⟩
   ·exact e2.elim
  ·split at e2
   ·rename_i e3; exact ⟨i, _, e1, e3, by rw [← e3]; exact e2'⟩
   ·exact e2.elim
 have hS : ∀ b, Stb C.A w st.h V b → Stb C.A w h' (fun i => V (σ.getD i 0)) b := fun b hb => ⟨hb.1, hb.2.1, fun k lb e => by
  obtain ⟨i, b', e1, e2, _⟩ := hlive k lb e
  show (V (σ.getD k 0)).blk ≠ b
  rw [hgetD k i e1]
  exact hb.2.2 i b' e2⟩
 refine ⟨h.size, h.defers, h.kept, by show C.N0 ≤ h'.length; omega, fun i hi => ?_, ⟨fun i j li lj hi hj hne => ?_, fun k lb e => ?_, fun k lb e hlt => ?_⟩, fun t => ?_⟩
 ·show V (σ.getD i 0) = C.V0 i
  rw [hfix i hi, Nat.zero_add]; exact h.agree i hi
 ·obtain ⟨i', b1, e1, f1, _⟩ := hlive i li hi
  obtain ⟨j', b2, e2, f2, _⟩ := hlive j lj hj
  show (V (σ.getD i 0)).blk ≠ (V (σ.getD j 0)).blk
  rw [hgetD i i' e1, hgetD j j' e2]
  refine h.hr.inj _ _ b1 b2 f1 f2 fun e => hne ?_
  subst e
  exact lOi hnd e1 hi e2 hj
 ·obtain ⟨i, b', e1, f1, f2⟩ := hlive k lb e
  obtain ⟨cur, hc⟩ := h.hr.blk i b' f1
  refine ⟨cur, ?_⟩
  show BlkR w (Stb C.A w h' (fun i => V (σ.getD i 0))) (fun i => V (σ.getD i 0)) h'.length (V (σ.getD k 0)) lb cur
  rw [hgetD k i e1]
  unfold selLB at f2
  split at f2
  ·rename_i ty cs
   split at f2
   ·rename_i ty' cs' e9
    cases e9
    obtain ⟨a1, a2⟩ := f2
    obtain rfl := Nat.eq_of_beq_eq_true a1
    have hcur : cur.size = cs'.length := by have := hc.box rfl; simpa [LB.len, LB.sz] using this
    have hcell : ∀ (j : Nat) (c : AV) (y : Value), cs'[j]? = some c → cur[j]? = some y → y.oneCell' = true ∧ R w (Stb C.A w st.h V) V st.h.length c y := fun j c y g1 g2 => by
     obtain ⟨y', k1, k2, k3⟩ := hc.cell 0 j c Nat.zero_lt_one g1
     have k1 : cur[0 * cs'.length + j]? = some y' := k1
     rw [Nat.zero_mul, Nat.zero_add, g2] at k1
     cases k1
     exact ⟨k2, k3⟩
    obtain ⟨b1, b2⟩ := leL_R (w := w) (S := Stb C.A w h' (fun i => V (σ.getD i 0))) (V := fun i => V (σ.getD i 0)) (N := σ.length) a2 cur.toList (by rw [sLl]; simpa using hcur) fun j c y g1 g2 => by
     rw [sLg] at g1
     obtain ⟨c0, g3, rfl⟩ := Option.map_eq_some_iff.1 g1
     exact h.settle hs (hcell j c0 y g3 (by simpa using g2)).2
    rw [sLl] at b1
    have hsz : (V i).sz = cs'.length := hc.sz
    refine ⟨by rw [hsz]; exact b1, hc.ln, hc.heap, fun k j c g1 g2 => ?_, fun g => by simp [LB.isArr] at g, fun _ => by simp [LB.len, LB.sz]; omega, fun g => by simp [LB.isArr] at g⟩
    have hk0 : k = 0 := by simp only [LB.len] at g1; omega
    subst hk0
    have g2 : cs[j]? = some c := g2
    have hj : j < cur.size := by have := (List.getElem?_eq_some_iff.1 g2).1; omega
    have hy : cur[j]? = some cur[j] := Array.getElem?_eq_getElem hj
    have hj' : j < cs'.length := by omega
    refine ⟨cur[j], by simp [LB.sz, hj], (hcell j _ _ (List.getElem?_eq_getElem hj') hy).1, ?_⟩
    rw [← hl]
    exact b2 j c _ g2 (by simp [hj])
   ·exact f2.elim
  ·rename_i ty t xs
   ·have f2 : Ob (b' = .arr ty t xs) := f2
    obtain rfl := f2.out
    have hst : ∀ (k j : Nat) (c : AV) (x : Value), k < xs.length → (rowT t xs k)[j]? = some c → cur[k * t.n + j]? = some x → Rt w (Stb C.A w h' (fun i => V (σ.getD i 0))) c x := fun k j c x g1 g2 g3 => (hc.still rfl k j c x g1 g2 g3).mono fun b hb => ⟨hS b hb, rfl⟩
    exact ⟨hc.sz, hc.ln, hc.heap, fun k j c g1 g2 => let ⟨y, f1, f2, _⟩ := hc.cell k j c g1 g2; ⟨y, f1, f2, .imm _ _ (hst k j c y g1 g2 f1)⟩, fun _ => hst, hc.box, hc.own⟩
 ·obtain ⟨i, b', e1, f1, _⟩ := hlive k lb e
  show C.M (V (σ.getD k 0)).blk
  have hlt : (V (σ.getD k 0)).blk < C.w0.heap.size := hlt
  rw [hgetD k i e1] at hlt ⊢
  exact h.hr.mine i b' f1 hlt
 ·have := leC_R (hsl t) (h.settle hs (h.slots t))
  rw [hl] at this
  exact this
end

mutual
def pairC (c : AV) (c' : AV) : List (Nat × Nat) :=
 match c with
 | .own k => match c' with
   | .own i => [(k, i)]
   | _ => []
 | .loc k _ _ => match c' with
   | .loc i _ _ => [(k, i)]
   | _ => []
 | .view k _ _ => match c' with
   | .view i _ _ => [(k, i)]
   | _ => []
 | .agg cs => match c' with
   | .agg cs' => pairL cs cs'
   | _ => []
 | .tup cs => match c' with
   | .tup cs' => pairL cs cs'
   | _ => []
 | .fn _ cs => match c' with
   | .fn _ cs' => pairL cs cs'
   | _ => []
 | .any => []
 | .v _ => []
 | .bl _ => []
 | .tree _ _ => []
 | .tptr _ _ _ _ => []
 | .bptr _ _ => []
def pairL (cs : List AV) (cs' : List AV) : List (Nat × Nat) :=
 match cs with
 | [] => []
 | c :: cs => match cs' with
   | [] => []
   | c' :: cs' => pairC c c' ++ pairL cs cs'
end
def pairIn (h h' : List (Option LB)) : List (Nat × Nat) → List (Nat × Nat)
 | [] => []
 | (k, i) :: l => match h'[k]?, h[i]? with
   | some (some (.box _ cs)), some (some (.box _ cs')) => pairL cs cs' ++ pairIn h h' l
   | _, _ => pairIn h h' l
def findP (k : Nat) : List (Nat × Nat) → Nat
 | [] => 0
 | (j, i) :: l => match Nat.beq j k with
   | true => i
   | false => findP k l
def lentP : Nat → Nat → List (Nat × Nat)
 | 0, _ => []
 | m + 1, k => (k, k) :: lentP m (k + 1)
def sigmaP (ps : List (Nat × Nat)) : List (Option LB) → Nat → List Nat
 | [], _ => []
 | _ :: os, k => findP k ps :: sigmaP ps os (k + 1)
def sigmaOf (m : Nat) (h h' : List (Option LB)) (ps : List (Nat × Nat)) : List Nat :=
 sigmaP (lentP m 0 ++ ps ++ pairIn h h' (lentP m 0 ++ ps)) h' 0
def leSL (σ : List Nat) (h : List (Option LB)) (s' : Nat → AV) : List (Nat × AV) → Prop
 | [] => True
 | (d, c) :: l => leC ((s' d).settle σ h) c ∧ leSL σ h s' l
theorem leSL_out {σ : List Nat} {h : List (Option LB)} {s' : Nat → AV} : ∀ {l : List (Nat × AV)}, leSL σ h s' l → ∀ j, leC ((s' j).settle σ h) (sl l j)
 | [], _, j => by simp [sl, leC]
 | (d, c) :: l, hh, j => by
   unfold sl
   by_cases hj : j = d
   ·subst hj; rw [us1]; exact hh.1
   ·rw [uo _ _ hj]; exact leSL_out hh.2 j
def pairSL (s' : Nat → AV) : List (Nat × AV) → List (Nat × Nat)
 | [] => []
 | (d, c) :: l => pairC c (s' d) ++ pairSL s' l
def subB (m : Nat) (st : St) (l : List (Nat × AV)) (h' : List (Option LB)) (σ : List Nat) : Prop :=
 ndB (lO σ h') = true ∧ fixB m 0 σ = true ∧ leSL σ st.h st.s l ∧ selH σ st.h σ h'
mutual
def leCk (c' c : AV) (K : Prop) : Prop :=
 match c with
 | .any => K
 | .bl b => match c' with
   | .v (.bool b') => Ob (b' = b) ∧ K
   | c' => Ob (c' = .bl b) ∧ K
 | .tree t xs => match c' with
   | .v (.slice none 0 0) => Ob (xs = []) ∧ K
   | c' => Ob (c' = .tree t xs) ∧ K
 | .agg cs => match c' with
   | .agg cs' => leLk cs' cs K
   | _ => False
 | .tup cs => match c' with
   | .tup cs' => leLk cs' cs K
   | _ => False
 | .fn f cs => match c' with
   | .fn f' cs' => whenB (Nat.beq f' f) (leLk cs' cs K)
   | _ => False
 | .v x => Ob (c' = .v x) ∧ K
 | .tptr t xs row off => Ob (c' = .tptr t xs row off) ∧ K
 | .bptr cs off => Ob (c' = .bptr cs off) ∧ K
 | .loc id row off => Ob (c' = .loc id row off) ∧ K
 | .own id => Ob (c' = .own id) ∧ K
 | .view id lo n => Ob (c' = .view id lo n) ∧ K
def leLk (cs' cs : List AV) (K : Prop) : Prop :=
 match cs with
 | [] => match cs' with
   | [] => K
   | _ => False
 | c :: cs => match cs' with
   | c' :: cs' => fI c' fun c' => leCk c' c (leLk cs' cs K)
   | [] => False
end
mutual
theorem leCk_out : ∀ {c c' : AV} {K : Prop}, leCk c' c K → leC c' c ∧ K
 | .any, c', K, h => by unfold leCk at h; exact ⟨by unfold leC; trivial, h⟩
 | .bl b, c', K, h => by
   unfold leCk at h
   unfold leC
   split at h <;> exact h
 | .tree t xs, c', K, h => by
   unfold leCk at h
   unfold leC
   split at h <;> exact h
 | .agg cs, c', K, h => by
   unfold leCk at h
   unfold leC
   split at h
   ·exact lLo h
   ·exact h.elim
 | .tup cs, c', K, h => by
   unfold leCk at h
   unfold leC
   split at h
   ·exact lLo h
   ·exact h.elim
 | .fn f cs, c', K, h => by
   unfold leCk at h
   unfold leC
   split at h
   ·obtain ⟨h1, h⟩ := wBo h
    obtain ⟨h2, h3⟩ := lLo h
    exact ⟨⟨h1, h2⟩, h3⟩
   ·exact h.elim
 | .v x, c', K, h => by unfold leCk at h; unfold leC; exact h
 | .tptr t xs row off, c', K, h => by unfold leCk at h; unfold leC; exact h
 | .bptr cs off, c', K, h => by unfold leCk at h; unfold leC; exact h
 | .loc id row off, c', K, h => by unfold leCk at h; unfold leC; exact h
 | .own id, c', K, h => by unfold leCk at h; unfold leC; exact h
 | .view id lo n, c', K, h => by unfold leCk at h; unfold leC; exact h
theorem lLo : ∀ {cs cs' : List AV} {K : Prop}, leLk cs' cs K → leL cs' cs ∧ K
 | [], cs', K, h => by
   unfold leLk at h
   unfold leL
   split at h
   ·exact ⟨trivial, h⟩
   ·exact h.elim
 | c :: cs, cs', K, h => by
   unfold leLk at h
   unfold leL
   split at h
   ·rw [fIe1] at h
    obtain ⟨h1, h⟩ := leCk_out h
    obtain ⟨h2, h3⟩ := lLo h
    exact ⟨⟨h1, h2⟩, h3⟩
   ·exact h.elim
end
def leSLk (σ : List Nat) (h : List (Option LB)) (s' : Nat → AV) : List (Nat × AV) → Prop → Prop
 | [], K => K
 | (d, c) :: l, K => fI ((s' d).settle σ h) fun c' => leCk c' c (leSLk σ h s' l K)
theorem leSLk_out {σ : List Nat} {h : List (Option LB)} {s' : Nat → AV} : ∀ {l : List (Nat × AV)} {K : Prop}, leSLk σ h s' l K → leSL σ h s' l ∧ K
 | [], K, hh => ⟨trivial, hh⟩
 | (d, c) :: l, K, hh => by
   unfold leSLk at hh
   rw [fIe1] at hh
   obtain ⟨h1, hh⟩ := leCk_out hh
   obtain ⟨h2, h3⟩ := leSLk_out hh
   exact ⟨⟨h1, h2⟩, h3⟩
def selLBk (σ : List Nat) (h : List (Option LB)) (o' : Option (Option LB)) (b : LB) (K : Prop) : Prop :=
 match b with
 | .box ty cs => match o' with
   | some (some (.box ty' cs')) => whenB (Nat.beq ty' ty) (leLk (AV.settleL σ h cs') cs K)
   | _ => False
 | .arr ty t xs => match o' with
   | some (some b') => Ob (b' = .arr ty t xs) ∧ K
   | _ => False
theorem selLBk_out {σ : List Nat} {h : List (Option LB)} {o' : Option (Option LB)} {b : LB} {K : Prop} (hh : selLBk σ h o' b K) : selLB σ h o' b ∧ K := by
 unfold selLBk at hh
 unfold selLB
 split at hh
 ·split at hh
  ·obtain ⟨h1, hh⟩ := wBo hh
   obtain ⟨h2, h3⟩ := lLo hh
   exact ⟨⟨h1, h2⟩, h3⟩
  ·exact hh.elim
 ·split at hh
  ·exact hh
  ·exact hh.elim
def selHk (σ : List Nat) (h : List (Option LB)) : List Nat → List (Option LB) → Prop → Prop
 | [], [], K => K
 | _ :: is, none :: os, K => selHk σ h is os K
 | i :: is, some b :: os, K => selLBk σ h h[i]? b (selHk σ h is os K)
 | _, _, _ => False
theorem sHo {σ : List Nat} {h : List (Option LB)} : ∀ {is : List Nat} {os : List (Option LB)} {K : Prop}, selHk σ h is os K → selH σ h is os ∧ K
 | [], [], K, hh => ⟨by simp [selH], by simpa [selHk] using hh⟩
 | i :: is, none :: os, K, hh => by
   obtain ⟨h1, h2⟩ := sHo (is := is) (os := os) (K := K) (by simpa [selHk] using hh)
   exact ⟨by simpa [selH] using h1, h2⟩
 | i :: is, some b :: os, K, hh => by
   unfold selHk at hh
   obtain ⟨h1, hh⟩ := selLBk_out hh
   obtain ⟨h2, h3⟩ := sHo hh
   exact ⟨⟨h1, h2⟩, h3⟩
 | [], _ :: _, _, hh => by simp [selHk] at hh
 | _ :: _, [], _, hh => by simp [selHk] at hh
def subK (m : Nat) (st : St) (l : List (Nat × AV)) (h' : List (Option LB)) (σ : List Nat) : Prop :=
 forceNs σ fun σ => whenB (ndB (lO σ h')) (whenB (fixB m 0 σ) (leSLk σ st.h st.s l (selHk σ st.h σ h' True)))
theorem subK_out {m : Nat} {st : St} {l : List (Nat × AV)} {h' : List (Option LB)} {σ : List Nat} (hh : subK m st l h' σ) : subB m st l h' σ := by
 unfold subK at hh
 rw [fNe] at hh
 obtain ⟨h1, hh⟩ := wBo hh
 obtain ⟨h2, hh⟩ := wBo hh
 obtain ⟨h3, hh⟩ := leSLk_out hh
 obtain ⟨h4, _⟩ := sHo hh
 exact ⟨h1, h2, h3, h4⟩
theorem sa {m : Nat} {st : St} {l : List (Nat × AV)} {h' : List (Option LB)} (hh : subK m st l h' (sigmaOf m st.h h' (pairSL st.s l))) : Sub m st ⟨sl l, h'⟩ := by
 have hh := subK_out hh
 intro C hC V a w h
 subst hC
 exact ⟨_, h.sel hh.2.2.2 hh.1 hh.2.1 (leSL_out hh.2.2.1)⟩

def Fin (m : Nat) (c : AV) (h : List (Option LB)) (r : AV) (h1 : List (Option LB)) : Prop :=
 subB m ⟨sl [(0, c)], h⟩ [(0, r)] h1 (sigmaOf m h h1 (pairC r c))

def argS : Nat → List AV → Nat → AV
 | _, [] => fun _ => .any
 | k, c :: cs => upd (argS (k + 1) cs) k c
theorem argS_get : ∀ (cs : List AV) (k j : Nat), argS k cs j = if k ≤ j then (cs[j - k]?).getD .any else .any
 | [], k, j => by simp [argS]
 | c :: cs, k, j => by
   unfold argS
   by_cases h : j = k
   ·subst h; rw [us1]; simp
   ·rw [uo _ _ h, argS_get cs (k + 1) j]
    by_cases h2 : k ≤ j
    ·rw [if_pos (by omega), if_pos h2, show j - k = (j - (k + 1)) + 1 by omega]; rfl
    ·rw [if_neg (by omega), if_neg h2]

def evRes1 (T : Nat → Option TI) (st : St) : ResultVar → (AV → Prop) → Prop
 | .tmp t, K => K (st.s t)
 | .cell t ty, K => evLoad (T ty) (cellsAt st.h (st.s t)) K
def evResL (T : Nat → Option TI) (st : St) : List ResultVar → (List AV → Prop) → Prop
 | [], K => K []
 | r :: rs, K => evRes1 T st r fun c => evResL T st rs fun cs => K (c :: cs)
def evRes (T : Nat → Option TI) (st : St) (rs : List ResultVar) (K : AV → Prop) : Prop :=
 match rs with
 | [r] => evRes1 T st r K
 | rs => evResL T st rs fun cs => K (.tup cs)

section
variable {P : Program} {T : Nat → Option TI}

def resOf (tmps : Array Value) (r : ResultVar) : Sem Value :=
 match r with
 | .tmp t => pure (tmps.getD t undef)
 | .cell q t => do loadVar t (← asAddr (tmps.getD q undef))

theorem eRs (hT : TOk P T) {C : Ctx} {V st a w} (h : SRV C V st a w) {r : ResultVar} {K : AV → Prop} (hk : evRes1 T st r K) :
  ∃ c x, K c ∧ R w (Stb C.A w st.h V) V st.h.length c x ∧ (resOf a.tmps r).run P w = .ok x w := by
 cases r with
 | tmp t => exact ⟨_, _, hk, h.slots t, rfl⟩
 | cell q t =>
   have hv := vdoes_load (P := P) hT (o := ⟨none, .load t (.tmp q), 0, default, #[], none⟩) t (.tmp q) rfl hk
   obtain ⟨c, x, hc, hr, hrun⟩ := hv C V a w h
   refine ⟨c, x, hc, hr, ?_⟩
   have := hrun w (Below.refl _ _)
   simp only [execOp, Instr.loadAt, Act.eval] at this
   generalize hp : a.tmps.getD q undef = p at this
   cases p with
   | pointer o =>
     cases o with
     | none => simp [Instr.sureAddr] at this
     | some ad =>
       simp [Instr.sureAddr] at this
       simp only [resOf, hp]
       simp [asAddr]
       generalize (loadVar t ad).run P w = res at this ⊢
       cases res with
       | ok y w' => simp at this; obtain ⟨rfl, rfl⟩ := this; rfl
       | halt y w' => simp at this
   | _ => simp [Instr.sureAddr] at this

theorem eRLs (hT : TOk P T) {C : Ctx} {V st a w} (h : SRV C V st a w) : ∀ (rs : List ResultVar) (K : List AV → Prop), evResL T st rs K →
  ∃ cs xs, K cs ∧ xs.length = cs.length ∧ xs.length = rs.length ∧ (∀ (i : Nat) (c : AV) (x : Value), cs[i]? = some c → xs[i]? = some x → R w (Stb C.A w st.h V) V st.h.length c x) ∧
    (rs.mapM (resOf a.tmps)).run P w = .ok xs w
 | [], K, hk => ⟨[], [], hk, rfl, rfl, fun i c x h => by simp at h, rfl⟩
 | r :: rs, K, hk => by
   obtain ⟨c, x, hk, hr, hrun⟩ := eRs hT h hk
   obtain ⟨cs, xs, hk, hl, hl2, hrs, hruns⟩ := eRLs hT h rs _ hk
   refine ⟨c :: cs, x :: xs, hk, by simp [hl], by simp [hl2], fun i c' x' e1 e2 => ?_, ?_⟩
   ·cases i with
    | zero => simp at e1 e2; subst e1 e2; exact hr
    | succ i => simp at e1 e2; exact hrs i c' x' e1 e2
   ·rw [List.mapM_cons]
    simp only [Sem.run_bind, hrun, hruns, Result.andThen_ok, Sem.run_pure]

theorem evRes_sound (hT : TOk P T) {C : Ctx} {V st a w} (h : SRV C V st a w) {fn : Func} {K : AV → Prop} (hk : evRes T st fn.results.toList K) :
  ∃ c x, K c ∧ R w (Stb C.A w st.h V) V st.h.length c x ∧ (results fn a.tmps).run P w = .ok x w := by
 have hm : ∀ xs : List Value, (fn.results.toList.mapM (resOf a.tmps)).run P w = .ok xs w → (results fn a.tmps).run P w = .ok (if xs.length = 1 then xs.headD undef else .tuple xs.toArray) w := fun xs e => by
  have e0 : results fn a.tmps = (do let vs ← fn.results.mapM (resOf a.tmps); pure (if h : vs.size = 1 then vs[0] else .tuple vs)) := rfl
  rw [e0, ← Array.toArray_toList (xs := fn.results), List.mapM_toArray]
  simp only [Sem.run_bind, Sem.run_map, e, Result.andThen_ok]
  match xs with
  | [] => rfl
  | [x] => rfl
  | x :: y :: xs => simp
 unfold evRes at hk
 split at hk
 ·rename_i r hr
  obtain ⟨c, x, hk, hr2, hrun⟩ := eRs hT h hk
  refine ⟨c, x, hk, hr2, ?_⟩
  have := hm [x] (by rw [hr, List.mapM_cons]; simp only [Sem.run_bind, hrun, Result.andThen_ok, List.mapM_nil, Sem.run_pure])
  simpa using this
 ·rename_i hne
  obtain ⟨cs, xs, hk, hl, hl2, hrs, hruns⟩ := eRLs hT h _ _ hk
  refine ⟨.tup cs, .tuple xs.toArray, hk, .tup cs _ (by simpa using hl) (fun i c x e1 e2 => hrs i c x e1 (by simpa using e2)), ?_⟩
  have hne1 : xs.length ≠ 1 := by
   rw [hl2]
   intro e
   obtain ⟨r, e2⟩ := List.length_eq_one_iff.1 e
   exact hne r e2
  rw [hm xs hruns, if_neg hne1]

def retK (T : Nat → Option TI) (rs : List ResultVar) (m : Nat) (r : AV) (h1 : List (Option LB)) (st : St) : Prop :=
 match st with
 | ⟨s, h⟩ => evRes T ⟨s, h⟩ rs fun c => fI c fun c => Fin m c h r h1
def retQ (T : Nat → Option TI) (rs : List ResultVar) (m : Nat) (r : AV) (h1 : List (Option LB)) (e : Exit) (st : St) : Prop :=
 match e with
 | .normal => retK T rs m r h1 st
 | .ret => retK T rs m r h1 st
 | _ => False
theorem si {G : Env} (hG : EnvOk P G) {ct : CT} {f : FuncId} {fn : Func} {c : Code} {args : List AV} {h : List (Option LB)} {r : AV} {h1 : List (Option LB)} (hf : P.funcs[f]? = some fn) (hb : fn.body = some c) (hok : oC fn.ntmps c = true)
  (hn : Nat.ble args.length fn.ntmps = true) (hlen : Nat.ble h.length h1.length = true) (he : evC P G ct fn.ntmps h.length c ⟨argS 0 args, h⟩ (retQ G.T fn.results.toList h.length r h1)) : Spec P f args h r h1 := by
 intro w GB V S0 vs hLw hGB hhr hsz hargs
 have hn := Nat.le_of_ble_eq_true hn
 refine calls_of_wp hf hb ?_
 let C : Ctx := ⟨fn.ntmps, w, blkOf h V, V, h.length, atR S0 h V w, fun b hb => .inr (.inl hb), GB, fun b hb => ⟨(hGB b hb).1, (hGB b hb).2.1⟩, fun b hb => .inl (hGB b hb).2.2, fun b hb => .inr (.inr hb), hLw⟩
 have hsr : SRV C V ⟨argS 0 args, h⟩ { tmps := vs ++ Array.replicate (fn.ntmps - vs.size) undef, defers := [] } w := by
  refine ⟨by simp [C]; omega, rfl, Kept.refl _ _, Nat.le_refl _, fun _ _ => rfl, hhr, fun t => ?_⟩
  show R w (Stb (atR S0 h V w) w h V) V h.length (argS 0 args t) ((vs ++ Array.replicate (fn.ntmps - vs.size) undef).getD t undef)
  rw [argS_get]
  simp only [Nat.zero_le, if_true, Nat.sub_zero]
  cases e : args[t]? with
  | none => exact .imm _ _ (.any _)
  | some c =>
    have ht : t < vs.size := by rw [hsz]; exact (List.getElem?_eq_some_iff.1 e).1
    have e2 : (vs ++ Array.replicate (fn.ntmps - vs.size) undef).getD t undef = vs[t] := by
     rw [Array.getD_eq_getD_getElem?, Array.getElem?_append_left ht]; simp [ht]
    simp only [Option.getD_some]
    rw [e2]
    exact hargs t c _ e (by simp [ht])
 refine wp_mono (eCs hG (C := C) c hok _ _ V _ w hsr he) ?_
 rintro e a' w' ⟨st, V', hq, hs⟩
 have fin : retK G.T fn.results.toList h.length r h1 st → a'.defers = [] ∧ ∃ v, (results fn a'.tmps).run P w' = .ok v w' ∧ ∃ x V'', Ending.returned v = .returned x ∧ Kept (blkOf h V) w w' ∧ h.length ≤ h1.length ∧ (∀ i, i < h.length → V'' i = V i) ∧
   HR w (blkOf h V) (atR S0 h V w) V'' h1 w' ∧ R w' (Stb (atR S0 h V w) w' h1 V'') V'' h1.length r x := fun hq => by
  have hq : evRes G.T st fn.results.toList fun c => fI c fun c => Fin h.length c st.h r h1 := hq
  obtain ⟨c, x, hk, hr, hrun⟩ := evRes_sound hG.T hs hq
  rw [fIe1] at hk
  obtain ⟨b1, b2, b3, b4⟩ := hk
  have hs1 : SRV { C with n := 1 } V' ⟨sl [(0, c)], st.h⟩ { tmps := #[x], defers := [] } w' := by
   refine ⟨rfl, rfl, hs.kept, hs.long, hs.agree, hs.hr, fun t => ?_⟩
   show R w' (Stb (atR S0 h V w) w' st.h V') V' st.h.length (sl [(0, c)] t) ((#[x] : Array Value).getD t undef)
   unfold sl
   by_cases ht : t = 0
   ·subst ht; rw [us1]; exact hr
   ·rw [uo _ _ ht]; exact .imm _ _ (.any _)
  have h2 := hs1.sel (st := ⟨sl [(0, c)], st.h⟩) b4 b1 b2 (leSL_out b3)
  refine ⟨hs.defers, x, hrun, x, _, rfl, hs.kept, Nat.le_of_ble_eq_true hlen, h2.agree, h2.hr, ?_⟩
  exact h2.slots 0
 cases e with
 | normal => exact fin hq
 | ret => exact fin hq
 | _ => exact hq.elim
end
end Go.Proofs.YtaobinhdnklojaaGreatDoor
namespace Go.Proofs.YtaobinhdnklojaaGreatDoor
open Go.RowKit

def aggOf (P : Program) (t : TypeId) : Option Bool :=
 match P.underlying t with
 | some (.struct _) => some true
 | some (.array _ _) => some true
 | some _ => some false
 | none => none
def offsOk (P : Program) (fs : Array Field) (l : List (Nat × Nat × Bool)) : Bool :=
 (List.range l.length).all fun k => match l[k]?, fs[k]? with
  | some (o, s, g), some fd => fd.offset == o && ((P.info? fd.type).map (·.size)) == some s && decide (0 < s) && aggOf P fd.type == some g
  | _, _ => false
def placesOk (P : Program) (fs : Array Field) (l : List (Nat × Nat × Bool)) : Bool :=
 l.isEmpty || fs.toList.mapM (fun f => (P.info? f.type).map fun j => (f.offset, j.size)) == some (l.map fun x => (x.1, x.2.1))
def arrCheck (P : Program) (t : TypeId) (i : TI) : Bool :=
 match i.arr.1 with
 | 0 => true
 | n + 1 => match P.underlying t with
   | some (.array m e) => Nat.beq m (n + 1) && Nat.beq e i.arr.2
   | _ => false
theorem arr_of {P : Program} {t : TypeId} {i : TI} (h : arrCheck P t i = true) (hn : Nat.beq i.arr.1 0 = false) : P.underlying t = some (.array i.arr.1 i.arr.2) := by
 unfold arrCheck at h
 split at h
 ·rename_i e; rw [e] at hn; cases hn
 ·rename_i n e
  split at h
  ·rename_i m f hu
   rw [Bool.and_eq_true] at h
   rw [hu, e, Nat.eq_of_beq_eq_true h.1, Nat.eq_of_beq_eq_true h.2]
  ·cases h
def tiCheck (P : Program) (t : TypeId) (i : TI) : Bool :=
 ((P.info? t).map (·.size)) == some i.size && ((P.info? t).map (·.bytes)) == some i.bytes && aggOf P t == some i.agg && (i.agg || i.size == 1) &&
 (match P.underlying t with
  | some (.struct fs) => offsOk P fs i.offs && placesOk P fs i.offs && i.elem == 0 && i.kind == none && !i.str
  | some (.slice e) => i.offs.isEmpty && (i.elem == 0 || i.elem == e) && i.kind == none && !i.str
  | some (.int k) => i.offs.isEmpty && i.elem == 0 && (i.kind == none || i.kind == some k) && !i.str
  | some .string => i.offs.isEmpty && i.elem == 0 && i.kind == none
  | _ => i.offs.isEmpty && i.elem == 0 && i.kind == none && !i.str) &&
 (match i.zero with
  | .bool _ => (match P.underlying t with | some .bool => true | _ => false)
  | _ => true) && arrCheck P t i

theorem riA {P : Program} {t : TypeId} {g : Bool} (h : aggOf P t = some g) (w : World) : (isAgg t).run P w = .ok g w := by
 unfold aggOf at h
 unfold isAgg
 split at h
 ·rename_i d hd; simp at h; subst h; simp [run_underlying hd]
 ·rename_i d hd; simp at h; subst h; simp [run_underlying hd]
 ·rename_i d h1 h2 hd
  simp at h; subst h
  simp only [Sem.run_bind, run_underlying hd, Result.andThen_ok]
  rfl
 ·cases h
theorem run_sizeOf {P : Program} {t : TypeId} {s : Nat} (h : (P.info? t).map (·.size) = some s) (w : World) : (sizeOf t).run P w = .ok s w := by
 obtain ⟨ti, h1, rfl⟩ := Option.map_eq_some_iff.1 h
 simp [sizeOf, typeInfo, h1]

def ckDesc (k : CK) (o : Option TypeDesc) : Bool :=
 match k with
 | .i k => match o with
   | some (.int k') => k == k'
   | _ => false
 | .b => match o with
   | some .bool => true
   | _ => false
 | .s => match o with
   | some .string => true
   | _ => false
def eqFs (P : Program) : Nat → List Field → List CK → Bool
 | _, [], [] => true
 | j, f :: fs, k :: ks => (f.name != "_") && Nat.beq f.offset j && aggOf P f.type == some false && ckDesc k (P.underlying f.type) && eqFs P (j + 1) fs ks
 | _, _, _ => false
def eqCheck (P : Program) (t : TypeId) (i : TI) : Bool :=
 match ckOf i.cod with
 | none => true
 | some ks => (match P.underlying t with
   | some (.struct fs) => eqFs P 0 fs.toList ks
   | _ => false) && (P.stoodInHeld t == false) && (P.eqGuardType P.depth t == false)
theorem run_eq1 {P : Program} {t : TypeId} {k : CK} (hd : ckDesc k (P.underlying t) = true) {x y : Value} (hx : k.fits x) (hy : k.fits y) (d : Nat) (w : World) : (Op.equalIn (d + 1) t x y).run P w = .ok (eqV1 x y) w := by
 unfold ckDesc at hd
 split at hd
 ·split at hd
  ·rename_i k' hu
   obtain ⟨a, rfl⟩ := hx
   obtain ⟨b, rfl⟩ := hy
   rw [run_equalIn_int w d t _ k' a b hu]
   rfl
  ·cases hd
 ·split at hd
  ·rename_i hu
   obtain ⟨a, rfl⟩ := hx
   obtain ⟨b, rfl⟩ := hy
   rw [run_equalIn_bool' w d t a b hu]
   rfl
  ·cases hd
 ·split at hd
  ·rename_i hu
   obtain ⟨a, rfl⟩ := hx
   obtain ⟨b, rfl⟩ := hy
   rw [run_equalIn_string w d t a b hu, str_eq]
   rfl
  ·cases hd
theorem fits_get : ∀ {ks : List CK} {xs : List Value} (j : Nat), CK.fitsL ks xs → ∀ k, ks[j]? = some k → ∃ x, xs[j]? = some x ∧ k.fits x
 | [], _, j, _, k, e => by simp at e
 | k :: ks, [], j, h, _, _ => by simp [CK.fitsL] at h
 | k :: ks, x :: xs, 0, h, k', e => by simp at e; subst e; exact ⟨x, rfl, h.1⟩
 | k :: ks, x :: xs, j + 1, h, k', e => by simpa using fits_get j h.2 k' (by simpa using e)
theorem fits_len : ∀ {ks : List CK} {xs : List Value}, CK.fitsL ks xs → xs.length = ks.length
 | [], [], _ => rfl
 | [], _ :: _, h => by simp [CK.fitsL] at h
 | _ :: _, [], h => by simp [CK.fitsL] at h
 | k :: ks, x :: xs, h => by simp [fits_len h.2]
theorem eqFs_run {P : Program} {xs ys : Array Value} {ks0 : List CK} (hx : CK.fitsL ks0 xs.toList) (hy : CK.fitsL ks0 ys.toList) (w : World) : ∀ (fs : List Field) (ks : List CK) (j : Nat), ks = ks0.drop j → eqFs P j fs ks = true →
  (Op.eqFields 9999 xs ys fs).run P w = .ok (eqVs (xs.toList.drop j) (ys.toList.drop j)) w
 | [], [], j, hks, _ => by
   have h0 : ks0.length ≤ j := by
    have := congrArg List.length hks; simp at this; omega
   have h1 := fits_len hx
   have h2 : xs.toList.drop j = [] := by rw [List.drop_eq_nil_iff]; omega
   rw [h2]; simp [Op.eqFields, eqVs]
 | [], _ :: _, j, _, h => by simp [eqFs] at h
 | _ :: _, [], j, _, h => by simp [eqFs] at h
 | f :: fs, k :: ks, j, hks, h => by
   simp only [eqFs, Bool.and_eq_true, bne_iff_ne, ne_eq] at h
   obtain ⟨⟨⟨⟨h1, h2⟩, h3⟩, h4⟩, h5⟩ := h
   have h2 := Nat.eq_of_beq_eq_true h2
   have h3 := riA (P := P) (by simpa using h3)
   have hk : ks0[j]? = some k := by
    have := congrArg (fun l => l[0]?) hks
    simpa using this.symm
   obtain ⟨x, ex, fx⟩ := fits_get j hx k hk
   obtain ⟨y, ey, fy⟩ := fits_get j hy k hk
   have px : ∀ w, (part f.type xs f.offset).run P w = .ok x w := fun w => by
    have : xs[f.offset]? = some x := by rw [h2]; simpa using ex
    simp [part, h3, this]
   have py : ∀ w, (part f.type ys f.offset).run P w = .ok y w := fun w => by
    have : ys[f.offset]? = some y := by rw [h2]; simpa using ey
    simp [part, h3, this]
   have hrec := eqFs_run hx hy w fs ks (j + 1) (by rw [← List.tail_drop, ← hks]; rfl) h5
   have dx : xs.toList.drop j = x :: xs.toList.drop (j + 1) := by
    have hj := (List.getElem?_eq_some_iff.1 ex)
    rw [List.drop_eq_getElem_cons hj.1, hj.2]
   have dy : ys.toList.drop j = y :: ys.toList.drop (j + 1) := by
    have hj := (List.getElem?_eq_some_iff.1 ey)
    rw [List.drop_eq_getElem_cons hj.1, hj.2]
   have he := run_eq1 h4 fx fy 9998 w
   rw [dx, dy]
   simp only [Op.eqFields, eqVs]
   rw [if_pos (by simpa using h1)]
   simp only [Sem.run_bind, px, py, Result.andThen_ok]
   rw [show (9999 : Nat) = 9998 + 1 from rfl, he]
   simp only [Result.andThen_ok]
   cases hv : eqV1 x y
   ·simp
   ·simpa using hrec
theorem eqok_of {P : Program} {t : TypeId} {i : TI} (h : eqCheck P t i = true) (ks : List CK) (hk : ckOf i.cod = some ks) : EqOk P t ks := by
 unfold eqCheck at h
 rw [hk] at h
 simp only [Bool.and_eq_true, beq_iff_eq] at h
 obtain ⟨⟨h1, h2⟩, h3⟩ := h
 refine ⟨h3, fun xs ys hx hy w => ?_⟩
 split at h1
 ·rename_i fs hu
  have hf : P.fieldsOf t = fs := by simp [Program.fieldsOf, hu]
  rw [run_equalIn_struct w 9999 t xs ys (by rw [hf]; exact hu) h2, hf]
  simpa using eqFs_run hx hy w fs.toList ks 0 (by simp) h1
 ·cases h1

theorem to1 {P : Program} {t : TypeId} {i : TI} (h : tiCheck P t i = true) (hz : (P.info? t).bind (·.zero) = some i.zero) (hq : eqCheck P t i = true) : TIok P t i := by
 simp only [tiCheck, Bool.and_eq_true, beq_iff_eq] at h
 obtain ⟨⟨⟨⟨⟨⟨h1, h2⟩, h3⟩, h4⟩, h5⟩, h6⟩, h7⟩ := h
 obtain ⟨ti, e1, e2⟩ := Option.map_eq_some_iff.1 h1
 have e3 : ti.bytes = i.bytes := by rw [e1] at h2; simpa using h2
 have e4 : ti.zero = some i.zero := by rw [e1] at hz; simpa using hz
 refine ⟨run_sizeOf h1, riA h3, fun w => by simp [zeroValue, typeInfo, e1, e4], fun f o s g e => ?_, fun hne => ?_, fun k hk => ?_, fun hs => ?_, fun b hb => ?_, fun hne => ?_, fun ha => ?_, ⟨ti, e1, e4, e2, e3⟩, eqok_of hq, arr_of h7⟩
 ·split at h5
  ·rename_i fs hu
   simp only [Bool.and_eq_true, offsOk, List.all_eq_true, List.mem_range] at h5
   have := h5.1.1.1.1 f (List.getElem?_eq_some_iff.1 e).1
   rw [e] at this
   cases e5 : fs[f]? with
   | none => simp [e5] at this
   | some fd =>
     simp only [e5, Bool.and_eq_true, beq_iff_eq, decide_eq_true_eq] at this
     obtain ⟨⟨⟨f1, f2⟩, f3⟩, f4⟩ := this
     exact ⟨fs, fd, hu, e5, f1, run_sizeOf f2, f3, riA f4⟩
  all_goals (simp only [Bool.and_eq_true, List.isEmpty_iff] at h5)
  ·rw [h5.1.1.1] at e; simp at e
  ·rw [h5.1.1.1] at e; simp at e
  ·rw [h5.1.1] at e; simp at e
  ·rw [h5.1.1.1] at e; simp at e
 ·split at h5
  all_goals (simp only [Bool.and_eq_true, beq_iff_eq, Bool.or_eq_true] at h5)
  ·exact absurd h5.1.1.2 hne
  ·rename_i e' hu
   rcases h5.1.1.2 with h | h
   ·exact absurd h hne
   ·rw [h]; exact hu
  ·exact absurd h5.1.1.2 hne
  ·exact absurd h5.1.2 hne
  ·exact absurd h5.1.1.2 hne
 ·split at h5
  all_goals (simp only [Bool.and_eq_true, beq_iff_eq, Bool.or_eq_true] at h5)
  ·rw [h5.1.2] at hk; cases hk
  ·rw [h5.1.2] at hk; cases hk
  ·rename_i k' hu
   rcases h5.1.2 with h | h
   ·rw [h] at hk; cases hk
   ·rw [h] at hk; cases hk; exact hu
  ·rw [h5.2] at hk; cases hk
  ·rw [h5.1.2] at hk; cases hk
 ·split at h5
  all_goals (simp only [Bool.and_eq_true] at h5)
  ·rw [hs] at h5; simp at h5
  ·rw [hs] at h5; simp at h5
  ·rw [hs] at h5; simp at h5
  ·rename_i hu; exact hu
  ·rw [hs] at h5; simp at h5
 ·rw [hb] at h6
  dsimp only at h6
  split at h6
  ·assumption
  ·cases h6
 ·split at h5
  ·rename_i fs hu
   simp only [Bool.and_eq_true, placesOk, hne, Bool.false_or, beq_iff_eq] at h5
   exact ⟨fs, hu, h5.1.1.1.2⟩
  all_goals (simp only [Bool.and_eq_true, hne, Bool.false_eq_true, false_and] at h5)
 ·simpa [ha] using h4


def Env.add (G : Env) (f : Nat) (ms : List Bool) (S : List AV → List (Option LB) → AV → List (Option LB) → Prop) : Env := ⟨G.T, fun g => match Nat.beq g f with
    | true => ms
    | false => G.M g, fun g az h r h1 => match Nat.beq g f with
    | true => S az h r h1
    | false => G.S g az h r h1, []⟩
def env0 (T : Nat → Option TI) : Env := ⟨T, fun _ => [], fun _ _ _ _ _ => False, []⟩
theorem EnvOk.at {P : Program} {G : Env} (hG : EnvOk P G) {T : Nat → Option TI} (hT : TOk P T) (tr : List Nat) : EnvOk P ⟨T, G.M, G.S, tr⟩ := ⟨hT, hG.mix, hG.S⟩
theorem env0_ok {P : Program} {T : Nat → Option TI} (hT : TOk P T) (hm : P.follows .mixedOrders = true) : EnvOk P (env0 T) := ⟨hT, hm, fun _ _ _ _ _ h => h.elim⟩
theorem EnvOk.add {P : Program} {G : Env} (hG : EnvOk P G) {f : Nat} {ms : List Bool} (hent : E1 P f) {S : List AV → List (Option LB) → AV → List (Option LB) → Prop} (h : ∀ az h r h1, S az h r h1 → Spec P f az h r h1) : EnvOk P (G.add f ms S) :=
 ⟨hG.T, hG.mix, fun g az k r h1 hh => by
  unfold Env.add at hh
  dsimp only at hh
  split at hh
  ·rename_i e; obtain rfl := Nat.eq_of_beq_eq_true e; exact ⟨hent, h az k r h1 hh⟩
  ·exact hG.S g az k r h1 hh⟩

def Env.addOr (G : Env) (f : Nat) (ms : List Bool) (S : List AV → List (Option LB) → AV → List (Option LB) → Prop) : Env := ⟨G.T, fun g => match Nat.beq g f with
    | true => ms
    | false => G.M g, fun g az h r h1 => match Nat.beq g f with
    | true => S az h r h1 ∨ G.S g az h r h1
    | false => G.S g az h r h1, []⟩
theorem EnvOk.addOr {P : Program} {G : Env} (hG : EnvOk P G) {f : Nat} {ms : List Bool} (hent : E1 P f) {S : List AV → List (Option LB) → AV → List (Option LB) → Prop} (h : ∀ az h r h1, S az h r h1 → Spec P f az h r h1) : EnvOk P (G.addOr f ms S) :=
 ⟨hG.T, hG.mix, fun g az k r h1 hh => by
  unfold Env.addOr at hh
  dsimp only at hh
  split at hh
  ·rename_i e
   rcases hh with hh | hh
   ·obtain rfl := Nat.eq_of_beq_eq_true e; exact ⟨hent, h az k r h1 hh⟩
   ·exact hG.S g az k r h1 hh
  ·exact hG.S g az k r h1 hh⟩

def leB (b' b : LB) : Prop :=
 match b with
 | .box ty cs => match b' with
   | .box ty' cs' => Nat.beq ty' ty = true ∧ leL cs' cs
   | _ => False
 | .arr ty t xs => Ob (b' = .arr ty t xs)
def leBk (b' b : LB) (K : Prop) : Prop :=
 match b with
 | .box ty cs => match b' with
   | .box ty' cs' => whenB (Nat.beq ty' ty) (leLk cs' cs K)
   | _ => False
 | .arr ty t xs => Ob (b' = .arr ty t xs) ∧ K
theorem leBk_out {b' b : LB} {K : Prop} (h : leBk b' b K) : leB b' b ∧ K := by
 unfold leBk at h
 unfold leB
 split at h
 ·split at h
  ·obtain ⟨h1, h⟩ := wBo h
   obtain ⟨h2, h3⟩ := lLo h
   exact ⟨⟨h1, h2⟩, h3⟩
  ·exact h.elim
 ·exact h
def leH (h' : List (Option LB)) : List (Option LB) → Prop
 | [] => match h' with
   | [] => True
   | _ => False
 | none :: os => match h' with
   | none :: h' => leH h' os
   | _ => False
 | some b :: os => match h' with
   | some b' :: h' => leB b' b ∧ leH h' os
   | _ => False
def leHk (h' : List (Option LB)) : List (Option LB) → Prop
 | [] => match h' with
   | [] => True
   | _ => False
 | none :: os => match h' with
   | none :: h' => leHk h' os
   | _ => False
 | some b :: os => match h' with
   | some b' :: h' => leBk b' b (leHk h' os)
   | _ => False
theorem leHk_out : ∀ {h h' : List (Option LB)}, leHk h' h → leH h' h
 | [], h', e => by unfold leHk at e; unfold leH; exact e
 | none :: os, h', e => by
   unfold leHk at e
   unfold leH
   split at e
   ·exact leHk_out e
   ·exact e.elim
 | some b :: os, h', e => by
   unfold leHk at e
   unfold leH
   split at e
   ·obtain ⟨h1, h2⟩ := leBk_out e
    exact ⟨h1, leHk_out h2⟩
   ·exact e.elim
theorem ao {ar cs : List AV} {h' h : List (Option LB)} (e : leLk ar cs (leHk h' h)) : leL ar cs ∧ leH h' h := by
 obtain ⟨h1, h2⟩ := lLo e
 exact ⟨h1, leHk_out h2⟩
theorem leH_get : ∀ {h h' : List (Option LB)}, leH h' h → h'.length = h.length ∧ ∀ k : Nat, (h'[k]? = h[k]?) ∨ ∃ b' b, h'[k]? = some (some b') ∧ h[k]? = some (some b) ∧ leB b' b
 | [], h', e => by
   unfold leH at e
   split at e
   ·exact ⟨rfl, fun k => .inl rfl⟩
   ·exact e.elim
 | none :: os, h', e => by
   unfold leH at e
   split at e
   ·obtain ⟨h1, h2⟩ := leH_get e
    refine ⟨by simp [h1], fun k => ?_⟩
    cases k with
    | zero => exact .inl rfl
    | succ k => simpa using h2 k
   ·exact e.elim
 | some b :: os, h', e => by
   unfold leH at e
   split at e
   ·rename_i b' h''
    obtain ⟨h1, h2⟩ := leH_get e.2
    refine ⟨by simp [h1], fun k => ?_⟩
    cases k with
    | zero => exact .inr ⟨b', b, rfl, rfl, e.1⟩
    | succ k => simpa using h2 k
   ·exact e.elim
theorem lHl1 {h h' : List (Option LB)} (e : leH h' h) {k : Nat} {b : LB} (hb : h[k]? = some (some b)) : ∃ b', h'[k]? = some (some b') ∧ (b' = b ∨ leB b' b) := by
 rcases (leH_get e).2 k with e1 | ⟨b1, b2, e1, e2, e3⟩
 ·exact ⟨b, e1.trans hb, .inl rfl⟩
 ·rw [hb] at e2; cases e2; exact ⟨b1, e1, .inr e3⟩
theorem leH_live' {h h' : List (Option LB)} (e : leH h' h) {k : Nat} {b' : LB} (hb : h'[k]? = some (some b')) : ∃ b, h[k]? = some (some b) := by
 rcases (leH_get e).2 k with e1 | ⟨b1, b2, e1, e2, e3⟩
 ·exact ⟨b', e1.symm.trans hb⟩
 ·exact ⟨b2, e2⟩
theorem blkR_le {w : World} {S : Nat → Prop} {V : Nat → Info} {N : Nat} {I : Info} {b' b : LB} {cur : Array Value} (hc : BlkR w S V N I b' cur) (e : b' = b ∨ leB b' b) : BlkR w S V N I b cur := by
 rcases e with rfl | e
 ·exact hc
 unfold leB at e
 split at e
 ·rename_i ty cs
  split at e
  ·rename_i ty' cs'
   obtain ⟨a1, a2⟩ := e
   obtain rfl := Nat.eq_of_beq_eq_true a1
   have hcur : cur.size = cs'.length := by have := hc.box rfl; simpa [LB.len, LB.sz] using this
   have hcell : ∀ (j : Nat) (c : AV) (y : Value), cs'[j]? = some c → cur[j]? = some y → y.oneCell' = true ∧ R w S V N c y := fun j c y g1 g2 => by
    obtain ⟨y', k1, k2, k3⟩ := hc.cell 0 j c Nat.zero_lt_one g1
    have k1 : cur[0 * cs'.length + j]? = some y' := k1
    rw [Nat.zero_mul, Nat.zero_add, g2] at k1
    cases k1
    exact ⟨k2, k3⟩
   obtain ⟨b1, b2⟩ := leL_R (w := w) (S := S) (V := V) (N := N) a2 cur.toList (by simpa using hcur) fun j c y g1 g2 => (hcell j c y g1 (by simpa using g2)).2
   have hsz : I.sz = cs'.length := hc.sz
   refine ⟨by rw [hsz]; exact b1, hc.ln, hc.heap, fun k j c g1 g2 => ?_, fun g => by simp [LB.isArr] at g, fun _ => by simp [LB.len, LB.sz]; omega, fun g => by simp [LB.isArr] at g⟩
   have hk0 : k = 0 := by simp only [LB.len] at g1; omega
   subst hk0
   have g2 : cs[j]? = some c := g2
   have hj : j < cur.size := by have := (List.getElem?_eq_some_iff.1 g2).1; omega
   have hy : cur[j]? = some cur[j] := Array.getElem?_eq_getElem hj
   have hj' : j < cs'.length := by omega
   exact ⟨cur[j], by simp [LB.sz, hj], (hcell j _ _ (List.getElem?_eq_getElem hj') hy).1, b2 j c _ g2 (by simp [hj])⟩
  ·exact e.elim
 ·rw [← e.out]; exact hc
theorem Spec.le {P : Program} {f : FuncId} {args args' : List AV} {h h' h1 : List (Option LB)} {r : AV} (hs : Spec P f args h r h1) (ha : leL args' args) (hh : leH h' h) : Spec P f args' h' r h1 := by
 have hlen := (leH_get hh).1
 have hblk : ∀ V : Nat → Info, blkOf h' V = blkOf h V := fun V => by
  funext b
  refine propext ⟨fun ⟨id, lb, e1, e2⟩ => ?_, fun ⟨id, lb, e1, e2⟩ => ?_⟩
  ·obtain ⟨lb', e3⟩ := leH_live' hh e1; exact ⟨id, lb', e3, e2⟩
  ·obtain ⟨lb', e3, _⟩ := lHl1 hh e1; exact ⟨id, lb', e3, e2⟩
 intro w GB V S0 vs hLw hGB hhr hsz hargs
 have hat : atR S0 h' V w = atR S0 h V w := by unfold atR; rw [hblk]
 have hstb : ∀ b, Stb (atR S0 h V w) w h' V b → Stb (atR S0 h V w) w h V b := fun b hb => ⟨hb.1, hb.2.1, fun id lb e => by
  obtain ⟨lb', e1, _⟩ := lHl1 hh e
  exact hb.2.2 id lb' e1⟩
 rw [hblk, hat] at hhr
 rw [hat] at hargs
 rw [hblk] at hGB ⊢
 rw [hat, hlen]
 obtain ⟨g1, g2⟩ := leL_R (w := w) (S := Stb (atR S0 h V w) w h' V) (V := V) (N := h'.length) ha vs.toList (by simpa using hsz) fun i c x e1 e2 => hargs i c x e1 (by simpa using e2)
 refine hs w GB V S0 vs hLw hGB ⟨fun i j li lj e1 e2 hne => ?_, fun id lb e => ?_, fun id lb e hlt => ⟨id, lb, e, rfl⟩⟩ (by omega) fun i c x e1 e2 => ?_
 ·obtain ⟨l1, f1, _⟩ := lHl1 hh e1
  obtain ⟨l2, f2, _⟩ := lHl1 hh e2
  exact hhr.inj i j l1 l2 f1 f2 hne
 ·obtain ⟨lb', f1, f2⟩ := lHl1 hh e
  obtain ⟨cur, hc⟩ := hhr.blk id lb' f1
  exact ⟨cur, (blkR_le hc f2).mono (fun b hb => ⟨hstb b hb, rfl⟩) (fun _ _ => rfl) (by omega) rfl⟩
 ·exact (g2 i c x e1 (by simpa using e2)).mono (fun b hb => ⟨hstb b hb, rfl⟩) (fun _ _ => rfl) (by omega)

def grd {α : Type} (p : Prop) [Decidable p] (x : Option α) : Option α := if p then x else none
theorem grd_p {α : Type} {p : Prop} [Decidable p] {x : Option α} {r : α} (h : grd p x = some r) : p := by
 unfold grd at h
 split at h
 ·assumption
 ·cases h
theorem grd_k {α : Type} {p : Prop} [Decidable p] {x : Option α} {r : α} (h : grd p x = some r) : x = some r := by
 unfold grd at h
 split at h
 ·exact h
 ·cases h
theorem ct1 {α : Type} {b : Bool} {x y : Option α} {r : α} (hb : b = true) (h : cond b x y = some r) : x = some r := by rw [hb] at h; exact h
theorem cf1 {α : Type} {b : Bool} {x y : Option α} {r : α} (hb : b = false) (h : cond b x y = some r) : y = some r := by rw [hb] at h; exact h
theorem bind_some {α β : Type} {x : Option α} {f : α → Option β} {r : β} (h : x.bind f = some r) : ∃ y, x = some y ∧ f y = some r := by
 cases x with
 | none => cases h
 | some y => exact ⟨y, rfl, h⟩
theorem eqg {α : Type} {a b : α} (h : a = b) : a = b := h
inductive Lp (S R : Type) where
 | go (s : S)
 | out (r : R)
def iterN {S R : Type} (step : S → Option (Lp S R)) : Nat → S → Option R
 | 0, _ => none
 | n + 1, s => match step s with
   | none => none
   | some (.go s') => iterN step n s'
   | some (.out r) => some r
theorem iNm {S R : Type} {step : S → Option (Lp S R)} : ∀ {n m : Nat} {s : S} {r : R}, iterN step n s = some r → n ≤ m → iterN step m s = some r
 | 0, _, _, _, h, _ => by cases h
 | n + 1, 0, _, _, _, h => by omega
 | n + 1, m + 1, s, r, h, hm => by
   unfold iterN at h ⊢
   split at h
   ·cases h
   ·exact iNm h (by omega)
   ·exact h
noncomputable def iter {S R : Type} (step : S → Option (Lp S R)) (s : S) : Option R :=
 open Classical in if h : ∃ r n, iterN step n s = some r then some h.choose else none
theorem ii {S R : Type} {step : S → Option (Lp S R)} {s : S} {r : R} : iter step s = some r ↔ ∃ n, iterN step n s = some r := by
 unfold iter
 constructor
 ·intro h
  split at h
  ·rename_i hh
   cases h
   exact hh.choose_spec
  ·cases h
 ·rintro ⟨n, hn⟩
  have hh : ∃ r n, iterN step n s = some r := ⟨r, n, hn⟩
  rw [dif_pos hh]
  obtain ⟨m, hm⟩ := hh.choose_spec
  have h1 := iNm hn (Nat.le_max_left n m)
  have h2 := iNm hm (Nat.le_max_right n m)
  rw [h1] at h2
  cases h2; rfl
theorem ig {S R : Type} {step : S → Option (Lp S R)} {s s' : S} (h : step s = some (.go s')) : iter step s = iter step s' := by
 have key : ∀ r, iter step s = some r ↔ iter step s' = some r := fun r => by
  rw [ii, ii]
  constructor
  ·rintro ⟨n, hn⟩
   cases n with
   | zero => cases hn
   | succ n => unfold iterN at hn; rw [h] at hn; exact ⟨n, hn⟩
  ·rintro ⟨n, hn⟩
   exact ⟨n + 1, by unfold iterN; rw [h]; exact hn⟩
 cases e : iter step s' with
 | some r => exact (key r).2 e
 | none =>
   cases e2 : iter step s with
   | none => rfl
   | some r => rw [(key r).1 e2] at e; cases e
theorem io {S R : Type} {step : S → Option (Lp S R)} {s : S} {r : R} (h : step s = some (.out r)) : iter step s = some r :=
 ii.2 ⟨1, by unfold iterN; rw [h]⟩
theorem iter_step {S R : Type} {step : S → Option (Lp S R)} {s : S} {r : R} (h : iter step s = some r) : ∃ v, step s = some v ∧ (∀ s', v = .go s' → iter step s' = some r) ∧ ∀ r', v = .out r' → r' = r := by
 cases e : step s with
 | none =>
   obtain ⟨n, hn⟩ := ii.1 h
   cases n with
   | zero => cases hn
   | succ n => unfold iterN at hn; rw [e] at hn; cases hn
 | some v =>
   refine ⟨v, rfl, fun s' hv => ?_, fun r' hv => ?_⟩
   ·subst hv; rw [← ig e]; exact h
   ·subst hv; rw [io e] at h; cases h; rfl
def cnt {S R : Type} (step : S → Option (Lp S R)) : Nat → S → Nat
 | 0, _ => 0
 | n + 1, s => match step s with
   | some (.go s') => cnt step n s' + 1
   | _ => 0
theorem cnt_eq {S R : Type} {step : S → Option (Lp S R)} : ∀ {n m : Nat} {s : S} {r r' : R}, iterN step n s = some r → iterN step m s = some r' → cnt step n s = cnt step m s
 | 0, _, _, _, _, h, _ => by cases h
 | _ + 1, 0, _, _, _, _, h => by cases h
 | n + 1, m + 1, s, r, r', h1, h2 => by
   unfold iterN at h1 h2
   unfold cnt
   split at h1
   ·cases h1
   ·rename_i s' e
    rw [e] at h2 ⊢
    simp only at h2 ⊢
    rw [cnt_eq h1 h2]
   ·rename_i r0 e
    rw [e]
noncomputable def rank {S R : Type} (step : S → Option (Lp S R)) (s : S) : Nat :=
 open Classical in if h : ∃ n r, iterN step n s = some r then cnt step h.choose s else 0
theorem rank_eq {S R : Type} {step : S → Option (Lp S R)} {s : S} {r : R} {n : Nat} (h : iterN step n s = some r) : rank step s = cnt step n s := by
 have hh : ∃ n r, iterN step n s = some r := ⟨n, r, h⟩
 unfold rank
 rw [dif_pos hh]
 obtain ⟨r', hr'⟩ := hh.choose_spec
 exact cnt_eq hr' h
theorem rank_lt {S R : Type} {step : S → Option (Lp S R)} {s s' : S} {r : R} (h : step s = some (.go s')) (hr : iter step s = some r) : rank step s' < rank step s := by
 obtain ⟨n, hn⟩ := ii.1 hr
 cases n with
 | zero => cases hn
 | succ n =>
   rw [rank_eq hn]
   unfold iterN at hn
   rw [h] at hn
   have hn : iterN step n s' = some r := hn
   rw [rank_eq hn]
   simp [cnt, h]
structure Round {S R α : Type} (step : S → Option (Lp S R)) (r : R) (s : S) (v : Lp S R) (A : R → Option α) (x : α) : Prop where
 all : iter step s = some r
 one : step s = some v
 aft : A r = some x
theorem os1 {S R α : Type} {step : S → Option (Lp S R)} {r : R} {s : S} {v : Lp S R} {e : R} {A : R → Option α} {x : α} (H : some (Lp.out e) = some v) (hr : Round step r s v A x) : A e = some x := by
 cases H
 have := io hr.one
 rw [hr.all] at this
 cases this
 exact hr.aft
inductive Tg (n : Nat) : Type where
 | mk
def Again {S R : Type} (m : Nat) (F : S → St) (step : S → Option (Lp S R)) (r : R) (s : S) (st : St) : Prop := ∃ s', iter step s' = some r ∧ rank step s' < rank step s ∧ Sub m st (F s')
theorem as1 {S R α : Type} {m : Nat} {F : S → St} {step : S → Option (Lp S R)} {r : R} {s s' : S} {v : Lp S R} {A : R → Option α} {x : α} {st : St} (H : some (Lp.go s') = some v) (hr : Round step r s v A x) (hs : Sub m st (F s')) : Again m F step r s st := by
 cases H
 exact ⟨s', (ig hr.one).symm.trans hr.all, rank_lt hr.one hr.all, hs⟩
section
variable {P : Program} {G : Env}
theorem li1 (hG : EnvOk P G) {ct : CT} {n m : Nat} {body : Code} {st : St} {Q : Exit → St → Prop} {S R α : Type} (F : S → St) (step : S → Option (Lp S R)) (s0 : S) {A : R → Option α} {x : α} (H : (iter step s0).bind A = some x) (hok : oC n body = true) (hs : Sub m st (F s0))
  (hround : ∀ s r v, Round step r s v A x → step s = some v → evC P G ct n m body (F s) (seqQ (Again m F step r s) Q)) : l5 P n m body st Q := by
 obtain ⟨r, hr, hA⟩ := bind_some H
 refine loop_rule hG (ct := ct) hok F (fun s => iter step s = some r) (rank step) s0 hr hs fun s hI => ?_
 obtain ⟨v, hv, _⟩ := iter_step hI
 exact hround s r v ⟨hI, hv, hA⟩ hv
end
theorem fm {m : Nat} {c : AV} {h : List (Option LB)} {r : AV} {h1 : List (Option LB)} (hh : subK m ⟨sl [(0, c)], h⟩ [(0, r)] h1 (sigmaOf m h h1 (pairC r c))) : Fin m c h r h1 := subK_out hh
theorem grd_no {Y : Type} {x : Option Y} {y : Y} (h : grd False x = some y) : False := by
 unfold grd at h; rw [if_neg (fun h => h)] at h; cases h
theorem viewz (i : Nat) (k : Int) : AV.view i (Int.toNat 0) (k - 0).toNat = AV.view i 0 k.toNat := by rw [Int.sub_zero]; rfl
end Go.Proofs.YtaobinhdnklojaaGreatDoor
namespace Go.Proofs.YtaobinhdnklojaaGreatDoor
open Go.RowKit

def tBEC : Ty := .st [(.int .i64), (.int .i64), .bool, (.int .u8)]
abbrev Slot : Type := Int × Bool × Int × Unit
def tS : Ty := .st [(.int .i64), .bool, (.int .i64)]
def dS : Slot := (0, false, 0, ())
abbrev R1 : Type := Int × (List Slot) × Int × Int × Int × Unit
def tR : Ty := .st [(.int .i64), (.sl tS), (.int .i64), (.int .i64), (.int .i64)]
abbrev Log : Type := ByteArray × ByteArray × Int × Unit
def tL : Ty := .st [.str, .str, (.int .i64)]
abbrev C1 : Type := R1 × Log × Unit
def tC : Ty := .st [tR, tL]
abbrev LR : Type := ByteArray × ByteArray × Unit
def tLR : Ty := .st [.str, .str]
def dLR : LR := ((ByteArray.mk #[]), (ByteArray.mk #[]), ())
def tL1 : Ty := .st [tR, tL]
abbrev RS1 : Type := Int × Int × Unit
def tRS : Ty := .st [(.int .i64), (.int .i64)]
def tSWi : Ty := .st [(.int .i64), (.sl tS), (.int .i64), (.int .i64), (.int .i64)]
def taR : Ty := .st [(.int .u8), (.int .u8)]
def tbE : Ty := .st [(.int .i64), (.int .i64), .bool, (.int .u8)]
def teS : Ty := .st [.str]
abbrev l1Cur : Type := (List Int) × Int × Int × Unit
def ty_l1Cur : Ty := .st [(.sl (.int .u8)), (.int .i64), (.int .u64)]
def tsCi : Ty := .st [(.int .i64), .bool, (.int .i64)]
def tsCs : Ty := .st [.str, .str]
def tsDs : Ty := .st [.str, .str, (.int .i64)]
def tsKi : Ty := .st [(.int .i64), (.int .i64)]
def tscu : Ty := .st [(.sl (.int .u8)), (.int .i64), (.int .u64)]
def tslu : Ty := .st [(.int .u8), (.int .u8)]
def tsss : Ty := .st [.str]
abbrev w64 (x : Int) : Int := IntKind.i64.wrap x
abbrev wu64 (x : Int) : Int := IntKind.u64.wrap x
abbrev wu8 (x : Int) : Int := IntKind.u8.wrap x
theorem hmix : Tryz.prog.follows .mixedOrders = true := by kernel_rfl

def T : Nat → Option TI
 | 2 => some ⟨(some (.int .i64)), 1, 8, false, [], 0, .int .i64 0, (some .i64), false, (0, 0)⟩
 | 3 => some ⟨(some (.int .i64)), 1, 8, false, [], 0, .int .i64 0, (some .i64), false, (0, 0)⟩
 | 4 => some ⟨(some .bool), 1, 1, false, [], 0, .bool false, none, false, (0, 0)⟩
 | 5 => some ⟨(some (.int .u8)), 1, 1, false, [], 0, .int .u8 0, (some .u8), false, (0, 0)⟩
 | 6 => some ⟨(some (.int .u8)), 1, 1, false, [], 0, .int .u8 0, (some .u8), false, (0, 0)⟩
 | 7 => some ⟨(some tBEC), 4, 24, true, [(0, 1, false), (1, 1, false), (2, 1, false), (3, 1, false)], 0, .agg #[.int .i64 0, .int .i64 0, .bool false, .int .u8 0], none, false, (0, 0)⟩
 | 8 => some ⟨(some tbE), 4, 24, true, [(0, 1, false), (1, 1, false), (2, 1, false), (3, 1, false)], 0, .agg #[.int .i64 0, .int .i64 0, .bool false, .int .u8 0], none, false, (0, 0)⟩
 | 9 => some ⟨(some .str), 1, 16, false, [], 0, .string ⟨#[]⟩, none, true, (0, 0)⟩
 | 10 => some ⟨(some .str), 1, 16, false, [], 0, .string ⟨#[]⟩, none, true, (0, 0)⟩
 | 11 => some ⟨(some .str), 1, 16, false, [], 0, .string ⟨#[]⟩, none, true, (0, 0)⟩
 | 21 => some ⟨(some (.int .i32)), 1, 4, false, [], 0, .int .i32 0, (some .i32), false, (0, 0)⟩
 | 22 => some ⟨(some tsDs), 3, 40, true, [(0, 1, false), (1, 1, false), (2, 1, false)], 0, .agg #[.string ⟨#[]⟩, .string ⟨#[]⟩, .int .i64 0], none, false, (0, 0)⟩
 | 23 => some ⟨(some tL), 3, 40, true, [(0, 1, false), (1, 1, false), (2, 1, false)], 0, .agg #[.string ⟨#[]⟩, .string ⟨#[]⟩, .int .i64 0], none, false, (0, 0)⟩
 | 27 => some ⟨(some tL), 3, 40, true, [(0, 1, false), (1, 1, false), (2, 1, false)], 0, .agg #[.string ⟨#[]⟩, .string ⟨#[]⟩, .int .i64 0], none, false, (0, 0)⟩
 | 30 => some ⟨(some (.sl tS)), 1, 24, false, [], 161, .slice none 0 0, none, false, (0, 0)⟩
 | 31 => some ⟨(some tSWi), 5, 56, true, [(0, 1, false), (1, 1, false), (2, 1, false), (3, 1, false), (4, 1, false)], 0, .agg #[.int .i64 0, .slice none 0 0, .int .i64 0, .int .i64 0, .int .i64 0], none, false, (0, 0)⟩
 | 32 => some ⟨(some tR), 5, 56, true, [(0, 1, false), (1, 1, false), (2, 1, false), (3, 1, false), (4, 1, false)], 0, .agg #[.int .i64 0, .slice none 0 0, .int .i64 0, .int .i64 0, .int .i64 0], none, false, (0, 0)⟩
 | 33 => some ⟨(some tL1), 8, 96, true, [(0, 5, true), (5, 3, true)], 0, .agg #[.int .i64 0, .slice none 0 0, .int .i64 0, .int .i64 0, .int .i64 0, .string ⟨#[]⟩, .string ⟨#[]⟩, .int .i64 0], none, false, (0, 0)⟩
 | 34 => some ⟨(some tC), 8, 96, true, [(0, 5, true), (5, 3, true)], 0, .agg #[.int .i64 0, .slice none 0 0, .int .i64 0, .int .i64 0, .int .i64 0, .string ⟨#[]⟩, .string ⟨#[]⟩, .int .i64 0], none, false, (0, 0)⟩
 | 36 => some ⟨(some (.sl tS)), 1, 24, false, [], 96, .slice none 0 0, none, false, (0, 0)⟩
 | 37 => some ⟨(some tSWi), 5, 56, true, [(0, 1, false), (1, 1, false), (2, 1, false), (3, 1, false), (4, 1, false)], 0, .agg #[.int .i64 0, .slice none 0 0, .int .i64 0, .int .i64 0, .int .i64 0], none, false, (0, 0)⟩
 | 38 => some ⟨(some tR), 5, 56, true, [(0, 1, false), (1, 1, false), (2, 1, false), (3, 1, false), (4, 1, false)], 0, .agg #[.int .i64 0, .slice none 0 0, .int .i64 0, .int .i64 0, .int .i64 0], none, false, (0, 0)⟩
 | 39 => some ⟨(some tL1), 8, 96, true, [(0, 5, true), (5, 3, true)], 0, .agg #[.int .i64 0, .slice none 0 0, .int .i64 0, .int .i64 0, .int .i64 0, .string ⟨#[]⟩, .string ⟨#[]⟩, .int .i64 0], none, false, (0, 0)⟩
 | 40 => some ⟨(some tC), 8, 96, true, [(0, 5, true), (5, 3, true)], 0, .agg #[.int .i64 0, .slice none 0 0, .int .i64 0, .int .i64 0, .int .i64 0, .string ⟨#[]⟩, .string ⟨#[]⟩, .int .i64 0], none, false, (0, 0)⟩
 | 47 => some ⟨(some (.sl .str)), 1, 24, false, [], 9, .slice none 0 0, none, false, (0, 0)⟩
 | 52 => some ⟨(some (.sl (.int .u8))), 1, 24, false, [], 5, .slice none 0 0, none, false, (0, 0)⟩
 | 66 => some ⟨(some (.sl tLR)), 1, 24, false, [], 70, .slice none 0 0, none, false, (0, 0)⟩
 | 69 => some ⟨(some tsCs), 2, 32, true, [(0, 1, false), (1, 1, false)], 0, .agg #[.string ⟨#[]⟩, .string ⟨#[]⟩], none, false, (0, 0)⟩
 | 70 => some ⟨(some tLR), 2, 32, true, [(0, 1, false), (1, 1, false)], 0, .agg #[.string ⟨#[]⟩, .string ⟨#[]⟩], none, false, (0, 0)⟩
 | 88 => some ⟨(some (.int .u64)), 1, 8, false, [], 0, .int .u64 0, (some .u64), false, (0, 0)⟩
 | 89 => some ⟨(some tscu), 3, 40, true, [(0, 1, false), (1, 1, false), (2, 1, false)], 0, .agg #[.slice none 0 0, .int .i64 0, .int .u64 0], none, false, (0, 0)⟩
 | 90 => some ⟨(some ty_l1Cur), 3, 40, true, [(0, 1, false), (1, 1, false), (2, 1, false)], 0, .agg #[.slice none 0 0, .int .i64 0, .int .u64 0], none, false, (0, 0)⟩
 | 95 => some ⟨(some tsCi), 3, 24, true, [(0, 1, false), (1, 1, false), (2, 1, false)], 0, .agg #[.int .i64 0, .bool false, .int .i64 0], none, false, (0, 0)⟩
 | 96 => some ⟨(some tS), 3, 24, true, [(0, 1, false), (1, 1, false), (2, 1, false)], 0, .agg #[.int .i64 0, .bool false, .int .i64 0], none, false, (0, 0)⟩
 | 99 => some ⟨(some (.sl (.int .i64))), 1, 24, false, [], 3, .slice none 0 0, none, false, (0, 0)⟩
 | 119 => some ⟨(some tsKi), 2, 16, true, [(0, 1, false), (1, 1, false)], 0, .agg #[.int .i64 0, .int .i64 0], none, false, (0, 0)⟩
 | 120 => some ⟨(some tRS), 2, 16, true, [(0, 1, false), (1, 1, false)], 0, .agg #[.int .i64 0, .int .i64 0], none, false, (0, 0)⟩
 | 161 => some ⟨(some tS), 3, 24, true, [(0, 1, false), (1, 1, false), (2, 1, false)], 0, .agg #[.int .i64 0, .bool false, .int .i64 0], none, false, (0, 0)⟩
 | 165 => some ⟨none, 4, 64, true, [], 0, .agg #[.string ⟨#[]⟩, .string ⟨#[]⟩, .string ⟨#[]⟩, .string ⟨#[]⟩], none, false, (4, 9)⟩
 | 177 => some ⟨(some (.int .u64)), 1, 8, false, [], 0, .int .u64 0, (some .u64), false, (0, 0)⟩
 | 207 => some ⟨(some (.int .i64)), 1, 8, false, [], 0, .int .i64 0, (some .i64), false, (0, 0)⟩
 | 213 => some ⟨(some (.sl (.sl tS))), 1, 24, false, [], 36, .slice none 0 0, none, false, (0, 0)⟩
 | 217 => some ⟨(some (.int .u32)), 1, 4, false, [], 0, .int .u32 0, (some .u32), false, (0, 0)⟩
 | 228 => some ⟨(some tslu), 2, 2, true, [(0, 1, false), (1, 1, false)], 0, .agg #[.int .u8 0, .int .u8 0], none, false, (0, 0)⟩
 | 229 => some ⟨(some taR), 2, 2, true, [(0, 1, false), (1, 1, false)], 0, .agg #[.int .u8 0, .int .u8 0], none, false, (0, 0)⟩
 | 237 => some ⟨(some tsss), 1, 16, true, [(0, 1, false)], 0, .agg #[.string ⟨#[]⟩], none, false, (0, 0)⟩
 | 238 => some ⟨(some teS), 1, 16, true, [(0, 1, false)], 0, .agg #[.string ⟨#[]⟩], none, false, (0, 0)⟩
 | 246 => some ⟨(some (.int .u8)), 1, 1, false, [], 0, .int .u8 0, (some .u8), false, (0, 0)⟩
 | 247 => some ⟨(some (.int .u8)), 1, 1, false, [], 0, .int .u8 0, (some .u8), false, (0, 0)⟩
 | 249 => some ⟨(some (.int .i32)), 1, 4, false, [], 0, .int .i32 0, (some .i32), false, (0, 0)⟩
 | 250 => some ⟨(some (.int .i32)), 1, 4, false, [], 0, .int .i32 0, (some .i32), false, (0, 0)⟩
 | _ => none

theorem tiok_2 : TIok Tryz.prog 2 ⟨(some (.int .i64)), 1, 8, false, [], 0, .int .i64 0, (some .i64), false, (0, 0)⟩ := to1 (by kernel_rfl) (by kernel_rfl) (by kernel_rfl)
theorem tiok_3 : TIok Tryz.prog 3 ⟨(some (.int .i64)), 1, 8, false, [], 0, .int .i64 0, (some .i64), false, (0, 0)⟩ := to1 (by kernel_rfl) (by kernel_rfl) (by kernel_rfl)
theorem tiok_4 : TIok Tryz.prog 4 ⟨(some .bool), 1, 1, false, [], 0, .bool false, none, false, (0, 0)⟩ := to1 (by kernel_rfl) (by kernel_rfl) (by kernel_rfl)
theorem tiok_5 : TIok Tryz.prog 5 ⟨(some (.int .u8)), 1, 1, false, [], 0, .int .u8 0, (some .u8), false, (0, 0)⟩ := to1 (by kernel_rfl) (by kernel_rfl) (by kernel_rfl)
theorem tiok_6 : TIok Tryz.prog 6 ⟨(some (.int .u8)), 1, 1, false, [], 0, .int .u8 0, (some .u8), false, (0, 0)⟩ := to1 (by kernel_rfl) (by kernel_rfl) (by kernel_rfl)
theorem tiok_7 : TIok Tryz.prog 7 ⟨(some tBEC), 4, 24, true, [(0, 1, false), (1, 1, false), (2, 1, false), (3, 1, false)], 0, .agg #[.int .i64 0, .int .i64 0, .bool false, .int .u8 0], none, false, (0, 0)⟩ := to1 (by kernel_rfl) (by kernel_rfl) (by kernel_rfl)
theorem tiok_8 : TIok Tryz.prog 8 ⟨(some tbE), 4, 24, true, [(0, 1, false), (1, 1, false), (2, 1, false), (3, 1, false)], 0, .agg #[.int .i64 0, .int .i64 0, .bool false, .int .u8 0], none, false, (0, 0)⟩ := to1 (by kernel_rfl) (by kernel_rfl) (by kernel_rfl)
theorem tiok_9 : TIok Tryz.prog 9 ⟨(some .str), 1, 16, false, [], 0, .string ⟨#[]⟩, none, true, (0, 0)⟩ := to1 (by kernel_rfl) (by kernel_rfl) (by kernel_rfl)
theorem tiok_10 : TIok Tryz.prog 10 ⟨(some .str), 1, 16, false, [], 0, .string ⟨#[]⟩, none, true, (0, 0)⟩ := to1 (by kernel_rfl) (by kernel_rfl) (by kernel_rfl)
theorem tiok_11 : TIok Tryz.prog 11 ⟨(some .str), 1, 16, false, [], 0, .string ⟨#[]⟩, none, true, (0, 0)⟩ := to1 (by kernel_rfl) (by kernel_rfl) (by kernel_rfl)
theorem tiok_21 : TIok Tryz.prog 21 ⟨(some (.int .i32)), 1, 4, false, [], 0, .int .i32 0, (some .i32), false, (0, 0)⟩ := to1 (by kernel_rfl) (by kernel_rfl) (by kernel_rfl)
theorem tiok_22 : TIok Tryz.prog 22 ⟨(some tsDs), 3, 40, true, [(0, 1, false), (1, 1, false), (2, 1, false)], 0, .agg #[.string ⟨#[]⟩, .string ⟨#[]⟩, .int .i64 0], none, false, (0, 0)⟩ := to1 (by kernel_rfl) (by kernel_rfl) (by kernel_rfl)
theorem tiok_23 : TIok Tryz.prog 23 ⟨(some tL), 3, 40, true, [(0, 1, false), (1, 1, false), (2, 1, false)], 0, .agg #[.string ⟨#[]⟩, .string ⟨#[]⟩, .int .i64 0], none, false, (0, 0)⟩ := to1 (by kernel_rfl) (by kernel_rfl) (by kernel_rfl)
theorem tiok_27 : TIok Tryz.prog 27 ⟨(some tL), 3, 40, true, [(0, 1, false), (1, 1, false), (2, 1, false)], 0, .agg #[.string ⟨#[]⟩, .string ⟨#[]⟩, .int .i64 0], none, false, (0, 0)⟩ := to1 (by kernel_rfl) (by kernel_rfl) (by kernel_rfl)
theorem tiok_30 : TIok Tryz.prog 30 ⟨(some (.sl tS)), 1, 24, false, [], 161, .slice none 0 0, none, false, (0, 0)⟩ := to1 (by kernel_rfl) (by kernel_rfl) (by kernel_rfl)
theorem tiok_31 : TIok Tryz.prog 31 ⟨(some tSWi), 5, 56, true, [(0, 1, false), (1, 1, false), (2, 1, false), (3, 1, false), (4, 1, false)], 0, .agg #[.int .i64 0, .slice none 0 0, .int .i64 0, .int .i64 0, .int .i64 0], none, false, (0, 0)⟩ := to1 (by kernel_rfl) (by kernel_rfl) (by kernel_rfl)
theorem tiok_32 : TIok Tryz.prog 32 ⟨(some tR), 5, 56, true, [(0, 1, false), (1, 1, false), (2, 1, false), (3, 1, false), (4, 1, false)], 0, .agg #[.int .i64 0, .slice none 0 0, .int .i64 0, .int .i64 0, .int .i64 0], none, false, (0, 0)⟩ := to1 (by kernel_rfl) (by kernel_rfl) (by kernel_rfl)
theorem tiok_33 : TIok Tryz.prog 33 ⟨(some tL1), 8, 96, true, [(0, 5, true), (5, 3, true)], 0, .agg #[.int .i64 0, .slice none 0 0, .int .i64 0, .int .i64 0, .int .i64 0, .string ⟨#[]⟩, .string ⟨#[]⟩, .int .i64 0], none, false, (0, 0)⟩ := to1 (by kernel_rfl) (by kernel_rfl) (by kernel_rfl)
theorem tiok_34 : TIok Tryz.prog 34 ⟨(some tC), 8, 96, true, [(0, 5, true), (5, 3, true)], 0, .agg #[.int .i64 0, .slice none 0 0, .int .i64 0, .int .i64 0, .int .i64 0, .string ⟨#[]⟩, .string ⟨#[]⟩, .int .i64 0], none, false, (0, 0)⟩ := to1 (by kernel_rfl) (by kernel_rfl) (by kernel_rfl)
theorem tiok_36 : TIok Tryz.prog 36 ⟨(some (.sl tS)), 1, 24, false, [], 96, .slice none 0 0, none, false, (0, 0)⟩ := to1 (by kernel_rfl) (by kernel_rfl) (by kernel_rfl)
theorem tiok_37 : TIok Tryz.prog 37 ⟨(some tSWi), 5, 56, true, [(0, 1, false), (1, 1, false), (2, 1, false), (3, 1, false), (4, 1, false)], 0, .agg #[.int .i64 0, .slice none 0 0, .int .i64 0, .int .i64 0, .int .i64 0], none, false, (0, 0)⟩ := to1 (by kernel_rfl) (by kernel_rfl) (by kernel_rfl)
theorem tiok_38 : TIok Tryz.prog 38 ⟨(some tR), 5, 56, true, [(0, 1, false), (1, 1, false), (2, 1, false), (3, 1, false), (4, 1, false)], 0, .agg #[.int .i64 0, .slice none 0 0, .int .i64 0, .int .i64 0, .int .i64 0], none, false, (0, 0)⟩ := to1 (by kernel_rfl) (by kernel_rfl) (by kernel_rfl)
theorem tiok_39 : TIok Tryz.prog 39 ⟨(some tL1), 8, 96, true, [(0, 5, true), (5, 3, true)], 0, .agg #[.int .i64 0, .slice none 0 0, .int .i64 0, .int .i64 0, .int .i64 0, .string ⟨#[]⟩, .string ⟨#[]⟩, .int .i64 0], none, false, (0, 0)⟩ := to1 (by kernel_rfl) (by kernel_rfl) (by kernel_rfl)
theorem tiok_40 : TIok Tryz.prog 40 ⟨(some tC), 8, 96, true, [(0, 5, true), (5, 3, true)], 0, .agg #[.int .i64 0, .slice none 0 0, .int .i64 0, .int .i64 0, .int .i64 0, .string ⟨#[]⟩, .string ⟨#[]⟩, .int .i64 0], none, false, (0, 0)⟩ := to1 (by kernel_rfl) (by kernel_rfl) (by kernel_rfl)
theorem tiok_47 : TIok Tryz.prog 47 ⟨(some (.sl .str)), 1, 24, false, [], 9, .slice none 0 0, none, false, (0, 0)⟩ := to1 (by kernel_rfl) (by kernel_rfl) (by kernel_rfl)
theorem tiok_52 : TIok Tryz.prog 52 ⟨(some (.sl (.int .u8))), 1, 24, false, [], 5, .slice none 0 0, none, false, (0, 0)⟩ := to1 (by kernel_rfl) (by kernel_rfl) (by kernel_rfl)
theorem tiok_66 : TIok Tryz.prog 66 ⟨(some (.sl tLR)), 1, 24, false, [], 70, .slice none 0 0, none, false, (0, 0)⟩ := to1 (by kernel_rfl) (by kernel_rfl) (by kernel_rfl)
theorem tiok_69 : TIok Tryz.prog 69 ⟨(some tsCs), 2, 32, true, [(0, 1, false), (1, 1, false)], 0, .agg #[.string ⟨#[]⟩, .string ⟨#[]⟩], none, false, (0, 0)⟩ := to1 (by kernel_rfl) (by kernel_rfl) (by kernel_rfl)
theorem tiok_70 : TIok Tryz.prog 70 ⟨(some tLR), 2, 32, true, [(0, 1, false), (1, 1, false)], 0, .agg #[.string ⟨#[]⟩, .string ⟨#[]⟩], none, false, (0, 0)⟩ := to1 (by kernel_rfl) (by kernel_rfl) (by kernel_rfl)
theorem tiok_88 : TIok Tryz.prog 88 ⟨(some (.int .u64)), 1, 8, false, [], 0, .int .u64 0, (some .u64), false, (0, 0)⟩ := to1 (by kernel_rfl) (by kernel_rfl) (by kernel_rfl)
theorem tiok_89 : TIok Tryz.prog 89 ⟨(some tscu), 3, 40, true, [(0, 1, false), (1, 1, false), (2, 1, false)], 0, .agg #[.slice none 0 0, .int .i64 0, .int .u64 0], none, false, (0, 0)⟩ := to1 (by kernel_rfl) (by kernel_rfl) (by kernel_rfl)
theorem tiok_90 : TIok Tryz.prog 90 ⟨(some ty_l1Cur), 3, 40, true, [(0, 1, false), (1, 1, false), (2, 1, false)], 0, .agg #[.slice none 0 0, .int .i64 0, .int .u64 0], none, false, (0, 0)⟩ := to1 (by kernel_rfl) (by kernel_rfl) (by kernel_rfl)
theorem tiok_95 : TIok Tryz.prog 95 ⟨(some tsCi), 3, 24, true, [(0, 1, false), (1, 1, false), (2, 1, false)], 0, .agg #[.int .i64 0, .bool false, .int .i64 0], none, false, (0, 0)⟩ := to1 (by kernel_rfl) (by kernel_rfl) (by kernel_rfl)
theorem tiok_96 : TIok Tryz.prog 96 ⟨(some tS), 3, 24, true, [(0, 1, false), (1, 1, false), (2, 1, false)], 0, .agg #[.int .i64 0, .bool false, .int .i64 0], none, false, (0, 0)⟩ := to1 (by kernel_rfl) (by kernel_rfl) (by kernel_rfl)
theorem tiok_99 : TIok Tryz.prog 99 ⟨(some (.sl (.int .i64))), 1, 24, false, [], 3, .slice none 0 0, none, false, (0, 0)⟩ := to1 (by kernel_rfl) (by kernel_rfl) (by kernel_rfl)
theorem tiok_119 : TIok Tryz.prog 119 ⟨(some tsKi), 2, 16, true, [(0, 1, false), (1, 1, false)], 0, .agg #[.int .i64 0, .int .i64 0], none, false, (0, 0)⟩ := to1 (by kernel_rfl) (by kernel_rfl) (by kernel_rfl)
theorem tiok_120 : TIok Tryz.prog 120 ⟨(some tRS), 2, 16, true, [(0, 1, false), (1, 1, false)], 0, .agg #[.int .i64 0, .int .i64 0], none, false, (0, 0)⟩ := to1 (by kernel_rfl) (by kernel_rfl) (by kernel_rfl)
theorem tiok_161 : TIok Tryz.prog 161 ⟨(some tS), 3, 24, true, [(0, 1, false), (1, 1, false), (2, 1, false)], 0, .agg #[.int .i64 0, .bool false, .int .i64 0], none, false, (0, 0)⟩ := to1 (by kernel_rfl) (by kernel_rfl) (by kernel_rfl)
theorem tiok_165 : TIok Tryz.prog 165 ⟨none, 4, 64, true, [], 0, .agg #[.string ⟨#[]⟩, .string ⟨#[]⟩, .string ⟨#[]⟩, .string ⟨#[]⟩], none, false, (4, 9)⟩ := to1 (by kernel_rfl) (by kernel_rfl) (by kernel_rfl)
theorem tiok_177 : TIok Tryz.prog 177 ⟨(some (.int .u64)), 1, 8, false, [], 0, .int .u64 0, (some .u64), false, (0, 0)⟩ := to1 (by kernel_rfl) (by kernel_rfl) (by kernel_rfl)
theorem tiok_207 : TIok Tryz.prog 207 ⟨(some (.int .i64)), 1, 8, false, [], 0, .int .i64 0, (some .i64), false, (0, 0)⟩ := to1 (by kernel_rfl) (by kernel_rfl) (by kernel_rfl)
theorem tiok_213 : TIok Tryz.prog 213 ⟨(some (.sl (.sl tS))), 1, 24, false, [], 36, .slice none 0 0, none, false, (0, 0)⟩ := to1 (by kernel_rfl) (by kernel_rfl) (by kernel_rfl)
theorem tiok_217 : TIok Tryz.prog 217 ⟨(some (.int .u32)), 1, 4, false, [], 0, .int .u32 0, (some .u32), false, (0, 0)⟩ := to1 (by kernel_rfl) (by kernel_rfl) (by kernel_rfl)
theorem tiok_228 : TIok Tryz.prog 228 ⟨(some tslu), 2, 2, true, [(0, 1, false), (1, 1, false)], 0, .agg #[.int .u8 0, .int .u8 0], none, false, (0, 0)⟩ := to1 (by kernel_rfl) (by kernel_rfl) (by kernel_rfl)
theorem tiok_229 : TIok Tryz.prog 229 ⟨(some taR), 2, 2, true, [(0, 1, false), (1, 1, false)], 0, .agg #[.int .u8 0, .int .u8 0], none, false, (0, 0)⟩ := to1 (by kernel_rfl) (by kernel_rfl) (by kernel_rfl)
theorem tiok_237 : TIok Tryz.prog 237 ⟨(some tsss), 1, 16, true, [(0, 1, false)], 0, .agg #[.string ⟨#[]⟩], none, false, (0, 0)⟩ := to1 (by kernel_rfl) (by kernel_rfl) (by kernel_rfl)
theorem tiok_238 : TIok Tryz.prog 238 ⟨(some teS), 1, 16, true, [(0, 1, false)], 0, .agg #[.string ⟨#[]⟩], none, false, (0, 0)⟩ := to1 (by kernel_rfl) (by kernel_rfl) (by kernel_rfl)
theorem tiok_246 : TIok Tryz.prog 246 ⟨(some (.int .u8)), 1, 1, false, [], 0, .int .u8 0, (some .u8), false, (0, 0)⟩ := to1 (by kernel_rfl) (by kernel_rfl) (by kernel_rfl)
theorem tiok_247 : TIok Tryz.prog 247 ⟨(some (.int .u8)), 1, 1, false, [], 0, .int .u8 0, (some .u8), false, (0, 0)⟩ := to1 (by kernel_rfl) (by kernel_rfl) (by kernel_rfl)
theorem tiok_249 : TIok Tryz.prog 249 ⟨(some (.int .i32)), 1, 4, false, [], 0, .int .i32 0, (some .i32), false, (0, 0)⟩ := to1 (by kernel_rfl) (by kernel_rfl) (by kernel_rfl)
theorem tiok_250 : TIok Tryz.prog 250 ⟨(some (.int .i32)), 1, 4, false, [], 0, .int .i32 0, (some .i32), false, (0, 0)⟩ := to1 (by kernel_rfl) (by kernel_rfl) (by kernel_rfl)

theorem tok : TOk Tryz.prog T := fun t i h => by
 unfold T at h
 split at h
 ·cases h; exact tiok_2
 ·cases h; exact tiok_3
 ·cases h; exact tiok_4
 ·cases h; exact tiok_5
 ·cases h; exact tiok_6
 ·cases h; exact tiok_7
 ·cases h; exact tiok_8
 ·cases h; exact tiok_9
 ·cases h; exact tiok_10
 ·cases h; exact tiok_11
 ·cases h; exact tiok_21
 ·cases h; exact tiok_22
 ·cases h; exact tiok_23
 ·cases h; exact tiok_27
 ·cases h; exact tiok_30
 ·cases h; exact tiok_31
 ·cases h; exact tiok_32
 ·cases h; exact tiok_33
 ·cases h; exact tiok_34
 ·cases h; exact tiok_36
 ·cases h; exact tiok_37
 ·cases h; exact tiok_38
 ·cases h; exact tiok_39
 ·cases h; exact tiok_40
 ·cases h; exact tiok_47
 ·cases h; exact tiok_52
 ·cases h; exact tiok_66
 ·cases h; exact tiok_69
 ·cases h; exact tiok_70
 ·cases h; exact tiok_88
 ·cases h; exact tiok_89
 ·cases h; exact tiok_90
 ·cases h; exact tiok_95
 ·cases h; exact tiok_96
 ·cases h; exact tiok_99
 ·cases h; exact tiok_119
 ·cases h; exact tiok_120
 ·cases h; exact tiok_161
 ·cases h; exact tiok_165
 ·cases h; exact tiok_177
 ·cases h; exact tiok_207
 ·cases h; exact tiok_213
 ·cases h; exact tiok_217
 ·cases h; exact tiok_228
 ·cases h; exact tiok_229
 ·cases h; exact tiok_237
 ·cases h; exact tiok_238
 ·cases h; exact tiok_246
 ·cases h; exact tiok_247
 ·cases h; exact tiok_249
 ·cases h; exact tiok_250
 ·cases h

theorem ent_3 : E1 Tryz.prog 3 := Tryz.call3
theorem ent_7 : E1 Tryz.prog 7 := Tryz.call7
theorem ent_8 : E1 Tryz.prog 8 := Tryz.call8
theorem ent_9 : E1 Tryz.prog 9 := Tryz.call9
theorem ent_10 : E1 Tryz.prog 10 := Tryz.call10
theorem ent_11 : E1 Tryz.prog 11 := Tryz.call11
theorem ent_13 : E1 Tryz.prog 13 := Tryz.call13
theorem ent_15 : E1 Tryz.prog 15 := Tryz.call15
theorem ent_19 : E1 Tryz.prog 19 := Tryz.call19
theorem ent_20 : E1 Tryz.prog 20 := Tryz.call20
theorem ent_22 : E1 Tryz.prog 22 := Tryz.call22
theorem ent_24 : E1 Tryz.prog 24 := Tryz.call24
theorem ent_25 : E1 Tryz.prog 25 := Tryz.call25
theorem ent_26 : E1 Tryz.prog 26 := Tryz.call26
theorem ent_27 : E1 Tryz.prog 27 := Tryz.call27
theorem ent_28 : E1 Tryz.prog 28 := Tryz.call28
theorem ent_29 : E1 Tryz.prog 29 := Tryz.call29
theorem ent_30 : E1 Tryz.prog 30 := Tryz.call30
theorem ent_31 : E1 Tryz.prog 31 := Tryz.call31
theorem ent_32 : E1 Tryz.prog 32 := Tryz.call32
theorem ent_33 : E1 Tryz.prog 33 := Tryz.call33
theorem ent_34 : E1 Tryz.prog 34 := Tryz.call34
theorem ent_35 : E1 Tryz.prog 35 := Tryz.call35
theorem ent_36 : E1 Tryz.prog 36 := Tryz.call36
theorem ent_37 : E1 Tryz.prog 37 := Tryz.call37
theorem ent_39 : E1 Tryz.prog 39 := Tryz.call39
theorem ent_40 : E1 Tryz.prog 40 := Tryz.call40
theorem ent_41 : E1 Tryz.prog 41 := Tryz.call41
theorem ent_42 : E1 Tryz.prog 42 := Tryz.call42
theorem ent_43 : E1 Tryz.prog 43 := Tryz.call43
theorem ent_45 : E1 Tryz.prog 45 := Tryz.call45
theorem ent_46 : E1 Tryz.prog 46 := Tryz.call46
theorem ent_47 : E1 Tryz.prog 47 := Tryz.call47
theorem ent_48 : E1 Tryz.prog 48 := Tryz.call48
theorem ent_49 : E1 Tryz.prog 49 := Tryz.call49
theorem ent_54 : E1 Tryz.prog 54 := Tryz.call54
theorem ent_55 : E1 Tryz.prog 55 := Tryz.call55
theorem ent_57 : E1 Tryz.prog 57 := Tryz.call57
theorem ent_58 : E1 Tryz.prog 58 := Tryz.call58
theorem ent_59 : E1 Tryz.prog 59 := Tryz.call59
theorem ent_60 : E1 Tryz.prog 60 := Tryz.call60
theorem ent_61 : E1 Tryz.prog 61 := Tryz.call61
theorem ent_62 : E1 Tryz.prog 62 := Tryz.call62
theorem ent_63 : E1 Tryz.prog 63 := Tryz.call63
theorem ent_64 : E1 Tryz.prog 64 := Tryz.call64
theorem ent_65 : E1 Tryz.prog 65 := Tryz.call65
theorem ent_66 : E1 Tryz.prog 66 := Tryz.call66
theorem ent_67 : E1 Tryz.prog 67 := Tryz.call67
theorem ent_68 : E1 Tryz.prog 68 := Tryz.call68
theorem ent_69 : E1 Tryz.prog 69 := Tryz.call69
theorem ent_70 : E1 Tryz.prog 70 := Tryz.call70
theorem ent_71 : E1 Tryz.prog 71 := Tryz.call71
theorem ent_72 : E1 Tryz.prog 72 := Tryz.call72
theorem ent_73 : E1 Tryz.prog 73 := Tryz.call73
theorem ent_75 : E1 Tryz.prog 75 := Tryz.call75
theorem ent_76 : E1 Tryz.prog 76 := Tryz.call76
theorem ent_77 : E1 Tryz.prog 77 := Tryz.call77
theorem ent_78 : E1 Tryz.prog 78 := Tryz.call78
theorem ent_79 : E1 Tryz.prog 79 := Tryz.call79
theorem ent_80 : E1 Tryz.prog 80 := Tryz.call80
theorem ent_81 : E1 Tryz.prog 81 := Tryz.call81
theorem ent_82 : E1 Tryz.prog 82 := Tryz.call82
theorem ent_84 : E1 Tryz.prog 84 := Tryz.call84
theorem ent_85 : E1 Tryz.prog 85 := Tryz.call85
theorem ent_86 : E1 Tryz.prog 86 := Tryz.call86
theorem ent_87 : E1 Tryz.prog 87 := Tryz.call87
theorem ent_88 : E1 Tryz.prog 88 := Tryz.call88
theorem ent_89 : E1 Tryz.prog 89 := Tryz.call89
theorem ent_90 : E1 Tryz.prog 90 := Tryz.call90
theorem ent_91 : E1 Tryz.prog 91 := Tryz.call91
theorem ent_92 : E1 Tryz.prog 92 := Tryz.call92
theorem ent_97 : E1 Tryz.prog 97 := Tryz.call97
theorem ent_98 : E1 Tryz.prog 98 := Tryz.call98
theorem ent_99 : E1 Tryz.prog 99 := Tryz.call99
theorem ent_100 : E1 Tryz.prog 100 := Tryz.call100
theorem ent_101 : E1 Tryz.prog 101 := Tryz.call101
theorem ent_102 : E1 Tryz.prog 102 := Tryz.call102
theorem ent_103 : E1 Tryz.prog 103 := Tryz.call103
theorem ent_108 : E1 Tryz.prog 108 := Tryz.call108
theorem ent_109 : E1 Tryz.prog 109 := Tryz.call109
theorem ent_110 : E1 Tryz.prog 110 := Tryz.call110
theorem ent_111 : E1 Tryz.prog 111 := Tryz.call111
theorem ent_112 : E1 Tryz.prog 112 := Tryz.call112
theorem ent_113 : E1 Tryz.prog 113 := Tryz.call113
theorem ent_114 : E1 Tryz.prog 114 := Tryz.call114
theorem ent_115 : E1 Tryz.prog 115 := Tryz.call115
theorem ent_116 : E1 Tryz.prog 116 := Tryz.call116
theorem ent_117 : E1 Tryz.prog 117 := Tryz.call117
theorem ent_118 : E1 Tryz.prog 118 := Tryz.call118
theorem ent_119 : E1 Tryz.prog 119 := Tryz.call119
theorem ent_120 : E1 Tryz.prog 120 := Tryz.call120
theorem ent_121 : E1 Tryz.prog 121 := Tryz.call121
theorem ent_122 : E1 Tryz.prog 122 := Tryz.call122
theorem ent_124 : E1 Tryz.prog 124 := Tryz.call124
theorem ent_125 : E1 Tryz.prog 125 := Tryz.call125
theorem ent_126 : E1 Tryz.prog 126 := Tryz.call126
theorem ent_127 : E1 Tryz.prog 127 := Tryz.call127
theorem ent_129 : E1 Tryz.prog 129 := Tryz.call129
theorem ent_130 : E1 Tryz.prog 130 := Tryz.call130
theorem ent_131 : E1 Tryz.prog 131 := Tryz.call131
theorem ent_132 : E1 Tryz.prog 132 := Tryz.call132
theorem ent_133 : E1 Tryz.prog 133 := Tryz.call133
theorem ent_134 : E1 Tryz.prog 134 := Tryz.call134
theorem ent_135 : E1 Tryz.prog 135 := Tryz.call135
theorem ent_136 : E1 Tryz.prog 136 := Tryz.call136
theorem ent_137 : E1 Tryz.prog 137 := Tryz.call137
theorem ent_138 : E1 Tryz.prog 138 := Tryz.call138
theorem ent_143 : E1 Tryz.prog 143 := Tryz.call143
theorem ent_144 : E1 Tryz.prog 144 := Tryz.call144
theorem ent_145 : E1 Tryz.prog 145 := Tryz.call145
theorem ent_150 : E1 Tryz.prog 150 := Tryz.call150
theorem ent_151 : E1 Tryz.prog 151 := Tryz.call151
theorem ent_152 : E1 Tryz.prog 152 := Tryz.call152
theorem ent_153 : E1 Tryz.prog 153 := Tryz.call153
theorem ent_154 : E1 Tryz.prog 154 := Tryz.call154
theorem ent_155 : E1 Tryz.prog 155 := Tryz.call155
theorem ent_156 : E1 Tryz.prog 156 := Tryz.call156
theorem ent_160 : E1 Tryz.prog 160 := Tryz.call160
theorem ent_161 : E1 Tryz.prog 161 := Tryz.call161
theorem ent_162 : E1 Tryz.prog 162 := Tryz.call162
theorem ent_163 : E1 Tryz.prog 163 := Tryz.call163
theorem ent_164 : E1 Tryz.prog 164 := Tryz.call164
theorem ent_165 : E1 Tryz.prog 165 := Tryz.call165
theorem ent_170 : E1 Tryz.prog 170 := Tryz.call170
theorem ent_171 : E1 Tryz.prog 171 := Tryz.call171
theorem ent_172 : E1 Tryz.prog 172 := Tryz.call172
theorem ent_179 : E1 Tryz.prog 179 := Tryz.call179
theorem ent_189 : E1 Tryz.prog 189 := Tryz.call189
theorem ent_190 : E1 Tryz.prog 190 := Tryz.call190
theorem ent_196 : E1 Tryz.prog 196 := Tryz.call196
theorem ent_197 : E1 Tryz.prog 197 := Tryz.call197
theorem ent_203 : E1 Tryz.prog 203 := Tryz.call203
def G0 : Env := env0 T
theorem G0_ok : EnvOk Tryz.prog G0 := env0_ok tok hmix
end Go.Proofs.YtaobinhdnklojaaGreatDoor
namespace Go.Proofs.YtaobinhdnklojaaGreatDoor
open Go.RowKit

theorem below_grow (w : World) (k : Nat) (os : Array Obj) : Below w.heap.size w (Sort.grow (w.drewN k) os) := by
 refine ⟨rfl, rfl, rfl, ?_, fun i hi => ?_⟩
 ·simp [Sort.grow, World.drewN]
 ·simp only [Sort.grow, World.drewN]
  rw [Array.getElem?_append_left hi]
theorem below_draw (w : World) (k : Nat) : Below w.heap.size w (w.drewN k) := ⟨rfl, rfl, rfl, Nat.le_refl _, fun _ _ => rfl⟩
theorem se1 {P : Program} {f : FuncId} {vs : List Value} {r : AV}
  (hc : ∀ (w : World) (GB : Nat → Prop), Lw GB w → (∀ b, GB b → b < w.heap.size) → Calls P f vs.toArray w fun e w' => ∃ x, e = .returned x ∧ (∀ w S, Rt w S r x) ∧ Below w.heap.size w w') :
  Spec P f (vs.map AV.v) [] r [] := by
 intro w GB V S0 args hLw hGB hHR hsz hargs
 have e : args = vs.toArray := by
  apply Array.ext'
  apply List.ext_getElem?
  intro i
  simp only [Array.getElem?_toList]
  rcases Nat.lt_or_ge i args.size with h | h
  ·have e1 : args[i]? = some args[i] := Array.getElem?_eq_getElem h
   have h2 : i < vs.length := by rw [hsz, List.length_map] at h; exact h
   have e2 : (vs.map AV.v)[i]? = some (.v vs[i]) := by simp [h2]
   rw [e1, (hargs i _ _ e2 e1).v_inv]
   simp [h2]
  ·rw [Array.getElem?_eq_none h]
   rw [hsz, List.length_map] at h
   simp [h]
 subst e
 refine (hc w GB hLw (fun b hb => (hGB b hb).1)).mono ?_
 rintro e w' ⟨x, rfl, hx, hb⟩
 refine ⟨x, V, rfl, (Kept.refl _ w).below hb, Nat.le_refl _, fun _ _ => rfl, ?_, .imm _ _ (hx _ _)⟩
 exact ⟨fun i j li lj e => by simp at e, fun id lb e => by simp at e, fun id lb e => by simp at e⟩
theorem rt_tup {w : World} {S : Nat → Prop} {cs : List AV} {vs : List Value} (hl : vs.length = cs.length) (h : ∀ (i : Nat) (c : AV) (x : Value), cs[i]? = some c → vs[i]? = some x → Rt w S c x) : Rt w S (.tup cs) (.tuple vs.toArray) :=
 .tup cs vs.toArray (by simpa using hl) (fun i c x e1 e2 => h i c x e1 (by simpa using e2))
end Go.Proofs.YtaobinhdnklojaaGreatDoor
