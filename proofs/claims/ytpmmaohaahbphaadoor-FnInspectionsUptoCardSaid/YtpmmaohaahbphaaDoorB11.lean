/-
  The abstract evaluator, part 11: barer states; from a body to its contract.
-/
import Derived.Test.YtpmmaohaahbphaaDoorB10
namespace Go.Proofs.YtpmmaohaahbphaaDoor
open Go.RowKit

/-- The place of a name among those that are kept. -/
def posM (i : Nat) : List Nat → Option Nat
  | [] => none
  | j :: l => match Nat.beq i j with
    | true => some 0
    | false => match posM i l with
      | some k => some (k + 1)
      | none => none
theorem posM_some : ∀ {l : List Nat} {i k : Nat}, posM i l = some k → k < l.length ∧ l.getD k 0 = i
  | [], i, k, h => by simp [posM] at h
  | j :: l, i, k, h => by
    unfold posM at h
    split at h
    · rename_i e; cases h; exact ⟨by simp, by simpa using (Nat.eq_of_beq_eq_true e).symm⟩
    · split at h
      · rename_i k' e
        cases h
        obtain ⟨h1, h2⟩ := posM_some e
        exact ⟨by simp; exact h1, by simpa using h2⟩
      · cases h
theorem posM_none : ∀ {l : List Nat} {i : Nat}, posM i l = none → i ∉ l
  | [], i, _ => by simp
  | j :: l, i, h => by
    unfold posM at h
    split at h
    · cases h
    · rename_i e
      split at h
      · cases h
      · rename_i e2
        simp [Nat.ne_of_beq_eq_false e, posM_none e2]
mutual
/-- An abstract value under the new names; own slices that are not kept come to rest. -/
def AV.settle (σ : List Nat) (h : List (Option LB)) : AV → AV
  | .any => .any
  | .v x => .v x
  | .bl b => .bl b
  | .agg cs => .agg (AV.settleL σ h cs)
  | .tup cs => .tup (AV.settleL σ h cs)
  | .tree t xs => .tree t xs
  | .tptr t xs row off => .tptr t xs row off
  | .bptr cs off => .bptr cs off
  | .loc id row off => match posM id σ with
    | some k => .loc k row off
    | none => .any
  | .own id => match posM id σ with
    | some k => .own k
    | none => match h[id]? with
      | some (some (.arr _ t xs)) => .tree t xs
      | some (some (.nst _ _ t xss)) => .tree (.sl t) xss
      | _ => .any
  | .rowv id q => match posM id σ with
    | some k => .rowv k q
    | none => match h[id]? with
      | some (some (.nst _ _ t xss)) => .tree t (xss.getD q [])
      | _ => .any
  | .rloc id q row off => match posM id σ with
    | some k => .rloc k q row off
    | none => .any
  | .view id lo n => match posM id σ with
    | some k => .view k lo n
    | none => match h[id]? with
      | some (some (.arr _ t xs)) => .tree t ((xs.drop lo).take n)
      | _ => .any
  | .fn f cs => .fn f (AV.settleL σ h cs)
def AV.settleL (σ : List Nat) (h : List (Option LB)) : List AV → List AV
  | [] => []
  | c :: cs => AV.settle σ h c :: AV.settleL σ h cs
end
theorem settleL_get (σ : List Nat) (h : List (Option LB)) : ∀ (cs : List AV) (i : Nat), (AV.settleL σ h cs)[i]? = (cs[i]?).map (AV.settle σ h)
  | [], i => by simp [AV.settleL]
  | c :: cs, 0 => by simp [AV.settleL]
  | c :: cs, i + 1 => by simpa [AV.settleL] using settleL_get σ h cs i
theorem settleL_length (σ : List Nat) (h : List (Option LB)) : ∀ (cs : List AV), (AV.settleL σ h cs).length = cs.length
  | [] => rfl
  | c :: cs => by simp [AV.settleL, settleL_length σ h cs]

mutual
/-- What is known (c') tells at least what is asked (c). -/
def leC (c' : AV) : AV → Prop
  | .any => True
  | .bl b => match c' with
    | .v (.bool b') => Ob (b' = b)
    | c' => Ob (c' = .bl b)
  | .tree t xs => match c' with
    | .v (.slice none 0 0) => Ob (xs = [])
    | c' => Ob (c' = .tree t xs)
  | .agg cs => match c' with
    | .agg cs' => leL cs' cs
    | _ => False
  | .tup cs => match c' with
    | .tup cs' => leL cs' cs
    | _ => False
  | .fn f cs => match c' with
    | .fn f' cs' => Nat.beq f' f = true ∧ leL cs' cs
    | _ => False
  | .v x => Ob (c' = .v x)
  | .tptr t xs row off => Ob (c' = .tptr t xs row off)
  | .bptr cs off => Ob (c' = .bptr cs off)
  | .loc id row off => Ob (c' = .loc id row off)
  | .own id => Ob (c' = .own id)
  | .view id lo n => Ob (c' = .view id lo n)
  | .rowv id k => Ob (c' = .rowv id k)
  | .rloc id k row off => Ob (c' = .rloc id k row off)
def leL (cs' : List AV) : List AV → Prop
  | [] => match cs' with
    | [] => True
    | _ => False
  | c :: cs => match cs' with
    | c' :: cs' => leC c' c ∧ leL cs' cs
    | [] => False
end
mutual
theorem leC_R {w : World} {S : Nat → Prop} {V : Nat → Info} {N : Nat} {c' : AV} {x : Value} : ∀ {c : AV}, leC c' c → R w S V N c' x → R w S V N c x
  | .any, _, _ => .imm _ _ (.any _)
  | .bl b, h, hr => by
    unfold leC at h
    split at h
    · rename_i b'
      have := h.out
      subst this
      rw [hr.v_inv]; exact .imm _ _ (.bl _)
    · rw [h.out] at hr; exact hr
  | .tree t xs, h, hr => by
    unfold leC at h
    split at h
    · have := h.out
      subst this
      rw [hr.v_inv]; exact .imm _ _ (nil_imp t w S _ (.v _))
    · rw [h.out] at hr; exact hr
  | .agg cs, h, hr => by
    unfold leC at h
    split at h
    · rename_i cs'
      obtain ⟨vs, rfl, hl, hh⟩ := hr.agg_inv
      obtain ⟨e1, e2⟩ := leL_R (w := w) (S := S) (V := V) (N := N) h vs.toList (by simpa using hl) fun i c x g1 g2 => hh i c x g1 (by simpa using g2)
      exact .agg _ vs (by omega) fun i c x g1 g2 => e2 i c x g1 (by simpa using g2)
    · exact h.elim
  | .tup cs, h, hr => by
    unfold leC at h
    split at h
    · rename_i cs'
      obtain ⟨vs, rfl, hl, hh⟩ := hr.tup_inv
      obtain ⟨e1, e2⟩ := leL_R (w := w) (S := S) (V := V) (N := N) h vs.toList (by simpa using hl) fun i c x g1 g2 => hh i c x g1 (by simpa using g2)
      exact .tup _ vs (by omega) fun i c x g1 g2 => e2 i c x g1 (by simpa using g2)
    · exact h.elim
  | .fn f cs, h, hr => by
    unfold leC at h
    split at h
    · rename_i f' cs'
      obtain ⟨h1, h⟩ := h
      obtain rfl := Nat.eq_of_beq_eq_true h1
      obtain ⟨vs, rfl, hl, hh⟩ := hr.fn_inv
      obtain ⟨e1, e2⟩ := leL_R (w := w) (S := S) (V := V) (N := N) h vs.toList (by simpa using hl) fun i c x g1 g2 => hh i c x g1 (by simpa using g2)
      exact .fn _ _ vs (by omega) fun i c x g1 g2 => e2 i c x g1 (by simpa using g2)
    · exact h.elim
  | .v x, h, hr => by unfold leC at h; rw [h.out] at hr; exact hr
  | .tptr t xs row off, h, hr => by unfold leC at h; rw [h.out] at hr; exact hr
  | .bptr cs off, h, hr => by unfold leC at h; rw [h.out] at hr; exact hr
  | .loc id row off, h, hr => by unfold leC at h; rw [h.out] at hr; exact hr
  | .own id, h, hr => by unfold leC at h; rw [h.out] at hr; exact hr
  | .view id lo n, h, hr => by unfold leC at h; rw [h.out] at hr; exact hr
  | .rowv id k, h, hr => by unfold leC at h; rw [h.out] at hr; exact hr
  | .rloc id k row off, h, hr => by unfold leC at h; rw [h.out] at hr; exact hr
theorem leL_R {w : World} {S : Nat → Prop} {V : Nat → Info} {N : Nat} {cs' : List AV} : ∀ {cs : List AV}, leL cs' cs → ∀ (vs : List Value), vs.length = cs'.length → (∀ (i : Nat) (c : AV) (x : Value), cs'[i]? = some c → vs[i]? = some x → R w S V N c x) →
    cs'.length = cs.length ∧ ∀ (i : Nat) (c : AV) (x : Value), cs[i]? = some c → vs[i]? = some x → R w S V N c x
  | [], h, vs, _, _ => by
    unfold leL at h
    split at h
    · exact ⟨rfl, fun i c x e => by simp at e⟩
    · exact h.elim
  | c :: cs, h, vs, hl, hr => by
    unfold leL at h
    split at h
    · rename_i c' cs''
      cases vs with
      | nil => simp at hl
      | cons v vs =>
        obtain ⟨e1, e2⟩ := leL_R h.2 vs (by simpa using hl) fun i d x g1 g2 => hr (i + 1) d x (by simpa using g1) (by simpa using g2)
        refine ⟨by simp [e1], fun i d x g1 g2 => ?_⟩
        cases i with
        | zero => simp at g1 g2; subst g1 g2; exact leC_R h.1 (hr 0 c' v rfl rfl)
        | succ i => exact e2 i d x (by simpa using g1) (by simpa using g2)
    · exact h.elim
end

/-- A block of the barer heap. -/
def selLB (σ : List Nat) (h : List (Option LB)) (o' : Option (Option LB)) (b : LB) : Prop :=
  match b with
  | .box ty cs => match o' with
    | some (some (.box ty' cs')) => Nat.beq ty' ty = true ∧ leL (AV.settleL σ h cs') cs
    | _ => False
  | .arr ty t xs => match o' with
    | some (some b') => Ob (b' = .arr ty t xs)
    | _ => False
  | .mp ty t ks => match o' with
    | some (some b') => Ob (b' = .mp ty t ks)
    | _ => False
  | .nst ty tyI t xss => match o' with
    | some (some b') => Ob (b' = .nst ty tyI t xss)
    | _ => False
theorem selLB_some {σ : List Nat} {h : List (Option LB)} {o' : Option (Option LB)} {b : LB} (e : selLB σ h o' b) : ∃ b', o' = some (some b') ∧ b.subn = b'.subn := by
  unfold selLB at e
  split at e
  · split at e
    · exact ⟨_, rfl, rfl⟩
    · exact e.elim
  · split at e
    · rename_i b'; have := e.out; subst this; exact ⟨_, rfl, rfl⟩
    · exact e.elim
  · split at e
    · rename_i b'; have := e.out; subst this; exact ⟨_, rfl, rfl⟩
    · exact e.elim
  · split at e
    · rename_i b'; have := e.out; subst this; exact ⟨_, rfl, rfl⟩
    · exact e.elim
def selH (σ : List Nat) (h : List (Option LB)) : List Nat → List (Option LB) → Prop
  | [], [] => True
  | _ :: is, none :: os => selH σ h is os
  | i :: is, some b :: os => selLB σ h h[i]? b ∧ selH σ h is os
  | _, _ => False
theorem selH_get {σ : List Nat} {h : List (Option LB)} : ∀ {is : List Nat} {os : List (Option LB)}, selH σ h is os → is.length = os.length ∧ ∀ (k : Nat) (b : LB), os[k]? = some (some b) → ∃ i, is[k]? = some i ∧ selLB σ h h[i]? b
  | [], [], _ => ⟨rfl, fun k o e => by simp at e⟩
  | i :: is, none :: os, hh => by
    obtain ⟨h4, h5⟩ := selH_get (is := is) (os := os) (by simpa [selH] using hh)
    refine ⟨by simp [h4], fun k p hp => ?_⟩
    cases k with
    | zero => simp at hp
    | succ k => simp at hp; obtain ⟨j, e1, e2⟩ := h5 k p hp; exact ⟨j, by simpa using e1, e2⟩
  | i :: is, some b :: os, hh => by
    obtain ⟨h1, h2⟩ := hh
    obtain ⟨h4, h5⟩ := selH_get h2
    refine ⟨by simp [h4], fun k p hp => ?_⟩
    cases k with
    | zero => simp at hp; subst hp; exact ⟨i, by simp, h1⟩
    | succ k => simp at hp; obtain ⟨j, e1, e2⟩ := h5 k p hp; exact ⟨j, by simpa using e1, e2⟩
  | [], _ :: _, hh => by simp [selH] at hh
  | _ :: _, [], hh => by simp [selH] at hh
def liveOf : List Nat → List (Option LB) → List Nat
  | i :: is, some _ :: os => i :: liveOf is os
  | _ :: is, none :: os => liveOf is os
  | _, _ => []
def ndB : List Nat → Bool
  | [] => true
  | i :: l => match l.any (Nat.beq i) with
    | true => false
    | false => ndB l
theorem liveOf_mem : ∀ {is : List Nat} {os : List (Option LB)} {k i : Nat} {b : LB}, is[k]? = some i → os[k]? = some (some b) → i ∈ liveOf is os
  | [], _, k, i, b, h, _ => by simp at h
  | j :: is, [], k, i, b, _, h => by simp at h
  | j :: is, none :: os, k, i, b, h1, h2 => by
    cases k with
    | zero => simp at h2
    | succ k => simp only [liveOf]; exact liveOf_mem (k := k) (by simpa using h1) (by simpa using h2)
  | j :: is, some _ :: os, k, i, b, h1, h2 => by
    cases k with
    | zero => simp at h1; subst h1; simp [liveOf]
    | succ k => simp only [liveOf]; exact List.mem_cons_of_mem _ (liveOf_mem (k := k) (by simpa using h1) (by simpa using h2))
theorem liveOf_inj : ∀ {is : List Nat} {os : List (Option LB)}, ndB (liveOf is os) = true → ∀ {k k' i : Nat} {b b' : LB}, is[k]? = some i → os[k]? = some (some b) → is[k']? = some i → os[k']? = some (some b') → k = k'
  | [], _, _, k, _, _, _, _, h, _, _, _ => by simp at h
  | j :: is, [], _, k, _, _, _, _, _, h, _, _ => by simp at h
  | j :: is, none :: os, hnd, k, k', i, b, b', h1, h2, h3, h4 => by
    cases k with
    | zero => simp at h2
    | succ k =>
      cases k' with
      | zero => simp at h4
      | succ k' => rw [liveOf_inj (is := is) (os := os) (by simpa [liveOf] using hnd) (k := k) (k' := k') (by simpa using h1) (by simpa using h2) (by simpa using h3) (by simpa using h4)]
  | j :: is, some _ :: os, hnd, k, k', i, b, b', h1, h2, h3, h4 => by
    simp only [liveOf] at hnd
    unfold ndB at hnd
    split at hnd
    · cases hnd
    · rename_i e
      have hni : j ∉ liveOf is os := fun hm => by
        have : (liveOf is os).any (Nat.beq j) = true := List.any_eq_true.2 ⟨j, hm, Nat.beq_refl j⟩
        rw [this] at e; cases e
      cases k with
      | zero =>
        cases k' with
        | zero => rfl
        | succ k' => simp at h1; subst h1; exact (hni (liveOf_mem (k := k') (by simpa using h3) (by simpa using h4))).elim
      | succ k =>
        cases k' with
        | zero => simp at h3; subst h3; exact (hni (liveOf_mem (k := k) (by simpa using h1) (by simpa using h2))).elim
        | succ k' => rw [liveOf_inj hnd (k := k) (k' := k') (by simpa using h1) (by simpa using h2) (by simpa using h3) (by simpa using h4)]
def fixB : Nat → Nat → List Nat → Bool
  | 0, _, _ => true
  | m + 1, k, i :: l => match Nat.beq i k with
    | true => fixB m (k + 1) l
    | false => false
  | _ + 1, _, [] => false
theorem fixB_out : ∀ {m k : Nat} {l : List Nat}, fixB m k l = true → m ≤ l.length ∧ ∀ i, i < m → l.getD i 0 = k + i
  | 0, k, l, _ => ⟨Nat.zero_le _, fun i h => absurd h (Nat.not_lt_zero _)⟩
  | m + 1, k, j :: l, h => by
    unfold fixB at h
    split at h
    · rename_i e
      obtain ⟨h1, h2⟩ := fixB_out h
      refine ⟨by simp; exact h1, fun i hi => ?_⟩
      cases i with
      | zero => simpa using Nat.eq_of_beq_eq_true e
      | succ i => have := h2 i (by omega); simp only [List.getD_cons_succ]; omega
    · cases h
  | m + 1, k, [], h => by simp [fixB] at h

section
variable {C : Ctx} {V : Nat → Info} {st : St} {a : Act} {w : World} {σ : List Nat} {h' : List (Option LB)}
/-- What is at rest in the barer state. -/
theorem SRV.settle (h : SRV C V st a w) (hs : selH σ st.h σ h') {c : AV} {x : Value} (hr : R w (Stb C.A w st.h V) V st.h.length c x) : R w (Stb C.A w h' (fun i => V (σ.getD i 0))) (fun i => V (σ.getD i 0)) σ.length (c.settle σ st.h) x := by
  obtain ⟨hl, hk⟩ := selH_get hs
  have hlive : ∀ (k : Nat) (b : LB), h'[k]? = some (some b) → ∃ i b', σ[k]? = some i ∧ st.h[i]? = some (some b') ∧ ∀ q, foot (V i) b q → foot (V i) b' q := fun k b e => by
    obtain ⟨i, e1, e2⟩ := hk k b e
    obtain ⟨b', e3, e4⟩ := selLB_some e2
    exact ⟨i, b', e1, e3, fun q => foot_sub (Nat.le_of_eq e4)⟩
  have hgetD : ∀ (k i : Nat), σ[k]? = some i → σ.getD k 0 = i := fun k i e => by rw [List.getD, e]; rfl
  have hS : ∀ b, Stb C.A w st.h V b → Stb C.A w h' (fun i => V (σ.getD i 0)) b := fun b hb => ⟨hb.1, hb.2.1, fun k lb e => by
    obtain ⟨i, b', e1, e2, e3⟩ := hlive k lb e
    show ¬ foot (V (σ.getD k 0)) lb b
    rw [hgetD k i e1]
    exact fun hf => hb.2.2 i b' e2 (e3 b hf)⟩
  have hrestf : ∀ (id : Nat) (lb : LB), st.h[id]? = some (some lb) → id ∉ σ → ∀ q, foot (V id) lb q → Stb C.A w h' (fun i => V (σ.getD i 0)) q := fun id lb e hni q hq => ⟨h.inAf e hq, h.hr.ltf e hq, fun k lb' e' => by
    obtain ⟨i, b', e1, e2, e3⟩ := hlive k lb' e'
    show ¬ foot (V (σ.getD k 0)) lb' q
    rw [hgetD k i e1]
    exact fun hf => h.hr.inj i id b' lb e2 e (fun g => hni (g ▸ List.mem_of_getElem? e1)) q (e3 q hf) hq⟩
  have hrest : ∀ (id : Nat) (lb : LB), st.h[id]? = some (some lb) → id ∉ σ → Stb C.A w h' (fun i => V (σ.getD i 0)) (V id).blk := fun id lb e hni => hrestf id lb e hni _ (.inl rfl)
  -- what is lent of one name alone
  have lone : ∀ (id : Nat) (lb : LB), st.h[id]? = some (some lb) → id ∉ σ → ∃ hl : List (Option LB), hl[id]? = some (some lb) ∧ (∀ (i : Nat) (l : LB), hl[i]? = some (some l) → st.h[i]? = some (some l)) ∧ ∀ q, Lent C.A w st.h hl V q → Stb C.A w h' (fun i => V (σ.getD i 0)) q := fun id lb e hni => by
    have hone : ∀ (i : Nat) (l : LB), (List.replicate id none ++ [some lb])[i]? = some (some l) → i = id ∧ l = lb := fun i l e1 => by
      rcases Nat.lt_trichotomy i id with hi | hi | hi
      · rw [List.getElem?_append_left (by simpa using hi), List.getElem?_replicate, if_pos hi] at e1; cases e1
      · subst hi; rw [List.getElem?_append_right (by simp)] at e1; simp at e1; exact ⟨rfl, e1.symm⟩
      · rw [List.getElem?_eq_none (by simp; omega)] at e1; cases e1
    refine ⟨List.replicate id none ++ [some lb], by rw [List.getElem?_append_right (by simp)]; simp, fun i l e1 => ?_, fun q hq => ?_⟩
    · obtain ⟨rfl, rfl⟩ := hone i l e1; exact e
    · rcases hq with hq | ⟨i, l, e1, hf⟩
      · exact hS q hq
      · obtain ⟨rfl, rfl⟩ := hone i l e1; exact hrestf i l e hni q hf
  have tree : ∀ (id ty : Nat) (t : Ty) (xs : List t.den) (lo n cap : Nat), st.h[id]? = some (some (.arr ty t xs)) → id ∉ σ → lo + n ≤ xs.length → n ≤ cap → cap ≤ maxLen → ∀ (ad : Option Addr), (0 < n → ad = some ⟨(V id).blk, lo * t.n, none⟩) →
      R w (Stb C.A w h' (fun i => V (σ.getD i 0))) (fun i => V (σ.getD i 0)) σ.length (.tree t ((xs.drop lo).take n)) (.slice ad n cap) := fun id ty t xs lo n cap e hni hle hnc hcm ad had => by
    obtain ⟨_, X, e1, e2, e3, e4, e5, e6, _⟩ := h.lendArr (hl := st.h) (fun _ _ e => e) e
    obtain ⟨cur, hc⟩ := h.hr.blk id _ e
    have hln : ((xs.drop lo).take n).length = n := by simp; omega
    have hrw : ∀ k, k < n → rowT t ((xs.drop lo).take n) k = rowT t xs (lo + k) := fun k hk => by
      simp only [rowT, List.getD_eq_getElem?_getD, List.getElem?_take, if_pos hk, List.getElem?_drop]
    refine .imm _ _ (.tree t _ _ _ cap (V id).blk (lo * t.n) (fun k j => (cur[(lo + k) * t.n + j]?).getD undef) hln.symm (by omega) (by omega) hcm (fun hne => ⟨had (by omega), hrest id _ e hni⟩) (fun k j c g1 g2 => ?_) (fun k j c g1 g2 => ?_))
    · rw [hrw k (by omega)] at g2
      obtain ⟨y, f1, f2, _⟩ := hc.cell (lo + k) j c (by show lo + k < xs.length; omega) g2
      have f1 : cur[(lo + k) * t.n + j]? = some y := f1
      rw [show lo * t.n + k * t.n + j = (lo + k) * t.n + j by rw [Nat.add_mul], cell_of_row _ _ _ _ _ _ (hc.heap rfl).choose_spec.1]
      simp only [f1, Option.getD_some]
      exact ⟨trivial, f2⟩
    · rw [hrw k (by omega)] at g2
      obtain ⟨y, f1, f2, _⟩ := hc.cell (lo + k) j c (by show lo + k < xs.length; omega) g2
      have f1 : cur[(lo + k) * t.n + j]? = some y := f1
      simp only [f1, Option.getD_some]
      exact (hc.still rfl (lo + k) j c y (by show lo + k < xs.length; omega) g2 f1).mono fun b hb => ⟨hS b hb, rfl⟩
  have lk : ∀ (cs : List AV) (vs : Array Value), (∀ (i : Nat) (c : AV) (x : Value), cs[i]? = some c → vs[i]? = some x → R w (Stb C.A w h' (fun i => V (σ.getD i 0))) (fun i => V (σ.getD i 0)) σ.length (c.settle σ st.h) x) → ∀ (i : Nat) (c : AV) (x : Value), (AV.settleL σ st.h cs)[i]? = some c → vs[i]? = some x → R w (Stb C.A w h' (fun i => V (σ.getD i 0))) (fun i => V (σ.getD i 0)) σ.length c x := fun cs vs ih i c x h1 h2 => by
    rw [settleL_get] at h1
    obtain ⟨c', h3, rfl⟩ := Option.map_eq_some_iff.1 h1
    exact ih i c' x h3 h2
  induction hr with
  | imm c x hr =>
    induction hr with
    | any x => exact .imm _ _ (.any _)
    | v x => exact .imm _ _ (.v _)
    | bl x => exact .imm _ _ (.bl _)
    | agg cs vs hl _ ih => exact .agg _ vs (by rw [settleL_length]; exact hl) (lk cs vs ih)
    | tup cs vs hl _ ih => exact .tup _ vs (by rw [settleL_length]; exact hl) (lk cs vs ih)
    | fn f cs vs hl _ ih => exact .fn f _ vs (by rw [settleL_length]; exact hl) (lk cs vs ih)
    | tree t xs a len cap b o X hlen hb hc hm ha hx h _ => exact .imm _ _ (Rt.mono (.tree t xs a len cap b o X hlen hb hc hm ha hx h) fun b hb => ⟨hS b hb, rfl⟩)
    | tptr t xs row off b o X ha hrow hx h _ => exact .imm _ _ (Rt.mono (.tptr t xs row off b o X ha hrow hx h) fun b hb => ⟨hS b hb, rfl⟩)
    | bptr cs off b o X ha hx h _ => exact .imm _ _ (Rt.mono (.bptr cs off b o X ha hx h) fun b hb => ⟨hS b hb, rfl⟩)
  | agg cs vs hl _ ih => exact .agg _ vs (by rw [settleL_length]; exact hl) (lk cs vs ih)
  | tup cs vs hl _ ih => exact .tup _ vs (by rw [settleL_length]; exact hl) (lk cs vs ih)
  | fn f cs vs hl _ ih => exact .fn f _ vs (by rw [settleL_length]; exact hl) (lk cs vs ih)
  | loc id row off hid hrow =>
    unfold AV.settle
    split
    · rename_i k e
      obtain ⟨h1, h2⟩ := posM_some e
      have := R.loc (w := w) (S := Stb C.A w h' (fun i => V (σ.getD i 0))) (V := fun i => V (σ.getD i 0)) (N := σ.length) k row off h1 (by simp only [h2]; exact hrow)
      simp only [h2] at this
      exact this
    · exact .imm _ _ (.any _)
  | own id hid =>
    unfold AV.settle
    split
    · rename_i k e
      obtain ⟨h1, h2⟩ := posM_some e
      have := R.own (w := w) (S := Stb C.A w h' (fun i => V (σ.getD i 0))) (V := fun i => V (σ.getD i 0)) (N := σ.length) k h1
      simp only [h2] at this
      exact this
    · rename_i e
      split
      · rename_i ty t xs e2
        obtain ⟨cur, hc⟩ := h.hr.blk id _ e2
        obtain ⟨cap, g1, g2, g3, _⟩ := hc.own rfl
        simp only [LB.len] at g1 g2
        rw [g1]
        have := tree id ty t xs 0 xs.length cap e2 (posM_none e) (by omega) g2 g3 (some ⟨(V id).blk, 0, none⟩) (fun _ => by simp)
        simpa using this
      · rename_i ty tyI t xss e2
        obtain ⟨hl2, k1, k2, k3⟩ := lone id _ e2 (posM_none e)
        exact .imm _ _ ((h.lendNst k2 k1).mono fun b hb => ⟨k3 b hb, rfl⟩)
      · exact .imm _ _ (.any _)
  | rowv id q hid hk =>
    unfold AV.settle
    split
    · rename_i k e
      obtain ⟨h1, h2⟩ := posM_some e
      have := R.rowv (w := w) (S := Stb C.A w h' (fun i => V (σ.getD i 0))) (V := fun i => V (σ.getD i 0)) (N := σ.length) k q h1 (by simp only [h2]; exact hk)
      simp only [h2] at this
      exact this
    · rename_i e
      split
      · rename_i ty tyI t xss e2
        obtain ⟨hl2, k1, k2, k3⟩ := lone id _ e2 (posM_none e)
        obtain ⟨_, _, _, _, _, _, _, _, _, e7⟩ := h.nst e2
        exact .imm _ _ ((h.lendRow k2 k1 (by rw [← e7]; exact hk)).mono fun b hb => ⟨k3 b hb, rfl⟩)
      · exact .imm _ _ (.any _)
  | rloc id q row off hid hk hrow =>
    unfold AV.settle
    split
    · rename_i k e
      obtain ⟨h1, h2⟩ := posM_some e
      have := R.rloc (w := w) (S := Stb C.A w h' (fun i => V (σ.getD i 0))) (V := fun i => V (σ.getD i 0)) (N := σ.length) k q row off h1 (by simp only [h2]; exact hk) (by simp only [h2]; exact hrow)
      simp only [h2] at this
      exact this
    · exact .imm _ _ (.any _)
  | view id lo n hid hrow =>
    unfold AV.settle
    split
    · rename_i k e
      obtain ⟨h1, h2⟩ := posM_some e
      have := R.view (w := w) (S := Stb C.A w h' (fun i => V (σ.getD i 0))) (V := fun i => V (σ.getD i 0)) (N := σ.length) k lo n h1 (by simp only [h2]; exact hrow)
      simp only [h2] at this
      exact this
    · rename_i e
      split
      · rename_i ty t xs e2
        obtain ⟨hle, cap, g1, g2, g3⟩ := h.part e2 (R.view (w := w) (S := Stb C.A w st.h V) (V := V) (N := st.h.length) id lo n hid hrow)
        rw [g3]
        exact tree id ty t xs lo n (cap - lo) e2 (posM_none e) hle (by omega) (by omega) _ (fun hn => by rw [if_neg (by omega)])
      · exact .imm _ _ (.any _)

theorem SRV.sel (h : SRV C V st a w) (hs : selH σ st.h σ h') (hnd : ndB (liveOf σ h') = true) (hfix : fixB C.N0 0 σ = true) {s' : Nat → AV} (hsl : ∀ j, leC ((st.s j).settle σ st.h) (s' j)) : SRV C (fun i => V (σ.getD i 0)) ⟨s', h'⟩ a w := by
  obtain ⟨hl, hk⟩ := selH_get hs
  obtain ⟨hm, hfix⟩ := fixB_out hfix
  have hgetD : ∀ (k i : Nat), σ[k]? = some i → σ.getD k 0 = i := fun k i e => by rw [List.getD, e]; rfl
  have hlive : ∀ (k : Nat) (b : LB), h'[k]? = some (some b) → ∃ i b', σ[k]? = some i ∧ st.h[i]? = some (some b') ∧ selLB σ st.h (some (some b')) b ∧ ∀ q, foot (V i) b q → foot (V i) b' q := fun k b e => by
    obtain ⟨i, e1, e2⟩ := hk k b e
    obtain ⟨b', e3, e4⟩ := selLB_some e2
    exact ⟨i, b', e1, e3, by rw [← e3]; exact e2, fun q => foot_sub (Nat.le_of_eq e4)⟩
  have hS : ∀ b, Stb C.A w st.h V b → Stb C.A w h' (fun i => V (σ.getD i 0)) b := fun b hb => ⟨hb.1, hb.2.1, fun k lb e => by
    obtain ⟨i, b', e1, e2, _, e3⟩ := hlive k lb e
    show ¬ foot (V (σ.getD k 0)) lb b
    rw [hgetD k i e1]
    exact fun hf => hb.2.2 i b' e2 (e3 b hf)⟩
  refine ⟨h.size, h.defers, h.kept, by show C.N0 ≤ h'.length; omega, fun i hi => ?_, ⟨fun i j li lj hi hj hne b hf hf' => ?_, fun k lb e => ?_, fun k lb e b hf hlt => ?_⟩, fun t => ?_⟩
  · show V (σ.getD i 0) = C.V0 i
    rw [hfix i hi, Nat.zero_add]; exact h.agree i hi
  · obtain ⟨i', b1, e1, f1, _, g1⟩ := hlive i li hi
    obtain ⟨j', b2, e2, f2, _, g2⟩ := hlive j lj hj
    have hf : foot (V (σ.getD i 0)) li b := hf
    have hf' : foot (V (σ.getD j 0)) lj b := hf'
    rw [hgetD i i' e1] at hf
    rw [hgetD j j' e2] at hf'
    refine h.hr.inj _ _ b1 b2 f1 f2 (fun e => hne ?_) b (g1 b hf) (g2 b hf')
    subst e
    exact liveOf_inj hnd e1 hi e2 hj
  · obtain ⟨i, b', e1, f1, f2, g0⟩ := hlive k lb e
    clear g0
    obtain ⟨cur, hc⟩ := h.hr.blk i b' f1
    refine ⟨cur, ?_⟩
    show BlkR w (Stb C.A w h' (fun i => V (σ.getD i 0))) (fun i => V (σ.getD i 0)) h'.length (V (σ.getD k 0)) lb cur
    rw [hgetD k i e1]
    unfold selLB at f2
    split at f2
    · rename_i ty cs
      split at f2
      · rename_i ty' cs' e9
        cases e9
        obtain ⟨a1, a2⟩ := f2
        obtain rfl := Nat.eq_of_beq_eq_true a1
        have hcur : cur.size = cs'.length := by have := hc.box rfl; simpa [LB.len, LB.sz] using this
        have hcell : ∀ (j : Nat) (c : AV) (y : Value), cs'[j]? = some c → cur[j]? = some y → y.oneCell' = true ∧ R w (Stb C.A w st.h V) V st.h.length c y := fun j c y g1 g2 => by
          obtain ⟨y', k1, k2, k3⟩ := hc.cell 0 j c Nat.zero_lt_one g1
          have k1 : cur[0 * cs'.length + j]? = some y' := k1
          rw [Nat.zero_mul, Nat.zero_add, g2] at k1
          cases k1
          exact ⟨k2, k3⟩
        obtain ⟨b1, b2⟩ := leL_R (w := w) (S := Stb C.A w h' (fun i => V (σ.getD i 0))) (V := fun i => V (σ.getD i 0)) (N := σ.length) a2 cur.toList (by rw [settleL_length]; simpa using hcur) fun j c y g1 g2 => by
          rw [settleL_get] at g1
          obtain ⟨c0, g3, rfl⟩ := Option.map_eq_some_iff.1 g1
          exact h.settle hs (hcell j c0 y g3 (by simpa using g2)).2
        rw [settleL_length] at b1
        have hsz : (V i).sz = cs'.length := hc.sz
        refine ⟨by rw [hsz]; exact b1, hc.ln, hc.heap, fun k j c g1 g2 => ?_, fun g => by simp [LB.isArr] at g, (fun _ => by simp [LB.len, LB.sz]; omega), (fun g => by simp [LB.isArr] at g), trivial⟩
        have hk0 : k = 0 := by simp only [LB.len] at g1; omega
        subst hk0
        have g2 : cs[j]? = some c := g2
        have hj : j < cur.size := by have := (List.getElem?_eq_some_iff.1 g2).1; omega
        have hy : cur[j]? = some cur[j] := Array.getElem?_eq_getElem hj
        have hj' : j < cs'.length := by omega
        refine ⟨cur[j], by simp [LB.sz, hj], (hcell j _ _ (List.getElem?_eq_getElem hj') hy).1, ?_⟩
        rw [← hl]
        exact b2 j c _ g2 (by simp [hj])
      · exact f2.elim
    · rename_i ty t xs
      · have f2 : Ob (b' = .arr ty t xs) := f2
        obtain rfl := f2.out
        have hst : ∀ (k j : Nat) (c : AV) (x : Value), k < xs.length → (rowT t xs k)[j]? = some c → cur[k * t.n + j]? = some x → Rt w (Stb C.A w h' (fun i => V (σ.getD i 0))) c x := fun k j c x g1 g2 g3 => (hc.still rfl k j c x g1 g2 g3).mono fun b hb => ⟨hS b hb, rfl⟩
        exact ⟨hc.sz, hc.ln, hc.heap, fun k j c g1 g2 => let ⟨y, f1, f2, _⟩ := hc.cell k j c g1 g2; ⟨y, f1, f2, .imm _ _ (hst k j c y g1 g2 f1)⟩, fun _ => hst, hc.box, hc.own, trivial⟩
    · rename_i ty t ks
      have f2 : Ob (b' = .mp ty t ks) := f2
      obtain rfl := f2.out
      exact hc.deaf rfl (fun b hb => ⟨hS b hb, rfl⟩) fun _ _ => rfl
    · rename_i ty tyI t xss
      have f2 : Ob (b' = .nst ty tyI t xss) := f2
      obtain rfl := f2.out
      exact hc.deaf rfl (fun b hb => ⟨hS b hb, rfl⟩) fun _ _ => rfl
  · obtain ⟨i, b', e1, f1, _, g1⟩ := hlive k lb e
    have hf : foot (V (σ.getD k 0)) lb b := hf
    rw [hgetD k i e1] at hf
    exact h.hr.mine i b' f1 b (g1 b hf) hlt
  · have := leC_R (hsl t) (h.settle hs (h.slots t))
    rw [hl] at this
    exact this
end

/-! ### Which names are kept -/
mutual
def pairC (c : AV) (c' : AV) : List (Nat × Nat) :=
  match c with
  | .own k => match c' with
    | .own i => [(k, i)]
    | _ => []
  | .loc k _ _ => match c' with
    | .loc i _ _ => [(k, i)]
    | _ => []
  | .view k _ _ => match c' with
    | .view i _ _ => [(k, i)]
    | _ => []
  | .rowv k _ => match c' with
    | .rowv i _ => [(k, i)]
    | _ => []
  | .rloc k _ _ _ => match c' with
    | .rloc i _ _ _ => [(k, i)]
    | _ => []
  | .agg cs => match c' with
    | .agg cs' => pairL cs cs'
    | _ => []
  | .tup cs => match c' with
    | .tup cs' => pairL cs cs'
    | _ => []
  | .fn _ cs => match c' with
    | .fn _ cs' => pairL cs cs'
    | _ => []
  | .any => []
  | .v _ => []
  | .bl _ => []
  | .tree _ _ => []
  | .tptr _ _ _ _ => []
  | .bptr _ _ => []
def pairL (cs : List AV) (cs' : List AV) : List (Nat × Nat) :=
  match cs with
  | [] => []
  | c :: cs => match cs' with
    | [] => []
    | c' :: cs' => pairC c c' ++ pairL cs cs'
end
def pairIn (h h' : List (Option LB)) : List (Nat × Nat) → List (Nat × Nat)
  | [] => []
  | (k, i) :: l => match h'[k]?, h[i]? with
    | some (some (.box _ cs)), some (some (.box _ cs')) => pairL cs cs' ++ pairIn h h' l
    | _, _ => pairIn h h' l
def findP (k : Nat) : List (Nat × Nat) → Nat
  | [] => 0
  | (j, i) :: l => match Nat.beq j k with
    | true => i
    | false => findP k l
def lentP : Nat → Nat → List (Nat × Nat)
  | 0, _ => []
  | m + 1, k => (k, k) :: lentP m (k + 1)
def sigmaP (ps : List (Nat × Nat)) : List (Option LB) → Nat → List Nat
  | [], _ => []
  | _ :: os, k => findP k ps :: sigmaP ps os (k + 1)
def sigmaOf (m : Nat) (h h' : List (Option LB)) (ps : List (Nat × Nat)) : List Nat :=
  sigmaP (lentP m 0 ++ ps ++ pairIn h h' (lentP m 0 ++ ps)) h' 0
/-- Slots, as a list: what is not listed is not known. -/
def leSL (σ : List Nat) (h : List (Option LB)) (s' : Nat → AV) : List (Nat × AV) → Prop
  | [] => True
  | (d, c) :: l => leC ((s' d).settle σ h) c ∧ leSL σ h s' l
theorem leSL_out {σ : List Nat} {h : List (Option LB)} {s' : Nat → AV} : ∀ {l : List (Nat × AV)}, leSL σ h s' l → ∀ j, leC ((s' j).settle σ h) (sl l j)
  | [], _, j => by simp [sl, leC]
  | (d, c) :: l, hh, j => by
    unfold sl
    by_cases hj : j = d
    · subst hj; rw [upd_same]; exact hh.1
    · rw [upd_other _ _ hj]; exact leSL_out hh.2 j
def pairSL (s' : Nat → AV) : List (Nat × AV) → List (Nat × Nat)
  | [] => []
  | (d, c) :: l => pairC c (s' d) ++ pairSL s' l
def subB (m : Nat) (st : St) (l : List (Nat × AV)) (h' : List (Option LB)) (σ : List Nat) : Prop :=
  ndB (liveOf σ h') = true ∧ fixB m 0 σ = true ∧ leSL σ st.h st.s l ∧ selH σ st.h σ h'
/-! The same, told so that only what is asked of the data is left. -/
mutual
def leCk (c' c : AV) (K : Prop) : Prop :=
  match c with
  | .any => K
  | .bl b => match c' with
    | .v (.bool b') => Ob (b' = b) ∧ K
    | c' => Ob (c' = .bl b) ∧ K
  | .tree t xs => match c' with
    | .v (.slice none 0 0) => Ob (xs = []) ∧ K
    | c' => Ob (c' = .tree t xs) ∧ K
  | .agg cs => match c' with
    | .agg cs' => leLk cs' cs K
    | _ => False
  | .tup cs => match c' with
    | .tup cs' => leLk cs' cs K
    | _ => False
  | .fn f cs => match c' with
    | .fn f' cs' => whenB (Nat.beq f' f) (leLk cs' cs K)
    | _ => False
  | .v x => Ob (c' = .v x) ∧ K
  | .tptr t xs row off => Ob (c' = .tptr t xs row off) ∧ K
  | .bptr cs off => Ob (c' = .bptr cs off) ∧ K
  | .loc id row off => Ob (c' = .loc id row off) ∧ K
  | .own id => Ob (c' = .own id) ∧ K
  | .view id lo n => Ob (c' = .view id lo n) ∧ K
  | .rowv id k => Ob (c' = .rowv id k) ∧ K
  | .rloc id k row off => Ob (c' = .rloc id k row off) ∧ K
def leLk (cs' cs : List AV) (K : Prop) : Prop :=
  match cs with
  | [] => match cs' with
    | [] => K
    | _ => False
  | c :: cs => match cs' with
    | c' :: cs' => forceI c' fun c' => leCk c' c (leLk cs' cs K)
    | [] => False
end
mutual
theorem leCk_out : ∀ {c c' : AV} {K : Prop}, leCk c' c K → leC c' c ∧ K
  | .any, c', K, h => by unfold leCk at h; exact ⟨by unfold leC; trivial, h⟩
  | .bl b, c', K, h => by
    unfold leCk at h
    unfold leC
    split at h <;> exact h
  | .tree t xs, c', K, h => by
    unfold leCk at h
    unfold leC
    split at h <;> exact h
  | .agg cs, c', K, h => by
    unfold leCk at h
    unfold leC
    split at h
    · exact leLk_out h
    · exact h.elim
  | .tup cs, c', K, h => by
    unfold leCk at h
    unfold leC
    split at h
    · exact leLk_out h
    · exact h.elim
  | .fn f cs, c', K, h => by
    unfold leCk at h
    unfold leC
    split at h
    · obtain ⟨h1, h⟩ := whenB_out h
      obtain ⟨h2, h3⟩ := leLk_out h
      exact ⟨⟨h1, h2⟩, h3⟩
    · exact h.elim
  | .v x, c', K, h => by unfold leCk at h; unfold leC; exact h
  | .tptr t xs row off, c', K, h => by unfold leCk at h; unfold leC; exact h
  | .bptr cs off, c', K, h => by unfold leCk at h; unfold leC; exact h
  | .loc id row off, c', K, h => by unfold leCk at h; unfold leC; exact h
  | .own id, c', K, h => by unfold leCk at h; unfold leC; exact h
  | .view id lo n, c', K, h => by unfold leCk at h; unfold leC; exact h
  | .rowv id k, c', K, h => by unfold leCk at h; unfold leC; exact h
  | .rloc id k row off, c', K, h => by unfold leCk at h; unfold leC; exact h
theorem leLk_out : ∀ {cs cs' : List AV} {K : Prop}, leLk cs' cs K → leL cs' cs ∧ K
  | [], cs', K, h => by
    unfold leLk at h
    unfold leL
    split at h
    · exact ⟨trivial, h⟩
    · exact h.elim
  | c :: cs, cs', K, h => by
    unfold leLk at h
    unfold leL
    split at h
    · rw [forceI_eq] at h
      obtain ⟨h1, h⟩ := leCk_out h
      obtain ⟨h2, h3⟩ := leLk_out h
      exact ⟨⟨h1, h2⟩, h3⟩
    · exact h.elim
end
def leSLk (σ : List Nat) (h : List (Option LB)) (s' : Nat → AV) : List (Nat × AV) → Prop → Prop
  | [], K => K
  | (d, c) :: l, K => forceI ((s' d).settle σ h) fun c' => leCk c' c (leSLk σ h s' l K)
theorem leSLk_out {σ : List Nat} {h : List (Option LB)} {s' : Nat → AV} : ∀ {l : List (Nat × AV)} {K : Prop}, leSLk σ h s' l K → leSL σ h s' l ∧ K
  | [], K, hh => ⟨trivial, hh⟩
  | (d, c) :: l, K, hh => by
    unfold leSLk at hh
    rw [forceI_eq] at hh
    obtain ⟨h1, hh⟩ := leCk_out hh
    obtain ⟨h2, h3⟩ := leSLk_out hh
    exact ⟨⟨h1, h2⟩, h3⟩
def selLBk (σ : List Nat) (h : List (Option LB)) (o' : Option (Option LB)) (b : LB) (K : Prop) : Prop :=
  match b with
  | .box ty cs => match o' with
    | some (some (.box ty' cs')) => whenB (Nat.beq ty' ty) (leLk (AV.settleL σ h cs') cs K)
    | _ => False
  | .arr ty t xs => match o' with
    | some (some b') => Ob (b' = .arr ty t xs) ∧ K
    | _ => False
  | .mp ty t ks => match o' with
    | some (some b') => Ob (b' = .mp ty t ks) ∧ K
    | _ => False
  | .nst ty tyI t xss => match o' with
    | some (some b') => Ob (b' = .nst ty tyI t xss) ∧ K
    | _ => False
theorem selLBk_out {σ : List Nat} {h : List (Option LB)} {o' : Option (Option LB)} {b : LB} {K : Prop} (hh : selLBk σ h o' b K) : selLB σ h o' b ∧ K := by
  unfold selLBk at hh
  unfold selLB
  split at hh
  · split at hh
    · obtain ⟨h1, hh⟩ := whenB_out hh
      obtain ⟨h2, h3⟩ := leLk_out hh
      exact ⟨⟨h1, h2⟩, h3⟩
    · exact hh.elim
  · split at hh
    · exact hh
    · exact hh.elim
  · split at hh
    · exact hh
    · exact hh.elim
  · split at hh
    · exact hh
    · exact hh.elim
def selHk (σ : List Nat) (h : List (Option LB)) : List Nat → List (Option LB) → Prop → Prop
  | [], [], K => K
  | _ :: is, none :: os, K => selHk σ h is os K
  | i :: is, some b :: os, K => selLBk σ h h[i]? b (selHk σ h is os K)
  | _, _, _ => False
theorem selHk_out {σ : List Nat} {h : List (Option LB)} : ∀ {is : List Nat} {os : List (Option LB)} {K : Prop}, selHk σ h is os K → selH σ h is os ∧ K
  | [], [], K, hh => ⟨by simp [selH], by simpa [selHk] using hh⟩
  | i :: is, none :: os, K, hh => by
    obtain ⟨h1, h2⟩ := selHk_out (is := is) (os := os) (K := K) (by simpa [selHk] using hh)
    exact ⟨by simpa [selH] using h1, h2⟩
  | i :: is, some b :: os, K, hh => by
    unfold selHk at hh
    obtain ⟨h1, hh⟩ := selLBk_out hh
    obtain ⟨h2, h3⟩ := selHk_out hh
    exact ⟨⟨h1, h2⟩, h3⟩
  | [], _ :: _, _, hh => by simp [selHk] at hh
  | _ :: _, [], _, hh => by simp [selHk] at hh
def subK (m : Nat) (st : St) (l : List (Nat × AV)) (h' : List (Option LB)) (σ : List Nat) : Prop :=
  forceNs σ fun σ => whenB (ndB (liveOf σ h')) (whenB (fixB m 0 σ) (leSLk σ st.h st.s l (selHk σ st.h σ h' True)))
theorem subK_out {m : Nat} {st : St} {l : List (Nat × AV)} {h' : List (Option LB)} {σ : List Nat} (hh : subK m st l h' σ) : subB m st l h' σ := by
  unfold subK at hh
  rw [forceNs_eq] at hh
  obtain ⟨h1, hh⟩ := whenB_out hh
  obtain ⟨h2, hh⟩ := whenB_out hh
  obtain ⟨h3, hh⟩ := leSLk_out hh
  obtain ⟨h4, _⟩ := selHk_out hh
  exact ⟨h1, h2, h3, h4⟩
/-- From one state to a barer one, by sight. -/
theorem sub_auto {m : Nat} {st : St} {l : List (Nat × AV)} {h' : List (Option LB)} (hh : subK m st l h' (sigmaOf m st.h h' (pairSL st.s l))) : Sub m st ⟨sl l, h'⟩ := by
  have hh := subK_out hh
  intro C hC V a w h
  subst hC
  exact ⟨_, h.sel hh.2.2.2 hh.1 hh.2.1 (leSL_out hh.2.2.1)⟩

/-- What a body ends with. -/
def Fin (m : Nat) (c : AV) (h : List (Option LB)) (r : AV) (h1 : List (Option LB)) : Prop :=
  subB m ⟨sl [(0, c)], h⟩ [(0, r)] h1 (sigmaOf m h h1 (pairC r c))

/-! ### From a body to a contract -/
/-- The slots at the beginning. -/
def argS : Nat → List AV → Nat → AV
  | _, [] => fun _ => .any
  | k, c :: cs => upd (argS (k + 1) cs) k c
theorem argS_get : ∀ (cs : List AV) (k j : Nat), argS k cs j = if k ≤ j then (cs[j - k]?).getD .any else .any
  | [], k, j => by simp [argS]
  | c :: cs, k, j => by
    unfold argS
    by_cases h : j = k
    · subst h; rw [upd_same]; simp
    · rw [upd_other _ _ h, argS_get cs (k + 1) j]
      by_cases h2 : k ≤ j
      · rw [if_pos (by omega), if_pos h2, show j - k = (j - (k + 1)) + 1 by omega]; rfl
      · rw [if_neg (by omega), if_neg h2]

/-- What is handed back, out of the result variables. -/
def evRes1 (T : Nat → Option TI) (st : St) : ResultVar → (AV → Prop) → Prop
  | .tmp t, K => K (st.s t)
  | .cell t ty, K => evLoad (T ty) (cellsAt st.h (st.s t)) K
def evResL (T : Nat → Option TI) (st : St) : List ResultVar → (List AV → Prop) → Prop
  | [], K => K []
  | r :: rs, K => evRes1 T st r fun c => evResL T st rs fun cs => K (c :: cs)
def evRes (T : Nat → Option TI) (st : St) (rs : List ResultVar) (K : AV → Prop) : Prop :=
  match rs with
  | [r] => evRes1 T st r K
  | rs => evResL T st rs fun cs => K (.tup cs)

section
variable {P : Program} {T : Nat → Option TI}

def resOf (tmps : Array Value) (r : ResultVar) : Sem Value :=
  match r with
  | .tmp t => pure (tmps.getD t undef)
  | .cell q t => do loadVar t (← asAddr (tmps.getD q undef))

theorem evRes1_sound (hT : TOk P T) {C : Ctx} {V st a w} (h : SRV C V st a w) {r : ResultVar} {K : AV → Prop} (hk : evRes1 T st r K) :
    ∃ c x, K c ∧ R w (Stb C.A w st.h V) V st.h.length c x ∧ (resOf a.tmps r).run P w = .ok x w := by
  cases r with
  | tmp t => exact ⟨_, _, hk, h.slots t, rfl⟩
  | cell q t =>
    have hv := vdoes_load (P := P) hT (o := ⟨none, .load t (.tmp q), 0, default, #[], none⟩) t (.tmp q) rfl hk
    obtain ⟨c, x, hc, hr, hrun⟩ := hv C V a w h
    refine ⟨c, x, hc, hr, ?_⟩
    have := hrun w (Below.refl _ _)
    simp only [execOp, Instr.loadAt, Act.eval] at this
    generalize hp : a.tmps.getD q undef = p at this
    cases p with
    | pointer o =>
      cases o with
      | none => simp [Instr.sureAddr] at this
      | some ad =>
        simp [Instr.sureAddr] at this
        simp only [resOf, hp]
        simp [asAddr]
        generalize (loadVar t ad).run P w = res at this ⊢
        cases res with
        | ok y w' => simp at this; obtain ⟨rfl, rfl⟩ := this; rfl
        | halt y w' => simp at this
    | _ => simp [Instr.sureAddr] at this

theorem evResL_sound (hT : TOk P T) {C : Ctx} {V st a w} (h : SRV C V st a w) : ∀ (rs : List ResultVar) (K : List AV → Prop), evResL T st rs K →
    ∃ cs xs, K cs ∧ xs.length = cs.length ∧ xs.length = rs.length ∧ (∀ (i : Nat) (c : AV) (x : Value), cs[i]? = some c → xs[i]? = some x → R w (Stb C.A w st.h V) V st.h.length c x) ∧
      (rs.mapM (resOf a.tmps)).run P w = .ok xs w
  | [], K, hk => ⟨[], [], hk, rfl, rfl, fun i c x h => by simp at h, rfl⟩
  | r :: rs, K, hk => by
    obtain ⟨c, x, hk, hr, hrun⟩ := evRes1_sound hT h hk
    obtain ⟨cs, xs, hk, hl, hl2, hrs, hruns⟩ := evResL_sound hT h rs _ hk
    refine ⟨c :: cs, x :: xs, hk, by simp [hl], by simp [hl2], fun i c' x' e1 e2 => ?_, ?_⟩
    · cases i with
      | zero => simp at e1 e2; subst e1 e2; exact hr
      | succ i => simp at e1 e2; exact hrs i c' x' e1 e2
    · rw [List.mapM_cons]
      simp only [Sem.run_bind, hrun, hruns, Result.andThen_ok, Sem.run_pure]

theorem evRes_sound (hT : TOk P T) {C : Ctx} {V st a w} (h : SRV C V st a w) {fn : Func} {K : AV → Prop} (hk : evRes T st fn.results.toList K) :
    ∃ c x, K c ∧ R w (Stb C.A w st.h V) V st.h.length c x ∧ (results fn a.tmps).run P w = .ok x w := by
  have hm : ∀ xs : List Value, (fn.results.toList.mapM (resOf a.tmps)).run P w = .ok xs w → (results fn a.tmps).run P w = .ok (if xs.length = 1 then xs.headD undef else .tuple xs.toArray) w := fun xs e => by
    have e0 : results fn a.tmps = (do let vs ← fn.results.mapM (resOf a.tmps); pure (if h : vs.size = 1 then vs[0] else .tuple vs)) := rfl
    rw [e0, ← Array.toArray_toList (xs := fn.results), List.mapM_toArray]
    simp only [Sem.run_bind, Sem.run_map, e, Result.andThen_ok]
    match xs with
    | [] => rfl
    | [x] => rfl
    | x :: y :: xs => simp
  unfold evRes at hk
  split at hk
  · rename_i r hr
    obtain ⟨c, x, hk, hr2, hrun⟩ := evRes1_sound hT h hk
    refine ⟨c, x, hk, hr2, ?_⟩
    have := hm [x] (by rw [hr, List.mapM_cons]; simp only [Sem.run_bind, hrun, Result.andThen_ok, List.mapM_nil, Sem.run_pure])
    simpa using this
  · rename_i hne
    obtain ⟨cs, xs, hk, hl, hl2, hrs, hruns⟩ := evResL_sound hT h _ _ hk
    refine ⟨.tup cs, .tuple xs.toArray, hk, .tup cs _ (by simpa using hl) (fun i c x e1 e2 => hrs i c x e1 (by simpa using e2)), ?_⟩
    have hne1 : xs.length ≠ 1 := by
      rw [hl2]
      intro e
      obtain ⟨r, e2⟩ := List.length_eq_one_iff.1 e
      exact hne r e2
    rw [hm xs hruns, if_neg hne1]

def retK (T : Nat → Option TI) (rs : List ResultVar) (m : Nat) (r : AV) (h1 : List (Option LB)) (st : St) : Prop :=
  match st with
  | ⟨s, h⟩ => evRes T ⟨s, h⟩ rs fun c => forceI c fun c => Fin m c h r h1
/-- THE ROAD. -/
def retQ (T : Nat → Option TI) (rs : List ResultVar) (m : Nat) (r : AV) (h1 : List (Option LB)) (e : Exit) (st : St) : Prop :=
  match e with
  | .normal => retK T rs m r h1 st
  | .ret => retK T rs m r h1 st
  | _ => False
theorem spec_intro {G : Env} (hG : EnvOk P G) {ct : CT} {f : FuncId} {fn : Func} {c : Code} {args : List AV} {h : List (Option LB)} {r : AV} {h1 : List (Option LB)} (hf : P.funcs[f]? = some fn) (hb : fn.body = some c) (hok : okCode fn.ntmps c = true)
    (hn : Nat.ble args.length fn.ntmps = true) (hlen : Nat.ble h.length h1.length = true) (he : evC P G ct fn.ntmps h.length c ⟨argS 0 args, h⟩ (retQ G.T fn.results.toList h.length r h1)) : Spec P f args h r h1 := by
  intro w GB V S0 vs hLw hGB hhr hsz hargs
  have hn := Nat.le_of_ble_eq_true hn
  refine calls_of_wp hf hb ?_
  let C : Ctx := ⟨fn.ntmps, w, blkOf h V, V, h.length, atR S0 h V w, fun b hb => .inr (.inl hb), GB, fun b hb => ⟨(hGB b hb).1, (hGB b hb).2.1⟩, fun b hb => .inl (hGB b hb).2.2, fun b hb => .inr (.inr hb), hLw⟩
  have hsr : SRV C V ⟨argS 0 args, h⟩ { tmps := vs ++ Array.replicate (fn.ntmps - vs.size) undef, defers := [] } w := by
    refine ⟨by simp [C]; omega, rfl, Kept.refl _ _, Nat.le_refl _, fun _ _ => rfl, hhr, fun t => ?_⟩
    show R w (Stb (atR S0 h V w) w h V) V h.length (argS 0 args t) ((vs ++ Array.replicate (fn.ntmps - vs.size) undef).getD t undef)
    rw [argS_get]
    simp only [Nat.zero_le, if_true, Nat.sub_zero]
    cases e : args[t]? with
    | none => exact .imm _ _ (.any _)
    | some c =>
      have ht : t < vs.size := by rw [hsz]; exact (List.getElem?_eq_some_iff.1 e).1
      have e2 : (vs ++ Array.replicate (fn.ntmps - vs.size) undef).getD t undef = vs[t] := by
        rw [Array.getD_eq_getD_getElem?, Array.getElem?_append_left ht]; simp [ht]
      simp only [Option.getD_some]
      rw [e2]
      exact hargs t c _ e (by simp [ht])
  refine wp_mono (evC_sound hG (C := C) c hok _ _ V _ w hsr he) ?_
  rintro e a' w' ⟨st, V', hq, hs⟩
  have fin : retK G.T fn.results.toList h.length r h1 st → a'.defers = [] ∧ ∃ v, (results fn a'.tmps).run P w' = .ok v w' ∧ ∃ x V'', Ending.returned v = .returned x ∧ Kept (blkOf h V) w w' ∧ h.length ≤ h1.length ∧ (∀ i, i < h.length → V'' i = V i) ∧
      HR w (blkOf h V) (atR S0 h V w) V'' h1 w' ∧ R w' (Stb (atR S0 h V w) w' h1 V'') V'' h1.length r x := fun hq => by
    have hq : evRes G.T st fn.results.toList fun c => forceI c fun c => Fin h.length c st.h r h1 := hq
    obtain ⟨c, x, hk, hr, hrun⟩ := evRes_sound hG.T hs hq
    rw [forceI_eq] at hk
    obtain ⟨b1, b2, b3, b4⟩ := hk
    have hs1 : SRV { C with n := 1 } V' ⟨sl [(0, c)], st.h⟩ { tmps := #[x], defers := [] } w' := by
      refine ⟨rfl, rfl, hs.kept, hs.long, hs.agree, hs.hr, fun t => ?_⟩
      show R w' (Stb (atR S0 h V w) w' st.h V') V' st.h.length (sl [(0, c)] t) ((#[x] : Array Value).getD t undef)
      unfold sl
      by_cases ht : t = 0
      · subst ht; rw [upd_same]; exact hr
      · rw [upd_other _ _ ht]; exact .imm _ _ (.any _)
    have h2 := hs1.sel (st := ⟨sl [(0, c)], st.h⟩) b4 b1 b2 (leSL_out b3)
    refine ⟨hs.defers, x, hrun, x, _, rfl, hs.kept, Nat.le_of_ble_eq_true hlen, h2.agree, h2.hr, ?_⟩
    exact h2.slots 0
  cases e with
  | normal => exact fin hq
  | ret => exact fin hq
  | _ => exact hq.elim
end
end Go.Proofs.YtpmmaohaahbphaaDoor
