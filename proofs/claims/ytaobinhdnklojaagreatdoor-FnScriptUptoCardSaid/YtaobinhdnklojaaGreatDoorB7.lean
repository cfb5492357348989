/-
  The abstract evaluator, part 7: stores, composite literals, make, append.
-/
import Derived.Test.YtaobinhdnklojaaGreatDoorB3e
import Derived.Laws.Tables
import Derived.Laws.MakeOwn
import Derived.Laws.AppendOwn
import Derived.Great.FillDense
namespace Go.Proofs.YtaobinhdnklojaaGreatDoor
open Go.RowKit

mutual
def AV.ren (ρ : Nat → Nat) : AV → AV
 | .any => .any
 | .v x => .v x
 | .bl b => .bl b
 | .agg cs => .agg (AV.renL ρ cs)
 | .tup cs => .tup (AV.renL ρ cs)
 | .tree t xs => .tree t xs
 | .tptr t xs row off => .tptr t xs row off
 | .bptr cs off => .bptr cs off
 | .loc id row off => .loc (ρ id) row off
 | .own id => .own (ρ id)
 | .view id lo n => .view (ρ id) lo n
 | .fn f cs => .fn f (AV.renL ρ cs)
def AV.renL (ρ : Nat → Nat) : List AV → List AV
 | [] => []
 | c :: cs => AV.ren ρ c :: AV.renL ρ cs
end
mutual
def AV.noTree : AV → Bool
 | .any => true
 | .v _ => true
 | .bl _ => true
 | .agg cs => AV.noTreeL cs
 | .tup cs => AV.noTreeL cs
 | .tree _ _ => false
 | .tptr _ _ _ _ => false
 | .bptr _ _ => false
 | .loc _ _ _ => true
 | .own _ => true
 | .view _ _ _ => true
 | .fn _ cs => AV.noTreeL cs
def AV.noTreeL : List AV → Bool
 | [] => true
 | c :: cs => match AV.noTree c with
   | true => AV.noTreeL cs
   | false => false
end
mutual
def AV.isImm : AV → Bool
 | .any => true
 | .v _ => true
 | .bl _ => true
 | .agg cs => AV.isImmL cs
 | .tup cs => AV.isImmL cs
 | .tree _ _ => true
 | .tptr _ _ _ _ => true
 | .bptr _ _ => true
 | .loc _ _ _ => false
 | .own _ => false
 | .view _ _ _ => false
 | .fn _ cs => AV.isImmL cs
def AV.isImmL : List AV → Bool
 | [] => true
 | c :: cs => match AV.isImm c with
   | true => AV.isImmL cs
   | false => false
end
def AV.lend1 (h : List (Option LB)) (c : AV) : AV :=
 match c with
 | .own id => match h[id]? with
   | some (some (.arr _ t xs)) => .tree t xs
   | _ => .any
 | c => match c.isImm with
   | true => c
   | false => .any
mutual
def AV.lend (h : List (Option LB)) : AV → AV
 | .any => .any
 | .v x => .v x
 | .bl b => .bl b
 | .agg cs => .agg (AV.lendL h cs)
 | .tup cs => .tup (AV.lendL h cs)
 | .tree t xs => .tree t xs
 | .tptr t xs row off => .tptr t xs row off
 | .bptr cs off => .bptr cs off
 | .loc id row off => match h[id]? with
   | some (some (.arr _ t xs)) => .tptr t xs row off
   | some (some (.box _ cs)) => .bptr (cs.map (AV.lend1 h)) off
   | _ => .any
 | .own id => match h[id]? with
   | some (some (.arr _ t xs)) => .tree t xs
   | _ => .any
 | .view id lo n => match h[id]? with
   | some (some (.arr _ t xs)) => .tree t ((xs.drop lo).take n)
   | _ => .any
 | .fn f cs => .fn f (AV.lendL h cs)
def AV.lendL (h : List (Option LB)) : List AV → List AV
 | [] => []
 | c :: cs => AV.lend h c :: AV.lendL h cs
end

theorem rLg (ρ : Nat → Nat) : ∀ (cs : List AV) (i : Nat), (AV.renL ρ cs)[i]? = (cs[i]?).map (AV.ren ρ)
 | [], i => by simp [AV.renL]
 | c :: cs, 0 => by simp [AV.renL]
 | c :: cs, i + 1 => by simpa [AV.renL] using rLg ρ cs i
theorem rLl (ρ : Nat → Nat) : ∀ (cs : List AV), (AV.renL ρ cs).length = cs.length
 | [] => rfl
 | c :: cs => by simp [AV.renL, rLl ρ cs]
theorem lLg (h : List (Option LB)) : ∀ (cs : List AV) (i : Nat), (AV.lendL h cs)[i]? = (cs[i]?).map (AV.lend h)
 | [], i => by simp [AV.lendL]
 | c :: cs, 0 => by simp [AV.lendL]
 | c :: cs, i + 1 => by simpa [AV.lendL] using lLg h cs i
theorem lLl (h : List (Option LB)) : ∀ (cs : List AV), (AV.lendL h cs).length = cs.length
 | [] => rfl
 | c :: cs => by simp [AV.lendL, lLl h cs]
theorem nTLg : ∀ (cs : List AV), AV.noTreeL cs = true → ∀ (i : Nat) (c : AV), cs[i]? = some c → c.noTree = true
 | [], _, i, c, h => by simp at h
 | d :: cs, hh, i, c, h => by
   unfold AV.noTreeL at hh
   split at hh
   ·rename_i e
    cases i with
    | zero => simp at h; subst h; exact e
    | succ i => simp at h; exact nTLg cs hh i c h
   ·cases hh
theorem iILg : ∀ (cs : List AV), AV.isImmL cs = true → ∀ (i : Nat) (c : AV), cs[i]? = some c → c.isImm = true
 | [], _, i, c, h => by simp at h
 | d :: cs, hh, i, c, h => by
   unfold AV.isImmL at hh
   split at hh
   ·rename_i e
    cases i with
    | zero => simp at h; subst h; exact e
    | succ i => simp at h; exact iILg cs hh i c h
   ·cases hh

theorem Rt.noTree {w w' : World} {S S' : Nat → Prop} {c : AV} {x : Value} (h : Rt w S c x) (hn : c.noTree = true) : Rt w' S' c x := by
 induction h with
 | any x => exact .any x
 | v x => exact .v x
 | bl x => exact .bl x
 | agg cs vs hl _ ih => exact .agg cs vs hl fun i c x h1 h2 => ih i c x h1 h2 (nTLg cs (by simpa [AV.noTree] using hn) i c h1)
 | tup cs vs hl _ ih => exact .tup cs vs hl fun i c x h1 h2 => ih i c x h1 h2 (nTLg cs (by simpa [AV.noTree] using hn) i c h1)
 | fn f cs vs hl _ ih => exact .fn f cs vs hl fun i c x h1 h2 => ih i c x h1 h2 (nTLg cs (by simpa [AV.noTree] using hn) i c h1)
 | tree => simp [AV.noTree] at hn
 | tptr => simp [AV.noTree] at hn
 | bptr => simp [AV.noTree] at hn
theorem R.noTree {w w' : World} {S S' : Nat → Prop} {V : Nat → Info} {N : Nat} {c : AV} {x : Value} (h : R w S V N c x) (hn : c.noTree = true) : R w' S' V N c x := by
 induction h with
 | imm c x h => exact .imm _ _ (h.noTree hn)
 | agg cs vs hl _ ih => exact .agg cs vs hl fun i c x h1 h2 => ih i c x h1 h2 (nTLg cs (by simpa [AV.noTree] using hn) i c h1)
 | tup cs vs hl _ ih => exact .tup cs vs hl fun i c x h1 h2 => ih i c x h1 h2 (nTLg cs (by simpa [AV.noTree] using hn) i c h1)
 | loc id row off hid hrow => exact .loc id row off hid hrow
 | own id hid => exact .own id hid
 | view id lo n hid hrow => exact .view id lo n hid hrow
 | fn f cs vs hl _ ih => exact .fn f cs vs hl fun i c x h1 h2 => ih i c x h1 h2 (nTLg cs (by simpa [AV.noTree] using hn) i c h1)

theorem R.toImm {w : World} {S : Nat → Prop} {V : Nat → Info} {N : Nat} {c : AV} {x : Value} (h : R w S V N c x) (hn : c.isImm = true) : Rt w S c x := by
 induction h with
 | imm c x h => exact h
 | agg cs vs hl _ ih => exact .agg cs vs hl fun i c x h1 h2 => ih i c x h1 h2 (iILg cs (by simpa [AV.isImm] using hn) i c h1)
 | tup cs vs hl _ ih => exact .tup cs vs hl fun i c x h1 h2 => ih i c x h1 h2 (iILg cs (by simpa [AV.isImm] using hn) i c h1)
 | loc id row off hid => simp [AV.isImm] at hn
 | own id hid => simp [AV.isImm] at hn
 | view id lo n hid => simp [AV.isImm] at hn
 | fn f cs vs hl _ ih => exact .fn f cs vs hl fun i c x h1 h2 => ih i c x h1 h2 (iILg cs (by simpa [AV.isImm] using hn) i c h1)

theorem Rt.ren {w : World} {S : Nat → Prop} {c : AV} {x : Value} (h : Rt w S c x) (ρ : Nat → Nat) : Rt w S (c.ren ρ) x := by
 have lk : ∀ (cs : List AV) (vs : Array Value), (∀ (i : Nat) (c : AV) (x : Value), cs[i]? = some c → vs[i]? = some x → Rt w S (c.ren ρ) x) → ∀ (i : Nat) (c : AV) (x : Value), (AV.renL ρ cs)[i]? = some c → vs[i]? = some x → Rt w S c x := fun cs vs ih i c x h1 h2 => by
  rw [rLg] at h1
  obtain ⟨c', h3, rfl⟩ := Option.map_eq_some_iff.1 h1
  exact ih i c' x h3 h2
 induction h with
 | any x => exact .any x
 | v x => exact .v x
 | bl x => exact .bl x
 | agg cs vs hl _ ih => exact .agg _ vs (by rw [rLl]; exact hl) (lk cs vs ih)
 | tup cs vs hl _ ih => exact .tup _ vs (by rw [rLl]; exact hl) (lk cs vs ih)
 | fn f cs vs hl _ ih => exact .fn f _ vs (by rw [rLl]; exact hl) (lk cs vs ih)
 | tree t xs a len cap b o X hlen hb hc hm ha hx h _ => exact .tree t xs a len cap b o X hlen hb hc hm ha hx h
 | tptr t xs row off b o X ha hrow hx h _ => exact .tptr t xs row off b o X ha hrow hx h
 | bptr cs off b o X ha hx h _ => exact .bptr cs off b o X ha hx h

mutual
def AV.ids : AV → List Nat
 | .own i => [i]
 | .view i _ _ => [i]
 | .loc i _ _ => [i]
 | .agg cs => AV.idsL cs
 | .tup cs => AV.idsL cs
 | .fn _ cs => AV.idsL cs
 | .any => []
 | .v _ => []
 | .bl _ => []
 | .tree _ _ => []
 | .tptr _ _ _ _ => []
 | .bptr _ _ => []
def AV.idsL : List AV → List Nat
 | [] => []
 | c :: cs => AV.ids c ++ AV.idsL cs
end
def dedup : List Nat → List Nat
 | [] => []
 | i :: l => match (dedup l).any (Nat.beq i) with
   | true => dedup l
   | false => i :: dedup l
def posOf (i : Nat) : List Nat → Nat
 | [] => 0
 | j :: l => match Nat.beq i j with
   | true => 0
   | false => posOf i l + 1
theorem dm : ∀ {l : List Nat} {i : Nat}, i ∈ l → i ∈ dedup l
 | j :: l, i, h => by
   unfold dedup
   rcases List.mem_cons.1 h with e | e
   ·subst e
    split
    ·rename_i h1
     obtain ⟨k, hk, e⟩ := List.any_eq_true.1 h1
     rw [Nat.eq_of_beq_eq_true e]; exact hk
    ·simp
   ·split
    ·exact dm e
    ·simp [dm e]
theorem dn : ∀ (l : List Nat), (dedup l).Nodup
 | [] => by simp [dedup]
 | j :: l => by
   unfold dedup
   split
   ·exact dn l
   ·rename_i h1
    refine List.nodup_cons.2 ⟨fun hm => ?_, dn l⟩
    have : (dedup l).any (Nat.beq j) = true := List.any_eq_true.2 ⟨j, hm, Nat.beq_refl j⟩
    rw [this] at h1; cases h1
theorem pOg : ∀ {l : List Nat} {i : Nat}, i ∈ l → posOf i l < l.length ∧ l.getD (posOf i l) 0 = i
 | j :: l, i, h => by
   unfold posOf
   split
   ·rename_i e; have := Nat.eq_of_beq_eq_true e; subst this; simp
   ·rename_i e
    have hne := Nat.ne_of_beq_eq_false e
    have h2 := pOg (l := l) (i := i) (by rcases List.mem_cons.1 h with e | e; exact absurd e hne; exact e)
    refine ⟨by simp; exact h2.1, ?_⟩
    simpa using h2.2
theorem idsL_mem : ∀ {cs : List AV} {i : Nat} {c : AV} {k : Nat}, cs[i]? = some c → k ∈ c.ids → k ∈ AV.idsL cs
 | d :: cs, 0, c, k, h, hk => by simp at h; subst h; simp [AV.idsL, hk]
 | d :: cs, i + 1, c, k, h, hk => by simp at h; simp [AV.idsL, idsL_mem h hk]
theorem R.renOcc {w : World} {S : Nat → Prop} {V V' : Nat → Info} {N N' : Nat} {c : AV} {x : Value} {ρ : Nat → Nat} (h : R w S V N c x) (hρ : ∀ i, i ∈ c.ids → i < N → ρ i < N' ∧ V' (ρ i) = V i) : R w S V' N' (c.ren ρ) x := by
 have lk : ∀ (cs : List AV) (vs : Array Value), (∀ (i : Nat) (c : AV) (x : Value), cs[i]? = some c → vs[i]? = some x → (∀ i, i ∈ c.ids → i < N → ρ i < N' ∧ V' (ρ i) = V i) → R w S V' N' (c.ren ρ) x) → (∀ i, i ∈ AV.idsL cs → i < N → ρ i < N' ∧ V' (ρ i) = V i) →
   ∀ (i : Nat) (c : AV) (x : Value), (AV.renL ρ cs)[i]? = some c → vs[i]? = some x → R w S V' N' c x := fun cs vs ih hh i c x h1 h2 => by
  rw [rLg] at h1
  obtain ⟨c', h3, rfl⟩ := Option.map_eq_some_iff.1 h1
  exact ih i c' x h3 h2 fun k hk => hh k (idsL_mem h3 hk)
 induction h with
 | imm c x h => exact .imm _ _ (h.ren ρ)
 | agg cs vs hl _ ih => exact .agg _ vs (by rw [rLl]; exact hl) (lk cs vs ih hρ)
 | tup cs vs hl _ ih => exact .tup _ vs (by rw [rLl]; exact hl) (lk cs vs ih hρ)
 | loc id row off hid hrow => have := hρ id (by simp [AV.ids]) hid; rw [← this.2]; exact .loc _ row off this.1 (by rw [this.2]; exact hrow)
 | own id hid => have := hρ id (by simp [AV.ids]) hid; rw [← this.2]; exact .own _ this.1
 | view id lo n hid hrow => have := hρ id (by simp [AV.ids]) hid; rw [← this.2]; exact .view _ lo n this.1 (by rw [this.2]; exact hrow)
 | fn f cs vs hl _ ih => exact .fn f _ vs (by rw [rLl]; exact hl) (lk cs vs ih hρ)
theorem R.ren {w : World} {S : Nat → Prop} {V V' : Nat → Info} {N N' : Nat} {c : AV} {x : Value} {ρ : Nat → Nat} (h : R w S V N c x) (hρ : ∀ i, i < N → ρ i < N' ∧ V' (ρ i) = V i) : R w S V' N' (c.ren ρ) x :=
 h.renOcc fun i _ hi => hρ i hi

def lentH (h : List (Option LB)) : List Nat → List (Option LB)
 | [] => []
 | i :: is => (h[i]?).getD none :: lentH h is
def pI1 (h : List (Option LB)) : List Nat → List (Option LB) → List (Option LB)
 | [], _ => h
 | i :: is, o :: os => (pI1 h is os).set i o
 | _ :: _, [] => h
theorem lHl (h : List (Option LB)) : ∀ is : List Nat, (lentH h is).length = is.length
 | [] => rfl
 | i :: is => by simp [lentH, lHl h is]
theorem lHg (h : List (Option LB)) : ∀ (is : List Nat) (j : Nat), (lentH h is)[j]? = (is[j]?).map fun i => (h[i]?).getD none
 | [], j => by simp [lentH]
 | i :: is, 0 => by simp [lentH]
 | i :: is, j + 1 => by simpa [lentH] using lHg h is j
theorem pIl (h : List (Option LB)) : ∀ (is : List Nat) (os : List (Option LB)), (pI1 h is os).length = h.length
 | [], _ => rfl
 | i :: is, o :: os => by simp [pI1, pIl h is os]
 | _ :: _, [] => rfl
theorem putIds_get (h : List (Option LB)) : ∀ (is : List Nat) (os : List (Option LB)), is.Nodup → is.length = os.length → (∀ i ∈ is, i < h.length) → ∀ k : Nat,
  ((∃ j : Nat, is[j]? = some k ∧ (pI1 h is os)[k]? = os[j]?) ∨ (k ∉ is ∧ (pI1 h is os)[k]? = h[k]?))
 | [], os, _, _, _, k => .inr ⟨by simp, rfl⟩
 | i :: is, o :: os, hnd, hl, hlt, k => by
   obtain ⟨hni, hnd'⟩ := List.nodup_cons.1 hnd
   have ih := putIds_get h is os hnd' (by simpa using hl) (fun k hk => hlt k (by simp [hk])) k
   simp only [pI1]
   by_cases hik : i = k
   ·subst hik
    refine .inl ⟨0, by simp, ?_⟩
    rw [List.getElem?_set]
    simp [pIl, hlt i (by simp)]
   ·rw [List.getElem?_set, if_neg hik]
    rcases ih with ⟨j, e1, e2⟩ | ⟨e1, e2⟩
    ·exact .inl ⟨j + 1, by simpa using e1, by simpa using e2⟩
    ·exact .inr ⟨by simp [e1]; exact fun e => hik e.symm, e2⟩
 | _ :: _, [], _, hl, _, _ => by simp at hl

def kI (h : List (Option LB)) : List Nat → List (Option LB)
 | [] => h
 | i :: is => (kI h is).set i none
theorem kIg (h : List (Option LB)) : ∀ (is : List Nat) (k : Nat) (lb : LB), (kI h is)[k]? = some (some lb) → k ∉ is ∧ h[k]? = some (some lb)
 | [], k, lb, e => ⟨by simp, e⟩
 | i :: is, k, lb, e => by
   simp only [kI] at e
   rw [List.getElem?_set] at e
   by_cases hik : i = k
   ·rw [if_pos hik] at e; split at e <;> simp at e
   ·rw [if_neg hik] at e
    obtain ⟨e1, e2⟩ := kIg h is k lb e
    exact ⟨by simp [e1]; exact fun e => hik e.symm, e2⟩

def Lent (A : Nat → Prop) (w : World) (h hl : List (Option LB)) (V : Nat → Info) (b : Nat) : Prop := Stb A w h V b ∨ ∃ id lb, hl[id]? = some (some lb) ∧ (V id).blk = b

theorem SRV.lendArr {C : Ctx} {V st a w} (h : SRV C V st a w) {hl : List (Option LB)} (hsub : ∀ (id : Nat) (lb : LB), hl[id]? = some (some lb) → st.h[id]? = some (some lb)) {id ty : Nat} {t : Ty} {xs : List t.den} (e : hl[id]? = some (some (.arr ty t xs))) :
  ∃ (cap : Nat) (X : Nat → Nat → Value), (V id).val = .slice (some ⟨(V id).blk, 0, none⟩) xs.length cap ∧ (V id).len = xs.length ∧ (V id).sz = t.n ∧ xs.length ≤ cap ∧ cap ≤ maxLen ∧ xs.length ≤ bL ∧
    ∀ (k j : Nat) (c : AV), k < xs.length → (rowT t xs k)[j]? = some c → (w.cell? ⟨(V id).blk, k * t.n + j, none⟩ = some (X k j) ∧ (X k j).oneCell' = true) ∧ Rt w (Lent C.A w st.h hl V) c (X k j) := by
 obtain ⟨cur, hc⟩ := h.hr.blk id _ (hsub _ _ e)
 obtain ⟨cap, e1, e2, e3, _, e5⟩ := hc.own rfl
 refine ⟨cap, fun k j => (cur[k * t.n + j]?).getD undef, e1, hc.ln, hc.sz, e2, e3, e5, fun k j c g1 g2 => ?_⟩
 obtain ⟨y, f1, f2, f3⟩ := hc.cell k j c g1 g2
 have f1' : cur[k * t.n + j]? = some y := f1
 have e9 : (cur[k * t.n + j]?).getD undef = y := by rw [f1']; rfl
 rw [cell_of_row _ _ _ _ _ _ hc.heap.choose_spec.1, f1']
 simp only [e9]
 refine ⟨⟨trivial, f2⟩, ?_⟩
 exact (hc.still rfl k j c y g1 g2 f1').mono fun b hb => ⟨.inl hb, rfl⟩

theorem SRV.lend1 {C : Ctx} {V st a w} (h : SRV C V st a w) {hl : List (Option LB)} (hsub : ∀ (id : Nat) (lb : LB), hl[id]? = some (some lb) → st.h[id]? = some (some lb)) {c : AV} {x : Value} (hr : R w (Stb C.A w st.h V) V st.h.length c x) : Rt w (Lent C.A w st.h hl V) (c.lend1 hl) x := by
 have hS : ∀ b, Stb C.A w st.h V b → Lent C.A w st.h hl V b ∧ w.heap[b]? = w.heap[b]? := fun b hs => ⟨.inl hs, rfl⟩
 have imm : ∀ c : AV, R w (Stb C.A w st.h V) V st.h.length c x → Rt w (Lent C.A w st.h hl V) (match c.isImm with | true => c | false => .any) x := fun c hr => by
  split
  ·rename_i e; exact (hr.toImm e).mono hS
  ·exact .any _
 unfold AV.lend1
 split
 ·rename_i id
  split
  ·rename_i ty t xs e
   obtain ⟨cap, X, e1, e2, e3, e4, e5, e6, e7⟩ := h.lendArr hsub e
   rw [hr.own_inv, e1]
   refine .tree t xs _ _ cap (V id).blk 0 X rfl e6 e4 e5 (fun _ => ⟨rfl, .inr ⟨id, _, e, rfl⟩⟩) (fun k j c g1 g2 => ?_) (fun k j c g1 g2 => (e7 k j c g1 g2).2)
   have := (e7 k j c g1 g2).1
   rwa [Nat.zero_add]
  ·exact .any _
 ·exact imm c hr

theorem SRV.lend {C : Ctx} {V st a w} (h : SRV C V st a w) {hl : List (Option LB)} (hsub : ∀ (id : Nat) (lb : LB), hl[id]? = some (some lb) → st.h[id]? = some (some lb)) {c : AV} {x : Value} (hr : R w (Stb C.A w st.h V) V st.h.length c x) : Rt w (Lent C.A w st.h hl V) (c.lend hl) x := by
 have hS : ∀ b, Stb C.A w st.h V b → Lent C.A w st.h hl V b ∧ w.heap[b]? = w.heap[b]? := fun b hs => ⟨.inl hs, rfl⟩
 have lk : ∀ (cs : List AV) (vs : Array Value), (∀ (i : Nat) (c : AV) (x : Value), cs[i]? = some c → vs[i]? = some x → Rt w (Lent C.A w st.h hl V) (c.lend hl) x) → ∀ (i : Nat) (c : AV) (x : Value), (AV.lendL hl cs)[i]? = some c → vs[i]? = some x → Rt w (Lent C.A w st.h hl V) c x := fun cs vs ih i c x h1 h2 => by
  rw [lLg] at h1
  obtain ⟨c', h3, rfl⟩ := Option.map_eq_some_iff.1 h1
  exact ih i c' x h3 h2
 induction hr with
 | imm c x h' =>
   induction h' with
   | any x => exact .any x
   | v x => exact .v x
   | bl x => exact .bl x
   | agg cs vs hl _ ih => exact .agg _ vs (by rw [lLl]; exact hl) (lk cs vs ih)
   | tup cs vs hl _ ih => exact .tup _ vs (by rw [lLl]; exact hl) (lk cs vs ih)
   | fn f cs vs hl _ ih => exact .fn f _ vs (by rw [lLl]; exact hl) (lk cs vs ih)
   | tree t xs a len cap b o X hlen hb hc hm ha hx h _ => exact .tree t xs a len cap b o X hlen hb hc hm (fun e => ⟨(ha e).1, .inl (ha e).2⟩) hx (fun k j c h1 h2 => (h k j c h1 h2).mono hS)
   | tptr t xs row off b o X ha hrow hx h _ => exact .tptr t xs row off b o X (.inl ha) hrow hx (fun k j c h1 h2 => (h k j c h1 h2).mono hS)
   | bptr cs off b o X ha hx h _ => exact .bptr cs off b o X (.inl ha) hx (fun j c h2 => (h j c h2).mono hS)
 | agg cs vs hl _ ih => exact .agg _ vs (by rw [lLl]; exact hl) (lk cs vs ih)
 | tup cs vs hl _ ih => exact .tup _ vs (by rw [lLl]; exact hl) (lk cs vs ih)
 | fn f cs vs hl _ ih => exact .fn f _ vs (by rw [lLl]; exact hl) (lk cs vs ih)
 | loc id row off hid hrow =>
   unfold AV.lend
   split
   ·rename_i ty t xs e
    obtain ⟨cap, X, e1, e2, e3, e4, e5, e6, e7⟩ := h.lendArr hsub e
    have := Rt.tptr (w := w) (S := Lent C.A w st.h hl V) t xs row off (V id).blk 0 X (.inr ⟨id, _, e, rfl⟩) (by rw [← e2]; exact hrow) (fun k j c g1 g2 => by rw [Nat.zero_add]; exact (e7 k j c g1 g2).1) (fun k j c g1 g2 => (e7 k j c g1 g2).2)
    rw [e3]
    simpa using this
   ·rename_i ty cs e
    obtain ⟨cur, hc⟩ := h.hr.blk id _ (hsub _ _ e)
    have hrow0 : row = 0 := by have := hc.ln; simp only [LB.len] at this; omega
    subst hrow0
    have hget2 : ∀ (j : Nat) (c : AV), (cs.map (AV.lend1 hl))[j]? = some c → ∃ c', cs[j]? = some c' ∧ c = c'.lend1 hl := fun j c e => by
     rw [List.getElem?_map] at e
     obtain ⟨r', e1, e2⟩ := Option.map_eq_some_iff.1 e
     exact ⟨r', e1, e2.symm⟩
    have hcell : ∀ (j : Nat) (c : AV), cs[j]? = some c → ∃ y, cur[j]? = some y ∧ y.oneCell' = true ∧ R w (Stb C.A w st.h V) V st.h.length c y := fun j c e => by
     have := hc.cell 0 j c Nat.zero_lt_one e
     simpa using this
    have := Rt.bptr (w := w) (S := Lent C.A w st.h hl V) (cs.map (AV.lend1 hl)) off (V id).blk 0 (fun j => (cur[j]?).getD undef) (.inr ⟨id, _, e, rfl⟩)
     (fun j c h2 => by
      obtain ⟨c', e2, rfl⟩ := hget2 j c h2
      obtain ⟨y, f1, f2, f3⟩ := hcell j c' e2
      rw [Nat.zero_add, cell_of_row _ _ _ _ _ _ hc.heap.choose_spec.1, f1]
      exact ⟨rfl, f2⟩)
     (fun j c h2 => by
      obtain ⟨c', e2, rfl⟩ := hget2 j c h2
      obtain ⟨y, f1, f2, f3⟩ := hcell j c' e2
      rw [f1]
      exact h.lend1 hsub f3)
    simpa using this
   ·exact .any _
 | own id hid =>
   unfold AV.lend
   split
   ·rename_i ty t xs e
    obtain ⟨cap, X, e1, e2, e3, e4, e5, e6, e7⟩ := h.lendArr hsub e
    rw [e1]
    refine .tree t xs _ _ cap (V id).blk 0 X rfl e6 e4 e5 (fun _ => ⟨rfl, .inr ⟨id, _, e, rfl⟩⟩) (fun k j c g1 g2 => ?_) (fun k j c g1 g2 => (e7 k j c g1 g2).2)
    rw [Nat.zero_add]; exact (e7 k j c g1 g2).1
   ·exact .any _
 | view id lo n hid hrow =>
   unfold AV.lend
   split
   ·rename_i ty t xs e
    obtain ⟨cap, X, e1, e2, e3, e4, e5, e6, e7⟩ := h.lendArr hsub e
    rw [e1, e3]
    simp only [partV]
    have hln : ((xs.drop lo).take n).length = n := by simp; omega
    have hrw : ∀ k, k < n → rowT t ((xs.drop lo).take n) k = rowT t xs (lo + k) := fun k hk => by
     simp only [rowT, List.getD_eq_getElem?_getD, List.getElem?_take, if_pos hk, List.getElem?_drop]
    refine .tree t _ _ _ _ (V id).blk (lo * t.n) (fun k j => X (lo + k) j) hln.symm (by omega) (by omega) (by omega) (fun hne => ⟨?_, .inr ⟨id, _, e, rfl⟩⟩) (fun k j c g1 g2 => ?_) (fun k j c g1 g2 => ?_)
    ·rw [if_neg (by omega)]; simp [Addr.add_lit]
    ·rw [hrw k (by omega)] at g2
     have := (e7 (lo + k) j c (by omega) g2).1
     rw [show lo * t.n + k * t.n + j = (lo + k) * t.n + j by rw [Nat.add_mul]]
     exact this
    ·rw [hrw k (by omega)] at g2
     exact (e7 (lo + k) j c (by omega) g2).2
   ·exact .any _
end Go.Proofs.YtaobinhdnklojaaGreatDoor
namespace Go.Proofs.YtaobinhdnklojaaGreatDoor
open Go.RowKit

def blkOf (h : List (Option LB)) (V : Nat → Info) (b : Nat) : Prop := ∃ id lb, h[id]? = some (some lb) ∧ (V id).blk = b

def atR (S0 : Nat → Prop) (h : List (Option LB)) (V : Nat → Info) (w : World) (b : Nat) : Prop := S0 b ∨ w.heap.size ≤ b ∨ blkOf h V b

def Spec (P : Program) (f : FuncId) (args : List AV) (h : List (Option LB)) (r : AV) (h1 : List (Option LB)) : Prop :=
 ∀ (w : World) (GB : Nat → Prop) (V : Nat → Info) (S0 : Nat → Prop) (vs : Array Value), Lw GB w → (∀ b, GB b → b < w.heap.size ∧ ¬ blkOf h V b ∧ S0 b) → HR w (blkOf h V) (atR S0 h V w) V h w → vs.size = args.length →
   (∀ (i : Nat) (c : AV) (x : Value), args[i]? = some c → vs[i]? = some x → R w (Stb (atR S0 h V w) w h V) V h.length c x) →
   Calls P f vs w fun e w' => ∃ x V', e = .returned x ∧ Kept (blkOf h V) w w' ∧ h.length ≤ h1.length ∧ (∀ i, i < h.length → V' i = V i) ∧
    HR w (blkOf h V) (atR S0 h V w) V' h1 w' ∧ R w' (Stb (atR S0 h V w) w' h1 V') V' h1.length r x

def allF : List Bool → Bool
 | [] => true
 | true :: _ => false
 | false :: l => allF l
def belB (M : Nat → List Bool) (o : Op) : Bool :=
 match o with
 | .store _ _ _ => false
 | .call ⟨.builtin .append, _, _⟩ => false
 | .call ⟨.builtin .clear, _, _⟩ => false
 | .call ⟨.value x, _, _⟩ => match x with
   | .func f => allF (M f)
   | _ => false
 | _ => true
def capZ (o : Op) (a : Act) : Prop := ∃ x l ts ad n, o = .call ⟨.builtin .append, ⟨x :: l⟩, ts⟩ ∧ a.eval x = .slice ad n 0
def belA (M : Nat → List Bool) (o : Op) (a : Act) : Prop := belB M o = true ∨ capZ o a
theorem belA_no {M : Nat → List Bool} {o : Op} {a : Act} {p : Prop} (h1 : belB M o = false) (h2 : ∀ x l ts, o ≠ .call ⟨.builtin .append, ⟨x :: l⟩, ts⟩) (h : belA M o a) : p := by
 rcases h with h | ⟨x, l, ts, _, _, h, _⟩
 ·rw [h1] at h; cases h
 ·exact absurd h (h2 x l ts)
theorem belA_bel {M : Nat → List Bool} {o : Op} {a : Act} (h2 : ∀ x l ts, o ≠ .call ⟨.builtin .append, ⟨x :: l⟩, ts⟩) (h : belA M o a) : belB M o = true := by
 rcases h with h | ⟨x, l, ts, _, _, h, _⟩
 ·exact h
 ·exact absurd h (h2 x l ts)
theorem belA_cap {M : Nat → List Bool} {o : Op} {a : Act} {x y : Operand} {ts : Array TypeId} (ho : o = .call { callee := .builtin .append, args := #[x, y], argTypes := ts }) (h : belA M o a) : ∃ ad n, a.eval x = .slice ad n 0 := by
 subst ho
 rcases h with h | ⟨x', l, ts', ad, n, h, h'⟩
 ·cases h
 ·cases h; exact ⟨ad, n, h'⟩
def EDoes (P : Program) (M : Nat → List Bool) (o : Oper) (st : St) (K : AV → St → Prop) : Prop :=
 ∀ (C : Ctx) V a w, SRV C V st a w → ∀ (next : Act → World → Prop) (Q : Exit → Act → World → Prop),
   (∀ c h' V' x w', K c ⟨st.s, h'⟩ → SRV C V' ⟨st.s, h'⟩ a w' → R w' (Stb C.A w' h' V') V' h'.length c x → (belA M o.op a → Below w.heap.size w w') → next (a.put o.dst x) w') → o.wp P a w next Q

theorem VDoes.toE {P : Program} {M : Nat → List Bool} {o : Oper} {st : St} {K : AV → St → Prop} (h : VDoes P o st (fun c => K c st)) : EDoes P M o st K := by
 intro C V a w hs next Q hn
 obtain ⟨c, x, hk, hr, hrun⟩ := h C V a w hs
 unfold Oper.wp
 rw [hrun w (Below.refl _ _)]
 exact hn c st.h V x w hk hs hr fun _ => Below.refl _ _

def renB (ρ : Nat → Nat) : LB → LB
 | .box ty cs => .box ty (AV.renL ρ cs)
 | .arr ty t xs => .arr ty t xs
def renLB (ρ : Nat → Nat) (o : Option LB) : Option LB := match o with
 | some lb => some (renB ρ lb)
 | none => none
theorem rLs {ρ : Nat → Nat} {o : Option LB} {lb : LB} (h : renLB ρ o = some lb) : ∃ lb0, o = some lb0 ∧ lb = renB ρ lb0 := by
 cases o with
 | none => cases h
 | some lb0 => exact ⟨lb0, rfl, by simpa [renLB] using h.symm⟩
def renH (ρ : Nat → Nat) : List (Option LB) → List (Option LB)
 | [] => []
 | o :: h => renLB ρ o :: renH ρ h
theorem rHl (ρ : Nat → Nat) : ∀ h, (renH ρ h).length = h.length
 | [] => rfl
 | o :: h => by simp [renH, rHl ρ h]
theorem rHg (ρ : Nat → Nat) : ∀ (h : List (Option LB)) (i : Nat), (renH ρ h)[i]? = (h[i]?).map (renLB ρ)
 | [], i => by simp [renH]
 | o :: h, 0 => by simp [renH]
 | o :: h, i + 1 => by simpa [renH] using rHg ρ h i

def passL (ρ : Nat → Nat) (hl : List (Option LB)) : List Bool → List AV → List AV
 | _, [] => []
 | true :: ms, c :: cs => c.ren ρ :: passL ρ hl ms cs
 | false :: ms, c :: cs => c.lend hl :: passL ρ hl ms cs
 | [], c :: cs => c.lend hl :: passL ρ hl [] cs
def wIds : List Bool → List AV → List Nat
 | true :: ms, c :: cs => c.ids ++ wIds ms cs
 | false :: ms, _ :: cs => wIds ms cs
 | _, _ => []
def bImm : List Bool → List AV → Bool
 | _, [] => true
 | true :: ms, _ :: cs => bImm ms cs
 | false :: ms, c :: cs => match c.isImm with
   | true => bImm ms cs
   | false => false
 | [], c :: cs => match c.isImm with
   | true => bImm [] cs
   | false => false
theorem pLl (ρ : Nat → Nat) (hl : List (Option LB)) : ∀ (ms : List Bool) (cs : List AV), (passL ρ hl ms cs).length = cs.length
 | ms, [] => by cases ms <;> rfl
 | true :: ms, c :: cs => by simp [passL, pLl ρ hl ms cs]
 | false :: ms, c :: cs => by simp [passL, pLl ρ hl ms cs]
 | [], c :: cs => by simp [passL, pLl ρ hl [] cs]
theorem pLg (ρ : Nat → Nat) (hl : List (Option LB)) : ∀ (ms : List Bool) (cs : List AV) (i : Nat) (c : AV), (passL ρ hl ms cs)[i]? = some c →
  ∃ c', cs[i]? = some c' ∧ ((c = c'.ren ρ ∧ ∀ k ∈ c'.ids, k ∈ wIds ms cs) ∨ (c = c'.lend hl ∧ (bImm ms cs = true → c'.isImm = true)))
 | ms, [], i, c, h => by cases ms <;> simp [passL] at h
 | true :: ms, d :: cs, i, c, h => by
   cases i with
   | zero => simp [passL] at h; exact ⟨d, rfl, .inl ⟨h.symm, fun k hk => by simp [wIds, hk]⟩⟩
   | succ i =>
     simp [passL] at h
     obtain ⟨c', e1, e2⟩ := pLg ρ hl ms cs i c h
     refine ⟨c', by simpa using e1, e2.imp (fun ⟨g1, g2⟩ => ⟨g1, fun k hk => by simp [wIds, g2 k hk]⟩) fun ⟨g1, g2⟩ => ⟨g1, fun hb => g2 (by simpa [bImm] using hb)⟩⟩
 | false :: ms, d :: cs, i, c, h => by
   have hb : bImm (false :: ms) (d :: cs) = true → d.isImm = true ∧ bImm ms cs = true := fun hb => by
    unfold bImm at hb
    split at hb
    ·rename_i e; exact ⟨e, hb⟩
    ·cases hb
   cases i with
   | zero => simp [passL] at h; exact ⟨d, rfl, .inr ⟨h.symm, fun e => (hb e).1⟩⟩
   | succ i =>
     simp [passL] at h
     obtain ⟨c', e1, e2⟩ := pLg ρ hl ms cs i c h
     refine ⟨c', by simpa using e1, e2.imp (fun ⟨g1, g2⟩ => ⟨g1, fun k hk => by simp [wIds, g2 k hk]⟩) fun ⟨g1, g2⟩ => ⟨g1, fun e => g2 (hb e).2⟩⟩
 | [], d :: cs, i, c, h => by
   have hb : bImm [] (d :: cs) = true → d.isImm = true ∧ bImm [] cs = true := fun hb => by
    unfold bImm at hb
    split at hb
    ·rename_i e; exact ⟨e, hb⟩
    ·cases hb
   cases i with
   | zero => simp [passL] at h; exact ⟨d, rfl, .inr ⟨h.symm, fun e => (hb e).1⟩⟩
   | succ i =>
     simp [passL] at h
     obtain ⟨c', e1, e2⟩ := pLg ρ hl [] cs i c h
     refine ⟨c', by simpa using e1, e2.imp (fun ⟨g1, g2⟩ => ⟨g1, fun k hk => by have := g2 k hk; simp [wIds] at this⟩) fun ⟨g1, g2⟩ => ⟨g1, fun e => g2 (hb e).2⟩⟩

theorem Rt.lendImm {w : World} {S : Nat → Prop} {h : List (Option LB)} {c : AV} {x : Value} (hc : Rt w S c x) : Rt w S (c.lend h) x := by
 have lk : ∀ (cs : List AV) (vs : Array Value), (∀ (i : Nat) (c : AV) (x : Value), cs[i]? = some c → vs[i]? = some x → Rt w S (c.lend h) x) → ∀ (i : Nat) (c : AV) (x : Value), (AV.lendL h cs)[i]? = some c → vs[i]? = some x → Rt w S c x := fun cs vs ih i c x h1 h2 => by
  rw [lLg] at h1
  obtain ⟨c', h3, rfl⟩ := Option.map_eq_some_iff.1 h1
  exact ih i c' x h3 h2
 induction hc with
 | any x => exact .any x
 | v x => exact .v x
 | bl x => exact .bl x
 | agg cs vs hl _ ih => exact .agg _ vs (by rw [lLl]; exact hl) (lk cs vs ih)
 | tup cs vs hl _ ih => exact .tup _ vs (by rw [lLl]; exact hl) (lk cs vs ih)
 | fn f cs vs hl _ ih => exact .fn f _ vs (by rw [lLl]; exact hl) (lk cs vs ih)
 | tree t xs a len cap b o X hlen hb hc hm ha hx h _ => exact .tree t xs a len cap b o X hlen hb hc hm ha hx h
 | tptr t xs row off b o X ha hrow hx h _ => exact .tptr t xs row off b o X ha hrow hx h
 | bptr cs off b o X ha hx h _ => exact .bptr cs off b o X ha hx h

def rNT (h : List (Option LB)) : Prop := ∀ (i : Nat) (lb : LB), h[i]? = some (some lb) → ∀ (k j : Nat) (c : AV), k < lb.len → (lb.rows k)[j]? = some c → c.noTree = true
def Ty.flat : Ty → Bool
 | .int _ => true
 | .bool => true
 | .str => true
 | .st fs => flats fs
 | .sl _ => false
where flats : List Ty → Bool
 | [] => true
 | t :: ts => match Ty.flat t with
   | true => flats ts
   | false => false
def hNT : List (Option LB) → Bool
 | [] => true
 | none :: h => hNT h
 | some (.box _ cs) :: h => match AV.noTreeL cs with
   | true => hNT h
   | false => false
 | some (.arr _ t _) :: h => match t.flat with
   | true => hNT h
   | false => false
mutual
theorem flat_enc : ∀ (t : Ty) (x : t.den), t.flat = true → ∀ (j : Nat) (c : AV), (t.enc x)[j]? = some c → c.noTree = true
 | .int k, x, _, j, c, h => by
   cases j with
   | zero => simp [Ty.enc] at h; subst h; rfl
   | succ j => simp [Ty.enc] at h
 | .bool, x, _, j, c, h => by
   cases j with
   | zero => simp [Ty.enc] at h; subst h; rfl
   | succ j => simp [Ty.enc] at h
 | .str, x, _, j, c, h => by
   cases j with
   | zero => simp [Ty.enc] at h; subst h; rfl
   | succ j => simp [Ty.enc] at h
 | .st fs, x, hf, j, c, h => flats_enc fs x (by simpa [Ty.flat] using hf) j c h
 | .sl e, x, hf, j, c, h => by simp [Ty.flat] at hf
theorem flats_enc : ∀ (ts : List Ty) (x : Ty.dens ts), Ty.flat.flats ts = true → ∀ (j : Nat) (c : AV), (Ty.encs ts x)[j]? = some c → c.noTree = true
 | [], x, _, j, c, h => by simp [Ty.encs] at h
 | t :: ts, x, hf, j, c, h => by
   unfold Ty.flat.flats at hf
   split at hf
   ·rename_i e
    simp only [Ty.encs] at h
    by_cases hj : j < (t.enc x.1).length
    ·rw [List.getElem?_append_left hj] at h; exact flat_enc t x.1 e j c h
    ·rw [List.getElem?_append_right (by omega)] at h; exact flats_enc ts x.2 hf _ c h
   ·cases hf
end
theorem hNTo : ∀ {h : List (Option LB)}, hNT h = true → rNT h
 | [], _, i, lb, e, _, _, _, _, _ => by simp at e
 | none :: h, hh, i, lb, e, k, j, c, h1, h2 => by
   cases i with
   | zero => simp at e
   | succ i => exact hNTo (h := h) (by simpa [hNT] using hh) i lb (by simpa using e) k j c h1 h2
 | some (.box ty cs) :: h, hh, i, lb, e, k, j, c, h1, h2 => by
   unfold hNT at hh
   split at hh
   ·rename_i e1
    cases i with
    | zero => simp at e; subst e; exact nTLg cs e1 j c h2
    | succ i => exact hNTo (h := h) hh i lb (by simpa using e) k j c h1 h2
   ·cases hh
 | some (.arr ty t xs) :: h, hh, i, lb, e, k, j, c, h1, h2 => by
   unfold hNT at hh
   split at hh
   ·rename_i e1
    cases i with
    | zero => simp at e; subst e; exact flat_enc t _ e1 j c h2
    | succ i => exact hNTo (h := h) hh i lb (by simpa using e) k j c h1 h2
   ·cases hh

def boxIds : Option (Option LB) → List Nat
 | some (some (.box _ cs)) => AV.idsL cs
 | _ => []
def subNat (l m : List Nat) : Bool := l.all fun i => m.any (Nat.beq i)
theorem subNat_mem {l m : List Nat} (h : subNat l m = true) {i : Nat} (hi : i ∈ l) : i ∈ m := by
 have := List.all_eq_true.1 h i hi
 obtain ⟨j, hj, e⟩ := List.any_eq_true.1 this
 rw [Nat.eq_of_beq_eq_true e]; exact hj
def cI (h : List (Option LB)) (ids : List Nat) : List Nat → Bool
 | [] => true
 | i :: is => match subNat (boxIds h[i]?) ids with
   | true => cI h ids is
   | false => false
theorem cIo {h : List (Option LB)} {ids : List Nat} : ∀ {is : List Nat}, cI h ids is = true → ∀ i ∈ is, ∀ ty cs, h[i]? = some (some (.box ty cs)) → ∀ k ∈ AV.idsL cs, k ∈ ids
 | [], _, i, hi, _, _, _, _, _ => by simp at hi
 | j :: is, hc, i, hi, ty, cs, e, k, hk => by
   unfold cI at hc
   split at hc
   ·rename_i e1
    rcases List.mem_cons.1 hi with e2 | e2
    ·subst e2; exact subNat_mem e1 (by rw [e]; exact hk)
    ·exact cIo hc i e2 ty cs e k hk
   ·cases hc
def bI (ids : List Nat) (N m : Nat) (j : Nat) : Nat := match Nat.blt j m with
 | true => ids.getD j 0
 | false => N + (j - m)
theorem backId_lt {ids : List Nat} {N m j : Nat} (h : j < m) : bI ids N m j = ids.getD j 0 := by
 have : Nat.blt j m = true := by rw [Nat.blt_eq]; exact h
 simp [bI, this]
theorem backId_ge {ids : List Nat} {N m j : Nat} (h : m ≤ j) : bI ids N m j = N + (j - m) := by
 have : Nat.blt j m = false := by
  cases e : Nat.blt j m with
  | true => rw [Nat.blt_eq] at e; omega
  | false => rfl
 simp [bI, this]
def backH (h : List (Option LB)) (ids : List Nat) (h1 : List (Option LB)) : List (Option LB) :=
 pI1 h ids ((renH (bI ids h.length ids.length) h1).take ids.length) ++ (renH (bI ids h.length ids.length) h1).drop ids.length

theorem SRV.callG {C : Ctx} {V st a w} (h : SRV C V st a w) {P : Program} {f : FuncId} {ms : List Bool} {cs : List AV} {ids : List Nat} {r : AV} {h1 : List (Option LB)} {vs : Array Value} (hvs : vs.size = cs.length)
  (hr : ∀ (i : Nat) (c : AV) (x : Value), cs[i]? = some c → vs[i]? = some x → R w (Stb C.A w st.h V) V st.h.length c x) (hnd : ids.Nodup) (hocc : ∀ k ∈ wIds ms cs, k ∈ ids) (hlive0 : ∀ i ∈ ids, ∃ lb, st.h[i]? = some (some lb))
  (hclos : ∀ i ∈ ids, ∀ ty cs, st.h[i]? = some (some (.box ty cs)) → ∀ k ∈ AV.idsL cs, k ∈ ids)
  (hs : Spec P f (passL (fun i => posOf i ids) (kI st.h ids) ms cs) (renH (fun i => posOf i ids) (lentH st.h ids)) r h1) (hl1 : ids.length ≤ h1.length) (hsafe : bImm ms cs = true ∨ (r.noTree = true ∧ rNT h1)) :
  Calls P f vs w fun e w' => ∃ x V2, e = .returned x ∧ SRV C V2 ⟨st.s, backH st.h ids h1⟩ a w' ∧ R w' (Stb C.A w' (backH st.h ids h1) V2) V2 (backH st.h ids h1).length (r.ren (bI ids st.h.length ids.length)) x ∧ Kept (fun b => ∃ i ∈ ids, (V i).blk = b) w w' := by
 let V0 : Nat → Info := fun j => V (ids.getD j 0)
 let hin := renH (fun i => posOf i ids) (lentH st.h ids)
 let hk := kI st.h ids
 let S0 : Nat → Prop := fun b => if bImm ms cs = true then Stb C.A w st.h V b else Lent C.A w st.h hk V b
 let N := st.h.length
 let m := ids.length
 have hinl : hin.length = m := by simp only [hin, rHl, lHl, m]
 have hV0 : ∀ j i, ids[j]? = some i → V0 j = V i := fun j i e => by simp only [V0, List.getD, e, Option.getD_some]
 have hlt : ∀ i ∈ ids, i < N := fun i hi => by obtain ⟨lb, e⟩ := hlive0 i hi; exact (List.getElem?_eq_some_iff.1 e).1
 have hlent : ∀ (j : Nat) (lb : LB), hin[j]? = some (some lb) → ∃ i lb0, ids[j]? = some i ∧ st.h[i]? = some (some lb0) ∧ lb = renB (fun i => posOf i ids) lb0 := fun j lb e => by
  have e : (renH (fun i => posOf i ids) (lentH st.h ids))[j]? = some (some lb) := e
  rw [rHg] at e
  obtain ⟨o, e1, e2⟩ := Option.map_eq_some_iff.1 e
  obtain ⟨lb0, rfl, e3⟩ := rLs e2
  rw [lHg] at e1
  obtain ⟨i, e4, e5⟩ := Option.map_eq_some_iff.1 e1
  refine ⟨i, lb0, e4, ?_, e3⟩
  cases e6 : st.h[i]? with
  | none => rw [e6] at e5; cases e5
  | some o => rw [e6] at e5; simp at e5; rw [e5]
 have hksub : ∀ (id : Nat) (lb : LB), hk[id]? = some (some lb) → st.h[id]? = some (some lb) := fun id lb e => (kIg _ _ _ _ e).2
 have hS0lt : ∀ b, S0 b → b < w.heap.size := fun b hb => by
  simp only [S0] at hb
  split at hb
  ·exact hb.2.1
  ·rcases hb with hb | ⟨id, lb, e, rfl⟩
   ·exact hb.2.1
   ·exact h.hr.lt (hksub id lb e)
 have hStbS0 : ∀ b, Stb C.A w st.h V b → S0 b := fun b hb => by
  simp only [S0]; split
  ·exact hb
  ·exact .inl hb
 have hS : ∀ b, Stb C.A w st.h V b → Stb (atR S0 hin V0 w) w hin V0 b := fun b hb => ⟨.inl (hStbS0 b hb), hb.2.1, fun j lb e => by
  obtain ⟨i, lb0, e1, e2, _⟩ := hlent j lb e
  rw [hV0 j i e1]; exact hb.2.2 i lb0 e2⟩
 have hidx : ∀ j j' i, ids[j]? = some i → ids[j']? = some i → j = j' := fun j j' i e1 e2 => by
  have f1 := List.getElem?_eq_some_iff.1 e1
  have f2 := List.getElem?_eq_some_iff.1 e2
  exact (List.getElem_inj hnd).1 (f1.2.trans f2.2.symm)
 have hren0 : ∀ i ∈ ids, posOf i ids < hin.length ∧ V0 (posOf i ids) = V i := fun i hi => by
  obtain ⟨g1, g2⟩ := pOg hi
  exact ⟨by rw [hinl]; exact g1, by simp only [V0, g2]⟩
 have hhr : HR w (blkOf hin V0) (atR S0 hin V0 w) V0 hin w := by
  refine ⟨fun j j' lj lj' e1 e2 hne => ?_, fun j lb e => ?_, fun j lb e _ => ⟨j, lb, e, rfl⟩⟩
  ·obtain ⟨i, l0, f1, f2, _⟩ := hlent j lj e1
   obtain ⟨i', l0', f3, f4, _⟩ := hlent j' lj' e2
   rw [hV0 j i f1, hV0 j' i' f3]
   refine h.hr.inj i i' l0 l0' f2 f4 fun e => hne ?_
   subst e; exact hidx j j' i f1 f3
  ·obtain ⟨i, lb0, f1, f2, rfl⟩ := hlent j lb e
   obtain ⟨cur, hc⟩ := h.hr.blk i lb0 f2
   rw [hV0 j i f1]
   refine ⟨cur, ?_⟩
   have hi := List.mem_of_getElem? f1
   cases lb0 with
   | box ty cells =>
     refine ⟨by simpa [renB, LB.sz, rLl] using hc.sz, hc.ln, hc.heap, fun k jj c g1 g2 => ?_, fun g => by simp [renB, LB.isArr] at g, fun _ => by simpa [renB, LB.sz, LB.len, rLl] using hc.box rfl, fun g => by simp [renB, LB.isArr] at g⟩
     simp only [renB, LB.rows, rLg] at g2
     obtain ⟨c', e3, rfl⟩ := Option.map_eq_some_iff.1 g2
     obtain ⟨x, k1, k2, k3⟩ := hc.cell k jj c' g1 e3
     refine ⟨x, by simpa [renB, LB.sz, rLl] using k1, k2, ?_⟩
     exact (k3.renOcc (ρ := fun i => posOf i ids) (V' := V0) (N' := hin.length) fun q hq _ => hren0 q (hclos i hi ty cells f2 q (idsL_mem e3 hq))).mono (fun b hb => ⟨hS b hb, rfl⟩) (fun _ _ => rfl) (Nat.le_refl _)
   | arr ty t xs =>
     have hst : ∀ (k j : Nat) (c : AV) (x : Value), k < xs.length → (rowT t xs k)[j]? = some c → cur[k * t.n + j]? = some x → Rt w (Stb (atR S0 hin V0 w) w hin V0) c x := fun k jj c x g1 g2 g3 => (hc.still rfl k jj c x g1 g2 g3).mono fun b hb => ⟨hS b hb, rfl⟩
     refine ⟨hc.sz, hc.ln, hc.heap, fun k jj c g1 g2 => ?_, fun _ => hst, hc.box, hc.own⟩
     obtain ⟨x, k1, k2, _⟩ := hc.cell k jj c g1 g2
     exact ⟨x, k1, k2, .imm _ _ (hst k jj c x g1 g2 k1)⟩
 have hGB : ∀ b, C.GB b → b < w.heap.size ∧ ¬ blkOf hin V0 b ∧ S0 b := fun b hb => by
  have hst := h.stbGB hb
  refine ⟨hst.2.1, fun ⟨j, lb, e1, e2⟩ => ?_, hStbS0 b hst⟩
  obtain ⟨i, lb0, f1, f2, _⟩ := hlent j lb e1
  rw [hV0 j i f1] at e2
  exact hst.2.2 i lb0 f2 e2
 refine (hs w C.GB V0 S0 vs h.laid hGB hhr (by rw [pLl]; exact hvs) fun i c x e1 e2 => ?_).mono ?_
 ·obtain ⟨c', e3, ⟨rfl, e4⟩ | ⟨rfl, e4⟩⟩ := pLg _ _ _ _ _ _ e1
  ·exact ((hr i c' x e3 e2).renOcc (ρ := fun i => posOf i ids) (V' := V0) (N' := hin.length) fun k hk _ => hren0 k (hocc k (e4 k hk))).mono (fun b hb => ⟨hS b hb, rfl⟩) (fun _ _ => rfl) (Nat.le_refl _)
  ·by_cases hb : bImm ms cs = true
   ·exact .imm _ _ ((((hr i c' x e3 e2).toImm (e4 hb)).lendImm (h := hk)).mono fun b hb => ⟨hS b hb, rfl⟩)
   ·refine .imm _ _ ((h.lend hksub (hr i c' x e3 e2)).mono fun b hb' => ⟨⟨.inl (by simp only [S0, if_neg hb]; exact hb'), ?_, fun j lb e => ?_⟩, rfl⟩)
    ·rcases hb' with hb' | ⟨id, lb, e, rfl⟩
     ·exact hb'.2.1
     ·exact h.hr.lt (hksub id lb e)
    ·obtain ⟨i', lb0, f1, f2, _⟩ := hlent j lb e
     rw [hV0 j i' f1]
     rcases hb' with hb' | ⟨id, lb', e', rfl⟩
     ·exact hb'.2.2 i' lb0 f2
     ·obtain ⟨g1, g2⟩ := kIg _ _ _ _ e'
      exact h.hr.inj i' id lb0 lb' f2 g2 fun e => g1 (e ▸ List.mem_of_getElem? f1)
 ·rintro e w' ⟨x, V', rfl, hkept, _, hV', hhr', hres⟩
  let ρ := bI ids N m
  let V2 : Nat → Info := fun i => if i < N then V i else V' (m + (i - N))
  have hH2 : backH st.h ids h1 = pI1 st.h ids ((renH ρ h1).take m) ++ (renH ρ h1).drop m := rfl
  have hrl : (renH ρ h1).length = h1.length := rHl ..
  have hpl : (pI1 st.h ids ((renH ρ h1).take m)).length = N := pIl ..
  have hlen2 : (backH st.h ids h1).length = N + (h1.length - m) := by rw [hH2, List.length_append, hpl, List.length_drop, hrl]
  have hV2old : ∀ i, i < N → V2 i = V i := fun i hi => by simp [V2, hi]
  have hρ : ∀ j, j < h1.length → ρ j < (backH st.h ids h1).length ∧ V2 (ρ j) = V' j := fun j hj => by
   by_cases hjm : j < m
   ·have e1 : ids[j]? = some ids[j] := List.getElem?_eq_getElem hjm
    have e2 : ids.getD j 0 = ids[j] := by simp [List.getD, e1]
    have e3 := hlt _ (List.getElem_mem hjm)
    simp only [ρ, backId_lt hjm, e2]
    refine ⟨by omega, ?_⟩
    rw [hV2old _ e3, hV' j (by rw [hinl]; exact hjm), hV0 j _ e1]
   ·have hjm := Nat.le_of_not_lt hjm
    simp only [ρ, backId_ge hjm]
    refine ⟨by omega, ?_⟩
    have : ¬ (N + (j - m) < N) := by omega
    simp only [V2, this, if_false]
    congr 1; omega
  have hl : ∀ (i : Nat) (lb : LB), (backH st.h ids h1)[i]? = some (some lb) → (∃ j lb0, j < h1.length ∧ i = ρ j ∧ h1[j]? = some (some lb0) ∧ lb = renB ρ lb0) ∨ (i < N ∧ i ∉ ids ∧ st.h[i]? = some (some lb)) := fun i lb e => by
   rw [hH2] at e
   by_cases hi : i < N
   ·rw [List.getElem?_append_left (by rw [hpl]; exact hi)] at e
    rcases putIds_get st.h ids ((renH ρ h1).take m) hnd (by rw [List.length_take, hrl]; omega) hlt i with ⟨j, e1, e2⟩ | ⟨e1, e2⟩
    ·have hjm : j < m := (List.getElem?_eq_some_iff.1 e1).1
     rw [e2, List.getElem?_take, if_pos hjm, rHg] at e
     obtain ⟨o, f1, f2⟩ := Option.map_eq_some_iff.1 e
     obtain ⟨lb0, rfl, f3⟩ := rLs f2
     refine .inl ⟨j, lb0, by omega, ?_, f1, f3⟩
     simp only [ρ, backId_lt hjm, List.getD, e1, Option.getD_some]
    ·rw [e2] at e; exact .inr ⟨hi, e1, e⟩
   ·rw [List.getElem?_append_right (by omega), hpl, List.getElem?_drop, rHg] at e
    obtain ⟨o, f1, f2⟩ := Option.map_eq_some_iff.1 e
    obtain ⟨lb0, rfl, f3⟩ := rLs f2
    have hj := (List.getElem?_eq_some_iff.1 f1).1
    refine .inl ⟨m + (i - N), lb0, hj, ?_, f1, f3⟩
    simp only [ρ]
    rw [backId_ge (by omega)]; omega
  have hlent' : ∀ (i : Nat) (lb : LB), i ∈ ids → st.h[i]? = some (some lb) → blkOf hin V0 (V i).blk := fun i lb hi e => by
   obtain ⟨g1, g2⟩ := pOg hi
   have e1 : ids[posOf i ids]? = some i := by
    rw [List.getElem?_eq_getElem g1]; simp [List.getD, g1] at g2; rw [g2]
   refine ⟨posOf i ids, renB (fun i => posOf i ids) lb, ?_, by rw [hV0 _ i e1]⟩
   simp only [hin, rHg, lHg, e1, Option.map_some, e, Option.getD_some, renLB]
  have hnotM : ∀ b, (∀ (i : Nat) (lb : LB), st.h[i]? = some (some lb) → i ∈ ids → (V i).blk ≠ b) → ¬ blkOf hin V0 b := fun b hb ⟨j, lb, e1, e2⟩ => by
   obtain ⟨i, lb0, f1, f2, _⟩ := hlent j lb e1
   rw [hV0 j i f1] at e2
   exact hb i lb0 f2 (List.mem_of_getElem? f1) e2
  -- a block that the callee has left is one of those lent, or new
  have hnew : ∀ (j : Nat) (lb0 : LB), h1[j]? = some (some lb0) → (∃ i lb, i ∈ ids ∧ st.h[i]? = some (some lb) ∧ (V i).blk = (V' j).blk) ∨ w.heap.size ≤ (V' j).blk := fun j lb0 e => by
   rcases Nat.lt_or_ge (V' j).blk w.heap.size with hb | hb
   ·obtain ⟨j', lb', e1, e2⟩ := hhr'.mine j lb0 e hb
    obtain ⟨i, l0, f1, f2, _⟩ := hlent j' lb' e1
    rw [hV0 j' i f1] at e2
    exact .inl ⟨i, l0, List.mem_of_getElem? f1, f2, e2⟩
   ·exact .inr hb
  have hS2 : ∀ b, Stb C.A w st.h V b → Stb C.A w' (backH st.h ids h1) V2 b ∧ w'.heap[b]? = w.heap[b]? := fun b hb => by
   refine ⟨⟨hb.1, Nat.lt_of_lt_of_le hb.2.1 hkept.size, fun i lb e => ?_⟩, hkept.block b hb.2.1 (hnotM b fun i lb e _ => hb.2.2 i lb e)⟩
   rcases hl i lb e with ⟨j, lb0, hj, rfl, e1, _⟩ | ⟨hi, _, e1⟩
   ·rw [(hρ j hj).2]
    rcases hnew j lb0 e1 with ⟨i, l, _, f2, f3⟩ | hge
    ·rw [← f3]; exact hb.2.2 i l f2
    ·have := hb.2.1; omega
   ·rw [hV2old i hi]; exact hb.2.2 i lb e1
  -- what the callee's trees lie in is at rest for the caller too, or there are none
  have hStb : bImm ms cs = true → ∀ b, Stb (atR S0 hin V0 w) w' h1 V' b → Stb C.A w' (backH st.h ids h1) V2 b := fun himm b hb => by
   have hb1 : Stb C.A w st.h V b ∨ w.heap.size ≤ b ∨ ∃ i lb, i ∈ ids ∧ st.h[i]? = some (some lb) ∧ (V i).blk = b := by
    rcases hb.1 with g | g | ⟨j, lb, e1, e2⟩
    ·simp only [S0, himm, if_true] at g; exact .inl g
    ·exact .inr (.inl g)
    ·obtain ⟨i, lb0, f1, f2, _⟩ := hlent j lb e1
     rw [hV0 j i f1] at e2
     exact .inr (.inr ⟨i, lb0, List.mem_of_getElem? f1, f2, e2⟩)
   refine ⟨?_, hb.2.1, fun i lb e => ?_⟩
   ·rcases hb1 with g | g | ⟨i, lb, g1, g2, rfl⟩
    ·exact g.1
    ·exact C.hA b (Nat.le_trans h.kept.size g)
    ·exact h.inA g2
   ·rcases hl i lb e with ⟨j, lb0, hj, rfl, e1, _⟩ | ⟨hi, hni, e1⟩
    ·rw [(hρ j hj).2]; exact hb.2.2 j lb0 e1
    ·rw [hV2old i hi]
     rcases hb1 with g | g | ⟨i', lb', g1, g2, rfl⟩
     ·exact g.2.2 i lb e1
     ·have := h.hr.lt e1; omega
     ·exact h.hr.inj i i' lb lb' e1 g2 fun e => hni (e ▸ g1)
  have hTt : ∀ (c : AV) (x : Value), (bImm ms cs = true) ∨ c.noTree = true → Rt w' (Stb (atR S0 hin V0 w) w' h1 V') c x → Rt w' (Stb C.A w' (backH st.h ids h1) V2) c x := fun c x hh hr => by
   rcases hh with himm | hn
   ·exact hr.mono fun b hb => ⟨hStb himm b hb, rfl⟩
   ·exact hr.noTree hn
  have hT : ∀ (c : AV) (x : Value), (bImm ms cs = true) ∨ c.noTree = true → R w' (Stb (atR S0 hin V0 w) w' h1 V') V' h1.length c x → R w' (Stb C.A w' (backH st.h ids h1) V2) V2 (backH st.h ids h1).length (c.ren ρ) x := fun c x hh hr => by
   refine R.ren (ρ := ρ) ?_ hρ
   rcases hh with himm | hn
   ·exact hr.mono (fun b hb => ⟨hStb himm b hb, rfl⟩) (fun _ _ => rfl) (Nat.le_refl _)
   ·exact hr.noTree hn
  refine ⟨x, V2, rfl, ?_, hT r x (hsafe.imp id (·.1)) hres, ⟨hkept.os, hkept.tape, hkept.output, hkept.size, fun k hk hm => hkept.block k hk (hnotM k fun i _ _ hi e => hm ⟨i, hi, e⟩)⟩⟩
  refine h.step (h' := backH st.h ids h1) ⟨hkept.os.trans h.kept.os, hkept.tape.trans h.kept.tape, hkept.output.trans h.kept.output, Nat.le_trans h.kept.size hkept.size, fun k hk hm => ?_⟩ ⟨fun i j li lj e1 e2 hne => ?_, fun i lb e => ?_, fun i lb e hlt2 => ?_⟩ hS2 hV2old (by rw [hlen2]; omega)
  ·rw [hkept.block k (Nat.lt_of_lt_of_le hk h.kept.size) (hnotM k fun i lb e _ e2 => hm (e2 ▸ h.hr.mine i lb e (e2 ▸ hk)))]
   exact h.kept.block k hk hm
  ·have key : ∀ (j : Nat) (lb0 : LB) (i : Nat) (lb : LB), h1[j]? = some (some lb0) → i ∉ ids → st.h[i]? = some (some lb) → (V' j).blk ≠ (V i).blk := fun j lb0 i lb e1 e2 e3 e4 => by
    rcases hnew j lb0 e1 with ⟨i', l, f1, f2, f3⟩ | hge
    ·exact h.hr.inj i' i l lb f2 e3 (fun e => e2 (e ▸ f1)) (f3.trans e4)
    ·have := h.hr.lt e3; omega
   rcases hl i li e1 with ⟨q, l0, hq, rfl, g1, _⟩ | ⟨hi, g2, g1⟩ <;> rcases hl j lj e2 with ⟨q', l0', hq', rfl, g3, _⟩ | ⟨hj, g4, g3⟩
   ·rw [(hρ q hq).2, (hρ q' hq').2]
    exact hhr'.inj q q' l0 l0' g1 g3 fun e => hne (by rw [e])
   ·rw [(hρ q hq).2, hV2old j hj]; exact key q l0 j lj g1 g4 g3
   ·rw [(hρ q' hq').2, hV2old i hi]; exact fun e => key q' l0' i li g3 g2 g1 e.symm
   ·rw [hV2old i hi, hV2old j hj]; exact h.hr.inj i j li lj g1 g3 hne
  ·rcases hl i lb e with ⟨j, lb0, hj, rfl, e1, rfl⟩ | ⟨hi, g2, e1⟩
   ·obtain ⟨cur, hc⟩ := hhr'.blk j lb0 e1
    rw [(hρ j hj).2]
    refine ⟨cur, ?_⟩
    have hcells : ∀ (k i : Nat) (c : AV), k < lb0.len → (lb0.rows k)[i]? = some c → (bImm ms cs = true) ∨ c.noTree = true := fun k i c g1 g2 => by
     rcases hsafe with h5 | ⟨_, h5⟩
     ·exact .inl h5
     ·exact .inr (h5 j lb0 e1 k i c g1 g2)
    cases lb0 with
    | box ty cells =>
      refine ⟨by simpa [renB, LB.sz, rLl] using hc.sz, hc.ln, hc.heap, fun k jj c g1 g2 => ?_, fun g => by simp [renB, LB.isArr] at g, fun _ => by simpa [renB, LB.sz, LB.len, rLl] using hc.box rfl, fun g => by simp [renB, LB.isArr] at g⟩
      simp only [renB, LB.rows, rLg] at g2
      obtain ⟨c', e3, rfl⟩ := Option.map_eq_some_iff.1 g2
      obtain ⟨y, k1, k2, k3⟩ := hc.cell k jj c' g1 e3
      exact ⟨y, by simpa [renB, LB.sz, rLl] using k1, k2, hT c' y (hcells k jj c' g1 e3) k3⟩
    | arr ty t xs =>
      have hst : ∀ (k j : Nat) (c : AV) (x : Value), k < xs.length → (rowT t xs k)[j]? = some c → cur[k * t.n + j]? = some x → Rt w' (Stb C.A w' (backH st.h ids h1) V2) c x := fun k jj c y g1 g2 g3 => hTt c y (hcells k jj c g1 g2) (hc.still rfl k jj c y g1 g2 g3)
      refine ⟨hc.sz, hc.ln, hc.heap, fun k jj c g1 g2 => ?_, fun _ => hst, hc.box, hc.own⟩
      obtain ⟨y, k1, k2, _⟩ := hc.cell k jj c g1 g2
      exact ⟨y, k1, k2, .imm _ _ (hst k jj c y g1 g2 k1)⟩
   ·obtain ⟨cur, hc⟩ := h.hr.blk i lb e1
    rw [hV2old i hi]
    refine ⟨cur, hc.mono hS2 hV2old (by rw [hlen2]; omega) (hkept.block _ (h.hr.lt e1) (hnotM _ fun i' lb' f1 f2 f3 => ?_))⟩
    exact h.hr.inj i' i lb' lb f1 e1 (fun e => g2 (e ▸ f2)) f3
  ·rcases hl i lb e with ⟨j, lb0, hj, rfl, e1, _⟩ | ⟨hi, _, e1⟩
   ·rw [(hρ j hj).2] at hlt2 ⊢
    rcases hnew j lb0 e1 with ⟨i, l, f1, f2, f3⟩ | hge
    ·rw [← f3] at hlt2 ⊢; exact h.hr.mine i l f2 hlt2
    ·have := h.kept.size; omega
   ·rw [hV2old i hi] at hlt2 ⊢; exact h.hr.mine i lb e1 hlt2

def St.callee (st : St) (c : Call) : Option (FuncId × List AV) :=
 match c.callee with
 | .value x => match st.ev x with
   | .fn f cap => some (f, c.args.toList.map st.ev ++ cap)
   | _ => none
 | _ => none

def E1 (P : Program) (f : FuncId) : Prop := ∀ args w, (callFunc f args).run P w = .ok (.enter f args) w

theorem SRV.callee {P : Program} {o : Oper} {C : Ctx} {V st a w} (h : SRV C V st a w) {c : Call} {f : FuncId} {cs : List AV} (hc : st.callee c = some (f, cs)) (ho : o.op = .call c) (hent : E1 P f) :
  ∃ vs : Array Value, (∀ w', (execOp a.eval o).run P w' = .ok (.enter f vs) w') ∧ vs.size = cs.length ∧ ∀ (i : Nat) (c : AV) (x : Value), cs[i]? = some c → vs[i]? = some x → R w (Stb C.A w st.h V) V st.h.length c x := by
 unfold St.callee at hc
 split at hc
 ·rename_i x hx
  split at hc
  ·rename_i f' cap hf
   simp only [Option.some.injEq, Prod.mk.injEq] at hc
   obtain ⟨rfl, rfl⟩ := hc
   obtain ⟨vs, e, hl, hr⟩ := (hf ▸ h.ev x).fn_inv
   refine ⟨c.args.map a.eval ++ vs, fun w' => ?_, by simp [hl], fun i c' y h1 h2 => ?_⟩
   ·simp [execOp, ho, resolve, hx, e, Deferred.ofValue, invoke, hent _ w']
   ·by_cases hi : i < c.args.size
    ·rw [List.getElem?_append_left (by simpa using hi)] at h1
     rw [Array.getElem?_append_left (by simpa using hi)] at h2
     simp [hi] at h1 h2
     subst h1 h2; exact h.ev _
    ·rw [List.getElem?_append_right (by simp; omega)] at h1
     rw [Array.getElem?_append_right (by simp; omega)] at h2
     simp at h1 h2
     exact hr _ c' y h1 h2
  ·cases hc
 ·cases hc

end Go.Proofs.YtaobinhdnklojaaGreatDoor
namespace Go.Proofs.YtaobinhdnklojaaGreatDoor
open Go.RowKit

mutual
def Ty.same : Ty → Ty → Bool
 | .int k, .int k' => decide (k = k')
 | .bool, .bool => true
 | .str, .str => true
 | .st fs, .st gs => Ty.sames fs gs
 | .sl e, .sl e' => Ty.same e e'
 | _, _ => false
def Ty.sames : List Ty → List Ty → Bool
 | [], [] => true
 | t :: ts, u :: us => match Ty.same t u with
   | true => Ty.sames ts us
   | false => false
 | _, _ => false
end
mutual
theorem se2 : ∀ {t u : Ty}, Ty.same t u = true → t = u
 | .int k, .int k', h => by simp [Ty.same] at h; rw [h]
 | .bool, .bool, _ => rfl
 | .str, .str, _ => rfl
 | .st fs, .st gs, h => by rw [sames_eq (ts := fs) (us := gs) (by simpa [Ty.same] using h)]
 | .sl e, .sl e', h => by rw [se2 (t := e) (u := e') (by simpa [Ty.same] using h)]
 | .int _, .bool, h => by simp [Ty.same] at h
 | .int _, .str, h => by simp [Ty.same] at h
 | .int _, .st _, h => by simp [Ty.same] at h
 | .int _, .sl _, h => by simp [Ty.same] at h
 | .bool, .int _, h => by simp [Ty.same] at h
 | .bool, .str, h => by simp [Ty.same] at h
 | .bool, .st _, h => by simp [Ty.same] at h
 | .bool, .sl _, h => by simp [Ty.same] at h
 | .str, .int _, h => by simp [Ty.same] at h
 | .str, .bool, h => by simp [Ty.same] at h
 | .str, .st _, h => by simp [Ty.same] at h
 | .str, .sl _, h => by simp [Ty.same] at h
 | .st _, .int _, h => by simp [Ty.same] at h
 | .st _, .bool, h => by simp [Ty.same] at h
 | .st _, .str, h => by simp [Ty.same] at h
 | .st _, .sl _, h => by simp [Ty.same] at h
 | .sl _, .int _, h => by simp [Ty.same] at h
 | .sl _, .bool, h => by simp [Ty.same] at h
 | .sl _, .str, h => by simp [Ty.same] at h
 | .sl _, .st _, h => by simp [Ty.same] at h
theorem sames_eq : ∀ {ts us : List Ty}, Ty.sames ts us = true → ts = us
 | [], [], _ => rfl
 | t :: ts, u :: us, h => by
   unfold Ty.sames at h
   split at h
   ·rename_i e; rw [se2 e, sames_eq h]
   ·cases h
 | [], _ :: _, h => by simp [Ty.sames] at h
 | _ :: _, [], h => by simp [Ty.sames] at h
end
def castL {t u : Ty} (h : t = u) (xs : List t.den) : List u.den := h ▸ xs
def decInt (k : IntKind) : List AV → Option Int
 | [.v (.int k' n)] => match decide (k' = k) with
   | true => some n
   | false => none
 | _ => none
def decBool : List AV → Option Bool
 | [c] => c.b?
 | _ => none
def decStr : List AV → Option ByteArray
 | [.v (.string s)] => some s
 | _ => none
def decSl (e : Ty) : List AV → Option (List e.den)
 | [.v (.slice none 0 0)] => some []
 | [.tree t xs] => if h : Ty.same t e = true then some (castL (se2 h) xs) else none
 | _ => none
mutual
def Ty.dec : (t : Ty) → List AV → Option t.den
 | .int k, cs => decInt k cs
 | .bool, cs => decBool cs
 | .str, cs => decStr cs
 | .st fs, cs => Ty.decs fs cs
 | .sl e, cs => decSl e cs
def Ty.decs : (ts : List Ty) → List AV → Option (Ty.dens ts)
 | [], cs => match cs with
   | [] => some ()
   | _ :: _ => none
 | t :: ts, cs => match Ty.dec t (cs.take t.n), Ty.decs ts (cs.drop t.n) with
   | some x, some y => some (x, y)
   | _, _ => none
end
def AV.imp (c c' : AV) : Prop := ∀ w S x, Rt w S c x → Rt w S c' x
theorem nil_imp (t : Ty) : AV.imp (.v (.slice none 0 0)) (.tree t []) := fun w S x h => by
 cases h
 exact .tree t [] none 0 0 0 0 (fun _ _ => .bool false) rfl (Nat.zero_le _) (Nat.le_refl _) (Nat.zero_le _) (fun h => absurd h (Nat.lt_irrefl _)) (fun k j c h => absurd h (Nat.not_lt_zero _)) (fun k j c h => absurd h (Nat.not_lt_zero _))
theorem b_imp {c : AV} {b : Bool} (h : c.b? = some b) : AV.imp c (.bl b) := fun w S x hr => by
 unfold AV.b? at h
 split at h
 ·cases h; exact hr
 ·cases h; cases hr; exact .bl _
 ·cases h
def DecOk (cs r : List AV) : Prop := ∀ (j : Nat) (c c' : AV), cs[j]? = some c → r[j]? = some c' → c.imp c'
theorem DecOk.one {c c' : AV} (h : c.imp c') : DecOk [c] [c'] := fun j d d' e1 e2 => by
 cases j with
 | zero => simp at e1 e2; subst e1 e2; exact h
 | succ j => simp at e1
theorem decInt_sound {k : IntKind} {cs : List AV} {x : Int} (h : decInt k cs = some x) : cs.length = 1 ∧ DecOk cs [.v (.int k x)] := by
 unfold decInt at h
 split at h
 ·split at h
  ·rename_i e
   cases h
   obtain rfl := of_decide_eq_true e
   exact ⟨rfl, .one fun _ _ _ h => h⟩
  ·cases h
 ·cases h
theorem decBool_sound {cs : List AV} {x : Bool} (h : decBool cs = some x) : cs.length = 1 ∧ DecOk cs [.bl x] := by
 unfold decBool at h
 split at h
 ·exact ⟨rfl, .one (b_imp h)⟩
 ·cases h
theorem decStr_sound {cs : List AV} {x : ByteArray} (h : decStr cs = some x) : cs.length = 1 ∧ DecOk cs [.v (.string x)] := by
 unfold decStr at h
 split at h
 ·cases h; exact ⟨rfl, .one fun _ _ _ h => h⟩
 ·cases h
theorem decSl_sound {e : Ty} {cs : List AV} {x : List e.den} (h : decSl e cs = some x) : cs.length = 1 ∧ DecOk cs [.tree e x] := by
 unfold decSl at h
 split at h
 ·cases h; exact ⟨rfl, .one (nil_imp _)⟩
 ·split at h
  ·rename_i hs
   cases h
   have := se2 hs
   subst this
   exact ⟨rfl, .one fun _ _ _ h => h⟩
  ·cases h
 ·cases h
mutual
theorem ds1 : ∀ (t : Ty) (cs : List AV) (x : t.den), t.dec cs = some x → cs.length = t.n ∧ DecOk cs (t.enc x)
 | .int _, _, _, h => decInt_sound h
 | .bool, _, _, h => decBool_sound h
 | .str, _, _, h => decStr_sound h
 | .st fs, cs, x, h => decs_sound fs cs x h
 | .sl _, _, _, h => decSl_sound h
theorem decs_sound : ∀ (ts : List Ty) (cs : List AV) (x : Ty.dens ts), Ty.decs ts cs = some x → cs.length = Ty.ns ts ∧ DecOk cs (Ty.encs ts x)
 | [], cs, x, h => by
   cases cs with
   | nil => exact ⟨rfl, fun j c c' e1 => by simp at e1⟩
   | cons c cs => simp [Ty.decs] at h
 | t :: ts, cs, x, h => by
   unfold Ty.decs at h
   split at h
   ·rename_i y z h1 h2
    cases h
    obtain ⟨g1, g2⟩ := ds1 t _ y h1
    obtain ⟨k1, k2⟩ := decs_sound ts _ z h2
    rw [List.length_take] at g1
    rw [List.length_drop] at k1
    have hn : t.n + Ty.ns ts = Ty.ns (t :: ts) := rfl
    have hle : t.n ≤ cs.length := by omega
    refine ⟨by omega, fun j c c' e1 e2 => ?_⟩
    simp only [Ty.encs] at e2
    by_cases hj : j < t.n
    ·rw [List.getElem?_append_left (by rw [el]; exact hj)] at e2
     exact g2 j c c' (by rw [List.getElem?_take, if_pos hj]; exact e1) e2
    ·rw [List.getElem?_append_right (by rw [el]; omega), el] at e2
     refine k2 (j - t.n) c c' ?_ e2
     rw [List.getElem?_drop, show t.n + (j - t.n) = j by omega]; exact e1
   ·cases h
end

def AV.cellOk (h : List (Option LB)) : AV → Bool
 | .any => false
 | .bl _ => true
 | .agg _ => false
 | .tup _ => false
 | .v x => x.oneCell'
 | .own id => match h[id]? with
   | some (some (.arr _ _ _)) => true
   | _ => false
 | .view id _ _ => match h[id]? with
   | some (some (.arr _ _ _)) => true
   | _ => false
 | .tree _ _ => true
 | .tptr _ _ _ _ => true
 | .bptr _ _ => true
 | .loc _ _ _ => true
 | .fn _ _ => true
def memCells (h : List (Option LB)) (c : AV) : Option (List AV) :=
 match c with
 | .agg cs => match cs.all (AV.cellOk h) with
   | true => some cs
   | false => none
 | c => match c.cellOk h with
   | true => some [c]
   | false => none

theorem SRV.oneCell {C : Ctx} {V st a w} (h : SRV C V st a w) {c : AV} {x : Value} (hr : R w (Stb C.A w st.h V) V st.h.length c x) (hc : c.cellOk st.h = true) : x.oneCell' = true := by
 cases c with
 | any => simp [AV.cellOk] at hc
 | agg cs => simp [AV.cellOk] at hc
 | tup cs => simp [AV.cellOk] at hc
 | v y => rw [hr.v_inv]; exact hc
 | bl b => rw [b_inv (c := .bl b) rfl hr]; rfl
 | tree t xs => cases hr.tree_inv; rfl
 | tptr t xs row off => cases hr.tptr_inv; rfl
 | bptr cs off => cases hr.bptr_inv; rfl
 | loc id row off => rw [hr.loc_inv.2.2]; rfl
 | own id =>
   rw [hr.own_inv]
   simp only [AV.cellOk] at hc
   split at hc
   ·rename_i ty t xs hlb
    obtain ⟨cur, hcur⟩ := h.hr.blk id _ hlb
    obtain ⟨cap, e, _⟩ := hcur.own rfl
    rw [e]; rfl
   ·cases hc
 | view id lo n =>
   simp only [AV.cellOk] at hc
   split at hc
   ·rename_i ty t xs hlb
    obtain ⟨_, cap, _, _, e⟩ := h.part hlb hr
    rw [e]; rfl
   ·cases hc
 | fn f cs => obtain ⟨vs, rfl, _⟩ := hr.fn_inv; rfl

theorem cells_of_one {x : Value} (h : x.oneCell' = true) : x.cells = #[x] := by
 cases x <;> first | rfl | cases h

theorem SRV.memCells {C : Ctx} {V st a w} (h : SRV C V st a w) {c : AV} {x : Value} {cs : List AV} (hr : R w (Stb C.A w st.h V) V st.h.length c x) (hc : Go.Proofs.YtaobinhdnklojaaGreatDoor.memCells st.h c = some cs) :
  x.cells.size = cs.length ∧ (∀ (i : Nat) (c : AV) (y : Value), cs[i]? = some c → x.cells[i]? = some y → R w (Stb C.A w st.h V) V st.h.length c y) ∧ ∀ y ∈ x.cells.toList, y.oneCell' = true := by
 have one : ∀ c : AV, R w (Stb C.A w st.h V) V st.h.length c x → c.cellOk st.h = true → cs = [c] → x.cells.size = cs.length ∧ (∀ (i : Nat) (c : AV) (y : Value), cs[i]? = some c → x.cells[i]? = some y → R w (Stb C.A w st.h V) V st.h.length c y) ∧ ∀ y ∈ x.cells.toList, y.oneCell' = true := by
  rintro c hr hok rfl
  have h1 := h.oneCell hr hok
  rw [cells_of_one h1]
  refine ⟨rfl, fun i c' y e1 e2 => ?_, fun y hy => by simp at hy; subst hy; exact h1⟩
  cases i with
  | zero => simp at e1 e2; subst e1 e2; exact hr
  | succ i => simp at e1
 unfold Go.Proofs.YtaobinhdnklojaaGreatDoor.memCells at hc
 split at hc
 ·rename_i cs'
  split at hc
  ·rename_i hall
   cases hc
   obtain ⟨vs, rfl, hl, hh⟩ := hr.agg_inv
   refine ⟨hl, hh, fun y hy => ?_⟩
   obtain ⟨i, hi, rfl⟩ := List.getElem_of_mem hy
   have hi' : i < cs.length := by rw [← hl]; simpa [Value.cells] using hi
   have hlen : i < vs.size := by rw [hl]; exact hi'
   exact h.oneCell (hh i cs[i] _ (List.getElem?_eq_getElem hi') (by simp [Value.cells, hlen])) (List.all_eq_true.1 hall _ (List.getElem_mem hi'))
  ·cases hc
 ·split at hc
  ·rename_i hok
   cases hc
   exact one _ hr hok rfl
  ·cases hc

section
variable {P : Program} {M : Nat → List Bool} {o : Oper} {st : St} {K : AV → St → Prop} {T : Nat → Option TI}

def newLB (t : Nat) (cs : List AV) : LB := .box t cs
theorem SRV.newBox {C : Ctx} {V st a w} (h : SRV C V st a w) (t : TypeId) (cs : List AV) (cur : Array Value) (hl : cur.size = cs.length)
  (hr : ∀ (i : Nat) (c : AV) (y : Value), cs[i]? = some c → cur[i]? = some y → R w (Stb C.A w st.h V) V st.h.length c y) (h1 : ∀ y ∈ cur.toList, y.oneCell' = true) :
  SRV C (updV V st.h.length ⟨w.heap.size, cs.length, 1, undef⟩) ⟨st.s, st.h ++ [some (newLB t cs)]⟩ a (w.alloc (.cells cur t)) ∧
  R (w.alloc (.cells cur t)) (Stb C.A (w.alloc (.cells cur t)) (st.h ++ [some (newLB t cs)]) (updV V st.h.length ⟨w.heap.size, cs.length, 1, undef⟩)) (updV V st.h.length ⟨w.heap.size, cs.length, 1, undef⟩) (st.h ++ [some (newLB t cs)]).length (.loc st.h.length 0 0) (.pointer (some ⟨w.heap.size, 0, none⟩)) := by
 have hs := h.alloc ⟨w.heap.size, cs.length, 1, undef⟩ (newLB t cs) cur rfl (fun S' V' N' hS hV hN => by
  refine ⟨rfl, rfl, ⟨_, heap_alloc_new w _, .inl rfl⟩, fun k j c e1 e2 => ?_, fun e => by simp [newLB, LB.isArr] at e, fun _ => by simp [hl, newLB, LB.len, LB.sz], fun e => by simp [newLB, LB.isArr] at e⟩
  have hk : k = 0 := by simp only [newLB, LB.len] at e1; omega
  subst hk
  simp only [newLB, LB.rows] at e2
  have hj : j < cur.size := by rw [hl]; exact (List.getElem?_eq_some_iff.1 e2).1
  refine ⟨cur[j], by simp [hj, newLB, LB.sz], h1 _ (by simp), ?_⟩
  refine (hr j c _ e2 (by simp [hj])).mono (fun b hb => ⟨hS b hb, ?_⟩) hV hN
  exact heap_alloc_old w _ hb.2.1)
 refine ⟨hs, ?_⟩
 have := R.loc (w := w.alloc (.cells cur t)) (S := Stb C.A (w.alloc (.cells cur t)) (st.h ++ [some (newLB t cs)]) (updV V st.h.length ⟨w.heap.size, cs.length, 1, undef⟩)) (V := updV V st.h.length ⟨w.heap.size, cs.length, 1, undef⟩) (N := (st.h ++ [some (newLB t cs)]).length) st.h.length 0 0 (by simp) (by simp [updV])
 simpa [updV] using this

def evBox (st : St) (t : Nat) (cs : Option (List AV)) (K : AV → St → Prop) : Prop :=
 match cs with
 | some cs => K (.loc st.h.length 0 0) ⟨st.s, st.h ++ [some (newLB t cs)]⟩
 | none => False
theorem edoes_box (t : TypeId) (x : Operand) (ho : o.op = .box t x) (hk : evBox st t (memCells st.h (st.ev x)) K) : EDoes P M o st K := by
 unfold evBox at hk
 split at hk
 ·rename_i cs hc
  intro C V a w h next Q hn
  obtain ⟨h1, h2, h3⟩ := h.memCells (h.ev x) hc
  obtain ⟨g1, g2⟩ := h.newBox t cs (a.eval x).cells h1 h2 h3
  have hrun : (execOp a.eval o).run P w = .ok (.value (.pointer (some ⟨w.heap.size, 0, none⟩))) (w.alloc (.cells (a.eval x).cells t)) := by
   simp [execOp, ho, Instr.box, newVar, newRow]
  unfold Oper.wp
  rw [hrun]
  exact hn _ _ _ _ _ hk g1 g2 fun _ => (Below.refl _ _).alloc (Nat.le_refl _) _
 ·exact hk.elim

def evAlloc (st : St) (t : Nat) (i : Option TI) (K : AV → St → Prop) : Prop :=
 match i with
 | some i => (i.zero.cells.toList.all Value.oneCell') = true ∧ K (.loc st.h.length 0 0) ⟨st.s, st.h ++ [some (newLB t (i.zero.cells.toList.map AV.v))]⟩
 | none => False
theorem edoes_alloc (hT : TOk P T) (t : TypeId) (ho : o.op = .alloc t) (hk : evAlloc st t (T t) K) : EDoes P M o st K := by
 unfold evAlloc at hk
 split at hk
 ·rename_i i hi
  obtain ⟨hz, hk⟩ := hk
  intro C V a w h next Q hn
  obtain ⟨g1, g2⟩ := h.newBox t (i.zero.cells.toList.map AV.v) i.zero.cells (by simp) (fun j c y e1 e2 => by
   simp only [List.getElem?_map, Array.getElem?_toList, e2, Option.map_some, Option.some.injEq] at e1
   subst e1; exact .imm _ _ (.v y)) (fun y hy => List.all_eq_true.1 hz y hy)
  have hrun : (execOp a.eval o).run P w = .ok (.value (.pointer (some ⟨w.heap.size, 0, none⟩))) (w.alloc (.cells i.zero.cells t)) := by
   simp [execOp, ho, Instr.alloc, newVar, newRow, (hT t i hi).zero]
  unfold Oper.wp
  rw [hrun]
  exact hn _ _ _ _ _ hk g1 g2 fun _ => (Below.refl _ _).alloc (Nat.le_refl _) _
 ·exact hk.elim


def frz (h : List (Option LB)) : List AV → List AV × List (Option LB)
 | [] => ([], h)
 | .own id :: cs => match h[id]? with
   | some (some (.arr _ t xs)) => match frz (h.set id none) cs with
     | (r, h') => (.tree t xs :: r, h')
   | _ => match frz h cs with
     | (r, h') => (.any :: r, h')
 | c :: cs => match frz h cs with
   | (r, h') => (c :: r, h')
theorem SRV.freeze {C : Ctx} {V st a w} (h : SRV C V st a w) {id ty : Nat} {t : Ty} {xs : List t.den} (e : st.h[id]? = some (some (.arr ty t xs))) {x : Value} (hx : x = (V id).val) :
  SRV C V ⟨st.s, st.h.set id none⟩ a w ∧ Rt w (Stb C.A w (st.h.set id none) V) (.tree t xs) x := by
 have h2 := h.drop id
 refine ⟨h2, ?_⟩
 obtain ⟨cur, hc⟩ := h.hr.blk id _ e
 obtain ⟨cap, e1, e2, e3, e4, e5⟩ := hc.own rfl
 have hlive : ∀ (i : Nat) (l : LB), (st.h.set id none)[i]? = some (some l) → i ≠ id ∧ st.h[i]? = some (some l) := fun i l e => by
  rw [List.getElem?_set] at e
  by_cases hi : id = i
  ·rw [if_pos hi] at e; split at e <;> simp at e
  ·rw [if_neg hi] at e; exact ⟨fun e => hi e.symm, e⟩
 have hS : ∀ b, Stb C.A w st.h V b → Stb C.A w (st.h.set id none) V b ∧ w.heap[b]? = w.heap[b]? := fun b hs => ⟨⟨hs.1, hs.2.1, fun i l e => hs.2.2 i l (hlive i l e).2⟩, rfl⟩
 rw [hx, e1]
 refine .tree t xs _ _ cap (V id).blk 0 (fun k j => (cur[k * t.n + j]?).getD undef) rfl e5 e2 e3 (fun _ => ⟨rfl, h.inA e, h.hr.lt e, fun i l e' => ?_⟩) (fun k j c g1 g2 => ?_) (fun k j c g1 g2 => ?_)
 ·obtain ⟨g1, g2⟩ := hlive i l e'
  exact h.hr.inj i id l _ g2 e g1
 ·obtain ⟨y, f1, f2, f3⟩ := hc.cell k j c g1 g2
  have f1' : cur[k * t.n + j]? = some y := f1
  rw [cell_of_row _ _ _ _ _ _ hc.heap.choose_spec.1, Nat.zero_add, f1']
  exact ⟨rfl, f2⟩
 ·obtain ⟨y, f1, f2, f3⟩ := hc.cell k j c g1 g2
  have f1' : cur[k * t.n + j]? = some y := f1
  simp only [f1', Option.getD_some]
  exact (hc.still rfl k j c y g1 g2 f1').mono hS
theorem SRV.frz {C : Ctx} {V a w} {s : Nat → AV} : ∀ (cs : List AV) (h : List (Option LB)) (ys : List Value), SRV C V ⟨s, h⟩ a w → ys.length = cs.length →
  (∀ (i : Nat) (c : AV) (y : Value), cs[i]? = some c → ys[i]? = some y → R w (Stb C.A w h V) V h.length c y) →
  SRV C V ⟨s, (frz h cs).2⟩ a w ∧ (frz h cs).1.length = cs.length ∧ (frz h cs).2.length = h.length ∧ (∀ b, Stb C.A w h V b → Stb C.A w (frz h cs).2 V b) ∧ ∀ (i : Nat) (c : AV) (y : Value), (frz h cs).1[i]? = some c → ys[i]? = some y → R w (Stb C.A w (frz h cs).2 V) V h.length c y
 | [], h, ys, hs, _, _ => ⟨hs, rfl, rfl, fun b hb => hb, fun i c y e => by simp [Go.Proofs.YtaobinhdnklojaaGreatDoor.frz] at e⟩
 | c :: cs, h, [], _, hl, _ => by simp at hl
 | c :: cs, h, y :: ys, hs, hl, hr => by
   have hr0 := hr 0 c y rfl rfl
   have hrt := fun (i : Nat) (c : AV) (y : Value) (e1 : cs[i]? = some c) (e2 : ys[i]? = some y) => hr (i + 1) c y (by simpa using e1) (by simpa using e2)
   have other : ∀ d : AV, R w (Stb C.A w h V) V h.length d y → Go.Proofs.YtaobinhdnklojaaGreatDoor.frz h (c :: cs) = (d :: (Go.Proofs.YtaobinhdnklojaaGreatDoor.frz h cs).1, (Go.Proofs.YtaobinhdnklojaaGreatDoor.frz h cs).2) →
     SRV C V ⟨s, (Go.Proofs.YtaobinhdnklojaaGreatDoor.frz h (c :: cs)).2⟩ a w ∧ (Go.Proofs.YtaobinhdnklojaaGreatDoor.frz h (c :: cs)).1.length = (c :: cs).length ∧ (Go.Proofs.YtaobinhdnklojaaGreatDoor.frz h (c :: cs)).2.length = h.length ∧ (∀ b, Stb C.A w h V b → Stb C.A w (Go.Proofs.YtaobinhdnklojaaGreatDoor.frz h (c :: cs)).2 V b) ∧ ∀ (i : Nat) (c' : AV) (y' : Value), (Go.Proofs.YtaobinhdnklojaaGreatDoor.frz h (c :: cs)).1[i]? = some c' → (y :: ys)[i]? = some y' → R w (Stb C.A w (Go.Proofs.YtaobinhdnklojaaGreatDoor.frz h (c :: cs)).2 V) V h.length c' y' := fun d hd e => by
    obtain ⟨g1, g2, g3, g4, g5⟩ := SRV.frz cs h ys hs (by simpa using hl) hrt
    rw [e]
    refine ⟨g1, by simp [g2], g3, g4, fun i c' y' e1 e2 => ?_⟩
    cases i with
    | zero => simp at e1 e2; subst e1 e2; exact hd.mono (fun b hb => ⟨g4 b hb, rfl⟩) (fun _ _ => rfl) (Nat.le_refl _)
    | succ i => exact g5 i c' y' (by simpa using e1) (by simpa using e2)
   by_cases hown : ∃ id ty t xs, c = .own id ∧ h[id]? = some (some (.arr ty t xs))
   ·obtain ⟨id, ty, t, xs, rfl, e⟩ := hown
    obtain ⟨h2, ht⟩ := hs.freeze (st := ⟨s, h⟩) e hr0.own_inv
    have hS : ∀ b, Stb C.A w h V b → Stb C.A w (h.set id none) V b := fun b hb => ⟨hb.1, hb.2.1, fun i l e => hb.2.2 i l (by
     rw [List.getElem?_set] at e
     by_cases hi : id = i
     ·rw [if_pos hi] at e; split at e <;> simp at e
     ·rw [if_neg hi] at e; exact e)⟩
    obtain ⟨g1, g2, g3, g4, g5⟩ := SRV.frz cs (h.set id none) ys h2 (by simpa using hl) fun i c y e1 e2 => (hrt i c y e1 e2).mono (fun b hb => ⟨hS b hb, rfl⟩) (fun _ _ => rfl) (by simp)
    have e9 : Go.Proofs.YtaobinhdnklojaaGreatDoor.frz h (.own id :: cs) = (.tree t xs :: (Go.Proofs.YtaobinhdnklojaaGreatDoor.frz (h.set id none) cs).1, (Go.Proofs.YtaobinhdnklojaaGreatDoor.frz (h.set id none) cs).2) := by
     simp only [Go.Proofs.YtaobinhdnklojaaGreatDoor.frz, e]
    rw [e9]
    refine ⟨g1, by simp [g2], by simpa using g3, fun b hb => g4 b (hS b hb), fun i c' y' e1 e2 => ?_⟩
    cases i with
    | zero => simp at e1 e2; subst e1 e2; exact .imm _ _ (ht.mono fun b hb => ⟨g4 b hb, rfl⟩)
    | succ i => have := g5 i c' y' (by simpa using e1) (by simpa using e2); simpa using this
   ·cases c with
    | own id =>
      refine other .any (.imm _ _ (.any _)) ?_
      simp only [Go.Proofs.YtaobinhdnklojaaGreatDoor.frz]
      split
      ·rename_i ty t xs e; exact (hown ⟨id, ty, t, xs, rfl, e⟩).elim
      ·rfl
    | _ => exact other _ hr0 rfl
end
end Go.Proofs.YtaobinhdnklojaaGreatDoor
namespace Go.Proofs.YtaobinhdnklojaaGreatDoor
open Go.RowKit

def s4 (r : List AV) (off : Nat) (cs : List AV) : List AV := r.take off ++ (cs ++ r.drop (off + cs.length))
theorem sl1 {r : List AV} {off : Nat} {cs : List AV} (h : off + cs.length ≤ r.length) : (s4 r off cs).length = r.length := by
 simp [s4]; omega
theorem splice_get {r : List AV} {off : Nat} {cs : List AV} (h : off + cs.length ≤ r.length) (j : Nat) : (s4 r off cs)[j]? = if off ≤ j ∧ j < off + cs.length then cs[j - off]? else r[j]? := by
 unfold s4
 by_cases h1 : j < off
 ·rw [List.getElem?_append_left (by simp; omega), List.getElem?_take, if_pos h1, if_neg (by omega)]
 ·rw [List.getElem?_append_right (by simp; omega)]
  have e : j - (r.take off).length = j - off := by simp; omega
  rw [e]
  by_cases h2 : j < off + cs.length
  ·rw [List.getElem?_append_left (by omega), if_pos (by omega)]
  ·rw [List.getElem?_append_right (by omega), List.getElem?_drop, if_neg (by omega)]
   congr 1; omega

def updR (rows : Nat → List AV) (row : Nat) (r : List AV) : Nat → List AV := fun k => if k = row then r else rows k

theorem R.imp {w S V N c c' x} (h : R w S V N c x) (hi : c.isImm = true) (hc : c.imp c') : Rt w S c' x := hc _ _ _ (h.toImm hi)

theorem rsCf (P : Program) (g o : Nat) (t : TypeId) (fr : Nat × Nat) {b : Bool} : ∀ (vs : List Value) (i : Nat) (cur : Array Value) (w : World), w.heap[g]? = some (.cells cur t fr) → FrOk b cur.size fr → o + i + vs.length ≤ cur.size → (∀ v ∈ vs, v.oneCell' = true) →
  (storeCells ⟨g, o, none⟩ vs i).run P w = .ok () (w.setRow g (cur.toList.take (o + i) ++ vs ++ cur.toList.drop (o + i + vs.length)).toArray)
 | [], i, cur, w, hg, _, _, _ => by
   simp only [storeCells, List.append_nil, List.length_nil, Nat.add_zero, List.take_append_drop, Array.toArray_toList]
   rw [setRow_self w g cur t fr hg]
   rfl
 | v :: rest, i, cur, w, hg, hf, hl, h1 => by
   have hi : o + i < cur.size := by simp at hl; omega
   have hadd : (⟨g, o, none⟩ : Addr).add i = ⟨g, o + i, none⟩ := by unfold Addr.add; split <;> simp_all
   have hcell : w.cell? ⟨g, o + i, none⟩ = some cur[o + i] := by simp [World.cell?, hg, hi]
   have hfro : w.frozen? ⟨g, o + i, none⟩ = false := by
    obtain ⟨lo, hi2⟩ := fr
    rcases hf with hf | ⟨_, hf⟩
    ·cases hf; simp [World.frozen?, hg]
    ·have hf : cur.size ≤ lo := hf
     simp [World.frozen?, hg]
     omega
   have hst : (store ((⟨g, o, none⟩ : Addr).add i) v).run P w = .ok () (w.setRow g (cur.setIfInBounds (o + i) v)) := by
    rw [hadd, run_store P w _ v _ (h1 v (by simp)), hcell]
    simp [hfro, setCell_eq_setRow w g (o + i) cur t fr v hg]
   have ih := rsCf P g o t fr rest (i + 1) (cur.setIfInBounds (o + i) v) (w.setRow g (cur.setIfInBounds (o + i) v)) (setRow_heap w g cur _ t _ hg) (by simpa using hf) (by simp at hl ⊢; omega) (fun x hx => h1 x (by simp [hx]))
   simp only [storeCells, Sem.run_bind, hst, Result.andThen_ok, ih, setRow_setRow]
   congr 3
   have e := list_seg_step cur.toList (o + i) v rest (by simp at hl ⊢; omega)
   simpa [Array.toList_setIfInBounds, Nat.add_assoc] using e

section
variable {P : Program} {M : Nat → List Bool} {o : Oper} {st : St} {K : AV → St → Prop} {T : Nat → Option TI}

theorem SRV.storeAt {C : Ctx} {V a w} (h : SRV C V st a w) {id row off : Nat} {lb lb' : LB} (hlb : st.h[id]? = some (some lb)) (hrow : row < lb.len) {cs : List AV} {ys : List Value} (hl : ys.length = cs.length) (hle : off + cs.length ≤ lb.sz)
  (hr : ∀ (i : Nat) (c : AV) (y : Value), cs[i]? = some c → ys[i]? = some y → R w (Stb C.A w st.h V) V st.h.length c y) (h1 : ∀ y ∈ ys, y.oneCell' = true)
  (e1 : lb'.ty = lb.ty) (e2 : lb'.sz = lb.sz) (e3 : lb'.len = lb.len) (e4 : lb'.kd = lb.kd)
  (hrows : ∀ (k j : Nat) (c' : AV), k < lb.len → (lb'.rows k)[j]? = some c' → ∃ c, (updR lb.rows row (s4 (lb.rows row) off cs) k)[j]? = some c ∧ (c' = c ∨ (c.imp c' ∧ (lb.isArr = true ∨ c.isImm = true))))
  (himm : lb.isArr = true → cs.all AV.isImm = true) :
  ∃ (cur : Array Value) (fr : Nat × Nat), w.heap[(V id).blk]? = some (.cells cur lb.ty fr) ∧ FrOk lb.mk cur.size fr ∧ row * lb.sz + off + ys.length ≤ cur.size ∧
    SRV C V ⟨st.s, st.h.set id (some lb')⟩ a (w.setRow (V id).blk (cur.toList.take (row * lb.sz + off) ++ ys ++ cur.toList.drop (row * lb.sz + off + ys.length)).toArray) := by
 obtain ⟨cur, hcur⟩ := h.hr.blk id _ hlb
 have hrl : (lb.rows row).length = lb.sz := lb.rows_length row
 have hle' : off + cs.length ≤ (lb.rows row).length := by rw [hrl]; exact hle
 obtain ⟨fr, hheap, hfr⟩ := hcur.heap
 have e5 : lb'.mk = lb.mk := congrArg Prod.snd e4
 have e4 : lb'.isArr = lb.isArr := congrArg Prod.fst e4
 have hfit0 : (row + 1) * lb.sz ≤ cur.size := by
  cases hb : lb.isArr
  ·rw [hcur.box hb]; exact Nat.mul_le_mul_right _ hrow
  ·obtain ⟨cap, _, g2, _, g4, _⟩ := hcur.own hb
   rw [g4]; exact Nat.mul_le_mul_right _ (by omega)
 have hfit : row * lb.sz + off + ys.length ≤ cur.size := by
  have : (row + 1) * lb.sz = row * lb.sz + lb.sz := by rw [Nat.add_mul, Nat.one_mul]
  omega
 refine ⟨cur, fr, hheap, hfr, hfit, ?_⟩
 generalize hnew : (cur.toList.take (row * lb.sz + off) ++ ys ++ cur.toList.drop (row * lb.sz + off + ys.length)).toArray = new
 have hget : ∀ q : Nat, new[q]? = if row * lb.sz + off ≤ q ∧ q < row * lb.sz + off + cs.length then ys[q - (row * lb.sz + off)]? else cur[q]? := fun q => by
  rw [← hnew]
  simp only [List.getElem?_toArray]
  have hlen1 : (cur.toList.take (row * lb.sz + off)).length = row * lb.sz + off := by simp; omega
  by_cases h1 : q < row * lb.sz + off
  ·rw [List.append_assoc, List.getElem?_append_left (by omega), List.getElem?_take, if_pos h1, if_neg (by omega)]; simp
  ·rw [List.append_assoc, List.getElem?_append_right (by omega), hlen1]
   by_cases h2 : q < row * lb.sz + off + cs.length
   ·rw [List.getElem?_append_left (by omega), if_pos (by omega)]
   ·rw [List.getElem?_append_right (by omega), List.getElem?_drop, if_neg (by omega), hl]
    simp only [Array.getElem?_toList]
    congr 1; omega
 have hsize : new.size = cur.size := by
  rw [← hnew]
  simp only [List.size_toArray, List.length_append, List.length_take, List.length_drop, Array.length_toList]
  omega
 refine h.write hlb (lb' := lb') (w' := w.setRow (V id).blk new) (cur' := new) rfl rfl rfl (by simp) (fun k hk => setRow_other w _ k new hk) (fun hS => ?_)
 have hin : ∀ (k j : Nat), j < lb.sz → k ≠ row → ¬ (row * lb.sz + off ≤ k * lb.sz + j ∧ k * lb.sz + j < row * lb.sz + off + cs.length) := fun k j hj hne => by
  rcases Nat.lt_or_gt_of_ne hne with hlt | hgt
  ·have : (k + 1) * lb.sz ≤ row * lb.sz := Nat.mul_le_mul_right _ hlt
   rw [Nat.add_mul, Nat.one_mul] at this
   omega
  ·have : (row + 1) * lb.sz ≤ k * lb.sz := Nat.mul_le_mul_right _ hgt
   rw [Nat.add_mul, Nat.one_mul] at this
   omega
 have hcell : ∀ (k j : Nat) (c : AV), k < lb.len → (updR lb.rows row (s4 (lb.rows row) off cs) k)[j]? = some c → ∃ y, new[k * lb.sz + j]? = some y ∧ y.oneCell' = true ∧ R w (Stb C.A w st.h V) V st.h.length c y ∧
   (lb.isArr = true → Rt w (Stb C.A w st.h V) c y) := fun k j c g1 g2 => by
  unfold updR at g2
  by_cases hk : k = row
  ·subst hk
   rw [if_pos rfl, splice_get hle'] at g2
   rw [hget]
   by_cases hb : off ≤ j ∧ j < off + cs.length
   ·rw [if_pos hb] at g2
    rw [if_pos (by omega)]
    have hj : j - off < ys.length := by omega
    have e4 : k * lb.sz + j - (k * lb.sz + off) = j - off := by omega
    rw [e4]
    have hy : ys[j - off]? = some ys[j - off] := List.getElem?_eq_getElem hj
    exact ⟨_, hy, h1 _ (List.getElem_mem hj), hr _ c _ g2 hy, fun ha => (hr _ c _ g2 hy).toImm (List.all_eq_true.1 (himm ha) c (List.mem_of_getElem? g2))⟩
   ·rw [if_neg hb] at g2
    rw [if_neg (by omega)]
    obtain ⟨y, f1, f2, f3⟩ := hcur.cell k j c hrow g2
    exact ⟨y, f1, f2, f3, fun ha => hcur.still ha k j c y hrow g2 f1⟩
  ·rw [if_neg hk] at g2
   have hj : j < lb.sz := by
    rw [← lb.rows_length k]; exact (List.getElem?_eq_some_iff.1 g2).1
   rw [hget, if_neg (hin k j hj hk)]
   obtain ⟨y, f1, f2, f3⟩ := hcur.cell k j c g1 g2
   exact ⟨y, f1, f2, f3, fun ha => hcur.still ha k j c y g1 g2 f1⟩
 refine ⟨hcur.sz.trans e2.symm, hcur.ln.trans e3.symm, ⟨fr, by rw [e1]; exact setRow_heap w _ cur new _ _ hheap, by rw [e5, hsize]; exact hfr⟩, fun k j c' g1 g2 => ?_, fun harr k j c' y g1 g2 g3 => ?_, fun harr => ?_, fun harr => ?_⟩
 ·rw [e3] at g1
  obtain ⟨c, f1, f2⟩ := hrows k j c' g1 g2
  obtain ⟨y, k1, k2, k3, k4⟩ := hcell k j c g1 f1
  refine ⟨y, by rw [e2]; exact k1, k2, ?_⟩
  rcases f2 with rfl | ⟨f2, f3⟩
  ·exact k3.mono hS (fun _ _ => rfl) (Nat.le_refl _)
  ·have : Rt w (Stb C.A w st.h V) c y := by
    rcases f3 with f3 | f3
    ·exact k4 f3
    ·exact k3.toImm f3
   exact .imm _ _ ((f2 _ _ _ this).mono hS)
 ·rw [e3] at g1
  rw [e4] at harr
  obtain ⟨c, f1, f2⟩ := hrows k j c' g1 g2
  obtain ⟨y', k1, k2, k3, k4⟩ := hcell k j c g1 f1
  rw [e2, k1] at g3
  cases g3
  have := k4 harr
  rcases f2 with rfl | ⟨f2, f3⟩
  ·exact this.mono hS
  ·exact (f2 _ _ _ this).mono hS
 ·rw [e4] at harr; rw [hsize, e2, e3]; exact hcur.box harr
 ·rw [e4] at harr; rw [hsize, e2, e3]; exact hcur.own harr

def evStoreA (ty : TypeId) (t : Ty) (xs : List t.den) (row : Nat) (x : Option t.den) (id : Nat) (s : Nat → AV) (h : List (Option LB)) (K : AV → St → Prop) : Prop :=
 match x with
 | some x => K (.v (.tuple #[])) ⟨s, h.set id (some (.arr ty t (xs.set row x)))⟩
 | none => False
def evStoreO (size : Nat) (st : St) (id row off : Nat) (o : Option (Option LB)) (cs : Option (List AV)) (K : AV → St → Prop) : Prop :=
 match o, cs with
 | some (some (.box ty cells)), some cs => Nat.beq cs.length size = true ∧ Nat.ble (off + cs.length) cells.length = true ∧ K (.v (.tuple #[])) ⟨st.s, st.h.set id (some (.box ty (s4 cells off cs)))⟩
 | some (some (.arr ty t xs)), some cs => match frz st.h cs with
   | (fs, h) => Nat.beq cs.length size = true ∧ Nat.ble (off + cs.length) t.n = true ∧ fs.all AV.isImm = true ∧ evLive h[id]? (evStoreA ty t xs row (t.dec (s4 (rowT t xs row) off fs)) id st.s h K)
 | _, _ => False
where evLive (o : Option (Option LB)) (p : Prop) : Prop := match o with
 | some (some (.arr _ _ _)) => p
 | _ => False
def evStore (i : Option TI) (st : St) (p : AV) (cs : Option (List AV)) (K : AV → St → Prop) : Prop :=
 match i, p with
 | some i, .loc id row off => evStoreO i.size st id row off (st.h[id]?) cs K
 | _, _ => False

theorem frz_live : ∀ (cs : List AV) (h : List (Option LB)) (id : Nat) (lb : LB), (frz h cs).2[id]? = some (some lb) → h[id]? = some (some lb)
 | [], _, _, _, e => e
 | c :: cs, h, id, lb, e => by
   have ih := frz_live cs
   cases c with
   | own i =>
     simp only [frz] at e
     split at e
     ·have := ih _ id lb e
      rw [List.getElem?_set] at this
      by_cases hi : i = id
      ·rw [if_pos hi] at this; split at this <;> simp at this
      ·rw [if_neg hi] at this; exact this
     ·exact ih _ id lb e
   | _ => exact ih _ id lb e

theorem edoes_store (hT : TOk P T) (t : TypeId) (p x : Operand) (ho : o.op = .store t p x) (hk : evStore (T t) st (st.ev p) (memCells st.h (st.ev x)) K) : EDoes P M o st K := by
 unfold evStore at hk
 split at hk
 case h_2 => exact hk.elim
 rename_i i id row off hi hp
 have fin : ∀ (C : Ctx) (V : Nat → Info) (a : Act) (w : World), SRV C V st a w → ∀ (lb lb' : LB) (h' : List (Option LB)) (cs : List AV), memCells st.h (st.ev x) = some cs → SRV C V ⟨st.s, h'⟩ a w → h'[id]? = some (some lb) → (∀ b, Stb C.A w st.h V b → Stb C.A w h' V b) → h'.length = st.h.length → cs.length = i.size →
   ∀ fs : List AV, fs.length = cs.length → off + fs.length ≤ lb.sz → (∀ (i : Nat) (c : AV) (y : Value), fs[i]? = some c → (a.eval x).cells.toList[i]? = some y → R w (Stb C.A w h' V) V h'.length c y) →
   lb'.ty = lb.ty → lb'.sz = lb.sz → lb'.len = lb.len → lb'.kd = lb.kd →
   (∀ (k j : Nat) (c' : AV), k < lb.len → (lb'.rows k)[j]? = some c' → ∃ c, (updR lb.rows row (s4 (lb.rows row) off fs) k)[j]? = some c ∧ (c' = c ∨ (c.imp c' ∧ (lb.isArr = true ∨ c.isImm = true)))) →
   (lb.isArr = true → fs.all AV.isImm = true) → ∀ (next : Act → World → Prop) (Q : Exit → Act → World → Prop),
   (∀ V' w', SRV C V' ⟨st.s, h'.set id (some lb')⟩ a w' → next (a.put o.dst undef) w') → o.wp P a w next Q := by
  intro C V a w h lb lb' h' cs hmc hs' hlb hS hlen hsz fs hfl hle hr g1 g2 g3 g4 hrows himm next Q hn
  obtain ⟨c1, c2, c3⟩ := h.memCells (h.ev x) hmc
  obtain ⟨_, hrow, ep⟩ := (hp ▸ h.ev p).loc_inv
  obtain ⟨cur0, hc0⟩ := hs'.hr.blk id _ hlb
  have hy : (a.eval x).cells.toList.length = fs.length := by simpa [hfl] using c1
  obtain ⟨cur, fr, hheap, hfr, hfit, hw⟩ := hs'.storeAt (st := ⟨st.s, h'⟩) hlb (by rw [← hc0.ln]; exact hrow) hy hle hr c3 g1 g2 g3 g4 hrows himm
  have hIsz : (V id).sz = lb.sz := hc0.sz
  have hst := rsCf P (V id).blk (row * lb.sz + off) lb.ty fr (a.eval x).cells.toList 0 cur w hheap hfr (by simpa using hfit) c3
  simp only [Nat.add_zero] at hst
  have hrun : (execOp a.eval o).run P w = .ok .skip (w.setRow (V id).blk (cur.toList.take (row * lb.sz + off) ++ (a.eval x).cells.toList ++ cur.toList.drop (row * lb.sz + off + (a.eval x).cells.toList.length)).toArray) := by
   simp only [Array.length_toList] at hst
   simp [execOp, ho, ep, Instr.storeAt, Instr.sureAddr, storeVar, (hT t i hi).size, c1, hsz, hIsz, hst]
  unfold Oper.wp
  rw [hrun]
  exact hn _ _ hw
 unfold evStoreO at hk
 split at hk
 case h_3 => exact hk.elim
 ·rename_i ty cells cs hlb hmc
  obtain ⟨hsz, hle, hk⟩ := hk
  have hsz : cs.length = i.size := Nat.eq_of_beq_eq_true hsz
  have hle := Nat.le_of_ble_eq_true hle
  intro C V a w h next Q hn
  obtain ⟨c1, c2, c3⟩ := h.memCells (h.ev x) hmc
  obtain ⟨hid, hrow, ep⟩ := (hp ▸ h.ev p).loc_inv
  obtain ⟨cur0, hc0⟩ := h.hr.blk id _ hlb
  have hrow0 : row = 0 := by have := hc0.ln; simp only [LB.len] at this; omega
  refine fin C V a w h (.box ty cells) (.box ty (s4 cells off cs)) st.h cs hmc h hlb (fun b hb => hb) rfl hsz cs rfl hle (fun i c y e1 e2 => c2 i c y e1 (by simpa using e2)) rfl (sl1 hle) rfl rfl (fun k j c' g1 g2 => ⟨c', ?_, .inl rfl⟩) (fun g => by simp [LB.isArr] at g) next Q fun V' w' hs => ?_
  ·have : k = row := by simp only [LB.len] at g1; omega
   unfold updR
   rw [if_pos this]; exact g2
  ·exact hn _ _ _ undef _ hk hs (.imm _ _ (.v _)) fun e => belA_no (by rw [ho]; rfl) (fun _ _ _ e => by rw [ho] at e; cases e) e
 ·rename_i ty te xs cs hlb hmc
  obtain ⟨hsz, hle, himm, hk⟩ := hk
  have hsz : cs.length = i.size := Nat.eq_of_beq_eq_true hsz
  have hle := Nat.le_of_ble_eq_true hle
  unfold evStoreO.evLive at hk
  split at hk
  case h_2 => exact hk.elim
  rename_i ty' te' xs' hlive
  have hlb' := frz_live _ _ _ _ hlive
  rw [hlb] at hlb'
  simp only [Option.some.injEq] at hlb'
  rw [← hlb'] at hlive
  unfold evStoreA at hk
  split at hk
  case h_2 => exact hk.elim
  rename_i x' hdec
  obtain ⟨d1, d2⟩ := ds1 te _ x' hdec
  intro C V a w h next Q hn
  obtain ⟨c1, c2, c3⟩ := h.memCells (h.ev x) hmc
  obtain ⟨hid, hrow, ep⟩ := (hp ▸ h.ev p).loc_inv
  obtain ⟨cur0, hc0⟩ := h.hr.blk id _ hlb
  have hrow : row < xs.length := by have := hc0.ln; simp only [LB.len] at this; omega
  obtain ⟨f1, f2, f3, f4, f5⟩ := SRV.frz (s := st.s) cs st.h (a.eval x).cells.toList h (by simpa using c1) (fun i c y e1 e2 => c2 i c y e1 (by simpa using e2))
  refine fin C V a w h (.arr ty te xs) (.arr ty te (xs.set row x')) (frz st.h cs).2 cs hmc f1 hlive f4 f3 hsz (frz st.h cs).1 f2 (by rw [f2]; exact hle) (fun i c y e1 e2 => by rw [f3]; exact f5 i c y e1 e2) rfl rfl (by simp [LB.len]) rfl (fun k j c' g1 g2 => ?_) (fun _ => himm) next Q fun V' w' hs => ?_
  ·simp only [LB.rows] at g2 ⊢
   unfold updR
   by_cases hk : k = row
   ·subst hk
    rw [if_pos rfl]
    have e1 : rowT te (xs.set k x') k = te.enc x' := by simp [rowT, List.getD, hrow]
    rw [e1] at g2
    have hj : j < (s4 (rowT te xs k) off (frz st.h cs).1).length := by
     rw [d1, ← el te x']; exact (List.getElem?_eq_some_iff.1 g2).1
    exact ⟨_, List.getElem?_eq_getElem hj, .inr ⟨d2 j _ c' (List.getElem?_eq_getElem hj) g2, .inl rfl⟩⟩
   ·rw [if_neg hk]
    have e1 : rowT te (xs.set row x') k = rowT te xs k := by simp [rowT, List.getD, Ne.symm hk]
    rw [e1] at g2
    exact ⟨c', g2, .inl rfl⟩
  ·exact hn _ _ _ undef _ hk hs (.imm _ _ (.v _)) fun e => belA_no (by rw [ho]; rfl) (fun _ _ _ e => by rw [ho] at e; cases e) e
end

def forceS {α : Type} : List AV → (List AV → α) → α
 | [], k => k []
 | c :: cs, k => forceS cs fun cs => k (c :: cs)
theorem fSe {α : Type} : ∀ (cs : List AV) (k : List AV → α), forceS cs k = k cs
 | [], _ => rfl
 | c :: cs, k => by rw [forceS, fSe cs]
def fillA (place : Nat → Option (Nat × Nat)) (acc : List AV) : List (Nat × Option (List AV)) → Option (List AV)
 | [] => some acc
 | (i, o) :: rest =>
   match place i, o with
   | some (off, size), some cs =>
     match Nat.beq cs.length size && Nat.ble (off + size) acc.length with
     | true => forceS (s4 acc off cs) fun acc => fillA place acc rest
     | false => none
   | _, _ => none
def RelC (Rel : AV → Value → Prop) (l : List AV) (cs : Array Value) : Prop := cs.size = l.length ∧ ∀ (i : Nat) (c : AV) (y : Value), l[i]? = some c → cs[i]? = some y → y.oneCell' = true ∧ Rel c y
theorem fr1 {Rel : AV → Value → Prop} {place place' : Nat → Option (Nat × Nat)} (hp : ∀ i p, place i = some p → place' i = some p) : ∀ (ps : List (Nat × Option (List AV))) (vs : List (Nat × Value)) (acc res : List AV) (cells : Array Value),
  RelC Rel acc cells → vs.length = ps.length → (∀ (j : Nat) (i i' : Nat) (o : Option (List AV)) (v : Value), ps[j]? = some (i, o) → vs[j]? = some (i', v) → i' = i ∧ ∀ cs, o = some cs → RelC Rel cs v.cells) →
  fillA place acc ps = some res → ∃ r, Instr.fill place' cells vs = some r ∧ RelC Rel res r
 | [], [], acc, res, cells, h, _, _, hf => by
   simp only [fillA, Option.some.injEq] at hf
   subst hf
   exact ⟨cells, rfl, h⟩
 | (i, o) :: ps, (i', v) :: vs, acc, res, cells, h, hl, hv, hf => by
   obtain ⟨rfl, hcs⟩ := hv 0 i i' o v rfl rfl
   unfold fillA at hf
   split at hf
   ·rename_i off size cs hpl
    split at hf
    ·rename_i hb
     rw [fSe] at hf
     simp only [Bool.and_eq_true] at hb
     have hb1 := Nat.eq_of_beq_eq_true hb.1
     have hb2 := Nat.le_of_ble_eq_true hb.2
     have hc := hcs cs rfl
     have hsz : v.cells.size = size := by rw [hc.1, hb1]
     obtain ⟨g1, g2⟩ := Great.foldl_set off v.cells.toList 0 cells
     have hnew : RelC Rel (s4 acc off cs) ((v.cells.toList.zipIdx 0).foldl (fun cs (x : Value × Nat) => cs.setIfInBounds (off + x.2) x.1) cells) := by
      refine ⟨by rw [g1, sl1 (by omega), h.1], fun k c y e1 e2 => ?_⟩
      rw [splice_get (by omega)] at e1
      rw [g2 k] at e2
      simp only [Nat.add_zero, Array.length_toList, hsz] at e2
      by_cases hk : off ≤ k ∧ k < off + cs.length
      ·rw [if_pos hk] at e1
       have hk2 : k < cells.size := by rw [h.1]; omega
       rw [if_pos ⟨hk.1, by omega, hk2⟩] at e2
       exact hc.2 (k - off) c y e1 (by simpa using e2)
      ·rw [if_neg hk] at e1
       rw [if_neg (by omega)] at e2
       exact h.2 k c y e1 e2
     obtain ⟨r, hr, hrel⟩ := fr1 hp ps vs _ res _ hnew (by simpa using hl) (fun j i i' o v e1 e2 => hv (j + 1) i i' o v (by simpa using e1) (by simpa using e2)) hf
     refine ⟨r, ?_, hrel⟩
     unfold Instr.fill
     simp only [hp _ _ hpl, hsz]
     rw [if_neg (by rw [h.1]; simp; omega)]
     rw [← hr]
     congr 1
     rw [← Array.foldl_toList, Array.toList_zipIdx]
    ·cases hf
   ·cases hf
 | [], _ :: _, _, _, _, _, hl, _, _ => by simp at hl
 | _ :: _, [], _, _, _, _, hl, _, _ => by simp at hl

section
variable {P : Program} {o : Oper} {st : St} {T : Nat → Option TI}
def partsA (st : St) (ps : List (Nat × Operand)) : List (Nat × Option (List AV)) := ps.map fun p => (p.1, memCells st.h (st.ev p.2))
def placesA (i : TI) (j : Nat) : Option (Nat × Nat) := match i.offs[j]? with
 | some (o, s, _) => some (o, s)
 | none => none
def eBO (o : Option (List AV)) (K : AV → Prop) : Prop := match o with
 | some cs => K (.agg cs)
 | none => False
def placesB (n : Nat) (j : Nat) : Option (Nat × Nat) := some (j * n, n)
def evBuildA (T : Nat → Option TI) (i : TI) (st : St) (ps : List (Nat × Operand)) (K : AV → Prop) : Prop :=
 match T i.arr.2 with
 | some e => (i.zero.cells.toList.all Value.oneCell') = true ∧ Nat.beq i.arr.1 0 = false ∧ eBO (fillA (placesB e.size) (i.zero.cells.toList.map AV.v) (partsA st ps)) K
 | none => False
def evBuild (T : Nat → Option TI) (i : Option TI) (st : St) (ps : List (Nat × Operand)) (K : AV → Prop) : Prop :=
 match i with
 | some i => match i.offs.isEmpty with
   | false => (i.zero.cells.toList.all Value.oneCell') = true ∧ eBO (fillA (placesA i) (i.zero.cells.toList.map AV.v) (partsA st ps)) K
   | true => evBuildA T i st ps K
 | none => False
theorem parts_rel {C : Ctx} {V st a w} (h : SRV C V st a w) (ps : List (Nat × Operand)) (j i i' : Nat) (o : Option (List AV)) (v : Value) (e1 : (partsA st ps)[j]? = some (i, o)) (e2 : (ps.map fun x => (x.1, a.eval x.2))[j]? = some (i', v)) :
  i' = i ∧ ∀ cs, o = some cs → RelC (R w (Stb C.A w st.h V) V st.h.length) cs v.cells := by
 unfold partsA at e1
 rw [List.getElem?_map] at e1 e2
 obtain ⟨p, f1, f2⟩ := Option.map_eq_some_iff.1 e1
 rw [f1] at e2
 simp only [Option.map_some, Option.some.injEq, Prod.mk.injEq] at e2 f2
 obtain ⟨rfl, rfl⟩ := e2
 obtain ⟨rfl, f3⟩ := f2
 refine ⟨rfl, fun cs hcs => ?_⟩
 obtain ⟨c1, c2, c3⟩ := h.memCells (h.ev p.2) (f3.trans hcs)
 exact ⟨c1, fun i c y g1 g2 => ⟨c3 y (Array.mem_toList_iff.2 (Array.mem_of_getElem? g2)), c2 i c y g1 g2⟩⟩
theorem zero_rel {Rel : AV → Value → Prop} (hv : ∀ x, Rel (.v x) x) {z : Array Value} (hz : z.toList.all Value.oneCell' = true) : RelC Rel (z.toList.map AV.v) z := by
 refine ⟨by simp, fun i c y e1 e2 => ?_⟩
 simp only [List.getElem?_map, Array.getElem?_toList, e2, Option.map_some, Option.some.injEq] at e1
 subst e1
 exact ⟨List.all_eq_true.1 hz y (Array.mem_toList_iff.2 (Array.mem_of_getElem? e2)), hv y⟩
theorem vdoes_buildA {K : AV → Prop} (hT : TOk P T) (t : TypeId) (ps : Array (Nat × Operand)) (ho : o.op = .build t ps) (i : TI) (hi : T t = some i) (hk : evBuildA T i st ps.toList K) : VDoes P o st K := by
 unfold evBuildA at hk
 split at hk
 case h_2 => exact hk.elim
 rename_i e he
 obtain ⟨hz, hne, hk⟩ := hk
 unfold eBO at hk
 split at hk
 case h_2 => exact hk.elim
 rename_i cs hcs
 intro C V a w h
 obtain ⟨ti, hti, hzero, _, _⟩ := (hT t i hi).info
 obtain ⟨te, hte, _, hsize, _⟩ := (hT _ e he).info
 have hu := (hT t i hi).arr hne
 obtain ⟨r, hr, hrel⟩ := fr1 (place' := fun j => some (j * te.size, te.size)) (Rel := R w (Stb C.A w st.h V) V st.h.length) (fun j p hp => by
  unfold placesB at hp
  rw [hsize]; exact hp) (partsA st ps.toList) (ps.toList.map fun x => (x.1, a.eval x.2)) _ cs i.zero.cells (zero_rel (fun x => .imm _ _ (.v x)) hz) (by simp [partsA]) (fun j i i' o v e1 e2 => parts_rel h _ j i i' o v e1 e2) hcs
 refine ⟨_, .agg r, hk, .agg _ r hrel.1 (fun j c y e1 e2 => (hrel.2 j c y e1 e2).2), fun w' _ => ?_⟩
 have hb : P.built t (ps.toList.map fun x => (x.1, a.eval x.2)) = some r := by
  unfold Program.built
  rw [hti, hu]
  simp only [hzero, hte]
  exact hr
 have hb2 : P.built t (ps.map fun x => (x.1, a.eval x.2)).toList = some r := by simpa using hb
 have := run_build w' t _ r hb2
 simp [execOp, ho, this]
theorem vdoes_build {K : AV → Prop} (hT : TOk P T) (t : TypeId) (ps : Array (Nat × Operand)) (ho : o.op = .build t ps) (hk : evBuild T (T t) st ps.toList K) : VDoes P o st K := by
 unfold evBuild at hk
 split at hk
 ·rename_i i hi
  split at hk
  case h_2 => exact vdoes_buildA hT t ps ho i hi hk
  rename_i hagg
  obtain ⟨hz, hk⟩ := hk
  unfold eBO at hk
  split at hk
  ·rename_i cs hcs
   intro C V a w h
   obtain ⟨ti, hti, hzero, _, _⟩ := (hT t i hi).info
   obtain ⟨fs, hu, hpl⟩ := (hT t i hi).places hagg
   obtain ⟨r, hr, hrel⟩ := fr1 (place' := fun j => ((i.offs.map fun x => (x.1, x.2.1)).toArray)[j]?) (Rel := R w (Stb C.A w st.h V) V st.h.length) (fun j p hp => by
    unfold placesA at hp
    simp only [List.getElem?_toArray, List.getElem?_map]
    split at hp
    ·rename_i e; rw [e]; exact hp
    ·cases hp) (partsA st ps.toList) (ps.toList.map fun x => (x.1, a.eval x.2)) _ cs i.zero.cells (zero_rel (fun x => .imm _ _ (.v x)) hz) (by simp [partsA]) (fun j i i' o v e1 e2 => parts_rel h _ j i i' o v e1 e2) hcs
   refine ⟨_, .agg r, hk, .agg _ r hrel.1 (fun j c y e1 e2 => (hrel.2 j c y e1 e2).2), fun w' _ => ?_⟩
   have hb : P.built t (ps.toList.map fun x => (x.1, a.eval x.2)) = some r := by
    unfold Program.built
    rw [hti, hu]
    simp only [hzero, hpl]
    exact hr
   have hb2 : P.built t (ps.map fun x => (x.1, a.eval x.2)).toList = some r := by simpa using hb
   have := run_build w' t _ r hb2
   simp [execOp, ho, this]
  ·exact hk.elim
 ·exact hk.elim
end
end Go.Proofs.YtaobinhdnklojaaGreatDoor
