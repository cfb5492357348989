/-
  The abstract evaluator, part 4: names, what is lent, contracts, calls.
-/
import Derived.Test.YtpmmaohaahbphaaDoorB3e
namespace Go.Proofs.YtpmmaohaahbphaaDoor
open Go.RowKit

mutual
def AV.ren (ρ : Nat → Nat) : AV → AV
  | .any => .any
  | .v x => .v x
  | .bl b => .bl b
  | .agg cs => .agg (AV.renL ρ cs)
  | .tup cs => .tup (AV.renL ρ cs)
  | .tree t xs => .tree t xs
  | .tptr t xs row off => .tptr t xs row off
  | .bptr cs off => .bptr cs off
  | .loc id row off => .loc (ρ id) row off
  | .own id => .own (ρ id)
  | .view id lo n => .view (ρ id) lo n
  | .rowv id k => .rowv (ρ id) k
  | .rloc id k row off => .rloc (ρ id) k row off
  | .fn f cs => .fn f (AV.renL ρ cs)
def AV.renL (ρ : Nat → Nat) : List AV → List AV
  | [] => []
  | c :: cs => AV.ren ρ c :: AV.renL ρ cs
end
mutual
def AV.noTree : AV → Bool
  | .any => true
  | .v _ => true
  | .bl _ => true
  | .agg cs => AV.noTreeL cs
  | .tup cs => AV.noTreeL cs
  | .tree _ _ => false
  | .tptr _ _ _ _ => false
  | .bptr _ _ => false
  | .loc _ _ _ => true
  | .own _ => true
  | .view _ _ _ => true
  | .rowv _ _ => true
  | .rloc _ _ _ _ => true
  | .fn _ cs => AV.noTreeL cs
def AV.noTreeL : List AV → Bool
  | [] => true
  | c :: cs => match AV.noTree c with
    | true => AV.noTreeL cs
    | false => false
end
mutual
def AV.isImm : AV → Bool
  | .any => true
  | .v _ => true
  | .bl _ => true
  | .agg cs => AV.isImmL cs
  | .tup cs => AV.isImmL cs
  | .tree _ _ => true
  | .tptr _ _ _ _ => true
  | .bptr _ _ => true
  | .loc _ _ _ => false
  | .own _ => false
  | .view _ _ _ => false
  | .rowv _ _ => false
  | .rloc _ _ _ _ => false
  | .fn _ cs => AV.isImmL cs
def AV.isImmL : List AV → Bool
  | [] => true
  | c :: cs => match AV.isImm c with
    | true => AV.isImmL cs
    | false => false
end
/-- One cell, lent: own slices as they stand. -/
def AV.lend1 (h : List (Option LB)) (c : AV) : AV :=
  match c with
  | .own id => match h[id]? with
    | some (some (.arr _ t xs)) => .tree t xs
    | _ => .any
  | c => match c.isImm with
    | true => c
    | false => .any
mutual
/-- What is handed to a call that only looks: the call's own memory as it stands. -/
def AV.lend (h : List (Option LB)) : AV → AV
  | .any => .any
  | .v x => .v x
  | .bl b => .bl b
  | .agg cs => .agg (AV.lendL h cs)
  | .tup cs => .tup (AV.lendL h cs)
  | .tree t xs => .tree t xs
  | .tptr t xs row off => .tptr t xs row off
  | .bptr cs off => .bptr cs off
  | .loc id row off => match h[id]? with
    | some (some (.arr _ t xs)) => .tptr t xs row off
    | some (some (.box _ cs)) => .bptr (cs.map (AV.lend1 h)) off
    | _ => .any
  | .own id => match h[id]? with
    | some (some (.arr _ t xs)) => .tree t xs
    | some (some (.nst _ _ t xss)) => .tree (.sl t) xss
    | _ => .any
  | .view id lo n => match h[id]? with
    | some (some (.arr _ t xs)) => .tree t ((xs.drop lo).take n)
    | _ => .any
  | .rowv id k => match h[id]? with
    | some (some (.nst _ _ t xss)) => .tree t (xss.getD k [])
    | _ => .any
  | .rloc _ _ _ _ => .any
  | .fn f cs => .fn f (AV.lendL h cs)
def AV.lendL (h : List (Option LB)) : List AV → List AV
  | [] => []
  | c :: cs => AV.lend h c :: AV.lendL h cs
end

theorem renL_get (ρ : Nat → Nat) : ∀ (cs : List AV) (i : Nat), (AV.renL ρ cs)[i]? = (cs[i]?).map (AV.ren ρ)
  | [], i => by simp [AV.renL]
  | c :: cs, 0 => by simp [AV.renL]
  | c :: cs, i + 1 => by simpa [AV.renL] using renL_get ρ cs i
theorem renL_length (ρ : Nat → Nat) : ∀ (cs : List AV), (AV.renL ρ cs).length = cs.length
  | [] => rfl
  | c :: cs => by simp [AV.renL, renL_length ρ cs]
theorem lendL_get (h : List (Option LB)) : ∀ (cs : List AV) (i : Nat), (AV.lendL h cs)[i]? = (cs[i]?).map (AV.lend h)
  | [], i => by simp [AV.lendL]
  | c :: cs, 0 => by simp [AV.lendL]
  | c :: cs, i + 1 => by simpa [AV.lendL] using lendL_get h cs i
theorem lendL_length (h : List (Option LB)) : ∀ (cs : List AV), (AV.lendL h cs).length = cs.length
  | [] => rfl
  | c :: cs => by simp [AV.lendL, lendL_length h cs]
theorem noTreeL_get : ∀ (cs : List AV), AV.noTreeL cs = true → ∀ (i : Nat) (c : AV), cs[i]? = some c → c.noTree = true
  | [], _, i, c, h => by simp at h
  | d :: cs, hh, i, c, h => by
    unfold AV.noTreeL at hh
    split at hh
    · rename_i e
      cases i with
      | zero => simp at h; subst h; exact e
      | succ i => simp at h; exact noTreeL_get cs hh i c h
    · cases hh
theorem isImmL_get : ∀ (cs : List AV), AV.isImmL cs = true → ∀ (i : Nat) (c : AV), cs[i]? = some c → c.isImm = true
  | [], _, i, c, h => by simp at h
  | d :: cs, hh, i, c, h => by
    unfold AV.isImmL at hh
    split at hh
    · rename_i e
      cases i with
      | zero => simp at h; subst h; exact e
      | succ i => simp at h; exact isImmL_get cs hh i c h
    · cases hh

theorem Rt.noTree {w w' : World} {S S' : Nat → Prop} {c : AV} {x : Value} (h : Rt w S c x) (hn : c.noTree = true) : Rt w' S' c x := by
  induction h with
  | any x => exact .any x
  | v x => exact .v x
  | bl x => exact .bl x
  | agg cs vs hl _ ih => exact .agg cs vs hl fun i c x h1 h2 => ih i c x h1 h2 (noTreeL_get cs (by simpa [AV.noTree] using hn) i c h1)
  | tup cs vs hl _ ih => exact .tup cs vs hl fun i c x h1 h2 => ih i c x h1 h2 (noTreeL_get cs (by simpa [AV.noTree] using hn) i c h1)
  | fn f cs vs hl _ ih => exact .fn f cs vs hl fun i c x h1 h2 => ih i c x h1 h2 (noTreeL_get cs (by simpa [AV.noTree] using hn) i c h1)
  | tree => simp [AV.noTree] at hn
  | tptr => simp [AV.noTree] at hn
  | bptr => simp [AV.noTree] at hn
theorem R.noTree {w w' : World} {S S' : Nat → Prop} {V : Nat → Info} {N : Nat} {c : AV} {x : Value} (h : R w S V N c x) (hn : c.noTree = true) : R w' S' V N c x := by
  induction h with
  | imm c x h => exact .imm _ _ (h.noTree hn)
  | agg cs vs hl _ ih => exact .agg cs vs hl fun i c x h1 h2 => ih i c x h1 h2 (noTreeL_get cs (by simpa [AV.noTree] using hn) i c h1)
  | tup cs vs hl _ ih => exact .tup cs vs hl fun i c x h1 h2 => ih i c x h1 h2 (noTreeL_get cs (by simpa [AV.noTree] using hn) i c h1)
  | loc id row off hid hrow => exact .loc id row off hid hrow
  | own id hid => exact .own id hid
  | view id lo n hid hrow => exact .view id lo n hid hrow
  | rowv id k hid hk => exact .rowv id k hid hk
  | rloc id k row off hid hk hrow => exact .rloc id k row off hid hk hrow
  | fn f cs vs hl _ ih => exact .fn f cs vs hl fun i c x h1 h2 => ih i c x h1 h2 (noTreeL_get cs (by simpa [AV.noTree] using hn) i c h1)

theorem R.toImm {w : World} {S : Nat → Prop} {V : Nat → Info} {N : Nat} {c : AV} {x : Value} (h : R w S V N c x) (hn : c.isImm = true) : Rt w S c x := by
  induction h with
  | imm c x h => exact h
  | agg cs vs hl _ ih => exact .agg cs vs hl fun i c x h1 h2 => ih i c x h1 h2 (isImmL_get cs (by simpa [AV.isImm] using hn) i c h1)
  | tup cs vs hl _ ih => exact .tup cs vs hl fun i c x h1 h2 => ih i c x h1 h2 (isImmL_get cs (by simpa [AV.isImm] using hn) i c h1)
  | loc id row off hid => simp [AV.isImm] at hn
  | own id hid => simp [AV.isImm] at hn
  | view id lo n hid => simp [AV.isImm] at hn
  | rowv id k hid => simp [AV.isImm] at hn
  | rloc id k row off hid => simp [AV.isImm] at hn
  | fn f cs vs hl _ ih => exact .fn f cs vs hl fun i c x h1 h2 => ih i c x h1 h2 (isImmL_get cs (by simpa [AV.isImm] using hn) i c h1)

theorem Rt.ren {w : World} {S : Nat → Prop} {c : AV} {x : Value} (h : Rt w S c x) (ρ : Nat → Nat) : Rt w S (c.ren ρ) x := by
  have lk : ∀ (cs : List AV) (vs : Array Value), (∀ (i : Nat) (c : AV) (x : Value), cs[i]? = some c → vs[i]? = some x → Rt w S (c.ren ρ) x) → ∀ (i : Nat) (c : AV) (x : Value), (AV.renL ρ cs)[i]? = some c → vs[i]? = some x → Rt w S c x := fun cs vs ih i c x h1 h2 => by
    rw [renL_get] at h1
    obtain ⟨c', h3, rfl⟩ := Option.map_eq_some_iff.1 h1
    exact ih i c' x h3 h2
  induction h with
  | any x => exact .any x
  | v x => exact .v x
  | bl x => exact .bl x
  | agg cs vs hl _ ih => exact .agg _ vs (by rw [renL_length]; exact hl) (lk cs vs ih)
  | tup cs vs hl _ ih => exact .tup _ vs (by rw [renL_length]; exact hl) (lk cs vs ih)
  | fn f cs vs hl _ ih => exact .fn f _ vs (by rw [renL_length]; exact hl) (lk cs vs ih)
  | tree t xs a len cap b o X hlen hb hc hm ha hx h _ => exact .tree t xs a len cap b o X hlen hb hc hm ha hx h
  | tptr t xs row off b o X ha hrow hx h _ => exact .tptr t xs row off b o X ha hrow hx h
  | bptr cs off b o X ha hx h _ => exact .bptr cs off b o X ha hx h

mutual
/-- The names in a value. -/
def AV.ids : AV → List Nat
  | .own i => [i]
  | .view i _ _ => [i]
  | .loc i _ _ => [i]
  | .rowv i _ => [i]
  | .rloc i _ _ _ => [i]
  | .agg cs => AV.idsL cs
  | .tup cs => AV.idsL cs
  | .fn _ cs => AV.idsL cs
  | .any => []
  | .v _ => []
  | .bl _ => []
  | .tree _ _ => []
  | .tptr _ _ _ _ => []
  | .bptr _ _ => []
def AV.idsL : List AV → List Nat
  | [] => []
  | c :: cs => AV.ids c ++ AV.idsL cs
end
def dedup : List Nat → List Nat
  | [] => []
  | i :: l => match (dedup l).any (Nat.beq i) with
    | true => dedup l
    | false => i :: dedup l
def posOf (i : Nat) : List Nat → Nat
  | [] => 0
  | j :: l => match Nat.beq i j with
    | true => 0
    | false => posOf i l + 1
theorem dedup_mem : ∀ {l : List Nat} {i : Nat}, i ∈ l → i ∈ dedup l
  | j :: l, i, h => by
    unfold dedup
    rcases List.mem_cons.1 h with e | e
    · subst e
      split
      · rename_i h1
        obtain ⟨k, hk, e⟩ := List.any_eq_true.1 h1
        rw [Nat.eq_of_beq_eq_true e]; exact hk
      · simp
    · split
      · exact dedup_mem e
      · simp [dedup_mem e]
theorem dedup_nodup : ∀ (l : List Nat), (dedup l).Nodup
  | [] => by simp [dedup]
  | j :: l => by
    unfold dedup
    split
    · exact dedup_nodup l
    · rename_i h1
      refine List.nodup_cons.2 ⟨fun hm => ?_, dedup_nodup l⟩
      have : (dedup l).any (Nat.beq j) = true := List.any_eq_true.2 ⟨j, hm, Nat.beq_refl j⟩
      rw [this] at h1; cases h1
theorem posOf_get : ∀ {l : List Nat} {i : Nat}, i ∈ l → posOf i l < l.length ∧ l.getD (posOf i l) 0 = i
  | j :: l, i, h => by
    unfold posOf
    split
    · rename_i e; have := Nat.eq_of_beq_eq_true e; subst this; simp
    · rename_i e
      have hne := Nat.ne_of_beq_eq_false e
      have h2 := posOf_get (l := l) (i := i) (by rcases List.mem_cons.1 h with e | e; exact absurd e hne; exact e)
      refine ⟨by simp; exact h2.1, ?_⟩
      simpa using h2.2
theorem idsL_mem : ∀ {cs : List AV} {i : Nat} {c : AV} {k : Nat}, cs[i]? = some c → k ∈ c.ids → k ∈ AV.idsL cs
  | d :: cs, 0, c, k, h, hk => by simp at h; subst h; simp [AV.idsL, hk]
  | d :: cs, i + 1, c, k, h, hk => by simp at h; simp [AV.idsL, idsL_mem h hk]
/-- New names for those that occur. -/
theorem R.renOcc {w : World} {S : Nat → Prop} {V V' : Nat → Info} {N N' : Nat} {c : AV} {x : Value} {ρ : Nat → Nat} (h : R w S V N c x) (hρ : ∀ i, i ∈ c.ids → i < N → ρ i < N' ∧ V' (ρ i) = V i) : R w S V' N' (c.ren ρ) x := by
  have lk : ∀ (cs : List AV) (vs : Array Value), (∀ (i : Nat) (c : AV) (x : Value), cs[i]? = some c → vs[i]? = some x → (∀ i, i ∈ c.ids → i < N → ρ i < N' ∧ V' (ρ i) = V i) → R w S V' N' (c.ren ρ) x) → (∀ i, i ∈ AV.idsL cs → i < N → ρ i < N' ∧ V' (ρ i) = V i) →
      ∀ (i : Nat) (c : AV) (x : Value), (AV.renL ρ cs)[i]? = some c → vs[i]? = some x → R w S V' N' c x := fun cs vs ih hh i c x h1 h2 => by
    rw [renL_get] at h1
    obtain ⟨c', h3, rfl⟩ := Option.map_eq_some_iff.1 h1
    exact ih i c' x h3 h2 fun k hk => hh k (idsL_mem h3 hk)
  induction h with
  | imm c x h => exact .imm _ _ (h.ren ρ)
  | agg cs vs hl _ ih => exact .agg _ vs (by rw [renL_length]; exact hl) (lk cs vs ih hρ)
  | tup cs vs hl _ ih => exact .tup _ vs (by rw [renL_length]; exact hl) (lk cs vs ih hρ)
  | loc id row off hid hrow => have := hρ id (by simp [AV.ids]) hid; rw [← this.2]; exact .loc _ row off this.1 (by rw [this.2]; exact hrow)
  | own id hid => have := hρ id (by simp [AV.ids]) hid; rw [← this.2]; exact .own _ this.1
  | view id lo n hid hrow => have := hρ id (by simp [AV.ids]) hid; rw [← this.2]; exact .view _ lo n this.1 (by rw [this.2]; exact hrow)
  | rowv id k hid hk => have := hρ id (by simp [AV.ids]) hid; rw [← this.2]; exact .rowv _ k this.1 (by rw [this.2]; exact hk)
  | rloc id k row off hid hk hrow => have := hρ id (by simp [AV.ids]) hid; rw [← this.2]; exact .rloc _ k row off this.1 (by rw [this.2]; exact hk) (by rw [this.2]; exact hrow)
  | fn f cs vs hl _ ih => exact .fn f _ vs (by rw [renL_length]; exact hl) (lk cs vs ih hρ)
theorem R.ren {w : World} {S : Nat → Prop} {V V' : Nat → Info} {N N' : Nat} {c : AV} {x : Value} {ρ : Nat → Nat} (h : R w S V N c x) (hρ : ∀ i, i < N → ρ i < N' ∧ V' (ρ i) = V i) : R w S V' N' (c.ren ρ) x :=
  h.renOcc fun i _ hi => hρ i hi

/-- The blocks of these names, and how they are put back; how names are given up. -/
def lentH (h : List (Option LB)) : List Nat → List (Option LB)
  | [] => []
  | i :: is => (h[i]?).getD none :: lentH h is
def putIds (h : List (Option LB)) : List Nat → List (Option LB) → List (Option LB)
  | [], _ => h
  | i :: is, o :: os => (putIds h is os).set i o
  | _ :: _, [] => h
theorem lentH_length (h : List (Option LB)) : ∀ is : List Nat, (lentH h is).length = is.length
  | [] => rfl
  | i :: is => by simp [lentH, lentH_length h is]
theorem lentH_get (h : List (Option LB)) : ∀ (is : List Nat) (j : Nat), (lentH h is)[j]? = (is[j]?).map fun i => (h[i]?).getD none
  | [], j => by simp [lentH]
  | i :: is, 0 => by simp [lentH]
  | i :: is, j + 1 => by simpa [lentH] using lentH_get h is j
theorem putIds_length (h : List (Option LB)) : ∀ (is : List Nat) (os : List (Option LB)), (putIds h is os).length = h.length
  | [], _ => rfl
  | i :: is, o :: os => by simp [putIds, putIds_length h is os]
  | _ :: _, [] => rfl
theorem putIds_get (h : List (Option LB)) : ∀ (is : List Nat) (os : List (Option LB)), is.Nodup → is.length = os.length → (∀ i ∈ is, i < h.length) → ∀ k : Nat,
    ((∃ j : Nat, is[j]? = some k ∧ (putIds h is os)[k]? = os[j]?) ∨ (k ∉ is ∧ (putIds h is os)[k]? = h[k]?))
  | [], os, _, _, _, k => .inr ⟨by simp, rfl⟩
  | i :: is, o :: os, hnd, hl, hlt, k => by
    obtain ⟨hni, hnd'⟩ := List.nodup_cons.1 hnd
    have ih := putIds_get h is os hnd' (by simpa using hl) (fun k hk => hlt k (by simp [hk])) k
    simp only [putIds]
    by_cases hik : i = k
    · subst hik
      refine .inl ⟨0, by simp, ?_⟩
      rw [List.getElem?_set]
      simp [putIds_length, hlt i (by simp)]
    · rw [List.getElem?_set, if_neg hik]
      rcases ih with ⟨j, e1, e2⟩ | ⟨e1, e2⟩
      · exact .inl ⟨j + 1, by simpa using e1, by simpa using e2⟩
      · exact .inr ⟨by simp [e1]; exact fun e => hik e.symm, e2⟩
  | _ :: _, [], _, hl, _, _ => by simp at hl

def killIds (h : List (Option LB)) : List Nat → List (Option LB)
  | [] => h
  | i :: is => (killIds h is).set i none
theorem killIds_get (h : List (Option LB)) : ∀ (is : List Nat) (k : Nat) (lb : LB), (killIds h is)[k]? = some (some lb) → k ∉ is ∧ h[k]? = some (some lb)
  | [], k, lb, e => ⟨by simp, e⟩
  | i :: is, k, lb, e => by
    simp only [killIds] at e
    rw [List.getElem?_set] at e
    by_cases hik : i = k
    · rw [if_pos hik] at e; split at e <;> simp at e
    · rw [if_neg hik] at e
      obtain ⟨e1, e2⟩ := killIds_get h is k lb e
      exact ⟨by simp [e1]; exact fun e => hik e.symm, e2⟩

/-- What may be read in the course of a call: what is at rest, and what is lent. -/
def Lent (A : Nat → Prop) (w : World) (h hl : List (Option LB)) (V : Nat → Info) (b : Nat) : Prop := Stb A w h V b ∨ ∃ id lb, hl[id]? = some (some lb) ∧ foot (V id) lb b

theorem SRV.lendArr {C : Ctx} {V st a w} (h : SRV C V st a w) {hl : List (Option LB)} (hsub : ∀ (id : Nat) (lb : LB), hl[id]? = some (some lb) → st.h[id]? = some (some lb)) {id ty : Nat} {t : Ty} {xs : List t.den} (e : hl[id]? = some (some (.arr ty t xs))) :
    ∃ (cap : Nat) (X : Nat → Nat → Value), (V id).val = .slice (some ⟨(V id).blk, 0, none⟩) xs.length cap ∧ (V id).len = xs.length ∧ (V id).sz = t.n ∧ xs.length ≤ cap ∧ cap ≤ maxLen ∧ xs.length ≤ bigLen ∧
      ∀ (k j : Nat) (c : AV), k < xs.length → (rowT t xs k)[j]? = some c → (w.cell? ⟨(V id).blk, k * t.n + j, none⟩ = some (X k j) ∧ (X k j).oneCell' = true) ∧ Rt w (Lent C.A w st.h hl V) c (X k j) := by
  obtain ⟨cur, hc⟩ := h.hr.blk id _ (hsub _ _ e)
  obtain ⟨cap, e1, e2, e3, _, e5⟩ := hc.own rfl
  refine ⟨cap, fun k j => (cur[k * t.n + j]?).getD undef, e1, hc.ln, hc.sz, e2, e3, e5, fun k j c g1 g2 => ?_⟩
  obtain ⟨y, f1, f2, f3⟩ := hc.cell k j c g1 g2
  have f1' : cur[k * t.n + j]? = some y := f1
  have e9 : (cur[k * t.n + j]?).getD undef = y := by rw [f1']; rfl
  rw [cell_of_row _ _ _ _ _ _ (hc.heap rfl).choose_spec.1, f1']
  simp only [e9]
  refine ⟨⟨trivial, f2⟩, ?_⟩
  exact (hc.still rfl k j c y g1 g2 f1').mono fun b hb => ⟨.inl hb, rfl⟩

/-- An own slice of slices, lent. -/
theorem SRV.lendRow {C : Ctx} {V st a w} (h : SRV C V st a w) {hl : List (Option LB)} (hsub : ∀ (id : Nat) (lb : LB), hl[id]? = some (some lb) → st.h[id]? = some (some lb)) {id ty tyI : Nat} {t : Ty} {xss : List (List t.den)} (e : hl[id]? = some (some (.nst ty tyI t xss))) {k : Nat} (hk : k < xss.length) :
    Rt w (Lent C.A w st.h hl V) (.tree t (xss.getD k [])) ((V id).subs k).val := by
  obtain ⟨cur, cap, hn, _⟩ := h.nst (hsub _ _ e)
  obtain ⟨f1, f2, f3, f4, f5⟩ := hn.ok k hk
  obtain ⟨ck, g1, g2, g3⟩ := hn.row k hk
  unfold RowI.val
  refine .tree t _ _ _ _ ((V id).subs k).blk 0 (fun i j => (ck[i * t.n + j]?).getD undef) f2 (by omega) (by omega) f4 (fun _ => ⟨rfl, .inr ⟨id, _, e, .inr ⟨k, hk, rfl⟩⟩⟩) (fun i j c h1 h2 => ?_) (fun i j c h1 h2 => ?_)
  · obtain ⟨x, e1, e2, _⟩ := g3 i j c h1 h2
    rw [cell_of_row _ _ _ _ _ _ g1, Nat.zero_add, e1]
    exact ⟨rfl, e2⟩
  · obtain ⟨x, e1, _, e3⟩ := g3 i j c h1 h2
    simp only [e1, Option.getD_some]
    exact e3.mono fun b hb => ⟨.inl hb, rfl⟩
theorem rowT_sl (t : Ty) (xss : List (List t.den)) (k : Nat) : rowT (.sl t) xss k = [.tree t (xss.getD k [])] := rfl
theorem SRV.lendNst {C : Ctx} {V st a w} (h : SRV C V st a w) {hl : List (Option LB)} (hsub : ∀ (id : Nat) (lb : LB), hl[id]? = some (some lb) → st.h[id]? = some (some lb)) {id ty tyI : Nat} {t : Ty} {xss : List (List t.den)} (e : hl[id]? = some (some (.nst ty tyI t xss))) :
    Rt w (Lent C.A w st.h hl V) (.tree (.sl t) xss) (V id).val := by
  obtain ⟨cur, cap, hn, e1, e2, e3, e4, e5, e6, e7⟩ := h.nst (hsub _ _ e)
  rw [e1]
  refine .tree (.sl t) xss _ _ cap (V id).blk 0 (fun k _ => ((V id).subs k).val) rfl e5 e2 e3 (fun _ => ⟨rfl, .inr ⟨id, _, e, .inl rfl⟩⟩) (fun k j c h1 h2 => ?_) (fun k j c h1 h2 => ?_)
  · rw [rowT_sl] at h2
    cases j with
    | zero =>
      rw [cell_of_row _ _ _ _ _ _ hn.frh.choose_spec]
      refine ⟨?_, rfl⟩
      have := hn.at_ k h1
      simpa [Ty.n] using this
    | succ j => simp at h2
  · rw [rowT_sl] at h2
    cases j with
    | zero => simp only [List.getElem?_cons_zero, Option.some.injEq] at h2; subst h2; exact h.lendRow hsub e h1
    | succ j => simp at h2
theorem SRV.lend1 {C : Ctx} {V st a w} (h : SRV C V st a w) {hl : List (Option LB)} (hsub : ∀ (id : Nat) (lb : LB), hl[id]? = some (some lb) → st.h[id]? = some (some lb)) {c : AV} {x : Value} (hr : R w (Stb C.A w st.h V) V st.h.length c x) : Rt w (Lent C.A w st.h hl V) (c.lend1 hl) x := by
  have hS : ∀ b, Stb C.A w st.h V b → Lent C.A w st.h hl V b ∧ w.heap[b]? = w.heap[b]? := fun b hs => ⟨.inl hs, rfl⟩
  have imm : ∀ c : AV, R w (Stb C.A w st.h V) V st.h.length c x → Rt w (Lent C.A w st.h hl V) (match c.isImm with | true => c | false => .any) x := fun c hr => by
    split
    · rename_i e; exact (hr.toImm e).mono hS
    · exact .any _
  unfold AV.lend1
  split
  · rename_i id
    split
    · rename_i ty t xs e
      obtain ⟨cap, X, e1, e2, e3, e4, e5, e6, e7⟩ := h.lendArr hsub e
      rw [hr.own_inv, e1]
      refine .tree t xs _ _ cap (V id).blk 0 X rfl e6 e4 e5 (fun _ => ⟨rfl, .inr ⟨id, _, e, .inl rfl⟩⟩) (fun k j c g1 g2 => ?_) (fun k j c g1 g2 => (e7 k j c g1 g2).2)
      have := (e7 k j c g1 g2).1
      rwa [Nat.zero_add]
    · exact .any _
  · exact imm c hr

theorem SRV.lend {C : Ctx} {V st a w} (h : SRV C V st a w) {hl : List (Option LB)} (hsub : ∀ (id : Nat) (lb : LB), hl[id]? = some (some lb) → st.h[id]? = some (some lb)) {c : AV} {x : Value} (hr : R w (Stb C.A w st.h V) V st.h.length c x) : Rt w (Lent C.A w st.h hl V) (c.lend hl) x := by
  have hS : ∀ b, Stb C.A w st.h V b → Lent C.A w st.h hl V b ∧ w.heap[b]? = w.heap[b]? := fun b hs => ⟨.inl hs, rfl⟩
  have lk : ∀ (cs : List AV) (vs : Array Value), (∀ (i : Nat) (c : AV) (x : Value), cs[i]? = some c → vs[i]? = some x → Rt w (Lent C.A w st.h hl V) (c.lend hl) x) → ∀ (i : Nat) (c : AV) (x : Value), (AV.lendL hl cs)[i]? = some c → vs[i]? = some x → Rt w (Lent C.A w st.h hl V) c x := fun cs vs ih i c x h1 h2 => by
    rw [lendL_get] at h1
    obtain ⟨c', h3, rfl⟩ := Option.map_eq_some_iff.1 h1
    exact ih i c' x h3 h2
  induction hr with
  | imm c x h' =>
    induction h' with
    | any x => exact .any x
    | v x => exact .v x
    | bl x => exact .bl x
    | agg cs vs hl _ ih => exact .agg _ vs (by rw [lendL_length]; exact hl) (lk cs vs ih)
    | tup cs vs hl _ ih => exact .tup _ vs (by rw [lendL_length]; exact hl) (lk cs vs ih)
    | fn f cs vs hl _ ih => exact .fn f _ vs (by rw [lendL_length]; exact hl) (lk cs vs ih)
    | tree t xs a len cap b o X hlen hb hc hm ha hx h _ => exact .tree t xs a len cap b o X hlen hb hc hm (fun e => ⟨(ha e).1, .inl (ha e).2⟩) hx (fun k j c h1 h2 => (h k j c h1 h2).mono hS)
    | tptr t xs row off b o X ha hrow hx h _ => exact .tptr t xs row off b o X (.inl ha) hrow hx (fun k j c h1 h2 => (h k j c h1 h2).mono hS)
    | bptr cs off b o X ha hx h _ => exact .bptr cs off b o X (.inl ha) hx (fun j c h2 => (h j c h2).mono hS)
  | agg cs vs hl _ ih => exact .agg _ vs (by rw [lendL_length]; exact hl) (lk cs vs ih)
  | tup cs vs hl _ ih => exact .tup _ vs (by rw [lendL_length]; exact hl) (lk cs vs ih)
  | fn f cs vs hl _ ih => exact .fn f _ vs (by rw [lendL_length]; exact hl) (lk cs vs ih)
  | loc id row off hid hrow =>
    unfold AV.lend
    split
    · rename_i ty t xs e
      obtain ⟨cap, X, e1, e2, e3, e4, e5, e6, e7⟩ := h.lendArr hsub e
      have := Rt.tptr (w := w) (S := Lent C.A w st.h hl V) t xs row off (V id).blk 0 X (.inr ⟨id, _, e, .inl rfl⟩) (by rw [← e2]; exact hrow) (fun k j c g1 g2 => by rw [Nat.zero_add]; exact (e7 k j c g1 g2).1) (fun k j c g1 g2 => (e7 k j c g1 g2).2)
      rw [e3]
      simpa using this
    · rename_i ty cs e
      obtain ⟨cur, hc⟩ := h.hr.blk id _ (hsub _ _ e)
      have hrow0 : row = 0 := by have := hc.ln; simp only [LB.len] at this; omega
      subst hrow0
      have hget2 : ∀ (j : Nat) (c : AV), (cs.map (AV.lend1 hl))[j]? = some c → ∃ c', cs[j]? = some c' ∧ c = c'.lend1 hl := fun j c e => by
        rw [List.getElem?_map] at e
        obtain ⟨r', e1, e2⟩ := Option.map_eq_some_iff.1 e
        exact ⟨r', e1, e2.symm⟩
      have hcell : ∀ (j : Nat) (c : AV), cs[j]? = some c → ∃ y, cur[j]? = some y ∧ y.oneCell' = true ∧ R w (Stb C.A w st.h V) V st.h.length c y := fun j c e => by
        have := hc.cell 0 j c Nat.zero_lt_one e
        simpa using this
      have := Rt.bptr (w := w) (S := Lent C.A w st.h hl V) (cs.map (AV.lend1 hl)) off (V id).blk 0 (fun j => (cur[j]?).getD undef) (.inr ⟨id, _, e, .inl rfl⟩)
        (fun j c h2 => by
          obtain ⟨c', e2, rfl⟩ := hget2 j c h2
          obtain ⟨y, f1, f2, f3⟩ := hcell j c' e2
          rw [Nat.zero_add, cell_of_row _ _ _ _ _ _ (hc.heap rfl).choose_spec.1, f1]
          exact ⟨rfl, f2⟩)
        (fun j c h2 => by
          obtain ⟨c', e2, rfl⟩ := hget2 j c h2
          obtain ⟨y, f1, f2, f3⟩ := hcell j c' e2
          rw [f1]
          exact h.lend1 hsub f3)
      simpa using this
    · exact .any _
  | own id hid =>
    unfold AV.lend
    split
    · rename_i ty t xs e
      obtain ⟨cap, X, e1, e2, e3, e4, e5, e6, e7⟩ := h.lendArr hsub e
      rw [e1]
      refine .tree t xs _ _ cap (V id).blk 0 X rfl e6 e4 e5 (fun _ => ⟨rfl, .inr ⟨id, _, e, .inl rfl⟩⟩) (fun k j c g1 g2 => ?_) (fun k j c g1 g2 => (e7 k j c g1 g2).2)
      rw [Nat.zero_add]; exact (e7 k j c g1 g2).1
    · rename_i ty tyI t xss e
      exact h.lendNst hsub e
    · exact .any _
  | view id lo n hid hrow =>
    unfold AV.lend
    split
    · rename_i ty t xs e
      obtain ⟨cap, X, e1, e2, e3, e4, e5, e6, e7⟩ := h.lendArr hsub e
      rw [e1, e3]
      simp only [partV]
      have hln : ((xs.drop lo).take n).length = n := by simp; omega
      have hrw : ∀ k, k < n → rowT t ((xs.drop lo).take n) k = rowT t xs (lo + k) := fun k hk => by
        simp only [rowT, List.getD_eq_getElem?_getD, List.getElem?_take, if_pos hk, List.getElem?_drop]
      refine .tree t _ _ _ _ (V id).blk (lo * t.n) (fun k j => X (lo + k) j) hln.symm (by omega) (by omega) (by omega) (fun hne => ⟨?_, .inr ⟨id, _, e, .inl rfl⟩⟩) (fun k j c g1 g2 => ?_) (fun k j c g1 g2 => ?_)
      · rw [if_neg (by omega)]; simp [Addr.add_lit]
      · rw [hrw k (by omega)] at g2
        have := (e7 (lo + k) j c (by omega) g2).1
        rw [show lo * t.n + k * t.n + j = (lo + k) * t.n + j by rw [Nat.add_mul]]
        exact this
      · rw [hrw k (by omega)] at g2
        exact (e7 (lo + k) j c (by omega) g2).2
    · exact .any _
  | rowv id k hid hk =>
    unfold AV.lend
    split
    · rename_i ty tyI t xss e
      obtain ⟨_, _, _, _, _, _, _, _, _, e7⟩ := h.nst (hsub _ _ e)
      exact h.lendRow hsub e (by rw [← e7]; exact hk)
    · exact .any _
  | rloc id k row off hid hk hrow => exact .any _
end Go.Proofs.YtpmmaohaahbphaaDoor
