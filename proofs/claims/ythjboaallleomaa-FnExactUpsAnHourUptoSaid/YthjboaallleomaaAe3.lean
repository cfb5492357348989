/-
  The abstract evaluator, part 3: contracts, calls, operations that write, regions, code.
-/
import Derived.Test.YthjboaallleomaaAe2
namespace Go.Proofs.Ythjboaallleomaa
open Go.RowKit

mutual
def AV.ren (ρ : Nat → Nat) : AV → AV
  | .any => .any
  | .v x => .v x
  | .agg cs => .agg (AV.renL ρ cs)
  | .tup cs => .tup (AV.renL ρ cs)
  | .tree sz len rows => .tree sz len rows
  | .tptr sz len rows row off => .tptr sz len rows row off
  | .loc id row off => .loc (ρ id) row off
  | .own id => .own (ρ id)
  | .fn f cs => .fn f (AV.renL ρ cs)
def AV.renL (ρ : Nat → Nat) : List AV → List AV
  | [] => []
  | c :: cs => AV.ren ρ c :: AV.renL ρ cs
end
mutual
def AV.noTree : AV → Bool
  | .any => true
  | .v _ => true
  | .agg cs => AV.noTreeL cs
  | .tup cs => AV.noTreeL cs
  | .tree _ _ _ => false
  | .tptr _ _ _ _ _ => false
  | .loc _ _ _ => true
  | .own _ => true
  | .fn _ cs => AV.noTreeL cs
def AV.noTreeL : List AV → Bool
  | [] => true
  | c :: cs => AV.noTree c && AV.noTreeL cs
end
mutual
def AV.isImm : AV → Bool
  | .any => true
  | .v _ => true
  | .agg cs => AV.isImmL cs
  | .tup cs => AV.isImmL cs
  | .tree _ _ _ => true
  | .tptr _ _ _ _ _ => true
  | .loc _ _ _ => false
  | .own _ => false
  | .fn _ cs => AV.isImmL cs
def AV.isImmL : List AV → Bool
  | [] => true
  | c :: cs => AV.isImm c && AV.isImmL cs
end
def AV.immOr (c : AV) : AV :=
  match c.isImm with
  | true => c
  | false => .any
mutual
/-- What is handed to a call that only looks: the call's own memory as it stands. -/
def AV.lend (h : List (Option LB)) : AV → AV
  | .any => .any
  | .v x => .v x
  | .agg cs => .agg (AV.lendL h cs)
  | .tup cs => .tup (AV.lendL h cs)
  | .tree sz len rows => .tree sz len rows
  | .tptr sz len rows row off => .tptr sz len rows row off
  | .loc id row off => match h[id]? with
    | some (some ⟨_, sz, len, rows, true⟩) => .tptr sz len rows row off
    | some (some ⟨_, sz, len, rows, false⟩) => .tptr sz len (fun k => (rows k).map AV.immOr) row off
    | _ => .any
  | .own id => match h[id]? with
    | some (some ⟨_, sz, len, rows, true⟩) => .tree sz len rows
    | _ => .any
  | .fn f cs => .fn f (AV.lendL h cs)
def AV.lendL (h : List (Option LB)) : List AV → List AV
  | [] => []
  | c :: cs => AV.lend h c :: AV.lendL h cs
end

theorem renL_get (ρ : Nat → Nat) : ∀ (cs : List AV) (i : Nat), (AV.renL ρ cs)[i]? = (cs[i]?).map (AV.ren ρ)
  | [], i => by simp [AV.renL]
  | c :: cs, 0 => by simp [AV.renL]
  | c :: cs, i + 1 => by simpa [AV.renL] using renL_get ρ cs i
theorem renL_length (ρ : Nat → Nat) : ∀ (cs : List AV), (AV.renL ρ cs).length = cs.length
  | [] => rfl
  | c :: cs => by simp [AV.renL, renL_length ρ cs]
theorem lendL_get (h : List (Option LB)) : ∀ (cs : List AV) (i : Nat), (AV.lendL h cs)[i]? = (cs[i]?).map (AV.lend h)
  | [], i => by simp [AV.lendL]
  | c :: cs, 0 => by simp [AV.lendL]
  | c :: cs, i + 1 => by simpa [AV.lendL] using lendL_get h cs i
theorem lendL_length (h : List (Option LB)) : ∀ (cs : List AV), (AV.lendL h cs).length = cs.length
  | [] => rfl
  | c :: cs => by simp [AV.lendL, lendL_length h cs]
theorem noTreeL_get : ∀ (cs : List AV), AV.noTreeL cs = true → ∀ (i : Nat) (c : AV), cs[i]? = some c → c.noTree = true
  | [], _, i, c, h => by simp at h
  | d :: cs, hh, 0, c, h => by simp [AV.noTreeL] at hh h; subst h; exact hh.1
  | d :: cs, hh, i + 1, c, h => by simp [AV.noTreeL] at hh h; exact noTreeL_get cs hh.2 i c h
theorem isImmL_get : ∀ (cs : List AV), AV.isImmL cs = true → ∀ (i : Nat) (c : AV), cs[i]? = some c → c.isImm = true
  | [], _, i, c, h => by simp at h
  | d :: cs, hh, 0, c, h => by simp [AV.isImmL] at hh h; subst h; exact hh.1
  | d :: cs, hh, i + 1, c, h => by simp [AV.isImmL] at hh h; exact isImmL_get cs hh.2 i c h

theorem Rt.noTree {w : World} {S S' : Nat → Prop} {c : AV} {x : Value} (h : Rt w S c x) (hn : c.noTree = true) : Rt w S' c x := by
  induction h with
  | any x => exact .any x
  | v x => exact .v x
  | agg cs vs hl _ ih => exact .agg cs vs hl fun i c x h1 h2 => ih i c x h1 h2 (noTreeL_get cs (by simpa [AV.noTree] using hn) i c h1)
  | tup cs vs hl _ ih => exact .tup cs vs hl fun i c x h1 h2 => ih i c x h1 h2 (noTreeL_get cs (by simpa [AV.noTree] using hn) i c h1)
  | fn f cs vs hl _ ih => exact .fn f cs vs hl fun i c x h1 h2 => ih i c x h1 h2 (noTreeL_get cs (by simpa [AV.noTree] using hn) i c h1)
  | tree => simp [AV.noTree] at hn
  | tptr => simp [AV.noTree] at hn
theorem R.noTree {w : World} {S S' : Nat → Prop} {V : Nat → Info} {N : Nat} {c : AV} {x : Value} (h : R w S V N c x) (hn : c.noTree = true) : R w S' V N c x := by
  induction h with
  | imm c x h => exact .imm _ _ (h.noTree hn)
  | agg cs vs hl _ ih => exact .agg cs vs hl fun i c x h1 h2 => ih i c x h1 h2 (noTreeL_get cs (by simpa [AV.noTree] using hn) i c h1)
  | tup cs vs hl _ ih => exact .tup cs vs hl fun i c x h1 h2 => ih i c x h1 h2 (noTreeL_get cs (by simpa [AV.noTree] using hn) i c h1)
  | loc id row off hid => exact .loc id row off hid
  | own id hid => exact .own id hid
  | fn f cs vs hl _ ih => exact .fn f cs vs hl fun i c x h1 h2 => ih i c x h1 h2 (noTreeL_get cs (by simpa [AV.noTree] using hn) i c h1)

theorem R.toImm {w : World} {S : Nat → Prop} {V : Nat → Info} {N : Nat} {c : AV} {x : Value} (h : R w S V N c x) (hn : c.isImm = true) : Rt w S c x := by
  induction h with
  | imm c x h => exact h
  | agg cs vs hl _ ih => exact .agg cs vs hl fun i c x h1 h2 => ih i c x h1 h2 (isImmL_get cs (by simpa [AV.isImm] using hn) i c h1)
  | tup cs vs hl _ ih => exact .tup cs vs hl fun i c x h1 h2 => ih i c x h1 h2 (isImmL_get cs (by simpa [AV.isImm] using hn) i c h1)
  | loc id row off hid => simp [AV.isImm] at hn
  | own id hid => simp [AV.isImm] at hn
  | fn f cs vs hl _ ih => exact .fn f cs vs hl fun i c x h1 h2 => ih i c x h1 h2 (isImmL_get cs (by simpa [AV.isImm] using hn) i c h1)
theorem R.toImmOr {w : World} {S : Nat → Prop} {V : Nat → Info} {N : Nat} {c : AV} {x : Value} (h : R w S V N c x) : Rt w S c.immOr x := by
  unfold AV.immOr
  split
  · rename_i hn; exact h.toImm hn
  · exact .any _

theorem Rt.ren {w : World} {S : Nat → Prop} {c : AV} {x : Value} (h : Rt w S c x) (ρ : Nat → Nat) : Rt w S (c.ren ρ) x := by
  have lk : ∀ (cs : List AV) (vs : Array Value), (∀ (i : Nat) (c : AV) (x : Value), cs[i]? = some c → vs[i]? = some x → Rt w S (c.ren ρ) x) → ∀ (i : Nat) (c : AV) (x : Value), (AV.renL ρ cs)[i]? = some c → vs[i]? = some x → Rt w S c x := fun cs vs ih i c x h1 h2 => by
    rw [renL_get] at h1
    obtain ⟨c', h3, rfl⟩ := Option.map_eq_some_iff.1 h1
    exact ih i c' x h3 h2
  induction h with
  | any x => exact .any x
  | v x => exact .v x
  | agg cs vs hl _ ih => exact .agg _ vs (by rw [renL_length]; exact hl) (lk cs vs ih)
  | tup cs vs hl _ ih => exact .tup _ vs (by rw [renL_length]; exact hl) (lk cs vs ih)
  | fn f cs vs hl _ ih => exact .fn f _ vs (by rw [renL_length]; exact hl) (lk cs vs ih)
  | tree sz len rows a cap b o X hb hc hm ha hz hx h _ => exact .tree sz len rows a cap b o X hb hc hm ha hz hx h
  | tptr sz len rows row off b o X ha hz hx h _ => exact .tptr sz len rows row off b o X ha hz hx h

theorem R.ren {w : World} {S : Nat → Prop} {V V' : Nat → Info} {N N' : Nat} {c : AV} {x : Value} {ρ : Nat → Nat} (h : R w S V N c x) (hρ : ∀ i, i < N → ρ i < N' ∧ V' (ρ i) = V i) : R w S V' N' (c.ren ρ) x := by
  have lk : ∀ (cs : List AV) (vs : Array Value), (∀ (i : Nat) (c : AV) (x : Value), cs[i]? = some c → vs[i]? = some x → R w S V' N' (c.ren ρ) x) → ∀ (i : Nat) (c : AV) (x : Value), (AV.renL ρ cs)[i]? = some c → vs[i]? = some x → R w S V' N' c x := fun cs vs ih i c x h1 h2 => by
    rw [renL_get] at h1
    obtain ⟨c', h3, rfl⟩ := Option.map_eq_some_iff.1 h1
    exact ih i c' x h3 h2
  induction h with
  | imm c x h => exact .imm _ _ (h.ren ρ)
  | agg cs vs hl _ ih => exact .agg _ vs (by rw [renL_length]; exact hl) (lk cs vs ih)
  | tup cs vs hl _ ih => exact .tup _ vs (by rw [renL_length]; exact hl) (lk cs vs ih)
  | loc id row off hid => rw [← (hρ id hid).2]; exact .loc _ row off (hρ id hid).1
  | own id hid => rw [← (hρ id hid).2]; exact .own _ (hρ id hid).1
  | fn f cs vs hl _ ih => exact .fn f _ vs (by rw [renL_length]; exact hl) (lk cs vs ih)

/-- What may be read in the course of a call: what is at rest, and the call's own blocks as they stand. -/
def Lent (A : Nat → Prop) (w : World) (h : List (Option LB)) (V : Nat → Info) (b : Nat) : Prop := Stb A w h V b ∨ ∃ id lb, h[id]? = some (some lb) ∧ (V id).blk = b
theorem Lent.lt {w0 : World} {M A V h w b} (hr : HR w0 M A V h w) (hl : Lent A w h V b) : b < w.heap.size := by
  rcases hl with hl | ⟨id, lb, h1, rfl⟩
  · exact hl.2.1
  · exact hr.lt h1

theorem SRV.lend {C : Ctx} {V st a w} (h : SRV C V st a w) {c : AV} {x : Value} (hr : R w (Stb C.A w st.h V) V st.h.length c x) : Rt w (Lent C.A w st.h V) (c.lend st.h) x := by
  have hS : ∀ b, Stb C.A w st.h V b → Lent C.A w st.h V b ∧ w.heap[b]? = w.heap[b]? := fun b hs => ⟨.inl hs, rfl⟩
  have lk : ∀ (cs : List AV) (vs : Array Value), (∀ (i : Nat) (c : AV) (x : Value), cs[i]? = some c → vs[i]? = some x → Rt w (Lent C.A w st.h V) (c.lend st.h) x) → ∀ (i : Nat) (c : AV) (x : Value), (AV.lendL st.h cs)[i]? = some c → vs[i]? = some x → Rt w (Lent C.A w st.h V) c x := fun cs vs ih i c x h1 h2 => by
    rw [lendL_get] at h1
    obtain ⟨c', h3, rfl⟩ := Option.map_eq_some_iff.1 h1
    exact ih i c' x h3 h2
  induction hr with
  | imm c x h' =>
    induction h' with
    | any x => exact .any x
    | v x => exact .v x
    | agg cs vs hl _ ih => exact .agg _ vs (by rw [lendL_length]; exact hl) (lk cs vs ih)
    | tup cs vs hl _ ih => exact .tup _ vs (by rw [lendL_length]; exact hl) (lk cs vs ih)
    | fn f cs vs hl _ ih => exact .fn f _ vs (by rw [lendL_length]; exact hl) (lk cs vs ih)
    | tree sz len rows a cap b o X hb hc hm ha hz hx h _ => exact .tree sz len rows a cap b o X hb hc hm (fun e => ⟨(ha e).1, .inl (ha e).2⟩) hz hx (fun k j c h1 h2 => (h k j c h1 h2).mono hS)
    | tptr sz len rows row off b o X ha hz hx h _ => exact .tptr sz len rows row off b o X (.inl ha) hz hx (fun k j c h1 h2 => (h k j c h1 h2).mono hS)
  | agg cs vs hl _ ih => exact .agg _ vs (by rw [lendL_length]; exact hl) (lk cs vs ih)
  | tup cs vs hl _ ih => exact .tup _ vs (by rw [lendL_length]; exact hl) (lk cs vs ih)
  | fn f cs vs hl _ ih => exact .fn f _ vs (by rw [lendL_length]; exact hl) (lk cs vs ih)
  | loc id row off hid =>
    have hcellOf : ∀ (lb : LB), st.h[id]? = some (some lb) → ∃ cur, BlkR w (Stb C.A w st.h V) V st.h.length (V id) lb cur ∧ ∀ (k j : Nat) (c : AV), k < lb.len → (lb.rows k)[j]? = some c → w.cell? ⟨(V id).blk, 0 + k * lb.sz + j, none⟩ = some ((cur[k * lb.sz + j]?).getD undef) ∧ ((cur[k * lb.sz + j]?).getD undef).oneCell' = true ∧ R w (Stb C.A w st.h V) V st.h.length c ((cur[k * lb.sz + j]?).getD undef) ∧ (lb.arr = true → Rt w (Stb C.A w st.h V) c ((cur[k * lb.sz + j]?).getD undef)) := fun lb hlb => by
      obtain ⟨cur, hc⟩ := h.hr.blk id lb hlb
      refine ⟨cur, hc, fun k j c h1 h2 => ?_⟩
      obtain ⟨y, e1, e2, e3⟩ := hc.cell k j c h1 h2
      rw [cell_of_row _ _ _ _ _ _ hc.heap, Nat.zero_add, e1]
      exact ⟨rfl, e2, e3, fun harr => hc.still harr k j c y h1 h2 e1⟩
    unfold AV.lend
    split
    · rename_i ty sz len rows hlb
      obtain ⟨cur, hc, hcell⟩ := hcellOf _ hlb
      have e := hc.sz
      simp only at e
      rw [e]
      have := Rt.tptr (w := w) (S := Lent C.A w st.h V) sz len rows row off (V id).blk 0 (fun k j => (cur[k * sz + j]?).getD undef) (.inr ⟨id, _, hlb, rfl⟩) hc.rows (fun k j c h1 h2 => ⟨(hcell k j c h1 h2).1, (hcell k j c h1 h2).2.1⟩) (fun k j c h1 h2 => ((hcell k j c h1 h2).2.2.2 rfl).mono hS)
      simpa using this
    · rename_i ty sz len rows hlb
      obtain ⟨cur, hc, hcell⟩ := hcellOf _ hlb
      have e := hc.sz
      simp only at e
      rw [e]
      have hget2 : ∀ (r : List AV) (j : Nat) (c : AV), (r.map AV.immOr)[j]? = some c → ∃ c', r[j]? = some c' ∧ c = c'.immOr := fun r j c e => by
        rw [List.getElem?_map] at e
        obtain ⟨r', e1, e2⟩ := Option.map_eq_some_iff.1 e
        exact ⟨r', e1, e2.symm⟩
      have := Rt.tptr (w := w) (S := Lent C.A w st.h V) sz len (fun k => (rows k).map AV.immOr) row off (V id).blk 0 (fun k j => (cur[k * sz + j]?).getD undef) (.inr ⟨id, _, hlb, rfl⟩)
        (fun k hk => by simpa using hc.rows k hk)
        (fun k j c h1 h2 => by obtain ⟨c', e2, rfl⟩ := hget2 _ j c h2; exact ⟨(hcell k j c' h1 e2).1, (hcell k j c' h1 e2).2.1⟩)
        (fun k j c h1 h2 => by obtain ⟨c', e2, rfl⟩ := hget2 _ j c h2; exact ((hcell k j c' h1 e2).2.2.1.toImmOr).mono hS)
      simpa using this
    · exact .any _
  | own id hid =>
    unfold AV.lend
    split
    · rename_i ty sz len rows hlb
      obtain ⟨cur, hc⟩ := h.hr.blk id _ hlb
      obtain ⟨cap, e, h1, h2, h3, h4⟩ := hc.own rfl
      rw [e]
      refine .tree sz len rows _ cap (V id).blk 0 (fun k j => (cur[k * sz + j]?).getD undef) h4 h1 h2 (fun _ => ⟨rfl, .inr ⟨id, _, hlb, rfl⟩⟩) hc.rows (fun k j c g1 g2 => ?_) (fun k j c g1 g2 => ?_)
      · obtain ⟨y, e1, e2, e3⟩ := hc.cell k j c g1 g2
        rw [cell_of_row _ _ _ _ _ _ hc.heap, Nat.zero_add, e1]
        exact ⟨rfl, e2⟩
      · obtain ⟨y, e1, e2, e3⟩ := hc.cell k j c g1 g2
        simp only [e1, Option.getD_some]
        exact (hc.still rfl k j c y g1 g2 e1).mono hS
    · exact .any _

end Go.Proofs.Ythjboaallleomaa
