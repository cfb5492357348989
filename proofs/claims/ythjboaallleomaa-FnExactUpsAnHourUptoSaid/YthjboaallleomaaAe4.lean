/-
  The abstract evaluator, part 4: contracts and calls.
-/
import Derived.Test.YthjboaallleomaaAe3
namespace Go.Proofs.Ythjboaallleomaa
open Go.RowKit

def blkOf (h : List (Option LB)) (V : Nat → Info) (b : Nat) : Prop := ∃ id lb, h[id]? = some (some lb) ∧ (V id).blk = b

/-- THE CONTRACT OF A FUNCTION: called with values that stand to 'args' as told, the blocks 'h' being its to write, it returns a value of which Q speaks; of all else nothing has turned.
    S0: what its arguments' trees may lie in; what it hands back lies there, or in new memory. -/
def Spec (P : Program) (f : FuncId) (args : List AV) (h : List (Option LB)) (Q : AV → List (Option LB) → Prop) : Prop :=
  ∀ (w : World) (V : Nat → Info) (S0 : Nat → Prop) (vs : Array Value), HR w (blkOf h V) (fun b => S0 b ∨ w.heap.size ≤ b) V h w → vs.size = args.length →
    (∀ (i : Nat) (c : AV) (x : Value), args[i]? = some c → vs[i]? = some x → R w (Stb (fun b => S0 b ∨ w.heap.size ≤ b) w h V) V h.length c x) →
    Calls P f vs w fun e w' => ∃ c x V' h', e = .returned x ∧ Q c h' ∧ Kept (blkOf h V) w w' ∧ h.length ≤ h'.length ∧ (∀ i, i < h.length → V' i = V i) ∧
      HR w (blkOf h V) (fun b => S0 b ∨ w.heap.size ≤ b) V' h' w' ∧ R w' (Stb (fun b => S0 b ∨ w.heap.size ≤ b) w' h' V') V' h'.length c x

theorem Spec.mono {P f args h} {Q Q' : AV → List (Option LB) → Prop} (hs : Spec P f args h Q) (hq : ∀ c h', Q c h' → Q' c h') : Spec P f args h Q' :=
  fun w V S0 vs h1 h2 h3 => (hs w V S0 vs h1 h2 h3).mono fun _ _ ⟨c, x, V', h', e1, e2, e3⟩ => ⟨c, x, V', h', e1, hq _ _ e2, e3⟩

theorem Spec.ofVal {P f args h} {r : Value} (hs : Spec P f args h fun c h' => c = .v r ∧ h' = []) : Spec P f args h fun c h' => c = AV.ofVal r ∧ h' = [] :=
  fun w V S0 vs h1 h2 h3 => (hs w V S0 vs h1 h2 h3).mono fun _ _ ⟨c, x, V', h', e1, ⟨e2, e3⟩, e4, e5, e6, e7, e8⟩ => ⟨AV.ofVal r, x, V', h', e1, ⟨rfl, e3⟩, e4, e5, e6, e7, by subst e2; rw [e8.v_inv]; exact R_ofVal ..⟩
def renLB (ρ : Nat → Nat) (o : Option LB) : Option LB := match o with
  | some ⟨ty, sz, len, rows, false⟩ => some ⟨ty, sz, len, fun k => AV.renL ρ (rows k), false⟩
  | o => o
def rowsNoTree (h : List (Option LB)) : Prop := ∀ (i : Nat) (lb : LB), h[i]? = some (some lb) → ∀ (k j : Nat) (c : AV), k < lb.len → (lb.rows k)[j]? = some c → c.noTree = true
theorem rowsNoTree_nil : rowsNoTree [] := fun i lb h => by simp at h

/-- Operation o, its effect on the abstract heap included. -/
def EDoes (P : Program) (o : Oper) (st : St) (K : AV → St → Prop) : Prop :=
  ∀ (C : Ctx) V a w, SRV C V st a w → ∀ (next : Act → World → Prop) (Q : Exit → Act → World → Prop),
    (∀ c h' V' x w', K c ⟨st.s, h'⟩ → SRV C V' ⟨st.s, h'⟩ a w' → R w' (Stb C.A w' h' V') V' h'.length c x → next (a.put o.dst x) w') → o.wp P a w next Q

theorem VDoes.toE {P : Program} {o : Oper} {st : St} {K : AV → St → Prop} (h : VDoes P o st (fun c => K c st)) : EDoes P o st K := by
  intro C V a w hs next Q hn
  obtain ⟨c, x, hk, hr, hrun⟩ := h C V a w hs
  unfold Oper.wp
  rw [hrun w (Below.refl _ _)]
  exact hn c st.h V x w hk hs hr

theorem Stb.of {A A' : Nat → Prop} {w w' : World} {h h' : List (Option LB)} {V V' : Nat → Info} {b : Nat} (hs : Stb A w h V b) (hA : A b → A' b) (hw : w.heap.size ≤ w'.heap.size)
    (hl : ∀ id lb, h'[id]? = some (some lb) → (V' id).blk = b → ∃ id' lb', h[id']? = some (some lb') ∧ (V id').blk = b) : Stb A' w' h' V' b :=
  ⟨hA hs.1, Nat.lt_of_lt_of_le hs.2.1 hw, fun id lb e1 e2 => by obtain ⟨i, l, e3, e4⟩ := hl id lb e1 e2; exact hs.2.2 i l e3 e4⟩

/-- How a call of 'f' is met when nothing of the call's own is lent for writing. -/
structure Met (st : St) (cs : List AV) (c : AV) (h' : List (Option LB)) : Prop where
  safe : AV.isImmL cs = true ∨ (c.noTree = true ∧ rowsNoTree h')

theorem SRV.call {C : Ctx} {V st a w} (h : SRV C V st a w) {P : Program} {f : FuncId} {cs : List AV} {vs : Array Value} {Q : AV → List (Option LB) → Prop} (hvs : vs.size = cs.length)
    (hr : ∀ (i : Nat) (c : AV) (x : Value), cs[i]? = some c → vs[i]? = some x → R w (Stb C.A w st.h V) V st.h.length c x) (hs : Spec P f (AV.lendL st.h cs) [] Q) (hm : ∀ c h', Q c h' → Met st cs c h') :
    Calls P f vs w fun e w' => ∃ c x V' h', e = .returned x ∧ Q c h' ∧ Below w.heap.size w w' ∧ SRV C V' ⟨st.s, st.h ++ h'.map (renLB (st.h.length + ·))⟩ a w' ∧
      R w' (Stb C.A w' (st.h ++ h'.map (renLB (st.h.length + ·))) V') V' (st.h.length + h'.length) (c.ren (st.h.length + ·)) x := by
  have hnil : ∀ (id : Nat) (lb : LB), ([] : List (Option LB))[id]? = some (some lb) → False := fun id lb e => by simp at e
  -- what the callee's trees may lie in
  let S0 : Nat → Prop := fun b => if AV.isImmL cs = true then Stb C.A w st.h V b else Lent C.A w st.h V b
  have hS0 : ∀ b, S0 b → b < w.heap.size := fun b hb => by
    simp only [S0] at hb
    split at hb
    · exact hb.2.1
    · exact Lent.lt h.hr hb
  have hargs : ∀ (i : Nat) (c : AV) (x : Value), (AV.lendL st.h cs)[i]? = some c → vs[i]? = some x → R w (Stb (fun b => S0 b ∨ w.heap.size ≤ b) w [] V) V ([] : List (Option LB)).length c x := fun i c x h1 h2 => by
    rw [lendL_get] at h1
    obtain ⟨c', h3, rfl⟩ := Option.map_eq_some_iff.1 h1
    have hc := hr i c' x h3 h2
    by_cases himm : AV.isImmL cs = true
    · have hi := isImmL_get cs himm i c' h3
      have e : ∀ b, Stb C.A w st.h V b → S0 b := fun b hb => by simp only [S0, himm, if_true]; exact hb
      -- of an immutable value 'lend' gives it back
      have key : ∀ {S : Nat → Prop} {c : AV} {x : Value}, Rt w S c x → Rt w S (c.lend st.h) x := by
        intro S c x hc
        have lk : ∀ (cs : List AV) (vs : Array Value), (∀ (i : Nat) (c : AV) (x : Value), cs[i]? = some c → vs[i]? = some x → Rt w S (c.lend st.h) x) → ∀ (i : Nat) (c : AV) (x : Value), (AV.lendL st.h cs)[i]? = some c → vs[i]? = some x → Rt w S c x := fun cs vs ih i c x h1 h2 => by
          rw [lendL_get] at h1
          obtain ⟨c', h3, rfl⟩ := Option.map_eq_some_iff.1 h1
          exact ih i c' x h3 h2
        induction hc with
        | any x => exact .any x
        | v x => exact .v x
        | agg cs vs hl _ ih => exact .agg _ vs (by rw [lendL_length]; exact hl) (lk cs vs ih)
        | tup cs vs hl _ ih => exact .tup _ vs (by rw [lendL_length]; exact hl) (lk cs vs ih)
        | fn f cs vs hl _ ih => exact .fn f _ vs (by rw [lendL_length]; exact hl) (lk cs vs ih)
        | tree sz len rows a cap b o X hb hc hm ha hz hx h _ => exact .tree sz len rows a cap b o X hb hc hm ha hz hx h
        | tptr sz len rows row off b o X ha hz hx h _ => exact .tptr sz len rows row off b o X ha hz hx h
      exact .imm _ _ ((key (hc.toImm hi)).mono fun b hb => ⟨⟨.inl (e b hb), hb.2.1, fun id lb e => (hnil id lb e).elim⟩, rfl⟩)
    · have e : ∀ b, Lent C.A w st.h V b → S0 b := fun b hb => by simp only [S0, himm]; exact hb
      exact .imm _ _ ((h.lend hc).mono fun b hb => ⟨⟨.inl (e b hb), Lent.lt h.hr hb, fun id lb e => (hnil id lb e).elim⟩, rfl⟩)
  have hhr : HR w (blkOf [] V) (fun b => S0 b ∨ w.heap.size ≤ b) V [] w := ⟨fun i j li lj e => (hnil _ _ e).elim, fun id lb e => (hnil _ _ e).elim, fun id lb e => (hnil _ _ e).elim⟩
  refine (hs w V S0 vs hhr (by rw [lendL_length]; exact hvs) hargs).mono ?_
  rintro e w' ⟨c, x, V', h', rfl, hq, hkept, _, _, hhr', hres⟩
  have hbel : Below w.heap.size w w' := ⟨hkept.os, hkept.tape, hkept.output, hkept.size, fun k hk => hkept.block k hk fun ⟨id, lb, e, _⟩ => hnil id lb e⟩
  -- new names
  let N := st.h.length
  let V2 : Nat → Info := fun i => if i < N then V i else V' (i - N)
  let H2 := st.h ++ h'.map (renLB (N + ·))
  have hV2old : ∀ i, i < N → V2 i = V i := fun i hi => by simp [V2, hi]
  have hV2new : ∀ j, V2 (N + j) = V' j := fun j => by simp only [V2]; rw [if_neg (by omega)]; congr 1; omega
  have hlive : ∀ id lb, H2[id]? = some (some lb) → (id < N ∧ st.h[id]? = some (some lb)) ∨ (∃ j lb0, id = N + j ∧ h'[j]? = some (some lb0) ∧ renLB (N + ·) (some lb0) = some lb) := fun id lb e => by
    by_cases hid : id < N
    · rw [List.getElem?_append_left hid] at e; exact .inl ⟨hid, e⟩
    · have hid' : N ≤ id := by omega
      rw [List.getElem?_append_right hid', List.getElem?_map] at e
      obtain ⟨o, h1, h2⟩ := Option.map_eq_some_iff.1 e
      cases o with
      | none => simp [renLB] at h2
      | some lb0 => exact .inr ⟨id - N, lb0, by omega, h1, h2⟩
  -- a callee's block that it has left is new
  have hnew : ∀ j lb0, h'[j]? = some (some lb0) → w.heap.size ≤ (V' j).blk ∧ (V' j).blk < w'.heap.size := fun j lb0 e => by
    refine ⟨?_, hhr'.lt e⟩
    rcases Nat.lt_or_ge (V' j).blk w.heap.size with hlt | hge
    · obtain ⟨id, lb, e1, _⟩ := hhr'.mine j lb0 e hlt; exact (hnil id lb e1).elim
    · exact hge
  have hS : ∀ b, Stb C.A w st.h V b → Stb C.A w' H2 V2 b ∧ w'.heap[b]? = w.heap[b]? := fun b hb => by
    refine ⟨⟨hb.1, Nat.lt_of_lt_of_le hb.2.1 hbel.size, fun id lb e => ?_⟩, hbel.block b hb.2.1⟩
    rcases hlive id lb e with ⟨h1, h2⟩ | ⟨j, lb0, rfl, h2, _⟩
    · rw [hV2old id h1]; exact hb.2.2 id lb h2
    · rw [hV2new]; have := (hnew j lb0 h2).1; have := hb.2.1; omega
  -- what the callee's trees lie in is at rest for the caller too, or there are none
  have hT : ∀ (c : AV) (x : Value), ((AV.isImmL cs = true) ∨ c.noTree = true) → R w' (Stb (fun b => S0 b ∨ w.heap.size ≤ b) w' h' V') V' h'.length c x → R w' (Stb C.A w' H2 V2) V2 H2.length (c.ren (N + ·)) x := fun c x hh hr => by
    have hren : ∀ i, i < h'.length → N + i < H2.length ∧ V2 (N + i) = V' i := fun i hi => ⟨by simp [H2, N]; omega, hV2new i⟩
    refine R.ren (ρ := (N + ·)) ?_ hren
    rcases hh with himm | hn
    · refine hr.mono (fun b hb => ⟨⟨?_, hb.2.1, fun id lb e => ?_⟩, rfl⟩) (fun _ _ => rfl) (Nat.le_refl _)
      · rcases hb.1 with h1 | h1
        · simp only [S0, himm, if_true] at h1; exact h1.1
        · exact C.hA b (Nat.le_trans h.kept.size h1)
      · rcases hlive id lb e with ⟨h1, h2⟩ | ⟨j, lb0, rfl, h2, _⟩
        · rw [hV2old id h1]
          intro e'
          rcases hb.1 with h3 | h3
          · simp only [S0, himm, if_true] at h3; exact h3.2.2 id lb h2 e'
          · have := h.hr.lt h2; omega
        · rw [hV2new]; exact hb.2.2 j lb0 h2
    · exact hr.noTree hn
  have hsafe := (hm c h' hq).safe
  refine ⟨c, x, V2, h', rfl, hq, hbel, ?_, ?_⟩
  · refine h.step (h' := H2) (h.kept.below hbel) ⟨fun i j li lj hi hj hne => ?_, fun id lb e => ?_, fun id lb e hlt => ?_⟩ hS hV2old (by simp [H2])
    · rcases hlive i li hi with ⟨h1, h2⟩ | ⟨k, lb0, rfl, h2, _⟩ <;> rcases hlive j lj hj with ⟨h3, h4⟩ | ⟨k', lb0', rfl, h4, _⟩
      · rw [hV2old i h1, hV2old j h3]; exact h.hr.inj i j li lj h2 h4 hne
      · rw [hV2old i h1, hV2new]; have := h.hr.lt h2; have := (hnew k' lb0' h4).1; omega
      · rw [hV2old j h3, hV2new]; have := h.hr.lt h4; have := (hnew k lb0 h2).1; omega
      · rw [hV2new, hV2new]; exact hhr'.inj k k' lb0 lb0' h2 h4 (by omega)
    · rcases hlive id lb e with ⟨h1, h2⟩ | ⟨j, lb0, rfl, h2, h3⟩
      · obtain ⟨cur, hc⟩ := h.hr.blk id lb h2
        rw [hV2old id h1]
        exact ⟨cur, hc.mono hS hV2old (by simp [H2, N]) (hbel.block _ (h.hr.lt h2))⟩
      · obtain ⟨cur, hc⟩ := hhr'.blk j lb0 h2
        rw [hV2new]
        refine ⟨cur, ?_⟩
        have hcells : ∀ (k i : Nat) (c : AV), k < lb0.len → (lb0.rows k)[i]? = some c → (AV.isImmL cs = true) ∨ c.noTree = true := fun k i c g1 g2 => by
          rcases hsafe with h5 | ⟨_, h5⟩
          · exact .inl h5
          · exact .inr (h5 j lb0 h2 k i c g1 g2)
        obtain ⟨ty0, sz0, len0, rows0, arr0⟩ := lb0
        cases arr0 with
        | true =>
          have e3 : lb = ⟨ty0, sz0, len0, rows0, true⟩ := by simp only [renLB, Option.some.injEq] at h3; exact h3.symm
          subst e3
          have hstill : ∀ (k i : Nat) (c : AV) (x : Value), k < len0 → (rows0 k)[i]? = some c → cur[k * sz0 + i]? = some x → Rt w' (Stb C.A w' H2 V2) c x := fun k i c x g1 g2 g3 => by
            have g4 := hc.still rfl k i c x g1 g2 g3
            rcases hcells k i c g1 g2 with himm | hn
            · refine g4.mono fun b hb => ⟨⟨?_, hb.2.1, fun id l e => ?_⟩, rfl⟩
              · rcases hb.1 with h1 | h1
                · simp only [S0, himm, if_true] at h1; exact h1.1
                · exact C.hA b (Nat.le_trans h.kept.size h1)
              · rcases hlive id l e with ⟨h1, h2'⟩ | ⟨j', lb0', rfl, h2', _⟩
                · rw [hV2old id h1]
                  intro e'
                  rcases hb.1 with h6 | h6
                  · simp only [S0, himm, if_true] at h6; exact h6.2.2 id l h2' e'
                  · have := h.hr.lt h2'; omega
                · rw [hV2new]; exact hb.2.2 j' lb0' h2'
            · exact g4.noTree hn
          exact ⟨hc.sz, hc.heap, hc.rows, fun k i c g1 g2 => let ⟨y, e1, e2, _⟩ := hc.cell k i c g1 g2; ⟨y, e1, e2, .imm _ _ (hstill k i c y g1 g2 e1)⟩, fun _ => hstill, hc.box, hc.own⟩
        | false =>
          have e3 : lb = ⟨ty0, sz0, len0, fun k => AV.renL (N + ·) (rows0 k), false⟩ := by simp only [renLB, Option.some.injEq] at h3; exact h3.symm
          subst e3
          refine ⟨hc.sz, hc.heap, fun k hk => ?_, fun k i c g1 g2 => ?_, fun g => by simp at g, fun _ => hc.box rfl, fun g => by simp at g⟩
          · simp only [renL_length]; exact hc.rows k hk
          · simp only [renL_get] at g2
            obtain ⟨c', g4, rfl⟩ := Option.map_eq_some_iff.1 g2
            obtain ⟨y, e1, e2, e3⟩ := hc.cell k i c' g1 g4
            exact ⟨y, e1, e2, hT c' y (hcells k i c' g1 g4) e3⟩
    · rcases hlive id lb e with ⟨h1, h2⟩ | ⟨j, lb0, rfl, h2, _⟩
      · rw [hV2old id h1] at hlt ⊢; exact h.hr.mine id lb h2 hlt
      · rw [hV2new] at hlt; have := (hnew j lb0 h2).1; have := h.kept.size; omega
  · have := hT c x (hsafe.imp id (·.1)) hres
    simpa [H2, N] using this

end Go.Proofs.Ythjboaallleomaa
