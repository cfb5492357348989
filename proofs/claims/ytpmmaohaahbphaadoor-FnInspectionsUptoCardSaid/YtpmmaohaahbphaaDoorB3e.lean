/-
  The abstract evaluator, part 3e: '==' on structs of plain cells, and a slice held against nil.
-/
import Derived.Test.YtpmmaohaahbphaaDoorB3
import Derived.Lib.SliceRun
import Derived.Laws.StructEq
namespace Go.Proofs.YtpmmaohaahbphaaDoor
open Go.RowKit

section
variable {P : Program} {o : Oper} {st : St} {K : AV → Prop} {T : Nat → Option TI}

/-- A truth value that is told in parts. -/
def evEq1 (k : CK) (c d : AV) (K : Bool → Prop) : Prop :=
  match k with
  | .i kk => match c with
    | .v (.int k a) => match d with
      | .v (.int k' b) => k = kk ∧ k' = kk ∧ K (decide (a = b))
      | _ => False
    | _ => False
  | .s => match c with
    | .v (.string a) => match d with
      | .v (.string b) => K (decide (a = b))
      | _ => False
    | _ => False
  | .b => match c.b? with
    | some a => match d.b? with
      | some b => K (a == b)
      | none => False
    | none => False
def evEqK : List CK → List AV → List AV → (Bool → Prop) → Prop
  | [], [], [], K => K true
  | k :: ks, c :: cs, d :: ds, K => evEq1 k c d fun r => evEqK ks cs ds fun rs => K (r && rs)
  | _, _, _, _ => False
def ckI (i : Option TI) : Option (List CK) :=
  match i with
  | some i => ckOf i.cod
  | none => none
def evEqS (i : Option TI) (op : BinOp) (cs ds : List AV) (K : AV → Prop) : Prop :=
  match ckI i with
  | some ks => match op with
    | .eql => evEqK ks cs ds fun r => K (.bl r)
    | .neq => evEqK ks cs ds fun r => K (.bl (!r))
    | _ => False
  | none => False
def elemNZ (i : Option TI) : Bool :=
  match i with
  | some i => match i.elem with
    | 0 => false
    | _ + 1 => true
  | none => false
def evNilC (i : Option TI) (op : BinOp) (b : Bool) (K : AV → Prop) : Prop :=
  match op with
  | .eql => elemNZ i = true ∧ K (.v (.bool b))
  | .neq => elemNZ i = true ∧ K (.v (.bool !b))
  | _ => False
def evNilO (o : Option (Option LB)) (p : Prop) : Prop :=
  match o with
  | some (some (.arr _ _ _)) => p
  | _ => False
def evBin2 (i : Option TI) (h : List (Option LB)) (op : BinOp) (x y : AV) (K : AV → Prop) : Prop :=
  match x with
  | .agg cs => match y with
    | .agg ds => evEqS i op cs ds K
    | _ => False
  | .tree _ xs => match y with
    | .v (.slice none _ _) => Ob (0 < xs.length) ∧ evNilC i op false K
    | _ => False
  | .own id => match y with
    | .v (.slice none _ _) => evNilO h[id]? (evNilC i op false K)
    | _ => False
  | .v (.slice none _ _) => match y with
    | .v (.slice none _ _) => evNilC i op true K
    | _ => False
  | x => evBin i op x y K

theorem evEq1_sound {w S V N} {k : CK} {c d : AV} {x y : Value} {K : Bool → Prop} (h : evEq1 k c d K) (hx : R w S V N c x) (hy : R w S V N d y) : k.fits x ∧ k.fits y ∧ ∃ r, K r ∧ eqV1 x y = r := by
  unfold evEq1 at h
  split at h
  · split at h
    · split at h
      · obtain ⟨rfl, rfl, hk⟩ := h
        rw [hx.v_inv, hy.v_inv]
        exact ⟨⟨_, rfl⟩, ⟨_, rfl⟩, _, hk, rfl⟩
      · exact h.elim
    · exact h.elim
  · split at h
    · split at h
      · rw [hx.v_inv, hy.v_inv]
        exact ⟨⟨_, rfl⟩, ⟨_, rfl⟩, _, h, rfl⟩
      · exact h.elim
    · exact h.elim
  · split at h
    · rename_i a ha
      split at h
      · rename_i b hb
        rw [b_inv ha hx, b_inv hb hy]
        exact ⟨⟨_, rfl⟩, ⟨_, rfl⟩, _, h, rfl⟩
      · exact h.elim
    · exact h.elim
theorem evEqK_sound {w S V N} : ∀ {ks : List CK} {cs ds : List AV} {xs ys : List Value} {K : Bool → Prop}, evEqK ks cs ds K → xs.length = cs.length → ys.length = ds.length →
    (∀ (i : Nat) (c : AV) (x : Value), cs[i]? = some c → xs[i]? = some x → R w S V N c x) → (∀ (i : Nat) (c : AV) (x : Value), ds[i]? = some c → ys[i]? = some x → R w S V N c x) →
    CK.fitsL ks xs ∧ CK.fitsL ks ys ∧ ∃ r, K r ∧ eqVs xs ys = r
  | [], [], [], xs, ys, K, h, h1, h2, _, _ => by
    obtain rfl := List.length_eq_zero_iff.1 h1
    obtain rfl := List.length_eq_zero_iff.1 h2
    exact ⟨trivial, trivial, true, h, rfl⟩
  | k :: ks, c :: cs, d :: ds, [], ys, K, h, h1, h2, _, _ => by simp at h1
  | k :: ks, c :: cs, d :: ds, x :: xs, [], K, h, h1, h2, _, _ => by simp at h2
  | k :: ks, c :: cs, d :: ds, x :: xs, y :: ys, K, h, h1, h2, hx, hy => by
    unfold evEqK at h
    obtain ⟨f1, f2, r, h, e⟩ := evEq1_sound h (hx 0 c x rfl rfl) (hy 0 d y rfl rfl)
    obtain ⟨g1, g2, rs, h, e'⟩ := evEqK_sound h (by simpa using h1) (by simpa using h2) (fun i c x e1 e2 => hx (i + 1) c x (by simpa using e1) (by simpa using e2)) (fun i c x e1 e2 => hy (i + 1) c x (by simpa using e1) (by simpa using e2))
    exact ⟨⟨f1, g1⟩, ⟨f2, g2⟩, _, h, by simp [eqVs, e, e']⟩
  | [], _ :: _, _, _, _, _, h, _, _, _, _ => by simp [evEqK] at h
  | [], [], _ :: _, _, _, _, h, _, _, _, _ => by simp [evEqK] at h
  | _ :: _, [], _, _, _, _, h, _, _, _, _ => by simp [evEqK] at h
  | _ :: _, _ :: _, [], _, _, _, h, _, _, _, _ => by simp [evEqK] at h

theorem elemNZ_out (hT : TOk P T) {t : TypeId} (h : elemNZ (T t) = true) : ∃ e, P.underlying t = some (.slice e) := by
  unfold elemNZ at h
  split at h
  · rename_i i hi
    split at h
    · cases h
    · rename_i n he
      exact ⟨_, (hT t i hi).elem (by omega)⟩
  · cases h
theorem guard_slice (op : BinOp) (t : TypeId) (x y : Operand) (a : Option Addr) (n c : Nat) (b : Value) (w : World) : (eqGuard op t x y (.slice a n c) b).run P w = .ok () w := by
  unfold eqGuard; cases op <;> simp
theorem run_nilC (w : World) {op : BinOp} {t e : TypeId} (x y : Operand) (a : Option Addr) (n c n' c' : Nat) (ht : P.underlying t = some (.slice e)) (r : Value)
    (hr : (op = .eql ∧ r = .bool a.isNone) ∨ (op = .neq ∧ r = .bool (!a.isNone))) :
    (do eqGuard op t x y (.slice a n c) (.slice none n' c'); binOp op t (.slice a n c) (.slice none n' c') : Sem Value).run P w = .ok r w := by
  refine run_bin (guard_slice ..) ?_
  have key : (Op.equal t (.slice a n c) (.slice none n' c')).run P w = .ok a.isNone w := by
    simp [Op.equal, Op.maxDepth, Lib.run_equalIn_slice_nil w 9999 t e a n c n' c' ht]
  rcases hr with ⟨rfl, rfl⟩ | ⟨rfl, rfl⟩ <;> simp [binOp, key]
theorem vdoes_nilC (hT : TOk P T) {op : BinOp} {t t' : TypeId} {x y : Operand} {n' c' : Nat} {b : Bool} (ho : o.op = .binOp op t x y t') (hy : st.ev y = .v (.slice none n' c')) (hk : evNilC (T t) op b K)
    (hx : ∀ C V a w, SRV C V st a w → ∃ ad n c, a.eval x = .slice ad n c ∧ ad.isNone = b) : VDoes P o st K := by
  unfold evNilC at hk
  split at hk
  · obtain ⟨h1, hk⟩ := hk
    obtain ⟨e, hu⟩ := elemNZ_out hT h1
    intro C V a w h
    obtain ⟨ad, n, c, e1, e2⟩ := hx C V a w h
    refine ⟨_, _, hk, .imm _ _ (.v _), fun w' _ => ?_⟩
    have := run_nilC (P := P) w' x y ad n c n' c' hu (.bool b) (.inl ⟨rfl, by rw [e2]⟩)
    simp only [execOp, ho, e1, h.evv hy]
    simp only [Sem.run_bind, this, Result.andThen_ok, Sem.run_pure]
  · obtain ⟨h1, hk⟩ := hk
    obtain ⟨e, hu⟩ := elemNZ_out hT h1
    intro C V a w h
    obtain ⟨ad, n, c, e1, e2⟩ := hx C V a w h
    refine ⟨_, _, hk, .imm _ _ (.v _), fun w' _ => ?_⟩
    have := run_nilC (P := P) w' x y ad n c n' c' hu (.bool (!b)) (.inr ⟨rfl, by rw [e2]⟩)
    simp only [execOp, ho, e1, h.evv hy]
    simp only [Sem.run_bind, this, Result.andThen_ok, Sem.run_pure]
  · exact hk.elim

theorem vdoes_bin2 (hT : TOk P T) (op : BinOp) (t t' : TypeId) (x y : Operand) (ho : o.op = .binOp op t x y t') (hk : evBin2 (T t) st.h op (st.ev x) (st.ev y) K) : VDoes P o st K := by
  unfold evBin2 at hk
  split at hk
  · rename_i cs hx
    split at hk
    · rename_i ds hy
      unfold evEqS at hk
      split at hk
      · rename_i ks hks
        unfold ckI at hks
        split at hks
        · rename_i i hi
          obtain ⟨hg, heq⟩ := (hT t i hi).eqs ks hks
          have main : ∀ (f : Bool → Bool), (∀ w (xs ys : Array Value), (binOp op t (.agg xs) (.agg ys)).run P w = ((Op.equalIn 10000 t (.agg xs) (.agg ys)).run P w).andThen fun b w' => .ok (.bool (f b)) w') → evEqK ks cs ds (fun r => K (.bl (f r))) → VDoes P o st K := by
            intro f hf hk C V a w h
            obtain ⟨vs, e1, hl1, hr1⟩ := (hx ▸ h.ev x).agg_inv
            obtain ⟨us, e2, hl2, hr2⟩ := (hy ▸ h.ev y).agg_inv
            obtain ⟨f1, f2, r, hk, e⟩ := evEqK_sound (xs := vs.toList) (ys := us.toList) hk (by simpa using hl1) (by simpa using hl2) (fun i c x e1 e2 => hr1 i c x e1 (by simpa using e2)) (fun i c x e1 e2 => hr2 i c x e1 (by simpa using e2))
            refine ⟨_, .bool (f r), hk, .imm _ _ (.bl _), fun w' _ => ?_⟩
            have g := run_eqGuard_agg (P := P) w' op t x y vs us hg
            have b := hf w' vs us
            rw [heq vs us f1 f2 w', Result.andThen_ok, e] at b
            simp only [execOp, ho, e1, e2]
            simp only [Sem.run_bind, g, b, Result.andThen_ok, Sem.run_pure]
          split at hk
          · exact main (fun b => b) (fun w xs ys => run_eql_struct w t xs ys) hk
          · exact main (fun b => !b) (fun w xs ys => run_neq_struct w t xs ys) hk
          · exact hk.elim
        · cases hks
      · exact hk.elim
    · exact hk.elim
  · rename_i tt xs hx
    split at hk
    · rename_i n' c' hy
      obtain ⟨hne, hk⟩ := hk
      refine vdoes_nilC hT ho hy hk fun C V a w h => ?_
      have hr' := (hx ▸ h.ev x).tree_inv
      generalize hv : a.eval x = v at hr'
      cases hr' with
      | tree _ _ ad len cap b o' X hlen hb hc hmx ha hx2 hh =>
        exact ⟨ad, len, cap, rfl, by rw [(ha hne.out).1]; rfl⟩
    · exact hk.elim
  · rename_i id hx
    split at hk
    · rename_i n' c' hy
      unfold evNilO at hk
      split at hk
      · rename_i ty tt xs hlb
        refine vdoes_nilC hT ho hy hk fun C V a w h => ?_
        have e := (hx ▸ h.ev x).own_inv
        obtain ⟨cur, hcur⟩ := h.hr.blk id _ hlb
        obtain ⟨cap, e2, _⟩ := hcur.own rfl
        exact ⟨_, _, _, e.trans e2, rfl⟩
      · exact hk.elim
    · exact hk.elim
  · rename_i n c hx
    split at hk
    · rename_i n' c' hy
      exact vdoes_nilC hT ho hy hk fun C V a w h => ⟨none, _, _, h.evv hx, rfl⟩
    · exact hk.elim
  · exact vdoes_bin hT op t t' x y ho hk
end
end Go.Proofs.YtpmmaohaahbphaaDoor
