/-
  The abstract evaluator, part 8t: a part of an own slice, from its beginning on, as an own slice of a new name.
-/
import Derived.Test.YtpmmaohaahbphaaDoorB8
namespace Go.Proofs.YtpmmaohaahbphaaDoor
open Go.RowKit

theorem SRV.trunc {C : Ctx} {V st a w} (h : SRV C V st a w) {id ty n : Nat} {t : Ty} {xs : List t.den} (hl : st.h[id]? = some (some (.arr ty t xs))) {y : Value} (hy : R w (Stb C.A w st.h V) V st.h.length (.view id 0 n) y) :
    ∃ V', SRV C V' ⟨st.s, st.h.set id none ++ [some (LB.arr ty t (xs.take n))]⟩ a w ∧ R w (Stb C.A w (st.h.set id none ++ [some (LB.arr ty t (xs.take n))]) V') V' (st.h.set id none ++ [some (LB.arr ty t (xs.take n))]).length (.own st.h.length) y := by
  obtain ⟨hn, cap, hcl, hcm, ey⟩ := h.part hl hy
  have hn : n ≤ xs.length := by omega
  have ey : y = .slice (some ⟨(V id).blk, 0, none⟩) n cap := by rw [ey]; simp
  obtain ⟨cur, hc⟩ := h.hr.blk id _ hl
  have hid : id < st.h.length := (List.getElem?_eq_some_iff.1 hl).1
  let I : Info := ⟨(V id).blk, t.n, n, y, noSub⟩
  have hV : ∀ i, i < st.h.length → updV V st.h.length I i = V i := fun i hi => by simp [updV]; omega
  have eI : updV V st.h.length I st.h.length = I := by simp [updV]
  have hrow : ∀ k, k < n → rowT t (xs.take n) k = rowT t xs k := fun k hk => by
    simp only [rowT, List.getD_eq_getElem?_getD, List.getElem?_take, if_pos hk]
  have hsz := hc.sz
  have hs := h.remake (hd := st.h.set id none) (w' := w) (I := I) (lb := .arr ty t (xs.take n)) (cur' := cur) (by simp) (fun i l e => (set_none_sub i l e).2) rfl rfl rfl (Nat.le_refl _) (fun _ _ _ => rfl) (fun b hf => .inl ⟨id, _, hl, by simp [hid], .inl (foot_plain (I := I) (lb := .arr ty t (xs.take n)) rfl hf)⟩) (fun hS => by
    have hln : (xs.take n).length = n := by simp; omega
    have hc' := hc.mono hS hV (Nat.le_succ st.h.length) (fun _ _ => rfl)
    obtain ⟨cap2, g1, g2, g3, g4, g5⟩ := hc.own rfl
    have hcap : cap2 = cap := by
      have e1 := ey
      obtain ⟨_, _, e2⟩ := hy.view_inv
      rw [e2, g1] at e1
      simp only [partV] at e1
      have e2 : cap2 = cap := by
        injection e1 with _ _ e2
      exact e2
    subst hcap
    refine ⟨rfl, by show n = _; simp [LB.len, hln], fun _ => hc.heap rfl, fun k j c hk hj => ?_, fun _ k j c x hk hj hx => ?_, (fun e => by simp [LB.isArr] at e), fun _ => ⟨cap2, by show y = _; rw [ey]; simp [LB.len, hln]; rfl, by show (xs.take n).length ≤ cap2; rw [hln]; omega, g3, g4, by show (xs.take n).length ≤ bigLen; rw [hln]; have : xs.length ≤ bigLen := g5; omega⟩, trivial⟩
    · have hk : k < n := by simpa [LB.len, hln] using hk
      have hj : (rowT t xs k)[j]? = some c := by rw [← hrow k hk]; exact hj
      exact hc'.cell k j c (by show k < xs.length; omega) hj
    · have hk : k < n := by simpa [LB.len, hln] using hk
      have hj : (rowT t xs k)[j]? = some c := by rw [← hrow k hk]; exact hj
      exact hc'.still rfl k j c x (by show k < xs.length; omega) hj hx)
  refine ⟨updV V st.h.length I, hs, ?_⟩
  have := R.own (w := w) (S := Stb C.A w (st.h.set id none ++ [some (LB.arr ty t (xs.take n))]) (updV V st.h.length I)) (V := updV V st.h.length I) (N := (st.h.set id none ++ [some (LB.arr ty t (xs.take n))]).length) st.h.length (by simp)
  rw [eI] at this
  exact this

section
variable {P : Program} {M : Nat → List Bool} {o : Oper} {st : St} {T : Nat → Option TI}
/-- The beginning of an own slice, under a new name; the old name is given up. -/
def evTrunc (T : Nat → Option TI) (i : Option TI) (st : St) (x hi : AV) (K : AV → St → Prop) : Prop :=
  match x with
  | .own id => match hi with
    | .v (.int kd k) => match st.h[id]? with
      | some (some (.arr ty t xs)) => evSlice T i st.h (.own id) none (some (.v (.int kd k))) (fun c => c = .view id 0 k.toNat) ∧ K (.own st.h.length) ⟨st.s, st.h.set id none ++ [some (.arr ty t (xs.take k.toNat))]⟩
      | _ => False
    | _ => False
  | _ => False
theorem edoes_trunc {K : AV → St → Prop} (hT : TOk P T) (t : TypeId) (x hi : Operand) (ho : o.op = .slice t x none (some hi) none) (hk : evTrunc T (T t) st (st.ev x) (st.ev hi) K) : EDoes P M o st K := by
  unfold evTrunc at hk
  split at hk
  · rename_i id hx
    split at hk
    · rename_i kd k hhi
      split at hk
      · rename_i ty tt xs hlb
        obtain ⟨hs, hk⟩ := hk
        have hv := vdoes_slice (K := fun c => c = .view id 0 k.toNat) hT t x none (some hi) ho (by rw [hx]; simpa [hhi] using hs)
        intro C V a w h next Q hn
        obtain ⟨c, y, rfl, hr, hrun⟩ := hv C V a w h
        obtain ⟨V', hs', hr'⟩ := h.trunc hlb hr
        unfold Oper.wp
        rw [hrun w (Below.refl _ _)]
        exact hn _ _ V' y w hk hs' hr' fun _ => Below.refl _ _
      · exact hk.elim
    · exact hk.elim
  · exact hk.elim
end
end Go.Proofs.YtpmmaohaahbphaaDoor
