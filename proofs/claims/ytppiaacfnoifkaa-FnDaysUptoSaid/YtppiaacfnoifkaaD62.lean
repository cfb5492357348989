/-
  Plain laws of what draws inputs: each draw ends, and what it draws lies within its bounds.
-/
import Derived.Test.YtppiaacfnoifkaaC624
import Derived.Test.YtppiaacfnoifkaaL2
namespace Go.Proofs.Ytppiaacfnoifkaa
open Go.RowKit

/-- The place of the reader stays small; what it reads are bytes. -/
def CG (c : l1Cur) (n : Int) : Prop := (∀ x ∈ c.1, 0 ≤ x ∧ x ≤ 255) ∧ c.1.length ≤ 1048576 ∧ 0 ≤ c.2.1 ∧ c.2.1 ≤ n
theorem CG.up {c : l1Cur} {n m : Int} (h : CG c n) (hm : n ≤ m) : CG c m := ⟨h.1, h.2.1, h.2.2.1, by have := h.2.2.2; omega⟩
def Gives {α : Type} (x : Option (α × l1Cur)) (n : Int) (Q : α → Prop) : Prop := ∃ a c, x = some (a, c) ∧ CG c n ∧ Q a
theorem Gives.ret {α : Type} {a : α} {c : l1Cur} {n : Int} {Q : α → Prop} (h : CG c n) (hq : Q a) : Gives (some (a, c)) n Q := ⟨a, c, rfl, h, hq⟩
theorem Gives.mono {α : Type} {x : Option (α × l1Cur)} {n m : Int} {P Q : α → Prop} (h : Gives x n P) (hm : n ≤ m) (hq : ∀ a, P a → Q a) : Gives x m Q := by
  obtain ⟨a, c, e, h1, h2⟩ := h
  exact ⟨a, c, e, h1.up hm, hq a h2⟩
theorem gives_bind {α β : Type} {x : Option (α × l1Cur)} {f : α × l1Cur → Option (β × l1Cur)} {n m : Int} {P : α → Prop} {Q : β → Prop} (h : Gives x n P)
    (hf : ∀ a code at' seed, P a → CG (code, at', seed, ()) n → Gives (f (a, (code, at', seed, ()))) m Q) : Gives (x.bind f) m Q := by
  obtain ⟨a, ⟨code, at', seed, u⟩, e, h1, h2⟩ := h
  rw [e]
  exact hf a code at' seed h2 h1
theorem gives_cond {α : Type} {b : Bool} {x y : Option (α × l1Cur)} {n : Int} {Q : α → Prop} (h1 : b = true → Gives x n Q) (h2 : b = false → Gives y n Q) : Gives (cond b x y) n Q := by
  cases b
  · exact h2 rfl
  · exact h1 rfl
theorem gives_grd {α : Type} {p : Prop} [Decidable p] {x : Option (α × l1Cur)} {n : Int} {Q : α → Prop} (hp : p) (h : Gives x n Q) : Gives (grd p x) n Q := by
  rw [grd_pos hp]; exact h

theorem and255 (x : Int) : 0 ≤ w64 (wu64 ((BitVec.ofInt (IntKind.u64).bits x &&& BitVec.ofInt (IntKind.u64).bits (255 : Int)).toNat)) ∧ w64 (wu64 ((BitVec.ofInt (IntKind.u64).bits x &&& BitVec.ofInt (IntKind.u64).bits (255 : Int)).toNat)) ≤ 255 := by
  have h : (BitVec.ofInt (IntKind.u64).bits x &&& BitVec.ofInt (IntKind.u64).bits (255 : Int)).toNat ≤ 255 := by
    rw [BitVec.toNat_and]
    exact Nat.le_trans Nat.and_le_right (by decide)
  have e : wu64 ((BitVec.ofInt (IntKind.u64).bits x &&& BitVec.ofInt (IntKind.u64).bits (255 : Int)).toNat : Int) = ((BitVec.ofInt (IntKind.u64).bits x &&& BitVec.ofInt (IntKind.u64).bits (255 : Int)).toNat : Int) := by
    show IntKind.u64.wrap _ = _
    rw [IntKind.wrap_u64]; omega
  rw [e, w64_id (by omega) (by omega)]
  omega
theorem next_ok (c : l1Cur) (n : Int) (h : CG c n) (hn : n ≤ 1000000000000) : Gives (spec_l1Cur_next c) (n + 1) (fun v => 0 ≤ v ∧ v ≤ 255) := by
  obtain ⟨code, at', seed, u⟩ := c
  obtain ⟨hb, hl, h0, h1⟩ := h
  have h0 : 0 ≤ at' := h0
  have h1 : at' ≤ n := h1
  have hw : w64 (at' + 1) = at' + 1 := w64_id (by omega) (by omega)
  have key : ∃ b : Int, (cond (decide (at' < (code.length : Int))) (grd (0 ≤ at' ∧ at' < (code.length : Int)) ((some (w64 (code.getD at'.toNat 0))))) ((some (0 : Int)))) = some b ∧ 0 ≤ b ∧ b ≤ 255 := by
    by_cases hlt : at' < (code.length : Int)
    · rw [cond_dt hlt, grd_pos ⟨h0, hlt⟩]
      have hi : at'.toNat < code.length := by omega
      have hm : code.getD at'.toNat 0 ∈ code := by rw [getD_eq _ _ _ hi]; exact List.getElem_mem hi
      have := hb _ hm
      exact ⟨_, rfl, by rw [w64_id (by omega) (by omega)]; exact this⟩
    · rw [cond_df hlt]; exact ⟨0, rfl, by omega, by omega⟩
  obtain ⟨b, e, b0, b1⟩ := key
  unfold spec_l1Cur_next
  simp only [e, Option.bind_some]
  refine gives_cond (fun _ => ?_) (fun _ => ?_)
  · exact Gives.ret ⟨hb, hl, by show 0 ≤ w64 (at' + 1); omega, by show w64 (at' + 1) ≤ n + 1; omega⟩ ⟨b0, b1⟩
  · refine gives_grd (by omega) ?_
    exact Gives.ret ⟨hb, hl, by show 0 ≤ w64 (at' + 1); omega, by show w64 (at' + 1) ≤ n + 1; omega⟩ (and255 _)
theorem pick_ok (c : l1Cur) (n k : Int) (h : CG c n) (hn : n ≤ 100000000000) : Gives (spec_l1Cur_pick c k) (n + 2) (fun v => 0 ≤ v ∧ (v = 0 ∨ v < k)) := by
  obtain ⟨code, at', seed, u⟩ := c
  unfold spec_l1Cur_pick
  by_cases hk : k ≤ 1
  · rw [cond_dt hk]
    exact Gives.ret (h.up (by omega)) ⟨by omega, .inl rfl⟩
  rw [cond_df hk]
  refine gives_bind (next_ok _ n h (by omega)) fun a code1 at1 seed1 ha hc => ?_
  dsimp only
  by_cases h2 : 200 < k
  · rw [cond_dt h2]
    refine gives_bind (next_ok _ (n + 1) hc (by omega)) fun b code2 at2 seed2 hb hc => ?_
    dsimp only
    refine gives_grd (by omega) (Gives.ret (hc.up (by omega)) ?_)
    rw [w64_id (x := a * 256) (by omega) (by omega), w64_id (by omega) (by omega)]
    exact ⟨Int.tmod_nonneg _ (by omega), .inr (Int.tmod_lt_of_pos _ (by omega))⟩
  · rw [cond_df h2]
    refine gives_grd (by omega) (Gives.ret (hc.up (by omega)) ?_)
    exact ⟨Int.tmod_nonneg _ (by omega), .inr (Int.tmod_lt_of_pos _ (by omega))⟩
theorem among_ok (c : l1Cur) (n : Int) (l : List Int) (hl : l ≠ []) (h : CG c n) (hn : n ≤ 100000000000) : Gives (spec_l1Cur_among c l) (n + 2) (fun v => v ∈ l) := by
  obtain ⟨code, at', seed, u⟩ := c
  unfold spec_l1Cur_among
  refine gives_bind (pick_ok _ n _ h hn) fun a code1 at1 seed1 ha hc => ?_
  dsimp only
  have hpos : 0 < l.length := List.length_pos_iff.2 hl
  have hlt : a < (l.length : Int) := by omega
  refine gives_grd ⟨ha.1, hlt⟩ (Gives.ret hc ?_)
  have hi : a.toNat < l.length := by omega
  show l.getD a.toNat 0 ∈ l
  rw [getD_eq _ _ _ hi]; exact List.getElem_mem hi
theorem one_ok (c : l1Cur) (n k : Int) (h : CG c n) (hn : n ≤ 100000000000) : Gives (spec_l1Cur_one c k) (n + 2) (fun _ => True) := by
  obtain ⟨code, at', seed, u⟩ := c
  unfold spec_l1Cur_one
  refine gives_bind (pick_ok _ n _ h hn) fun a code1 at1 seed1 ha hc => ?_
  dsimp only
  exact Gives.ret hc trivial
end Go.Proofs.Ytppiaacfnoifkaa
