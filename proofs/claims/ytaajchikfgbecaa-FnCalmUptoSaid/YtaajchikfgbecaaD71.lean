/-
  Plain laws of what draws inputs: each draw ends, and what it draws lies within its bounds.
-/
import Derived.Test.YtaajchikfgbecaaC725
import Derived.Test.YtaajchikfgbecaaL2
namespace Go.Proofs.Ytaajchikfgbecaa
open Go.RowKit

/-- The place of the reader stays small; what it reads are bytes. -/
def CG (c : l1Cur) (n : Int) : Prop := (∀ x ∈ c.1, 0 ≤ x ∧ x ≤ 255) ∧ c.1.length ≤ 1048576 ∧ 0 ≤ c.2.1 ∧ c.2.1 ≤ n
theorem CG.up {c : l1Cur} {n m : Int} (h : CG c n) (hm : n ≤ m) : CG c m := ⟨h.1, h.2.1, h.2.2.1, by have := h.2.2.2; omega⟩
def Gives {α : Type} (x : Option (α × l1Cur)) (n : Int) (Q : α → Prop) : Prop := ∃ a c, x = some (a, c) ∧ CG c n ∧ Q a
theorem Gives.ret {α : Type} {a : α} {c : l1Cur} {n : Int} {Q : α → Prop} (h : CG c n) (hq : Q a) : Gives (some (a, c)) n Q := ⟨a, c, rfl, h, hq⟩
theorem Gives.mono {α : Type} {x : Option (α × l1Cur)} {n m : Int} {P Q : α → Prop} (h : Gives x n P) (hm : n ≤ m) (hq : ∀ a, P a → Q a) : Gives x m Q := by
  obtain ⟨a, c, e, h1, h2⟩ := h
  exact ⟨a, c, e, h1.up hm, hq a h2⟩
theorem gives_bind {α β : Type} {x : Option (α × l1Cur)} {f : α × l1Cur → Option (β × l1Cur)} {n m : Int} {P : α → Prop} {Q : β → Prop} (h : Gives x n P)
    (hf : ∀ a code at' seed, P a → CG (code, at', seed, ()) n → Gives (f (a, (code, at', seed, ()))) m Q) : Gives (x.bind f) m Q := by
  obtain ⟨a, ⟨code, at', seed, u⟩, e, h1, h2⟩ := h
  rw [e]
  exact hf a code at' seed h2 h1
theorem gives_cond {α : Type} {b : Bool} {x y : Option (α × l1Cur)} {n : Int} {Q : α → Prop} (h1 : b = true → Gives x n Q) (h2 : b = false → Gives y n Q) : Gives (cond b x y) n Q := by
  cases b
  · exact h2 rfl
  · exact h1 rfl
theorem gives_grd {α : Type} {p : Prop} [Decidable p] {x : Option (α × l1Cur)} {n : Int} {Q : α → Prop} (hp : p) (h : Gives x n Q) : Gives (grd p x) n Q := by
  rw [grd_pos hp]; exact h

theorem and255 (x : Int) : 0 ≤ w64 (wu64 ((BitVec.ofInt (IntKind.u64).bits x &&& BitVec.ofInt (IntKind.u64).bits (255 : Int)).toNat)) ∧ w64 (wu64 ((BitVec.ofInt (IntKind.u64).bits x &&& BitVec.ofInt (IntKind.u64).bits (255 : Int)).toNat)) ≤ 255 := by
  have h : (BitVec.ofInt (IntKind.u64).bits x &&& BitVec.ofInt (IntKind.u64).bits (255 : Int)).toNat ≤ 255 := by
    rw [BitVec.toNat_and]
    exact Nat.le_trans Nat.and_le_right (by decide)
  have e : wu64 ((BitVec.ofInt (IntKind.u64).bits x &&& BitVec.ofInt (IntKind.u64).bits (255 : Int)).toNat : Int) = ((BitVec.ofInt (IntKind.u64).bits x &&& BitVec.ofInt (IntKind.u64).bits (255 : Int)).toNat : Int) := by
    show IntKind.u64.wrap _ = _
    rw [IntKind.wrap_u64]; omega
  rw [e, w64_id (by omega) (by omega)]
  omega
theorem next_ok (c : l1Cur) (n : Int) (h : CG c n) (hn : n ≤ 1000000000000) : Gives (spec_l1Cur_next c) (n + 1) (fun v => 0 ≤ v ∧ v ≤ 255) := by
  obtain ⟨code, at', seed, u⟩ := c
  obtain ⟨hb, hl, h0, h1⟩ := h
  have h0 : 0 ≤ at' := h0
  have h1 : at' ≤ n := h1
  have hw : w64 (at' + 1) = at' + 1 := w64_id (by omega) (by omega)
  have key : ∃ b : Int, (cond (decide (at' < (code.length : Int))) (grd (0 ≤ at' ∧ at' < (code.length : Int)) ((some (w64 (code.getD at'.toNat 0))))) ((some (0 : Int)))) = some b ∧ 0 ≤ b ∧ b ≤ 255 := by
    by_cases hlt : at' < (code.length : Int)
    · rw [cond_dt hlt, grd_pos ⟨h0, hlt⟩]
      have hi : at'.toNat < code.length := by omega
      have hm : code.getD at'.toNat 0 ∈ code := by rw [getD_eq _ _ _ hi]; exact List.getElem_mem hi
      have := hb _ hm
      exact ⟨_, rfl, by rw [w64_id (by omega) (by omega)]; exact this⟩
    · rw [cond_df hlt]; exact ⟨0, rfl, by omega, by omega⟩
  obtain ⟨b, e, b0, b1⟩ := key
  unfold spec_l1Cur_next
  simp only [e, Option.bind_some]
  refine gives_cond (fun _ => ?_) (fun _ => ?_)
  · exact Gives.ret ⟨hb, hl, by show 0 ≤ w64 (at' + 1); omega, by show w64 (at' + 1) ≤ n + 1; omega⟩ ⟨b0, b1⟩
  · refine gives_grd (by omega) ?_
    exact Gives.ret ⟨hb, hl, by show 0 ≤ w64 (at' + 1); omega, by show w64 (at' + 1) ≤ n + 1; omega⟩ (and255 _)
theorem pick_ok (c : l1Cur) (n k : Int) (h : CG c n) (hn : n ≤ 100000000000) : Gives (spec_l1Cur_pick c k) (n + 2) (fun v => 0 ≤ v ∧ (v = 0 ∨ v < k)) := by
  obtain ⟨code, at', seed, u⟩ := c
  unfold spec_l1Cur_pick
  by_cases hk : k ≤ 1
  · rw [cond_dt hk]
    exact Gives.ret (h.up (by omega)) ⟨by omega, .inl rfl⟩
  rw [cond_df hk]
  refine gives_bind (next_ok _ n h (by omega)) fun a code1 at1 seed1 ha hc => ?_
  dsimp only
  by_cases h2 : 200 < k
  · rw [cond_dt h2]
    refine gives_bind (next_ok _ (n + 1) hc (by omega)) fun b code2 at2 seed2 hb hc => ?_
    dsimp only
    refine gives_grd (by omega) (Gives.ret (hc.up (by omega)) ?_)
    rw [w64_id (x := a * 256) (by omega) (by omega), w64_id (by omega) (by omega)]
    exact ⟨Int.tmod_nonneg _ (by omega), .inr (Int.tmod_lt_of_pos _ (by omega))⟩
  · rw [cond_df h2]
    refine gives_grd (by omega) (Gives.ret (hc.up (by omega)) ?_)
    exact ⟨Int.tmod_nonneg _ (by omega), .inr (Int.tmod_lt_of_pos _ (by omega))⟩
theorem among_ok (c : l1Cur) (n : Int) (l : List Int) (hl : l ≠ []) (h : CG c n) (hn : n ≤ 100000000000) : Gives (spec_l1Cur_among c l) (n + 2) (fun v => v ∈ l) := by
  obtain ⟨code, at', seed, u⟩ := c
  unfold spec_l1Cur_among
  refine gives_bind (pick_ok _ n _ h hn) fun a code1 at1 seed1 ha hc => ?_
  dsimp only
  have hpos : 0 < l.length := List.length_pos_iff.2 hl
  have hlt : a < (l.length : Int) := by omega
  refine gives_grd ⟨ha.1, hlt⟩ (Gives.ret hc ?_)
  have hi : a.toNat < l.length := by omega
  show l.getD a.toNat 0 ∈ l
  rw [getD_eq _ _ _ hi]; exact List.getElem_mem hi
theorem one_ok (c : l1Cur) (n k : Int) (h : CG c n) (hn : n ≤ 100000000000) : Gives (spec_l1Cur_one c k) (n + 2) (fun _ => True) := by
  obtain ⟨code, at', seed, u⟩ := c
  unfold spec_l1Cur_one
  refine gives_bind (pick_ok _ n _ h hn) fun a code1 at1 seed1 ha hc => ?_
  dsimp only
  exact Gives.ret hc trivial
theorem weather_ok (c : l1Cur) (n a1 : Int) (h : CG c n) (hn : n ≤ 100000000) : Gives (spec_l1Cur_weather c a1) (n + 20) (fun _ => True) := by
  obtain ⟨code, at', seed, u⟩ := c
  unfold spec_l1Cur_weather
  refine gives_bind (among_ok _ n _ (by simp) h (by omega)) fun a0 c1 t1 s1 _ h => ?_
  dsimp only
  refine gives_bind (among_ok _ _ _ (by simp) h (by omega)) fun a0 c1 t1 s1 _ h => ?_
  dsimp only
  refine gives_bind (among_ok _ _ _ (by simp) h (by omega)) fun a0 c1 t1 s1 _ h => ?_
  dsimp only
  refine gives_bind (one_ok _ _ _ h (by omega)) fun a0 c1 t1 s1 _ h => ?_
  dsimp only
  refine gives_bind (pick_ok _ _ _ h (by omega)) fun a0 c1 t1 s1 _ h => ?_
  dsimp only
  refine gives_cond (fun _ => ?_) (fun _ => gives_cond (fun _ => ?_) (fun _ => gives_cond (fun _ => ?_) (fun _ => gives_cond (fun _ => ?_) (fun _ => Gives.ret (h.up (by omega)) trivial))))
  · exact gives_bind (among_ok _ _ _ (by simp) h (by omega)) fun a6 c1 t1 s1 _ h => Gives.ret (h.up (by omega)) trivial
  · exact gives_bind (among_ok _ _ _ (by simp) h (by omega)) fun a6 c1 t1 s1 _ h => Gives.ret (h.up (by omega)) trivial
  · exact gives_bind (among_ok _ _ _ (by simp) h (by omega)) fun a6 c1 t1 s1 _ h => Gives.ret (h.up (by omega)) trivial
  · exact gives_bind (among_ok _ _ _ (by simp) h (by omega)) fun a6 c1 t1 s1 _ h => Gives.ret (h.up (by omega)) trivial
theorem recs_loop1 : ∀ (d : Nat) (minute : Int) (code : List Int) (at' seed : Int) (acc : List Weather) (n : Int), CG (code, at', seed, ()) n → n + 40 * d ≤ 10000000 → acc.length + d ≤ 1000 → d ≤ 1000 →
    ∃ code' at2 seed' acc', iter (fun s => spec_l1Cur_records_loop1 s.1 s.2.1 s.2.2.1 s.2.2.2.1 s.2.2.2.2.1 s.2.2.2.2.2) (minute, (d : Int), code, at', seed, acc) = some (code', at2, seed', acc') ∧ CG (code', at2, seed', ()) (n + 40 * d) ∧ acc'.length = acc.length + d
  | 0, minute, code, at', seed, acc, n, h, _, _, _ => ⟨code, at', seed, acc, iter_out (by
      show spec_l1Cur_records_loop1 minute (0 : Int) code at' seed acc = _
      unfold spec_l1Cur_records_loop1
      rw [cond_df (by omega)]), h.up (by omega), rfl⟩
  | d + 1, minute, code, at', seed, acc, n, h, hn, ha, hd => by
    obtain ⟨⟨r1, r2, r3, r4, r5, r6⟩, ⟨c1, t1, s1, u1⟩, e, hc, _⟩ := weather_ok (code, at', seed, ()) n minute h (by omega)
    obtain ⟨v, ⟨c2, t2, s2, u2⟩, e2, hc2, hv⟩ := among_ok (c1, t1, s1, ()) (n + 20) [(1 : Int), (5 : Int), (10 : Int), (10 : Int)] (by simp) hc (by omega)
    obtain ⟨p, ⟨c3, t3, s3, u3⟩, e3, hc3, hp⟩ := pick_ok (c2, t2, s2, ()) (n + 20 + 2) 80 hc2 (by omega)
    obtain ⟨c4, t4, s4, acc4, e4, h4, l4⟩ := recs_loop1 d (w64 ((w64 (minute + v)) - (w64 (Int.tdiv p (79 : Int))))) c3 t3 s3 (acc ++ [(r1, r2, r3, r4, r5, ())]) (n + 40) (hc3.up (by omega)) (by omega) (by simp; omega) (by omega)
    refine ⟨c4, t4, s4, acc4, (iter_go ?_).trans e4, h4.up (by omega), by simp at l4; omega⟩
    show spec_l1Cur_records_loop1 minute ((d + 1 : Nat) : Int) code at' seed acc = _
    unfold spec_l1Cur_records_loop1
    rw [cond_dt (by omega), e, Option.bind_some, grd_pos (by simp; omega), e2, Option.bind_some, e3, Option.bind_some, grd_pos (by omega), w64_id (x := ((d + 1 : Nat) : Int) - 1) (by omega) (by omega)]
    rw [show ((d + 1 : Nat) : Int) - 1 = (d : Int) by omega]
theorem recs_loop2 : ∀ (d : Nat) (code : List Int) (at' seed : Int) (acc : List Weather) (n : Int), CG (code, at', seed, ()) n → n + 2 * d ≤ 10000000 → 22 ≤ acc.length + d → acc.length ≤ 1000 →
    ∃ code' at2 seed' acc', iter (fun s => spec_l1Cur_records_loop2 s.1 s.2.1 s.2.2.1 s.2.2.2) (code, at', seed, acc) = some (code', at2, seed', acc') ∧ CG (code', at2, seed', ()) (n + 2 * d + 2) ∧ acc'.length ≤ 1000
  | d, code, at', seed, acc, n, h, hn, ha, hb => by
    obtain ⟨v, ⟨c1, t1, s1, u1⟩, e, hc, hv⟩ := pick_ok (code, at', seed, ()) n 2 h (by omega)
    have hv : 0 ≤ v ∧ v < 2 := by omega
    have hw : w64 ((20 : Int) + v) = 20 + v := w64_id (by omega) (by omega)
    by_cases hl : (acc.length : Int) < 20 + v
    · cases d with
      | zero => omega
      | succ d =>
        obtain ⟨c2, t2, s2, acc2, e2, h2, l2⟩ := recs_loop2 d c1 t1 s1 (acc ++ [((w64 ((9960 : Int) + (acc.length : Int))), (30 : Int), (0 : Int), (0 : Int), false, ())]) (n + 2) hc (by omega) (by simp; omega) (by simp; omega)
        refine ⟨c2, t2, s2, acc2, (iter_go ?_).trans e2, h2.up (by omega), l2⟩
        show spec_l1Cur_records_loop2 code at' seed acc = _
        unfold spec_l1Cur_records_loop2
        rw [e, Option.bind_some, hw, cond_dt hl, grd_pos (by simp; omega)]
    · refine ⟨c1, t1, s1, acc, iter_out ?_, hc.up (by omega), hb⟩
      show spec_l1Cur_records_loop2 code at' seed acc = _
      unfold spec_l1Cur_records_loop2
      rw [e, Option.bind_some, hw, cond_df hl]
theorem records_ok (c : l1Cur) (n : Int) (h : CG c n) (hn : n ≤ 1000000) : Gives (spec_l1Cur_records c) (n + 1000) (fun l => l.length ≤ 1000) := by
  obtain ⟨code, at', seed, u⟩ := c
  unfold spec_l1Cur_records
  refine gives_bind (among_ok _ n _ (by simp) h (by omega)) fun a0 c1 t1 s1 _ h => ?_
  dsimp only
  refine gives_bind (pick_ok _ _ _ h (by omega)) fun a1 c1 t1 s1 ha h => ?_
  dsimp only
  obtain ⟨d, rfl⟩ : ∃ d : Nat, a1 = (d : Int) := ⟨a1.toNat, by omega⟩
  obtain ⟨c2, t2, s2, acc2, e2, h2, l2⟩ := recs_loop1 d a0 c1 t1 s1 [] _ h (by omega) (by simp; omega) (by omega)
  rw [e2, Option.bind_some]
  have l2 : acc2.length ≤ 8 := by simp at l2; omega
  dsimp only
  refine gives_bind (one_ok _ _ _ h2 (by omega)) fun a1 c1 t1 s1 _ h => ?_
  dsimp only
  refine gives_cond (fun _ => ?_) (fun _ => Gives.ret (h.up (by omega)) (by omega))
  obtain ⟨c3, t3, s3, acc3, e3, h3, l3⟩ := recs_loop2 30 c1 t1 s1 acc2 _ h (by omega) (by omega) (by omega)
  rw [e3, Option.bind_some]
  exact Gives.ret (h3.up (by omega)) l3
theorem cg0 (code : List Int) (hb : ∀ x ∈ code, 0 ≤ x ∧ x ≤ 255) (hl : code.length ≤ 1048576) : CG (code, (0 : Int), (0 : Int), ()) 0 := ⟨hb, hl, by show (0 : Int) ≤ 0; omega, by show (0 : Int) ≤ 0; omega⟩
/-- The number of choices that are let in. -/
theorem w_sel (b p : Int) (hb : 0 ≤ b ∧ b ≤ 100) (hp : 0 ≤ p ∧ (p = 0 ∨ p < 24)) : w64 (b + w64 (Int.tdiv p 11)) = b + Int.tdiv p 11 ∧ 0 ≤ Int.tdiv p 11 ∧ Int.tdiv p 11 ≤ 2 := by
  have hq : 0 ≤ Int.tdiv p 11 ∧ Int.tdiv p 11 ≤ 2 := by
    rw [Int.tdiv_eq_ediv_of_nonneg (by omega)]; omega
  refine ⟨?_, hq⟩
  rw [w64_id (x := Int.tdiv p 11) (by omega) (by omega), w64_id (by omega) (by omega)]
theorem drawCalm_ok (code : List Int) (hb : ∀ x ∈ code, 0 ≤ x ∧ x ≤ 255) (hl : code.length ≤ 1048576) : ∃ l m, spec_DrawCalmSpans code = some (l, m) ∧ l.length ≤ 1000 := by
  unfold spec_DrawCalmSpans
  obtain ⟨l, ⟨c1, t1, s1, u1⟩, e, hc, h1⟩ := records_ok _ 0 (cg0 code hb hl) (by omega)
  rw [e, Option.bind_some]
  obtain ⟨p, ⟨c2, t2, s2, u2⟩, e2, hc2, hp⟩ := pick_ok (c1, t1, s1, ()) _ 24 hc (by omega)
  dsimp only
  rw [e2, Option.bind_some]
  dsimp only
  obtain ⟨hw, hq⟩ := w_sel 5 p (by omega) hp
  rw [grd_pos (by omega), hw, grd_pos (by simp; omega)]
  obtain ⟨v, c3, e3, _, _⟩ := among_ok (c2, t2, s2, ()) _ (([(0 : Int), (49 : Int), (50 : Int), (125 : Int), (600 : Int), ((-1) : Int), (601 : Int)].drop ((0 : Int).toNat)).take (((5 + Int.tdiv p 11) - (0 : Int)).toNat)) (fun e => by
    have := congrArg List.length e
    simp at this
    omega) hc2 (by omega)
  rw [e3]
  exact ⟨l, v, rfl, h1⟩
theorem minute17_ok (c : l1Cur) (n : Int) (h : CG c n) (hn : n ≤ 1000000) : Gives (spec_l1Cur_minute17 c) (n + 10) (fun _ => True) := by
  obtain ⟨code, at', seed, u⟩ := c
  unfold spec_l1Cur_minute17
  refine gives_bind (pick_ok _ n _ h (by omega)) fun p c1 t1 s1 hp h => ?_
  dsimp only
  obtain ⟨hw, hq⟩ := w_sel 7 p (by omega) hp
  rw [grd_pos (by omega), hw, grd_pos (by simp; omega)]
  refine gives_bind (among_ok _ _ _ (fun e => by
    have := congrArg List.length e
    simp at this
    omega) h (by omega)) fun a0 c1 t1 s1 _ h => ?_
  exact Gives.ret (h.up (by omega)) trivial
theorem drawStorms_ok (code : List Int) (hb : ∀ x ∈ code, 0 ≤ x ∧ x ≤ 255) (hl : code.length ≤ 1048576) : ∃ l m s, spec_DrawStormsOver code = some (l, m, s) ∧ l.length ≤ 1000 := by
  unfold spec_DrawStormsOver
  obtain ⟨l, ⟨c1, t1, s1, u1⟩, e, hc, h1⟩ := records_ok _ 0 (cg0 code hb hl) (by omega)
  rw [e, Option.bind_some]
  obtain ⟨mi, ⟨c1, t1, s1, u1⟩, em, hc, _⟩ := minute17_ok (c1, t1, s1, ()) _ hc (by omega)
  dsimp only
  rw [em, Option.bind_some]
  obtain ⟨p, ⟨c2, t2, s2, u2⟩, e2, hc2, hp⟩ := pick_ok (c1, t1, s1, ()) _ 24 hc (by omega)
  dsimp only
  rw [e2, Option.bind_some]
  dsimp only
  obtain ⟨hw, hq⟩ := w_sel 5 p (by omega) hp
  rw [grd_pos (by omega), hw, grd_pos (by simp; omega)]
  obtain ⟨v, c3, e3, _, _⟩ := among_ok (c2, t2, s2, ()) _ (([(0 : Int), (5 : Int), (10 : Int), (30 : Int), (600 : Int), ((-1) : Int), (601 : Int)].drop ((0 : Int).toNat)).take (((5 + Int.tdiv p 11) - (0 : Int)).toNat)) (fun e => by
    have := congrArg List.length e
    simp at this
    omega) hc2 (by omega)
  rw [e3]
  exact ⟨l, mi, v, rfl, h1⟩
theorem drawCold_ok (code : List Int) (hb : ∀ x ∈ code, 0 ≤ x ∧ x ≤ 255) (hl : code.length ≤ 1048576) : ∃ l, spec_DrawColdestRecord code = some l ∧ l.length ≤ 1000 := by
  unfold spec_DrawColdestRecord spec_DrawAreRecords
  obtain ⟨l, c, e, _, h1⟩ := records_ok _ 0 (cg0 code hb hl) (by omega)
  rw [e]
  exact ⟨l, rfl, h1⟩
end Go.Proofs.Ytaajchikfgbecaa
