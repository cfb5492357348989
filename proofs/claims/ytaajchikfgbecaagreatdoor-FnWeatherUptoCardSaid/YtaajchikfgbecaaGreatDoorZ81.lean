/-
  Plain laws, carried over from texts of other seats.
-/
import Derived.Test.YtaajchikfgbecaaGreatDoorC849
import Derived.Test.YtaajchikfgbecaaGreatDoorO1
import Derived.Test.YtaajchikfgbecaaGreatDoorTN
import Derived.Test.YtaajchikfgbecaaGreatDoorL2
namespace Go.Proofs.YtaajchikfgbecaaGreatDoor
open Go.RowKit

/-- The place of the reader stays small; what it reads are bytes. -/
def CG (c : l1Cur) (n : Int) : Prop := (∀ x ∈ c.1, 0 ≤ x ∧ x ≤ 255) ∧ c.1.length ≤ 1048576 ∧ 0 ≤ c.2.1 ∧ c.2.1 ≤ n
theorem CG.up {c : l1Cur} {n m : Int} (h : CG c n) (hm : n ≤ m) : CG c m := ⟨h.1, h.2.1, h.2.2.1, by have := h.2.2.2; omega⟩
def Gives {α : Type} (x : Option (α × l1Cur)) (n : Int) (Q : α → Prop) : Prop := ∃ a c, x = some (a, c) ∧ CG c n ∧ Q a
theorem Gives.ret {α : Type} {a : α} {c : l1Cur} {n : Int} {Q : α → Prop} (h : CG c n) (hq : Q a) : Gives (some (a, c)) n Q := ⟨a, c, rfl, h, hq⟩
theorem Gives.mono {α : Type} {x : Option (α × l1Cur)} {n m : Int} {P Q : α → Prop} (h : Gives x n P) (hm : n ≤ m) (hq : ∀ a, P a → Q a) : Gives x m Q := by
  obtain ⟨a, c, e, h1, h2⟩ := h
  exact ⟨a, c, e, h1.up hm, hq a h2⟩
theorem gives_bind {α β : Type} {x : Option (α × l1Cur)} {f : α × l1Cur → Option (β × l1Cur)} {n m : Int} {P : α → Prop} {Q : β → Prop} (h : Gives x n P)
    (hf : ∀ a code at' seed, P a → CG (code, at', seed, ()) n → Gives (f (a, (code, at', seed, ()))) m Q) : Gives (x.bind f) m Q := by
  obtain ⟨a, ⟨code, at', seed, u⟩, e, h1, h2⟩ := h
  rw [e]
  exact hf a code at' seed h2 h1
theorem gives_cond {α : Type} {b : Bool} {x y : Option (α × l1Cur)} {n : Int} {Q : α → Prop} (h1 : b = true → Gives x n Q) (h2 : b = false → Gives y n Q) : Gives (cond b x y) n Q := by
  cases b
  · exact h2 rfl
  · exact h1 rfl
theorem gives_grd {α : Type} {p : Prop} [Decidable p] {x : Option (α × l1Cur)} {n : Int} {Q : α → Prop} (hp : p) (h : Gives x n Q) : Gives (grd p x) n Q := by
  rw [grd_pos hp]; exact h

theorem and255 (x : Int) : 0 ≤ w64 (wu64 ((BitVec.ofInt (IntKind.u64).bits x &&& BitVec.ofInt (IntKind.u64).bits (255 : Int)).toNat)) ∧ w64 (wu64 ((BitVec.ofInt (IntKind.u64).bits x &&& BitVec.ofInt (IntKind.u64).bits (255 : Int)).toNat)) ≤ 255 := by
  have h : (BitVec.ofInt (IntKind.u64).bits x &&& BitVec.ofInt (IntKind.u64).bits (255 : Int)).toNat ≤ 255 := by
    rw [BitVec.toNat_and]
    exact Nat.le_trans Nat.and_le_right (by decide)
  have e : wu64 ((BitVec.ofInt (IntKind.u64).bits x &&& BitVec.ofInt (IntKind.u64).bits (255 : Int)).toNat : Int) = ((BitVec.ofInt (IntKind.u64).bits x &&& BitVec.ofInt (IntKind.u64).bits (255 : Int)).toNat : Int) := by
    show IntKind.u64.wrap _ = _
    rw [IntKind.wrap_u64]; omega
  rw [e, w64_id (by omega) (by omega)]
  omega
theorem next_ok (c : l1Cur) (n : Int) (h : CG c n) (hn : n ≤ 1000000000000) : Gives (spec_l1Cur_next c) (n + 1) (fun v => 0 ≤ v ∧ v ≤ 255) := by
  obtain ⟨code, at', seed, u⟩ := c
  obtain ⟨hb, hl, h0, h1⟩ := h
  have h0 : 0 ≤ at' := h0
  have h1 : at' ≤ n := h1
  have hw : w64 (at' + 1) = at' + 1 := w64_id (by omega) (by omega)
  have key : ∃ b : Int, (cond (decide (at' < (code.length : Int))) (grd (0 ≤ at' ∧ at' < (code.length : Int)) ((some (w64 (code.getD at'.toNat 0))))) ((some (0 : Int)))) = some b ∧ 0 ≤ b ∧ b ≤ 255 := by
    by_cases hlt : at' < (code.length : Int)
    · rw [cond_dt hlt, grd_pos ⟨h0, hlt⟩]
      have hi : at'.toNat < code.length := by omega
      have hm : code.getD at'.toNat 0 ∈ code := by rw [getD_eq _ _ _ hi]; exact List.getElem_mem hi
      have := hb _ hm
      exact ⟨_, rfl, by rw [w64_id (by omega) (by omega)]; exact this⟩
    · rw [cond_df hlt]; exact ⟨0, rfl, by omega, by omega⟩
  obtain ⟨b, e, b0, b1⟩ := key
  unfold spec_l1Cur_next
  simp only [e, Option.bind_some]
  refine gives_cond (fun _ => ?_) (fun _ => ?_)
  · exact Gives.ret ⟨hb, hl, by show 0 ≤ w64 (at' + 1); omega, by show w64 (at' + 1) ≤ n + 1; omega⟩ ⟨b0, b1⟩
  · refine gives_grd (by omega) ?_
    exact Gives.ret ⟨hb, hl, by show 0 ≤ w64 (at' + 1); omega, by show w64 (at' + 1) ≤ n + 1; omega⟩ (and255 _)
theorem pick_ok (c : l1Cur) (n k : Int) (h : CG c n) (hn : n ≤ 100000000000) : Gives (spec_l1Cur_pick c k) (n + 2) (fun v => 0 ≤ v ∧ (v = 0 ∨ v < k)) := by
  obtain ⟨code, at', seed, u⟩ := c
  unfold spec_l1Cur_pick
  by_cases hk : k ≤ 1
  · rw [cond_dt hk]
    exact Gives.ret (h.up (by omega)) ⟨by omega, .inl rfl⟩
  rw [cond_df hk]
  refine gives_bind (next_ok _ n h (by omega)) fun a code1 at1 seed1 ha hc => ?_
  dsimp only
  by_cases h2 : 200 < k
  · rw [cond_dt h2]
    refine gives_bind (next_ok _ (n + 1) hc (by omega)) fun b code2 at2 seed2 hb hc => ?_
    dsimp only
    refine gives_grd (by omega) (Gives.ret (hc.up (by omega)) ?_)
    rw [w64_id (x := a * 256) (by omega) (by omega), w64_id (by omega) (by omega)]
    exact ⟨Int.tmod_nonneg _ (by omega), .inr (Int.tmod_lt_of_pos _ (by omega))⟩
  · rw [cond_df h2]
    refine gives_grd (by omega) (Gives.ret (hc.up (by omega)) ?_)
    exact ⟨Int.tmod_nonneg _ (by omega), .inr (Int.tmod_lt_of_pos _ (by omega))⟩
theorem among_ok (c : l1Cur) (n : Int) (l : List Int) (hl : l ≠ []) (h : CG c n) (hn : n ≤ 100000000000) : Gives (spec_l1Cur_among c l) (n + 2) (fun v => v ∈ l) := by
  obtain ⟨code, at', seed, u⟩ := c
  unfold spec_l1Cur_among
  refine gives_bind (pick_ok _ n _ h hn) fun a code1 at1 seed1 ha hc => ?_
  dsimp only
  have hpos : 0 < l.length := List.length_pos_iff.2 hl
  have hlt : a < (l.length : Int) := by omega
  refine gives_grd ⟨ha.1, hlt⟩ (Gives.ret hc ?_)
  have hi : a.toNat < l.length := by omega
  show l.getD a.toNat 0 ∈ l
  rw [getD_eq _ _ _ hi]; exact List.getElem_mem hi
theorem one_ok (c : l1Cur) (n k : Int) (h : CG c n) (hn : n ≤ 100000000000) : Gives (spec_l1Cur_one c k) (n + 2) (fun _ => True) := by
  obtain ⟨code, at', seed, u⟩ := c
  unfold spec_l1Cur_one
  refine gives_bind (pick_ok _ n _ h hn) fun a code1 at1 seed1 ha hc => ?_
  dsimp only
  exact Gives.ret hc trivial
theorem weather_ok (c : l1Cur) (n a1 : Int) (h : CG c n) (hn : n ≤ 100000000) : Gives (spec_l1Cur_weather c a1) (n + 20) (fun _ => True) := by
  obtain ⟨code, at', seed, u⟩ := c
  unfold spec_l1Cur_weather
  refine gives_bind (among_ok _ n _ (by simp) h (by omega)) fun a0 c1 t1 s1 _ h => ?_
  dsimp only
  refine gives_bind (among_ok _ _ _ (by simp) h (by omega)) fun a0 c1 t1 s1 _ h => ?_
  dsimp only
  refine gives_bind (among_ok _ _ _ (by simp) h (by omega)) fun a0 c1 t1 s1 _ h => ?_
  dsimp only
  refine gives_bind (one_ok _ _ _ h (by omega)) fun a0 c1 t1 s1 _ h => ?_
  dsimp only
  refine gives_bind (pick_ok _ _ _ h (by omega)) fun a0 c1 t1 s1 _ h => ?_
  dsimp only
  refine gives_cond (fun _ => ?_) (fun _ => gives_cond (fun _ => ?_) (fun _ => gives_cond (fun _ => ?_) (fun _ => gives_cond (fun _ => ?_) (fun _ => Gives.ret (h.up (by omega)) trivial))))
  · exact gives_bind (among_ok _ _ _ (by simp) h (by omega)) fun a6 c1 t1 s1 _ h => Gives.ret (h.up (by omega)) trivial
  · exact gives_bind (among_ok _ _ _ (by simp) h (by omega)) fun a6 c1 t1 s1 _ h => Gives.ret (h.up (by omega)) trivial
  · exact gives_bind (among_ok _ _ _ (by simp) h (by omega)) fun a6 c1 t1 s1 _ h => Gives.ret (h.up (by omega)) trivial
  · exact gives_bind (among_ok _ _ _ (by simp) h (by omega)) fun a6 c1 t1 s1 _ h => Gives.ret (h.up (by omega)) trivial
theorem recs_loop1 : ∀ (d : Nat) (minute : Int) (code : List Int) (at' seed : Int) (acc : List Weather) (n : Int), CG (code, at', seed, ()) n → n + 40 * d ≤ 10000000 → acc.length + d ≤ 1000 → d ≤ 1000 →
    ∃ code' at2 seed' acc', iter (fun s => spec_l1Cur_records_loop1 s.1 s.2.1 s.2.2.1 s.2.2.2.1 s.2.2.2.2.1 s.2.2.2.2.2) (minute, (d : Int), code, at', seed, acc) = some (code', at2, seed', acc') ∧ CG (code', at2, seed', ()) (n + 40 * d) ∧ acc'.length = acc.length + d
  | 0, minute, code, at', seed, acc, n, h, _, _, _ => ⟨code, at', seed, acc, iter_out (by
      show spec_l1Cur_records_loop1 minute (0 : Int) code at' seed acc = _
      unfold spec_l1Cur_records_loop1
      rw [cond_df (by omega)]), h.up (by omega), rfl⟩
  | d + 1, minute, code, at', seed, acc, n, h, hn, ha, hd => by
    obtain ⟨⟨r1, r2, r3, r4, r5, r6⟩, ⟨c1, t1, s1, u1⟩, e, hc, _⟩ := weather_ok (code, at', seed, ()) n minute h (by omega)
    obtain ⟨v, ⟨c2, t2, s2, u2⟩, e2, hc2, hv⟩ := among_ok (c1, t1, s1, ()) (n + 20) [(1 : Int), (5 : Int), (10 : Int), (10 : Int)] (by simp) hc (by omega)
    obtain ⟨p, ⟨c3, t3, s3, u3⟩, e3, hc3, hp⟩ := pick_ok (c2, t2, s2, ()) (n + 20 + 2) 80 hc2 (by omega)
    obtain ⟨c4, t4, s4, acc4, e4, h4, l4⟩ := recs_loop1 d (w64 ((w64 (minute + v)) - (w64 (Int.tdiv p (79 : Int))))) c3 t3 s3 (acc ++ [(r1, r2, r3, r4, r5, ())]) (n + 40) (hc3.up (by omega)) (by omega) (by simp; omega) (by omega)
    refine ⟨c4, t4, s4, acc4, (iter_go ?_).trans e4, h4.up (by omega), by simp at l4; omega⟩
    show spec_l1Cur_records_loop1 minute ((d + 1 : Nat) : Int) code at' seed acc = _
    unfold spec_l1Cur_records_loop1
    rw [cond_dt (by omega), e, Option.bind_some, grd_pos (by simp; omega), e2, Option.bind_some, e3, Option.bind_some, grd_pos (by omega), w64_id (x := ((d + 1 : Nat) : Int) - 1) (by omega) (by omega)]
    rw [show ((d + 1 : Nat) : Int) - 1 = (d : Int) by omega]
theorem recs_loop2 : ∀ (d : Nat) (code : List Int) (at' seed : Int) (acc : List Weather) (n : Int), CG (code, at', seed, ()) n → n + 2 * d ≤ 10000000 → 22 ≤ acc.length + d → acc.length ≤ 1000 →
    ∃ code' at2 seed' acc', iter (fun s => spec_l1Cur_records_loop2 s.1 s.2.1 s.2.2.1 s.2.2.2) (code, at', seed, acc) = some (code', at2, seed', acc') ∧ CG (code', at2, seed', ()) (n + 2 * d + 2) ∧ acc'.length ≤ 1000
  | d, code, at', seed, acc, n, h, hn, ha, hb => by
    obtain ⟨v, ⟨c1, t1, s1, u1⟩, e, hc, hv⟩ := pick_ok (code, at', seed, ()) n 2 h (by omega)
    have hv : 0 ≤ v ∧ v < 2 := by omega
    have hw : w64 ((20 : Int) + v) = 20 + v := w64_id (by omega) (by omega)
    by_cases hl : (acc.length : Int) < 20 + v
    · cases d with
      | zero => omega
      | succ d =>
        obtain ⟨c2, t2, s2, acc2, e2, h2, l2⟩ := recs_loop2 d c1 t1 s1 (acc ++ [((w64 ((9960 : Int) + (acc.length : Int))), (30 : Int), (0 : Int), (0 : Int), false, ())]) (n + 2) hc (by omega) (by simp; omega) (by simp; omega)
        refine ⟨c2, t2, s2, acc2, (iter_go ?_).trans e2, h2.up (by omega), l2⟩
        show spec_l1Cur_records_loop2 code at' seed acc = _
        unfold spec_l1Cur_records_loop2
        rw [e, Option.bind_some, hw, cond_dt hl, grd_pos (by simp; omega)]
    · refine ⟨c1, t1, s1, acc, iter_out ?_, hc.up (by omega), hb⟩
      show spec_l1Cur_records_loop2 code at' seed acc = _
      unfold spec_l1Cur_records_loop2
      rw [e, Option.bind_some, hw, cond_df hl]
theorem records_ok (c : l1Cur) (n : Int) (h : CG c n) (hn : n ≤ 1000000) : Gives (spec_l1Cur_records c) (n + 1000) (fun l => l.length ≤ 1000) := by
  obtain ⟨code, at', seed, u⟩ := c
  unfold spec_l1Cur_records
  refine gives_bind (among_ok _ n _ (by simp) h (by omega)) fun a0 c1 t1 s1 _ h => ?_
  dsimp only
  refine gives_bind (pick_ok _ _ _ h (by omega)) fun a1 c1 t1 s1 ha h => ?_
  dsimp only
  obtain ⟨d, rfl⟩ : ∃ d : Nat, a1 = (d : Int) := ⟨a1.toNat, by omega⟩
  obtain ⟨c2, t2, s2, acc2, e2, h2, l2⟩ := recs_loop1 d a0 c1 t1 s1 [] _ h (by omega) (by simp; omega) (by omega)
  rw [e2, Option.bind_some]
  have l2 : acc2.length ≤ 8 := by simp at l2; omega
  dsimp only
  refine gives_bind (one_ok _ _ _ h2 (by omega)) fun a1 c1 t1 s1 _ h => ?_
  dsimp only
  refine gives_cond (fun _ => ?_) (fun _ => Gives.ret (h.up (by omega)) (by omega))
  obtain ⟨c3, t3, s3, acc3, e3, h3, l3⟩ := recs_loop2 30 c1 t1 s1 acc2 _ h (by omega) (by omega) (by omega)
  rw [e3, Option.bind_some]
  exact Gives.ret (h3.up (by omega)) l3
theorem cg0 (code : List Int) (hb : ∀ x ∈ code, 0 ≤ x ∧ x ≤ 255) (hl : code.length ≤ 1048576) : CG (code, (0 : Int), (0 : Int), ()) 0 := ⟨hb, hl, by show (0 : Int) ≤ 0; omega, by show (0 : Int) ≤ 0; omega⟩
/-- The number of choices that are let in. -/
theorem w_sel (b p : Int) (hb : 0 ≤ b ∧ b ≤ 100) (hp : 0 ≤ p ∧ (p = 0 ∨ p < 24)) : w64 (b + w64 (Int.tdiv p 11)) = b + Int.tdiv p 11 ∧ 0 ≤ Int.tdiv p 11 ∧ Int.tdiv p 11 ≤ 2 := by
  have hq : 0 ≤ Int.tdiv p 11 ∧ Int.tdiv p 11 ≤ 2 := by
    rw [Int.tdiv_eq_ediv_of_nonneg (by omega)]; omega
  refine ⟨?_, hq⟩
  rw [w64_id (x := Int.tdiv p 11) (by omega) (by omega), w64_id (by omega) (by omega)]
theorem minute17_ok (c : l1Cur) (n : Int) (h : CG c n) (hn : n ≤ 1000000) : Gives (spec_l1Cur_minute17 c) (n + 10) (fun _ => True) := by
  obtain ⟨code, at', seed, u⟩ := c
  unfold spec_l1Cur_minute17
  refine gives_bind (pick_ok _ n _ h (by omega)) fun p c1 t1 s1 hp h => ?_
  dsimp only
  obtain ⟨hw, hq⟩ := w_sel 7 p (by omega) hp
  rw [grd_pos (by omega), hw, grd_pos (by simp; omega)]
  refine gives_bind (among_ok _ _ _ (fun e => by
    have := congrArg List.length e
    simp at this
    omega) h (by omega)) fun a0 c1 t1 s1 _ h => ?_
  exact Gives.ret (h.up (by omega)) trivial
theorem l1In_eq (a lo hi : Int) : spec_l1In a lo hi = some (decide (lo ≤ a ∧ a ≤ hi)) := by
  unfold spec_l1In
  by_cases h : lo ≤ a
  · rw [cond_dt h]; simp [h]
  · rw [cond_df h]; simp [h]
theorem within_eq (a lo hi : Int) : impl_within a lo hi = some (decide (lo ≤ a ∧ a ≤ hi)) := by
  unfold impl_within
  by_cases h : lo ≤ a
  · rw [cond_dt h]; simp [h]
  · rw [cond_df h]; simp [h]
/-- One record's bounds. -/
abbrev okW (r : Weather) : Prop := (0 ≤ r.1 ∧ r.1 ≤ 9999) ∧ (0 ≤ r.2.1 ∧ r.2.1 ≤ 600) ∧ (0 ≤ r.2.2.1 ∧ r.2.2.1 ≤ 359) ∧ (-400 ≤ r.2.2.2.1 ∧ r.2.2.2.1 ≤ 500)
theorem isWeather_eq (r : Weather) : impl_IsWeather (r.1, r.2.1, r.2.2.1, r.2.2.2.1, r.2.2.2.2.1, ()) = some (decide (okW r)) := by
  simp only [impl_IsWeather, within_eq, Option.bind_some, Bool.cond_decide]
  repeat' split
  all_goals refine congrArg some ?_
  all_goals (rw [Bool.eq_iff_iff]; simp only [decide_eq_true_eq, false_iff, Bool.false_eq_true, okW]; omega)
theorem l17One_eq (r : Weather) : spec_l17One (r.1, r.2.1, r.2.2.1, r.2.2.2.1, r.2.2.2.2.1, ()) = some (decide (okW r)) := by
  simp only [spec_l17One, spec_l17Minute, spec_l17Wind, spec_l17Way, l1In_eq, Option.bind_some, Bool.cond_decide]
  repeat' split
  all_goals refine congrArg some ?_
  all_goals (rw [Bool.eq_iff_iff]; simp only [decide_eq_true_eq, false_iff, Bool.false_eq_true, okW]; omega)
def stepOk (l : List Weather) (k : Nat) : Bool := decide (okW (l.getD k d_Weather)) && (decide (k = 0) || decide ((l.getD (k - 1) d_Weather).1 < (l.getD k d_Weather).1))
/-- Is it a list of records? -/
def AR (l : List Weather) : Bool := (List.range l.length).all (stepOk l) && decide (l.length ≤ 20)
theorem stepOk_a {l : List Weather} {k : Nat} (h : ¬ okW (l.getD k d_Weather)) : stepOk l k = false := by unfold stepOk; rw [decide_eq_false h]; rfl
theorem stepOk_b {l : List Weather} {k : Nat} (h : okW (l.getD k d_Weather)) (h0 : k = 0) : stepOk l k = true := by unfold stepOk; rw [decide_eq_true h, decide_eq_true h0]; rfl
theorem stepOk_c {l : List Weather} {k : Nat} (h : okW (l.getD k d_Weather)) (h0 : ¬ k = 0) : stepOk l k = decide ((l.getD (k - 1) d_Weather).1 < (l.getD k d_Weather).1) := by unfold stepOk; rw [decide_eq_true h, decide_eq_false h0]; rfl
theorem w64_pred {k : Nat} (h0 : 0 < k) (h : k < 4611686018427387904) : w64 ((k : Int) - 1) = ((k - 1 : Nat) : Int) := by
  rw [w64_id (by omega) (by omega)]; omega
theorem areRecords_eq (l : List Weather) (h : l.length ≤ 1048576) : impl_AreRecords l = some (AR l) := by
  unfold impl_AreRecords
  have H := iter_allN (f := fun s => impl_AreRecords_loop1 l s) (good := Sum.inr ()) (bad := Sum.inl ()) l.length (stepOk l) (fun k => (k : Int)) (fun k hk => by
    show impl_AreRecords_loop1 l (k : Int) = _
    unfold impl_AreRecords_loop1
    rw [cond_dt (by omega), grd_pos (by omega)]
    simp only [Int.toNat_natCast]
    rw [isWeather_eq, Option.bind_some]
    by_cases h1 : okW (l.getD k d_Weather)
    · rw [cond_ndt h1]
      by_cases h0 : k = 0
      · rw [cond_df (by omega), stepOk_b h1 h0, w64_nat (by omega)]; rfl
      · rw [cond_dt (by omega), w64_pred (by omega) (by omega), grd_pos (by omega), Int.toNat_natCast, stepOk_c h1 h0]
        by_cases h2 : (l.getD k d_Weather).1 ≤ (l.getD (k - 1) d_Weather).1
        · rw [cond_dt h2, decide_eq_false (by omega)]; rfl
        · rw [cond_df h2, decide_eq_true (by omega), w64_nat (by omega)]; rfl
    · rw [cond_ndf h1, stepOk_a h1]; rfl) (by
    show impl_AreRecords_loop1 l (l.length : Int) = _
    unfold impl_AreRecords_loop1
    rw [cond_df (by omega)]) (s := (0 : Int)) rfl
  rw [H]
  unfold AR
  cases (List.range l.length).all (stepOk l)
  · rfl
  · simp only [if_true, Option.bind_some, Sum.elim_inr, Bool.true_and]
    refine congrArg some (decide_eq_decide.2 ?_); omega
theorem l17Good_eq (l : List Weather) (h : l.length ≤ 1048576) : spec_l17Good l = some (AR l) := by
  unfold spec_l17Good
  have H := iter_allN (f := fun s => spec_l17Good_loop1 l s) (good := Sum.inr ()) (bad := Sum.inl ()) l.length (stepOk l) (fun k => (k : Int)) (fun k hk => by
    show spec_l17Good_loop1 l (k : Int) = _
    unfold spec_l17Good_loop1
    rw [cond_dt (by omega), grd_pos (by omega)]
    simp only [Int.toNat_natCast]
    rw [l17One_eq, Option.bind_some]
    by_cases h1 : okW (l.getD k d_Weather)
    · rw [cond_ndt h1]
      by_cases h0 : k = 0
      · rw [cond_df (by omega), stepOk_b h1 h0, w64_nat (by omega)]; rfl
      · rw [cond_dt (by omega), w64_pred (by omega) (by omega), grd_pos (by omega), grd_pos (by omega), Int.toNat_natCast, stepOk_c h1 h0]
        by_cases h2 : (l.getD k d_Weather).1 ≤ (l.getD (k - 1) d_Weather).1
        · rw [cond_dt h2, decide_eq_false (by omega)]; rfl
        · rw [cond_df h2, decide_eq_true (by omega), w64_nat (by omega)]; rfl
    · rw [cond_ndf h1, stepOk_a h1]; rfl) (by
    show spec_l17Good_loop1 l (l.length : Int) = _
    unfold spec_l17Good_loop1
    rw [cond_df (by omega)]) (s := (0 : Int)) rfl
  rw [H]
  unfold AR
  cases (List.range l.length).all (stepOk l)
  · rfl
  · simp only [if_true, Option.bind_some, Sum.elim_inr, Bool.true_and]
    refine congrArg some (decide_eq_decide.2 ?_); omega
/-- A list of records. -/
structure Rec (l : List Weather) : Prop where
  len : l.length ≤ 20
  ok : ∀ k, k < l.length → okW (l.getD k d_Weather)
  up : ∀ i j, i < j → j < l.length → (l.getD i d_Weather).1 < (l.getD j d_Weather).1
theorem AR_out {l : List Weather} (h : AR l = true) : Rec l := by
  unfold AR at h
  rw [Bool.and_eq_true, List.all_eq_true] at h
  obtain ⟨h1, h2⟩ := h
  have hs : ∀ k, k < l.length → stepOk l k = true := fun k hk => h1 k (by simpa using hk)
  have hok : ∀ k, k < l.length → okW (l.getD k d_Weather) := fun k hk => by
    by_cases hh : okW (l.getD k d_Weather)
    · exact hh
    · have := hs k hk; rw [stepOk_a hh] at this; cases this
  refine ⟨of_decide_eq_true h2, hok, fun i j => ?_⟩
  induction j with
  | zero => intro hi; omega
  | succ j ih =>
    intro hi hj
    have := hs (j + 1) hj
    rw [stepOk_c (hok _ hj) (by omega), decide_eq_true_eq, Nat.add_sub_cancel] at this
    by_cases e : i = j
    · rw [e]; exact this
    · have := ih (by omega) (by omega); omega
theorem Rec.inj {l : List Weather} (h : Rec l) {i j : Nat} (hi : i < l.length) (_hj : j < l.length) (hle : (l.getD i d_Weather).1 ≤ (l.getD j d_Weather).1) : i ≤ j := by
  rcases Nat.lt_or_ge j i with h1 | h1
  · have := h.up j i h1 hi; omega
  · exact h1
def calm (m : Int) (r : Weather) : Prop := r.2.2.2.2.1 = false ∧ r.2.1 ≤ m
instance calmDec (m : Int) (r : Weather) : Decidable (calm m r) := inferInstanceAs (Decidable (r.2.2.2.2.1 = false ∧ r.2.1 ≤ m))
def csK (l : List Weather) (m : Int) : Nat → Bool × List (List Int)
  | 0 => (false, [])
  | k + 1 => if calm m (l.getD k d_Weather) then (true, if (csK l m k).1 = true then (csK l m k).2.set ((csK l m k).2.length - 1) [((csK l m k).2.getD ((csK l m k).2.length - 1) []).getD 0 0, (l.getD k d_Weather).1] else (csK l m k).2 ++ [[(l.getD k d_Weather).1, (l.getD k d_Weather).1]]) else (false, (csK l m k).2)
theorem csK_no {l : List Weather} {m : Int} {k : Nat} (h : ¬ calm m (l.getD k d_Weather)) : csK l m (k + 1) = (false, (csK l m k).2) := by
  rw [csK, if_neg h]
theorem csK_new {l : List Weather} {m : Int} {k : Nat} (h : calm m (l.getD k d_Weather)) (h1 : (csK l m k).1 = false) : csK l m (k + 1) = (true, (csK l m k).2 ++ [[(l.getD k d_Weather).1, (l.getD k d_Weather).1]]) := by
  rw [csK, if_pos h, if_neg (by rw [h1]; decide)]
theorem csK_on {l : List Weather} {m : Int} {k : Nat} (h : calm m (l.getD k d_Weather)) (h1 : (csK l m k).1 = true) {init : List (List Int)} {a b : Int} (e : (csK l m k).2 = init ++ [[a, b]]) : csK l m (k + 1) = (true, init ++ [[a, (l.getD k d_Weather).1]]) := by
  rw [csK, if_pos h, if_pos h1, e, show (init ++ [[a, b]]).length - 1 = init.length by simp, set_mid, getD_mid]
  rfl
def Span (l : List Weather) (m : Int) (k : Nat) (row : List Int) : Prop := ∃ i j, i ≤ j ∧ j < k ∧ row = [(l.getD i d_Weather).1, (l.getD j d_Weather).1] ∧ ∀ t, i ≤ t → t ≤ j → calm m (l.getD t d_Weather)
theorem csK_inv (l : List Weather) (m : Int) : ∀ k, (csK l m k).2.length ≤ k ∧ (∀ row ∈ (csK l m k).2, Span l m k row) ∧
    ((csK l m k).1 = true → ∃ init i, (csK l m k).2 = init ++ [[(l.getD i d_Weather).1, (l.getD (k - 1) d_Weather).1]] ∧ i < k ∧ ∀ t, i ≤ t → t < k → calm m (l.getD t d_Weather)) := by
  intro k
  induction k with
  | zero => exact ⟨by simp [csK], fun row hr => (by simp [csK] at hr), fun h => (by simp [csK] at h)⟩
  | succ k ih =>
    obtain ⟨i1, i2, i3⟩ := ih
    have up : ∀ row, Span l m k row → Span l m (k + 1) row := fun row ⟨i, j, h1, h2, h3⟩ => ⟨i, j, h1, by omega, h3⟩
    by_cases hc : calm m (l.getD k d_Weather)
    · cases h1 : (csK l m k).1
      · rw [csK_new hc h1]
        refine ⟨by simp; omega, fun row hr => ?_, fun _ => ⟨_, k, rfl, by omega, fun t h2 h3 => ?_⟩⟩
        · rcases List.mem_append.1 hr with e | e
          · exact up _ (i2 _ e)
          · rw [List.mem_singleton.1 e]
            exact ⟨k, k, by omega, by omega, rfl, fun t h2 h3 => by rw [show t = k by omega]; exact hc⟩
        · rw [show t = k by omega]; exact hc
      · obtain ⟨init, i, e, hi, hall⟩ := i3 h1
        rw [csK_on hc h1 e]
        have hall2 : ∀ t, i ≤ t → t < k + 1 → calm m (l.getD t d_Weather) := fun t h2 h3 => by
          by_cases h4 : t = k
          · rw [h4]; exact hc
          · exact hall t h2 (by omega)
        refine ⟨?_, fun row hr => ?_, fun _ => ⟨init, i, by rw [Nat.add_sub_cancel], by omega, hall2⟩⟩
        · rw [e] at i1; simp only [List.length_append, List.length_singleton] at i1 ⊢; omega
        · rcases List.mem_append.1 hr with e2 | e2
          · exact up _ (i2 _ (by rw [e]; exact List.mem_append_left _ e2))
          · rw [List.mem_singleton.1 e2]
            exact ⟨i, k, by omega, by omega, rfl, fun t h2 h3 => hall2 t h2 (by omega)⟩
    · rw [csK_no hc]
      exact ⟨by show (csK l m k).2.length ≤ k + 1; omega, fun row hr => up _ (i2 _ hr), fun h => by cases h⟩
theorem Span.len {l : List Weather} {m : Int} {k : Nat} {row : List Int} (h : Span l m k row) : row.length = 2 := by
  obtain ⟨i, j, _, _, rfl, _⟩ := h; rfl
def swK (l : List Weather) (a b : Int) : Nat → Int
  | 0 => -1
  | k + 1 => if a ≤ (l.getD k d_Weather).1 ∧ (l.getD k d_Weather).1 ≤ b then (if (l.getD k d_Weather).2.1 > swK l a b k then (l.getD k d_Weather).2.1 else swK l a b k) else swK l a b k
theorem sw_loop (l : List Weather) (a b : Int) (h : l.length ≤ 1048576) : iter (fun s => impl_StrongestWind_loop1 l a b s.1 s.2) (((-1) : Int), (0 : Int)) = some (swK l a b l.length) :=
  iter_for l.length (fun k => (swK l a b k, (k : Int))) (fun k hk => by
    show impl_StrongestWind_loop1 l a b (swK l a b k) (k : Int) = _
    unfold impl_StrongestWind_loop1
    rw [cond_dt (by omega), grd_pos (by omega)]
    simp only [Int.toNat_natCast, within_eq, Option.bind_some, Bool.false_eq_true, if_false]
    rw [w64_nat (by omega), swK]
    by_cases hw : a ≤ (l.getD k d_Weather).1 ∧ (l.getD k d_Weather).1 ≤ b
    · rw [cond_dt hw, if_pos hw]
    · rw [cond_df hw, if_neg hw]) (by
    show impl_StrongestWind_loop1 l a b (swK l a b l.length) (l.length : Int) = _
    unfold impl_StrongestWind_loop1
    rw [cond_df (by omega)]) rfl
theorem strongest_eq (l : List Weather) (a b : Int) (h : l.length ≤ 1048576) : impl_StrongestWind l a b = some (if AR l = true ∧ (0 ≤ a ∧ a ≤ b) ∧ b ≤ 9999 then ((if 0 > swK l a b l.length then 0 else swK l a b l.length), decide (0 ≤ swK l a b l.length)) else (0, false)) := by
  unfold impl_StrongestWind
  rw [areRecords_eq l h, within_eq]
  simp only [Option.bind_some, Bool.false_eq_true, if_false]
  cases ha : AR l
  · simp only [Bool.not_false, cond_true]; rw [if_neg (by simp)]
  · simp only [Bool.not_true, cond_false]
    by_cases h1 : 0 ≤ a ∧ a ≤ b
    · rw [cond_ndt h1]
      by_cases h2 : 9999 < b
      · rw [cond_dt h2, if_neg (by omega)]
      · rw [cond_df h2, if_pos ⟨by simp, h1, by omega⟩, sw_loop l a b h]; rfl
    · rw [cond_ndf h1, if_neg (fun e => h1 e.2.1)]
theorem sw_span {l : List Weather} (hR : Rec l) {m : Int} (hm : 0 ≤ m) {i j : Nat} (hij : i ≤ j) (hj : j < l.length) (hc : ∀ t, i ≤ t → t ≤ j → calm m (l.getD t d_Weather)) :
    ∀ k, k ≤ l.length → swK l (l.getD i d_Weather).1 (l.getD j d_Weather).1 k ≤ m ∧ -1 ≤ swK l (l.getD i d_Weather).1 (l.getD j d_Weather).1 k ∧ (i < k → 0 ≤ swK l (l.getD i d_Weather).1 (l.getD j d_Weather).1 k) := by
  intro k
  induction k with
  | zero => intro _; rw [swK]; omega
  | succ k ih =>
    intro hk
    obtain ⟨h1, h2, h3⟩ := ih (by omega)
    rw [swK]
    have hok := hR.ok k (by omega)
    by_cases hw : (l.getD i d_Weather).1 ≤ (l.getD k d_Weather).1 ∧ (l.getD k d_Weather).1 ≤ (l.getD j d_Weather).1
    · have hik := hR.inj (by omega) (by omega) hw.1
      have hkj := hR.inj (by omega) (by omega) hw.2
      have := (hc k hik hkj).2
      rw [if_pos hw]
      split <;> omega
    · rw [if_neg hw]
      refine ⟨h1, h2, fun h4 => ?_⟩
      by_cases e : i = k
      · exfalso; apply hw; rw [e]
        rcases Nat.lt_or_ge k j with h5 | h5
        · have := hR.up k j h5 hj; omega
        · rw [show j = k by omega]; omega
      · exact h3 (by omega)
def inW (m s : Int) (r : Weather) : Prop := w64 (m - s) ≤ r.1 ∧ r.1 ≤ m
instance inWDec (m s : Int) (r : Weather) : Decidable (inW m s r) := inferInstanceAs (Decidable (w64 (m - s) ≤ r.1 ∧ r.1 ≤ m))
def cnK (l : List Weather) (m s : Int) : Nat → Nat
  | 0 => 0
  | k + 1 => if inW m s (l.getD k d_Weather) then cnK l m s k + 1 else cnK l m s k
theorem cnK_le (l : List Weather) (m s : Int) : ∀ k, cnK l m s k ≤ k
  | 0 => by rw [cnK]; omega
  | k + 1 => by have := cnK_le l m s k; rw [cnK]; split <;> omega
def acK (l : List Weather) (m s : Int) : Nat → Bool
  | 0 => true
  | k + 1 => if inW m s (l.getD k d_Weather) then (if acK l m s k = true then !(l.getD k d_Weather).2.2.2.2.1 else false) else acK l m s k
theorem acK_iff (l : List Weather) (m s : Int) : ∀ k, acK l m s k = true ↔ ∀ t, t < k → ¬ (inW m s (l.getD t d_Weather) ∧ (l.getD t d_Weather).2.2.2.2.1 = true)
  | 0 => by simp [acK]
  | k + 1 => by
    have ih := acK_iff l m s k
    have hsplit : (∀ t, t < k + 1 → ¬ (inW m s (l.getD t d_Weather) ∧ (l.getD t d_Weather).2.2.2.2.1 = true)) ↔ (∀ t, t < k → ¬ (inW m s (l.getD t d_Weather) ∧ (l.getD t d_Weather).2.2.2.2.1 = true)) ∧ ¬ (inW m s (l.getD k d_Weather) ∧ (l.getD k d_Weather).2.2.2.2.1 = true) := by
      constructor
      · exact fun h => ⟨fun t ht => h t (by omega), h k (by omega)⟩
      · intro h t ht
        by_cases e : t = k
        · rw [e]; exact h.2
        · exact h.1 t (by omega)
    rw [hsplit, ← ih, acK]
    by_cases hw : inW m s (l.getD k d_Weather)
    · rw [if_pos hw]
      cases acK l m s k <;> cases (l.getD k d_Weather).2.2.2.2.1 <;> first | (simp []; done) | (simp; simpa using hw)
    · rw [if_neg hw]
      exact ⟨fun h => ⟨h, fun e => hw e.1⟩, fun h => h.1⟩
/-- What is said of the storms. -/
def SO (l : List Weather) (m s : Int) : Bool × Bool :=
  if AR l = true ∧ (0 ≤ m ∧ m ≤ 9999) ∧ (0 ≤ s ∧ s ≤ 600) then (if acK l m s l.length = true then (decide (0 < cnK l m s l.length), true) else (false, true)) else (false, false)
theorem cnK_pos {l : List Weather} {m s : Int} {i : Nat} (hw : inW m s (l.getD i d_Weather)) : ∀ k, i < k → 0 < cnK l m s k
  | 0, h => by omega
  | k + 1, h => by
    rw [cnK]
    by_cases e : i = k
    · rw [← e, if_pos hw]; omega
    · have := cnK_pos hw k (by omega); split <;> omega
theorem digs_get (d : Nat) (h : d < 10) : bsub (ByteArray.mk #[48, 49, 50, 51, 52, 53, 54, 55, 56, 57]) (d : Int) (w64 ((d : Int) + 1)) = bs [UInt8.ofNat (48 + d)] := by
  have : w64 ((d : Int) + 1) = ((d + 1 : Nat) : Int) := w64_nat (by omega)
  rw [this, show (ByteArray.mk #[48, 49, 50, 51, 52, 53, 54, 55, 56, 57]) = bs [48, 49, 50, 51, 52, 53, 54, 55, 56, 57] from rfl, bsub_bs]
  have hd : d = 0 ∨ d = 1 ∨ d = 2 ∨ d = 3 ∨ d = 4 ∨ d = 5 ∨ d = 6 ∨ d = 7 ∨ d = 8 ∨ d = 9 := by omega
  rcases hd with rfl | rfl | rfl | rfl | rfl | rfl | rfl | rfl | rfl | rfl <;> rfl
theorem l1Num_f_eq : ∀ (k n : Nat), n < 10 ^ k → n < 1000000000000000000 → spec_l1Num_f (k + 1) (n : Int) = some (bs (Lib.decDigits n))
  | 0, n, h, _ => by
    obtain rfl : n = 0 := by simpa using h
    rw [spec_l1Num_f_succ, cond_df (by omega), cond_dt (by omega), grd_pos ⟨by omega, by decide, by decide⟩]
    have := digs_get 0 (by omega)
    rw [show ((0 : Nat) : Int) = (0 : Int) from rfl] at this ⊢
    rw [this]
    unfold Lib.decDigits
    rw [dif_pos (by omega)]
  | k + 1, n, h, h18 => by
    rw [spec_l1Num_f_succ, cond_df (by omega)]
    by_cases h10 : n < 10
    · have e : w64 ((n : Int) + 1) = ((n + 1 : Nat) : Int) := w64_nat (by omega)
      have hs : (ByteArray.mk #[48, 49, 50, 51, 52, 53, 54, 55, 56, 57]).size = 10 := rfl
      rw [cond_dt (by omega), grd_pos ⟨by omega, by rw [e]; omega, by rw [e, hs]; omega⟩, digs_get n h10]
      unfold Lib.decDigits
      rw [dif_pos h10]
    · have hq : n / 10 < 10 ^ k := by
        rw [Nat.div_lt_iff_lt_mul (by omega)]
        rw [Nat.pow_succ] at h; exact h
      have ih := l1Num_f_eq k (n / 10) hq (by omega)
      have e1 : w64 (Int.tdiv (n : Int) 10) = ((n / 10 : Nat) : Int) := by
        rw [show Int.tdiv (n : Int) 10 = ((n / 10 : Nat) : Int) from by rw [show (10 : Int) = ((10 : Nat) : Int) from rfl, ← Int.ofNat_tdiv]]
        rw [w64_id (by omega) (by omega)]
      have e2 : Int.tmod (n : Int) 10 = ((n % 10 : Nat) : Int) := by rw [show (10 : Int) = ((10 : Nat) : Int) from rfl, ← Int.ofNat_tmod]
      have hlen : (Lib.decDigits (n / 10)).length ≤ 19 := dec_length 18 (n / 10) (by omega)
      have hs : (ByteArray.mk #[48, 49, 50, 51, 52, 53, 54, 55, 56, 57]).size = 10 := rfl
      have e3 : w64 (((n % 10 : Nat) : Int) + 1) = ((n % 10 + 1 : Nat) : Int) := w64_nat (by omega)
      rw [cond_df (by omega), grd_pos (by omega), e1, ih, Option.bind_some]
      simp only [e2]
      have hm : n % 10 < 10 := Nat.mod_lt _ (by omega)
      rw [grd_pos (by omega), grd_pos (by omega), grd_pos ⟨by omega, by rw [e3]; omega, by rw [e3, hs]; omega⟩, digs_get (n % 10) hm, grd_pos (by rw [bs_size, bs_size]; simp; omega), bs_app]
      conv => rhs; unfold Lib.decDigits
      rw [dif_neg h10]
theorem l1Num_eq (n : Nat) (h : n < 1000000000000000000) : spec_l1Num (n : Int) = some (bs (Lib.decDigits n)) := by
  unfold spec_l1Num
  have := l1Num_f_eq 63 n (Nat.lt_of_lt_of_le h (by decide)) h
  exact this
theorem itoa_eq (n : Nat) (h : n < 1000000000000000000) : strconv_Itoa (n : Int) = some (bs (Lib.decDigits n)) := by
  unfold strconv_Itoa
  rw [grd_pos (by omega)]
  have : itoaB (n : Int) = bs (Lib.decDigits n) := by
    unfold itoaB Lib.itoa
    rw [if_neg (by omega), Int.toNat_natCast]
  rw [this]

theorem bAt_get (s : ByteArray) (k : Nat) : bAt s (k : Int) = ((s.data.toList.getD k 0).toNat : Int) := by unfold bAt; rw [Int.toNat_natCast]
theorem size_list (s : ByteArray) : s.data.toList.length = s.size := Array.length_toList
theorem l1Num_int (n : Int) (h : -1000000000000 ≤ n ∧ n ≤ 1000000000000) : spec_l1Num n = some (bs (Lib.itoa n)) := by
  by_cases h0 : n < 0
  · obtain ⟨m, rfl⟩ : ∃ m : Nat, n = -(m : Int) := ⟨n.natAbs, by omega⟩
    have hm : 1 ≤ m := by omega
    have e := l1Num_f_eq 62 m (Nat.lt_of_lt_of_le (m := 10 ^ 18) (by omega) (by decide)) (by omega)
    have hl := dec_length 18 m (Nat.lt_of_lt_of_le (m := 10 ^ 18) (by omega) (by decide))
    unfold spec_l1Num
    rw [show (64 : Nat) = 63 + 1 from rfl, spec_l1Num_f_succ, cond_dt h0, show (0 - -(m : Int)) = (m : Int) by omega, w64_id (by omega) (by omega), e, Option.bind_some, grd_pos (by rw [bs_size]; show 1 + (Lib.decDigits m).length ≤ 9223372036854775807; omega), Lib.itoa_neg m hm]
    show some (bs [45] ++ bs (Lib.decDigits m)) = _
    rw [bs_app]; rfl
  · obtain ⟨m, rfl⟩ : ∃ m : Nat, n = (m : Int) := ⟨n.toNat, by omega⟩
    rw [l1Num_eq m (by omega), Lib.itoa_nonneg]
theorem itoa_int (n : Int) (h : -1000000000000 ≤ n ∧ n ≤ 1000000000000) : strconv_Itoa n = some (bs (Lib.itoa n)) := by
  unfold strconv_Itoa
  rw [grd_pos (by omega)]; rfl
theorem cut_sign (l : List UInt8) (hl : l.length ≤ 1000000) : ∃ t, (cond (decide ((1 : Int) < ((bs l).size : Int))) (grd (0 ≤ (0 : Int) ∧ (0 : Int) < ((bs l).size : Int)) (cond (decide ((bAt (bs l) (0 : Int)) = (45 : Int))) (grd (0 ≤ (1 : Int) ∧ (1 : Int) ≤ ((bs l).size : Int) ∧ ((bs l).size : Int) ≤ ((bs l).size : Int)) ((some (bsub (bs l) (1 : Int) ((bs l).size : Int))))) ((some (bs l))))) ((some (bs l)))) = some (bs t) ∧
    ((t = l ∧ ∀ r, l = 45 :: r → r = []) ∨ (l = 45 :: t ∧ t ≠ [])) := by
  match l, hl with
  | [], _ => exact ⟨[], rfl, .inl ⟨rfl, (fun r h => by cases h)⟩⟩
  | [b], _ => exact ⟨[b], rfl, .inl ⟨rfl, fun r h => by cases h; rfl⟩⟩
  | b :: c :: r, hl =>
    have hs : ((bs (b :: c :: r)).size : Int) = (r.length : Int) + 2 := by rw [bs_size]; simp only [List.length_cons]; omega
    rw [cond_dt (by rw [hs]; omega), grd_pos (by rw [hs]; omega)]
    have hb : bAt (bs (b :: c :: r)) (0 : Int) = (b.toNat : Int) := by rw [bAt_bs]; rfl
    rw [hb]
    by_cases h : b.toNat = 45
    · have hb45 : b = 45 := UInt8.toNat_inj.1 h
      rw [cond_dt (by omega), grd_pos (by rw [hs]; omega), bsub_bs]
      refine ⟨c :: r, ?_, .inr ⟨by rw [hb45], by simp⟩⟩
      congr 2
      have : ((bs (b :: c :: r)).size : Int).toNat = r.length + 2 := by rw [hs]; omega
      rw [this]
      simp
    · rw [cond_df (by omega)]
      refine ⟨b :: c :: r, rfl, .inl ⟨rfl, fun r' h' => ?_⟩⟩
      have : b = 45 := by cases h'; rfl
      rw [this] at h
      exact absurd rfl h
theorem decFrom_six {t : List UInt8} {m : Nat} (h : Lib.decFrom 0 t = some m) (hl : t.length ≤ 6) : m < 1000000 := by
  have := Lib.decFrom_lt t 0 m h
  have h6 : (10 : Nat) ^ t.length ≤ 10 ^ 6 := Nat.pow_le_pow_right (by omega) hl
  have h7 : (10 : Nat) ^ 6 = 1000000 := by decide
  omega
theorem split_eq (l : List UInt8) (c : UInt8) (hl : l.length ≤ 1000000000) : spec_l1Split (bs l) (c.toNat : Int) = some ((spl c l).map bs) := by
  unfold spec_l1Split
  have key : ∀ (d i from' : Nat) (out : List ByteArray), i + d = l.length → from' ≤ i → out.length ≤ i → (∃ o : List (List UInt8), out = o.map bs ∧ spl c l = o ++ preF ((l.drop from').take (i - from')) (spl c (l.drop i))) →
      ∃ (f' : Nat) (o : List (List UInt8)), iter (fun s => spec_l1Split_loop1 (bs l) (c.toNat : Int) s.1 s.2.1 s.2.2) ((from' : Int), (i : Int), out) = some ((f' : Int), o.map bs) ∧ f' ≤ l.length ∧ o.length ≤ l.length ∧ spl c l = o ++ [l.drop f'] := by
    intro d
    induction d with
    | zero =>
      rintro i from' out hi hf ho ⟨o, rfl, e⟩
      refine ⟨from', o, iter_out ?_, by omega, by simp at ho; omega, ?_⟩
      · show spec_l1Split_loop1 (bs l) (c.toNat : Int) (from' : Int) (i : Int) _ = _
        unfold spec_l1Split_loop1
        rw [cond_df (by rw [bs_size]; omega)]
      · rw [e, show l.drop i = [] from List.drop_eq_nil_of_le (by omega), preF_nil]
        congr 2
        rw [List.take_of_length_le (by simp; omega)]
    | succ d ih =>
      rintro i from' out hi hf ho ⟨o, rfl, e⟩
      have hil : i < l.length := by omega
      have hdrop : l.drop i = l[i] :: l.drop (i + 1) := List.drop_eq_getElem_cons hil
      have htake : (l.drop from').take (i + 1 - from') = (l.drop from').take (i - from') ++ [l[i]] := by
        rw [show i + 1 - from' = (i - from') + 1 by omega, List.take_succ_eq_append_getElem (by simp; omega)]
        simp [show from' + (i - from') = i by omega]
      by_cases hc : l[i] = c
      · obtain ⟨f', o', h1, h2, h3, h4⟩ := ih (i + 1) (i + 1) ((o ++ [(l.drop from').take (i - from')]).map bs) (by omega) (by omega) (by simp at ho ⊢; omega) ⟨_, rfl, by
          rw [e, hdrop, hc, preF_hit]
          simp [preF_zero]⟩
        refine ⟨f', o', (iter_go ?_).trans h1, h2, h3, h4⟩
        show spec_l1Split_loop1 (bs l) (c.toNat : Int) (from' : Int) (i : Int) _ = _
        unfold spec_l1Split_loop1
        simp only [List.length_map] at ho
        rw [cond_dt (by rw [bs_size]; omega), grd_pos (by rw [bs_size]; omega), bAt_bs, Int.toNat_natCast, getD_eq _ _ _ hil, hc, cond_dt rfl, grd_pos (by rw [bs_size]; omega), grd_pos (by simp; omega), w64_nat (by omega), bsub_bs]
        simp
      · obtain ⟨f', o', h1, h2, h3, h4⟩ := ih (i + 1) from' (o.map bs) (by omega) (by omega) (by simp at ho ⊢; omega) ⟨o, rfl, by
          rw [e, hdrop, preF_snoc c _ _ _ hc, htake]⟩
        refine ⟨f', o', (iter_go ?_).trans h1, h2, h3, h4⟩
        show spec_l1Split_loop1 (bs l) (c.toNat : Int) (from' : Int) (i : Int) _ = _
        unfold spec_l1Split_loop1
        rw [cond_dt (by rw [bs_size]; omega), grd_pos (by rw [bs_size]; omega), bAt_bs, Int.toNat_natCast, getD_eq _ _ _ hil, cond_df (fun h => hc (UInt8.toNat_inj.1 (by omega))), w64_nat (by omega)]
  obtain ⟨f', o, h1, h2, h3, h4⟩ := key l.length 0 0 [] (by omega) (by omega) (by simp) ⟨[], rfl, by simp [preF_zero]⟩
  rw [show ((0 : Nat) : Int) = (0 : Int) from rfl] at h1
  rw [h1, Option.bind_some]
  simp only [bs_size, bsub_bs]
  rw [grd_pos (by omega), grd_pos (by simp; omega), h4, List.map_append, Int.toNat_natCast, Int.toNat_natCast, List.take_of_length_le (by simp)]
  rfl
theorem k1 : (ByteArray.mk #[100, 97, 121, 32]) = bs [100, 97, 121, 32] := rfl
theorem k2 : (ByteArray.mk #[58, 32]) = bs [58, 32] := rfl
theorem k3 : (ByteArray.mk #[99, 108, 111, 115, 101, 100]) = bs [99, 108, 111, 115, 101, 100] := rfl
theorem k4 : (ByteArray.mk #[32, 117, 112, 44, 32]) = bs [32, 117, 112, 44, 32] := rfl
theorem k5 : (ByteArray.mk #[32, 100, 111, 119, 110, 44, 32]) = bs [32, 100, 111, 119, 110, 44, 32] := rfl
theorem k6 : (ByteArray.mk #[32, 104]) = bs [32, 104] := rfl
theorem k7 : (ByteArray.mk #[44, 32, 49, 32, 115, 116, 111, 112, 32, 40]) = bs [44, 32, 49, 32, 115, 116, 111, 112, 32, 40] := rfl
theorem k8 : (ByteArray.mk #[41]) = bs [41] := rfl
theorem k9 : (ByteArray.mk #[44, 32]) = bs [44, 32] := rfl
theorem k10 : (ByteArray.mk #[32, 115, 116, 111, 112, 115, 32, 40]) = bs [32, 115, 116, 111, 112, 115, 32, 40] := rfl
theorem k11 : (ByteArray.mk #[10]) = bs [10] := rfl
theorem k12 : (ByteArray.mk #[97, 108, 108, 58, 32]) = bs [97, 108, 108, 58, 32] := rfl
theorem k13 : (ByteArray.mk #[32, 100, 111, 119, 110]) = bs [32, 100, 111, 119, 110] := rfl
theorem k14 : (ByteArray.mk #[]) = bs [] := rfl
/-- A row's line. -/
noncomputable def restI (d : Int) (t : ByteArray) : Option (Int × Int × Int × Int × Int × ByteArray) :=
  ((strings_Split t (ByteArray.mk #[44, 32])).bind fun y4 => (cond (decide ((3 : Int) ≤ (y4.length : Int))) (grd (0 ≤ (0 : Int) ∧ (0 : Int) < (y4.length : Int)) ((strings_TrimSuffix (y4.getD ((0 : Int).toNat) (ByteArray.mk #[])) (ByteArray.mk #[32, 117, 112])).bind fun y5 => ((impl_ParseInt y5).bind fun y6 => (grd (0 ≤ (1 : Int) ∧ (1 : Int) < (y4.length : Int)) ((strings_TrimSuffix (y4.getD ((1 : Int).toNat) (ByteArray.mk #[])) (ByteArray.mk #[32, 100, 111, 119, 110])).bind fun y7 => ((impl_ParseInt y7).bind fun y8 => (grd (0 ≤ (2 : Int) ∧ (2 : Int) < (y4.length : Int)) ((strings_TrimSuffix (y4.getD ((2 : Int).toNat) (ByteArray.mk #[])) (ByteArray.mk #[32, 104])).bind fun y9 => ((impl_ParseInt y9).bind fun y10 => (cond (decide ((3 : Int) < (y4.length : Int))) (grd (0 ≤ (3 : Int) ∧ (3 : Int) < (y4.length : Int)) ((strings_Cut (y4.getD ((3 : Int).toNat) (ByteArray.mk #[])) (ByteArray.mk #[32, 40])).bind fun y11 => ((strings_Cut y11.1 (ByteArray.mk #[32])).bind fun y12 => ((impl_ParseInt y12.1).bind fun y13 => ((strings_TrimSuffix y11.2.1 (ByteArray.mk #[41])).bind fun y14 => (some (d, y6.1, y8.1, y10.1, y13.1, y14))))))) ((some (d, y6.1, y8.1, y10.1, (0 : Int), (ByteArray.mk #[])))))))))))))) ((some (d, (0 : Int), (0 : Int), (0 : Int), (0 : Int), (ByteArray.mk #[]))))))
theorem cut_bs (l : List UInt8) (c : UInt8) (q : List UInt8) (h : l.length ≤ 2000000) : strings_Cut (bs l) (bs (c :: q)) = some (bs (Lib.cut l (c :: q)).1, bs (Lib.cut l (c :: q)).2.1, (Lib.cut l (c :: q)).2.2) := by
  unfold strings_Cut
  rw [grd_pos (by rw [bs_size]; omega)]
  unfold cutA cutB cutF
  rw [list_bs, list_bs]
theorem cut_len (l p : List UInt8) : (Lib.cut l p).1.length ≤ l.length ∧ (Lib.cut l p).2.1.length ≤ l.length := by
  unfold Lib.cut
  split
  · exact ⟨by simp; omega, by simp⟩
  · exact ⟨Nat.le_refl _, by simp⟩
theorem trimP_bs (l p : List UInt8) (_ : l.length ≤ 2000000) (hp : p.length ≤ 100) : strings_TrimPrefix (bs l) (bs p) = some (bs (if p.length ≤ l.length ∧ l.take p.length = p then l.drop p.length else l)) := by
  unfold strings_TrimPrefix internal_stringslite_TrimPrefix internal_stringslite_HasPrefix
  simp only [bs_size]
  by_cases h1 : p.length ≤ l.length
  · rw [cond_dt (by omega), grd_pos (by omega), bsub_bs, Option.bind_some]
    simp only [Int.toNat_zero, List.drop_zero, Int.toNat_natCast, Nat.sub_zero]
    by_cases h2 : l.take p.length = p
    · rw [h2, decide_eq_true rfl, cond_true, grd_pos (by omega), bsub_bs, if_pos ⟨h1, rfl⟩]
      simp only [Int.toNat_natCast, Option.bind_some]
      rw [List.take_of_length_le (by simp)]
    · rw [decide_eq_false (fun e => h2 (bs_inj.1 e)), cond_false, if_neg (fun e => h2 e.2)]
      rfl
  · rw [cond_df (by omega), Option.bind_some, cond_false, if_neg (fun e => h1 e.1)]
    rfl
def cutS (l q : List UInt8) : List UInt8 := if q.length ≤ l.length ∧ l.drop (l.length - q.length) = q then l.take (l.length - q.length) else l
theorem cutS_len (l q : List UInt8) : (cutS l q).length ≤ l.length := by
  unfold cutS
  split
  · simp
  · exact Nat.le_refl _
theorem cutS_app (a q : List UInt8) : cutS (a ++ q) q = a := by
  have e : (a ++ q).length - q.length = a.length := by simp
  unfold cutS
  rw [e, if_pos ⟨by simp, List.drop_left ..⟩, List.take_left ..]
theorem trimS_bs (l q : List UInt8) (h : l.length ≤ 2000000) (hq : q.length ≤ 100) : strings_TrimSuffix (bs l) (bs q) = some (bs (cutS l q)) := by
  unfold strings_TrimSuffix internal_stringslite_TrimSuffix internal_stringslite_HasSuffix cutS
  simp only [bs_size]
  by_cases h1 : q.length ≤ l.length
  · have hw : w64 ((l.length : Int) - (q.length : Int)) = ((l.length - q.length : Nat) : Int) := by rw [w64_id (by omega) (by omega)]; omega
    rw [cond_dt (by omega), hw, grd_pos (by omega), bsub_bs, Option.bind_some]
    simp only [Int.toNat_natCast, show (l.drop (l.length - q.length)).take (l.length - (l.length - q.length)) = l.drop (l.length - q.length) from List.take_of_length_le (by simp)]
    by_cases h2 : l.drop (l.length - q.length) = q
    · rw [h2, decide_eq_true rfl, cond_true, grd_pos (by omega), bsub_bs, if_pos ⟨h1, rfl⟩]
      simp only [Int.toNat_natCast, Int.toNat_zero, List.drop_zero, Nat.sub_zero, Option.bind_some]
    · rw [decide_eq_false (fun e => h2 (bs_inj.1 e)), cond_false, if_neg (fun e => h2 e.2)]
      rfl
  · rw [cond_df (by omega), Option.bind_some, cond_false, if_neg (fun e => h1 e.1)]
    rfl
theorem splitB_len (sep : ByteArray) : ∀ (k : Nat) (s x : ByteArray), x ∈ Lib.splitB sep 0 k s → x.size ≤ s.size
  | 0, s, x, h => by
    simp only [Lib.splitB, List.mem_singleton] at h
    rw [h]; exact Nat.le_refl _
  | k + 1, s, x, h => by
    unfold Lib.splitB at h
    split at h
    · rw [List.mem_singleton.1 h]; exact Nat.le_refl _
    · rcases List.mem_cons.1 h with h | h
      · rw [h, ByteArray.size_extract]; omega
      · have := splitB_len sep k _ x h
        rw [ByteArray.size_extract] at this
        omega
theorem cut_app2 (c e : UInt8) (hce : c ≠ e) (a r : List UInt8) (h : e ∉ a) : Lib.cut (a ++ c :: e :: r) [c, e] = (a, r, true) := by
  have key : ∀ a : List UInt8, e ∉ a → Lib.index (a ++ c :: e :: r) [c, e] = (a.length : Int) := by
    intro a
    induction a with
    | nil =>
      intro _
      have hp : [c, e].isPrefixOf (c :: e :: r) = true := by simp [List.isPrefixOf]
      rw [List.nil_append]
      unfold Lib.index
      rw [hp]; rfl
    | cons b a ih =>
      intro h
      simp only [List.mem_cons, not_or] at h
      have ih := ih h.2
      have hp : [c, e].isPrefixOf (b :: (a ++ c :: e :: r)) = false := by
        cases a with
        | nil =>
          have : (e == c) = false := by rw [beq_eq_false_iff_ne]; exact fun h => hce h.symm
          simp [List.isPrefixOf, this]
        | cons d a =>
          simp only [List.mem_cons, not_or] at h
          have : (e == d) = false := by rw [beq_eq_false_iff_ne]; exact h.2.1
          simp [List.isPrefixOf, this]
      have h2 : (((a.length : Nat) : Int) == -1) = false := by rw [beq_eq_false_iff_ne]; omega
      rw [List.cons_append]
      unfold Lib.index
      rw [hp, ih, h2]
      simp
  unfold Lib.cut
  rw [key a h, if_pos (by omega)]
  have e1 : a ++ c :: e :: r = a ++ ([c, e] ++ r) := rfl
  rw [Int.toNat_natCast, e1, List.take_left, ← List.drop_drop, List.drop_left, List.drop_left]
theorem dec_no (c : UInt8) (h : c.toNat < 48 ∨ 57 < c.toNat) (n : Nat) : c ∉ Lib.decDigits n := fun hm => by
  have := dec_mem n c hm
  omega
theorem parse_dec (n : Nat) (h : n ≤ 99999) : parseI (bs (Lib.decDigits n)) = ((n : Int), true) := by
  have e : Lib.itoa (n : Int) = Lib.decDigits n := by
    unfold Lib.itoa
    rw [if_neg (by omega)]; rfl
  rw [← e]
  exact parseI_itoa n (by omega)
theorem rest_any (d : Int) (t : List UInt8) (ht : t.length ≤ 2000000) : ∃ z, restI d (bs t) = some z ∧ z.2.2.2.2.2.size ≤ 1000000000 := by
  unfold restI strings_Split
  have h1 : (ByteArray.mk #[44, 32]).size = 2 := rfl
  rw [grd_pos (by rw [bs_size]; omega), Option.bind_some]
  have hlen : ∀ x ∈ splitB (bs t) (ByteArray.mk #[44, 32]), x.size ≤ 2000000 := fun x hx => by
    have := splitB_len _ _ _ x hx
    have h9 := bs_size t
    omega
  generalize splitB (bs t) (ByteArray.mk #[44, 32]) = ps at hlen
  by_cases h3 : (3 : Int) ≤ (ps.length : Int)
  · rw [cond_dt h3, grd_pos (by omega)]
    have part : ∀ k, k < ps.length → ∃ l, ps.getD k (ByteArray.mk #[]) = bs l ∧ l.length ≤ 2000000 := fun k hk => by
      obtain ⟨l, hl⟩ := bs_ex ps[k]
      have := hlen _ (List.getElem_mem hk)
      rw [hl, bs_size] at this
      exact ⟨l, by rw [getD_eq _ _ _ hk, hl], this⟩
    obtain ⟨p0, e0, l0⟩ := part 0 (by omega)
    obtain ⟨p1, e1, l1⟩ := part 1 (by omega)
    obtain ⟨p2, e2, l2⟩ := part 2 (by omega)
    have e0 : ps.getD (0 : Int).toNat (ByteArray.mk #[]) = bs p0 := e0
    have e1 : ps.getD (1 : Int).toNat (ByteArray.mk #[]) = bs p1 := e1
    have e2 : ps.getD (2 : Int).toNat (ByteArray.mk #[]) = bs p2 := e2
    have t0 : strings_TrimSuffix (bs p0) (ByteArray.mk #[32, 117, 112]) = _ := trimS_bs p0 [32, 117, 112] l0 (by decide)
    have t1 : strings_TrimSuffix (bs p1) (ByteArray.mk #[32, 100, 111, 119, 110]) = _ := trimS_bs p1 [32, 100, 111, 119, 110] l1 (by decide)
    have t2 : strings_TrimSuffix (bs p2) (ByteArray.mk #[32, 104]) = _ := trimS_bs p2 [32, 104] l2 (by decide)
    unfold impl_ParseInt
    rw [e0, t0, Option.bind_some, Option.bind_some, grd_pos (by omega), e1, t1, Option.bind_some, Option.bind_some, grd_pos (by omega), e2, t2, Option.bind_some, Option.bind_some]
    by_cases h4 : (3 : Int) < (ps.length : Int)
    · obtain ⟨p3, e3, l3⟩ := part 3 (by omega)
      have e3 : ps.getD (3 : Int).toNat (ByteArray.mk #[]) = bs p3 := e3
      have c1 : strings_Cut (bs p3) (ByteArray.mk #[32, 40]) = _ := cut_bs p3 32 [40] l3
      have c2 := cut_len p3 [32, 40]
      have c3 : strings_Cut (bs (Lib.cut p3 [32, 40]).1) (ByteArray.mk #[32]) = _ := cut_bs (Lib.cut p3 [32, 40]).1 32 [] (by omega)
      have t3 : strings_TrimSuffix (bs (Lib.cut p3 [32, 40]).2.1) (ByteArray.mk #[41]) = _ := trimS_bs (Lib.cut p3 [32, 40]).2.1 [41] (by omega) (by decide)
      have c4 := cutS_len (Lib.cut p3 [32, 40]).2.1 [41]
      rw [cond_dt h4, grd_pos (by omega), e3, c1, Option.bind_some]
      dsimp only
      rw [c3, Option.bind_some, Option.bind_some, t3, Option.bind_some]
      exact ⟨_, rfl, by rw [bs_size]; omega⟩
    · rw [cond_df h4]
      exact ⟨_, rfl, by show (ByteArray.mk #[]).size ≤ 1000000000; decide⟩
  · rw [cond_df h3]
    exact ⟨_, rfl, by show (ByteArray.mk #[]).size ≤ 1000000000; decide⟩
theorem get_bs (ws : List (List UInt8)) (k : Nat) : (ws.map bs).getD k (ByteArray.mk #[]) = bs (ws.getD k []) := by
  rw [List.getD_eq_getElem?_getD, List.getD_eq_getElem?_getD, List.getElem?_map]
  cases ws[k]? <;> rfl
/-- The row that the words of a line tell. -/
theorem spl_part (c : UInt8) : ∀ (l z : List UInt8), z ∈ spl c l → z.length ≤ l.length := by
  intro l
  induction l with
  | nil => intro z hz; simp [spl] at hz; simp [hz]
  | cons b l ih =>
    intro z hz
    unfold spl at hz
    split at hz
    · rcases List.mem_cons.1 hz with hz | hz
      · simp [hz]
      · have := ih z hz; simp; omega
    · cases hq : spl c l with
      | nil => rw [hq] at hz; simp at hz; simp [hz]
      | cons q qs =>
        rw [hq] at hz
        rcases List.mem_cons.1 hz with hz | hz
        · have := ih q (by rw [hq]; simp)
          rw [hz]; simp; omega
        · have := ih z (by rw [hq]; simp [hz])
          simp; omega
theorem getD_part (s : List UInt8) (k : Nat) : ((spl 32 s).getD k []).length ≤ s.length := by
  by_cases hk : k < (spl 32 s).length
  · rw [getD_eq _ _ _ hk]
    exact spl_part 32 s _ (List.getElem_mem hk)
  · rw [List.getD_eq_getElem?_getD, List.getElem?_eq_none (by omega)]; simp
theorem dec_pos (n : Nat) : 1 ≤ (Lib.decDigits n).length := by
  obtain ⟨b, r, e, _⟩ := dec_cons n
  rw [e]; simp
end Go.Proofs.YtaajchikfgbecaaGreatDoor
