/-
  What is drawn for the log's laws.
-/
import Derived.Test.YtppiaacfnoifkaaDoorU6
import Derived.Laws.Bits64
namespace Go.Proofs.YtppiaacfnoifkaaDoor
open Go.RowKit

theorem ba_app_size (a b : ByteArray) : (a ++ b).size = a.size + b.size := by
  obtain ⟨x, rfl⟩ := bs_ex a
  obtain ⟨y, rfl⟩ := bs_ex b
  rw [bs_app, bs_size, bs_size, bs_size, List.length_append]

/-- The place of the reader stays small; what it reads are bytes. -/
def CG (c : l1Cur) (n : Int) : Prop := (∀ x ∈ c.1, 0 ≤ x ∧ x ≤ 255) ∧ c.1.length ≤ 1048576 ∧ 0 ≤ c.2.1 ∧ c.2.1 ≤ n
theorem CG.up {c : l1Cur} {n m : Int} (h : CG c n) (hm : n ≤ m) : CG c m := ⟨h.1, h.2.1, h.2.2.1, by have := h.2.2.2; omega⟩
def Gives {α : Type} (x : Option (α × l1Cur)) (n : Int) (Q : α → Prop) : Prop := ∃ a c, x = some (a, c) ∧ CG c n ∧ Q a
theorem Gives.ret {α : Type} {a : α} {c : l1Cur} {n : Int} {Q : α → Prop} (h : CG c n) (hq : Q a) : Gives (some (a, c)) n Q := ⟨a, c, rfl, h, hq⟩
theorem Gives.mono {α : Type} {x : Option (α × l1Cur)} {n m : Int} {P Q : α → Prop} (h : Gives x n P) (hm : n ≤ m) (hq : ∀ a, P a → Q a) : Gives x m Q := by
  obtain ⟨a, c, e, h1, h2⟩ := h
  exact ⟨a, c, e, h1.up hm, hq a h2⟩
theorem gives_bind {α β : Type} {x : Option (α × l1Cur)} {f : α × l1Cur → Option (β × l1Cur)} {n m : Int} {P : α → Prop} {Q : β → Prop} (h : Gives x n P)
    (hf : ∀ a code at' seed, P a → CG (code, at', seed, ()) n → Gives (f (a, (code, at', seed, ()))) m Q) : Gives (x.bind f) m Q := by
  obtain ⟨a, ⟨code, at', seed, u⟩, e, h1, h2⟩ := h
  rw [e]
  exact hf a code at' seed h2 h1
theorem gives_cond {α : Type} {b : Bool} {x y : Option (α × l1Cur)} {n : Int} {Q : α → Prop} (h1 : b = true → Gives x n Q) (h2 : b = false → Gives y n Q) : Gives (cond b x y) n Q := by
  cases b
  · exact h2 rfl
  · exact h1 rfl
theorem gives_grd {α : Type} {p : Prop} [Decidable p] {x : Option (α × l1Cur)} {n : Int} {Q : α → Prop} (hp : p) (h : Gives x n Q) : Gives (grd p x) n Q := by
  rw [grd_pos hp]; exact h

theorem and255 (x : Int) : 0 ≤ w64 (wu64 ((BitVec.ofInt (IntKind.u64).bits x &&& BitVec.ofInt (IntKind.u64).bits (255 : Int)).toNat)) ∧ w64 (wu64 ((BitVec.ofInt (IntKind.u64).bits x &&& BitVec.ofInt (IntKind.u64).bits (255 : Int)).toNat)) ≤ 255 := by
  have h : (BitVec.ofInt (IntKind.u64).bits x &&& BitVec.ofInt (IntKind.u64).bits (255 : Int)).toNat ≤ 255 := by
    rw [BitVec.toNat_and]
    exact Nat.le_trans Nat.and_le_right (by decide)
  have e : wu64 ((BitVec.ofInt (IntKind.u64).bits x &&& BitVec.ofInt (IntKind.u64).bits (255 : Int)).toNat : Int) = ((BitVec.ofInt (IntKind.u64).bits x &&& BitVec.ofInt (IntKind.u64).bits (255 : Int)).toNat : Int) := by
    show IntKind.u64.wrap _ = _
    rw [IntKind.wrap_u64]; omega
  rw [e, w64_id (by omega) (by omega)]
  omega
theorem next_ok (c : l1Cur) (n : Int) (h : CG c n) (hn : n ≤ 1000000000000) : Gives (spec_l1Cur_next c) (n + 1) (fun v => 0 ≤ v ∧ v ≤ 255) := by
  obtain ⟨code, at', seed, u⟩ := c
  obtain ⟨hb, hl, h0, h1⟩ := h
  have h0 : 0 ≤ at' := h0
  have h1 : at' ≤ n := h1
  have hw : w64 (at' + 1) = at' + 1 := w64_id (by omega) (by omega)
  have key : ∃ b : Int, (cond (decide (at' < (code.length : Int))) (grd (0 ≤ at' ∧ at' < (code.length : Int)) ((some (w64 (code.getD at'.toNat 0))))) ((some (0 : Int)))) = some b ∧ 0 ≤ b ∧ b ≤ 255 := by
    by_cases hlt : at' < (code.length : Int)
    · rw [cond_dt hlt, grd_pos ⟨h0, hlt⟩]
      have hi : at'.toNat < code.length := by omega
      have hm : code.getD at'.toNat 0 ∈ code := by rw [getD_eq _ _ _ hi]; exact List.getElem_mem hi
      have := hb _ hm
      exact ⟨_, rfl, by rw [w64_id (by omega) (by omega)]; exact this⟩
    · rw [cond_df hlt]; exact ⟨0, rfl, by omega, by omega⟩
  obtain ⟨b, e, b0, b1⟩ := key
  unfold spec_l1Cur_next
  simp only [e, Option.bind_some]
  refine gives_cond (fun _ => ?_) (fun _ => ?_)
  · exact Gives.ret ⟨hb, hl, by show 0 ≤ w64 (at' + 1); omega, by show w64 (at' + 1) ≤ n + 1; omega⟩ ⟨b0, b1⟩
  · refine gives_grd (by omega) ?_
    exact Gives.ret ⟨hb, hl, by show 0 ≤ w64 (at' + 1); omega, by show w64 (at' + 1) ≤ n + 1; omega⟩ (and255 _)
theorem pick_ok (c : l1Cur) (n k : Int) (h : CG c n) (hn : n ≤ 100000000000) : Gives (spec_l1Cur_pick c k) (n + 2) (fun v => 0 ≤ v ∧ (v = 0 ∨ v < k)) := by
  obtain ⟨code, at', seed, u⟩ := c
  unfold spec_l1Cur_pick
  by_cases hk : k ≤ 1
  · rw [cond_dt hk]
    exact Gives.ret (h.up (by omega)) ⟨by omega, .inl rfl⟩
  rw [cond_df hk]
  refine gives_bind (next_ok _ n h (by omega)) fun a code1 at1 seed1 ha hc => ?_
  dsimp only
  by_cases h2 : 200 < k
  · rw [cond_dt h2]
    refine gives_bind (next_ok _ (n + 1) hc (by omega)) fun b code2 at2 seed2 hb hc => ?_
    dsimp only
    refine gives_grd (by omega) (Gives.ret (hc.up (by omega)) ?_)
    rw [w64_id (x := a * 256) (by omega) (by omega), w64_id (by omega) (by omega)]
    exact ⟨Int.tmod_nonneg _ (by omega), .inr (Int.tmod_lt_of_pos _ (by omega))⟩
  · rw [cond_df h2]
    refine gives_grd (by omega) (Gives.ret (hc.up (by omega)) ?_)
    exact ⟨Int.tmod_nonneg _ (by omega), .inr (Int.tmod_lt_of_pos _ (by omega))⟩
theorem one_ok (c : l1Cur) (n k : Int) (h : CG c n) (hn : n ≤ 100000000000) : Gives (spec_l1Cur_one c k) (n + 2) (fun _ => True) := by
  obtain ⟨code, at', seed, u⟩ := c
  unfold spec_l1Cur_one
  refine gives_bind (pick_ok _ n _ h hn) fun a code1 at1 seed1 ha hc => ?_
  dsimp only
  exact Gives.ret hc trivial
theorem of_ok (c : l1Cur) (n : Int) (l : List ByteArray) (m : Nat) (hl : l ≠ []) (hm : ∀ x ∈ l, x.size ≤ m) (h : CG c n) (hn : n ≤ 100000000000) : Gives (spec_l1Cur_of c l) (n + 2) (fun v => v.size ≤ m) := by
  obtain ⟨code, at', seed, u⟩ := c
  unfold spec_l1Cur_of
  refine gives_bind (pick_ok _ n _ h hn) fun a code1 at1 seed1 ha hc => ?_
  dsimp only
  have hpos : 0 < l.length := List.length_pos_iff.2 hl
  have hlt : a < (l.length : Int) := by omega
  refine gives_grd ⟨ha.1, hlt⟩ (Gives.ret hc ?_)
  have hi : a.toNat < l.length := by omega
  show (l.getD a.toNat (ByteArray.mk #[])).size ≤ m
  rw [getD_eq _ _ _ hi]; exact hm _ (List.getElem_mem hi)
theorem logRecord_ok (c : l1Cur) (n : Int) (h : CG c n) (hn : n ≤ 10000000000) : Gives (spec_l1Cur_logRecord c) (n + 8) (fun e => e.1.size ≤ 20 ∧ e.2.1.size ≤ 20) := by
  obtain ⟨code, at', seed, u⟩ := c
  unfold spec_l1Cur_logRecord
  refine gives_bind (of_ok _ n _ 20 (by simp) (by intro x hx; simp only [List.mem_cons, List.not_mem_nil, or_false] at hx; rcases hx with rfl | rfl | rfl | rfl | rfl <;> decide) h (by omega)) fun a code1 at1 seed1 ha hc => ?_
  dsimp only
  refine gives_bind (of_ok _ (n + 2) _ 20 (by simp) (by intro x hx; simp only [List.mem_cons, List.not_mem_nil, or_false] at hx; rcases hx with rfl | rfl | rfl | rfl | rfl <;> decide) hc (by omega)) fun b code2 at2 seed2 hb hc => ?_
  dsimp only
  refine gives_bind (pick_ok _ (n + 2 + 2) _ hc (by omega)) fun p code3 at3 seed3 hp hc => ?_
  dsimp only
  refine gives_cond (fun _ => ?_) (fun _ => gives_cond (fun _ => ?_) (fun _ => ?_))
  · refine gives_grd (by omega) ?_
    refine gives_bind (of_ok _ (n + 2 + 2 + 2) _ 20 (by simp) (by intro x hx; simp only [List.mem_cons, List.not_mem_nil, or_false] at hx; rcases hx with rfl | rfl | rfl | rfl | rfl <;> decide) hc (by omega)) fun q code4 at4 seed4 hq hc => ?_
    exact Gives.ret (hc.up (by omega)) ⟨hq, hb⟩
  · refine gives_bind (of_ok _ (n + 2 + 2 + 2) _ 20 (by simp) (by intro x hx; simp only [List.mem_cons, List.not_mem_nil, or_false] at hx; rcases hx with rfl | rfl | rfl <;> decide) hc (by omega)) fun q code4 at4 seed4 hq hc => ?_
    exact Gives.ret (hc.up (by omega)) ⟨ha, hq⟩
  · exact Gives.ret (hc.up (by omega)) ⟨ha, hb⟩
theorem app_step (d p : ByteArray) (m : Int) (e : LogRecord) (B : Nat) (h : d.size + p.size ≤ B) (hB : B ≤ 1000000) (he : e.1.size ≤ 20 ∧ e.2.1.size ≤ 20) : ∃ d' p' m' k, spec_AppendRecord (d, p, m, ()) (e.1, e.2.1, ()) = some ((d', p', m', ()), k) ∧ d'.size + p'.size ≤ B + 60 := by
  obtain ⟨c, r, u⟩ := e
  obtain ⟨D, rfl⟩ := bs_ex d
  obtain ⟨P, rfl⟩ := bs_ex p
  obtain ⟨c, rfl⟩ := bs_ex c
  obtain ⟨r, rfl⟩ := bs_ex r
  simp only [bs_size] at h he
  obtain ⟨P', m', k, e1, hl⟩ := append_spec D P c r m (by omega) (by omega) (by omega) (by omega)
  exact ⟨_, _, _, _, e1, by simp only [bs_size]; omega⟩
theorem sync_step (d p : ByteArray) (m : Int) (B : Nat) (h : d.size + p.size ≤ B) (hB : B ≤ 1000000) : ∃ d' p' m' k, spec_SyncLog (d, p, m, ()) = some ((d', p', m', ()), k) ∧ d'.size + p'.size ≤ B := by
  obtain ⟨D, rfl⟩ := bs_ex d
  obtain ⟨P, rfl⟩ := bs_ex p
  simp only [bs_size] at h
  have e1 := sync_spec D P m (by omega) (by omega)
  rw [e1]
  split
  · exact ⟨_, _, _, _, rfl, by simp only [bs_size, List.length_append, List.length_nil]; omega⟩
  · exact ⟨_, _, _, _, rfl, by simp [bs_size]⟩
theorem log_loop : ∀ (v : Nat) (code : List Int) (at' seed : Int) (d p : ByteArray) (m n : Int) (B : Nat), v ≤ 10 → CG (code, at', seed, ()) n → n + 10 * v ≤ 1000000000 → d.size + p.size ≤ B → B + 60 * v ≤ 900000 →
    ∃ code' at2 seed' d' p' m', iter (fun s => spec_l1Cur_log_loop1 s.1 s.2.1 s.2.2.1 s.2.2.2.1 s.2.2.2.2.1 s.2.2.2.2.2.1 s.2.2.2.2.2.2) ((v : Int), code, at', seed, d, p, m) = some (code', at2, seed', d', p', m') ∧ CG (code', at2, seed', ()) (n + 10 * v) ∧ d'.size + p'.size ≤ B + 60 * v
  | 0, code, at', seed, d, p, m, n, B, _, hc, _, hs, _ => by
    refine ⟨code, at', seed, d, p, m, iter_out ?_, hc.up (by omega), by omega⟩
    show spec_l1Cur_log_loop1 ((0 : Nat) : Int) code at' seed d p m = _
    unfold spec_l1Cur_log_loop1
    rw [cond_df (by omega)]
  | v + 1, code, at', seed, d, p, m, n, B, hv, hc, hn, hs, hB => by
    obtain ⟨e, ⟨code1, at1, seed1, u1⟩, e1, hc1, he⟩ := logRecord_ok _ n hc (by omega)
    obtain ⟨d1, p1, m1, k1, e2, hs1⟩ := app_step d p m e B hs (by omega) he
    obtain ⟨b, ⟨code2, at2, seed2, u2⟩, e3, hc2, _⟩ := one_ok _ (n + 8) 4 hc1 (by omega)
    have hw : w64 (((v + 1 : Nat) : Int) - 1) = (v : Int) := by rw [w64_id (by omega) (by omega)]; omega
    have hc2 : CG (code2, at2, seed2, ()) (n + 10) := hc2.up (by omega)
    have step : ∃ d2 p2 m2, spec_l1Cur_log_loop1 ((v + 1 : Nat) : Int) code at' seed d p m = some (.go ((v : Int), code2, at2, seed2, d2, p2, m2)) ∧ d2.size + p2.size ≤ B + 60 := by
      unfold spec_l1Cur_log_loop1
      rw [cond_dt (by omega), hw]
      simp only [e1, e2, e3, Option.bind_some]
      cases b
      · exact ⟨_, _, _, rfl, hs1⟩
      · obtain ⟨d2, p2, m2, k2, e4, hs2⟩ := sync_step d1 p1 m1 (B + 60) hs1 (by omega)
        simp only [e4, Option.bind_some, cond_true]
        exact ⟨_, _, _, rfl, hs2⟩
    obtain ⟨d2, p2, m2, e4, hs2⟩ := step
    obtain ⟨code3, at3, seed3, d3, p3, m3, e5, hc3, hs3⟩ := log_loop v code2 at2 seed2 d2 p2 m2 (n + 10) (B + 60) (by omega) hc2 (by omega) hs2 (by omega)
    exact ⟨code3, at3, seed3, d3, p3, m3, (iter_go e4).trans e5, hc3.up (by omega), by omega⟩
theorem log_ok (c : l1Cur) (n : Int) (h : CG c n) (hn : n ≤ 100000000) : Gives (spec_l1Cur_log c) (n + 100) (fun l => l.1.size + l.2.1.size ≤ 1000) := by
  obtain ⟨code, at', seed, u⟩ := c
  unfold spec_l1Cur_log
  refine gives_bind (pick_ok _ n _ h (by omega)) fun a code1 at1 seed1 ha hc => ?_
  dsimp only
  obtain ⟨v, rfl⟩ : ∃ v : Nat, a = (v : Int) := ⟨a.toNat, by omega⟩
  obtain ⟨code3, at3, seed3, d3, p3, m3, e5, hc3, hs3⟩ := log_loop v code1 at1 seed1 (ByteArray.mk #[]) (ByteArray.mk #[]) 0 (n + 2) 0 (by omega) hc (by omega) (by decide) (by omega)
  rw [e5]
  exact Gives.ret (hc3.up (by omega)) (by show d3.size + p3.size ≤ 1000; omega)
theorem spoilt_ok (c : l1Cur) (n : Int) (A Q : List UInt8) (hA : A.length ≤ 100000) (hQ : Q.length = 5) (h : CG c n) (hn : n ≤ 100000000) : Gives (spec_l1Cur_spoilt c (bs A) (bs Q)) (n + 10) (fun s => s.size ≤ A.length + 5) := by
  obtain ⟨code, at', seed, u⟩ := c
  unfold spec_l1Cur_spoilt
  simp only [bs_size, bsub_bs, bs_app]
  refine gives_cond (fun _ => ?_) (fun h0 => ?_)
  · refine gives_grd (by omega) (Gives.ret (h.up (by omega)) ?_)
    show (bs _).size ≤ _
    rw [bs_size]; simp; omega
  · have hne : A ≠ [] := fun e => by subst e; exact absurd h0 (by decide)
    have hpos : 0 < A.length := List.length_pos_iff.2 hne
    refine gives_bind (pick_ok _ n _ h (by omega)) fun i code1 at1 seed1 hi hc => ?_
    dsimp only
    refine gives_bind (pick_ok _ (n + 2) _ hc (by omega)) fun j code2 at2 seed2 hj hc => ?_
    dsimp only
    have hi1 : i < (A.length : Int) := by omega
    have hj1 : j < (Q.length : Int) := by omega
    have hw : w64 (i + 1) = i + 1 := w64_id (by omega) (by omega)
    refine gives_grd (by omega) (gives_grd (by simp only [List.length_take, List.length_drop]; omega) ?_)
    refine gives_bind (pick_ok _ (n + 2 + 2) _ hc (by omega)) fun q code3 at3 seed3 hq hc => ?_
    dsimp only
    rw [hw]
    refine gives_cond (fun _ => ?_) (fun _ => gives_cond (fun _ => ?_) (fun _ => ?_))
    · refine gives_grd (by omega) (gives_grd (by simp only [List.length_take, List.length_drop]; omega) (gives_grd (by omega) (gives_grd (by simp only [List.length_append, List.length_take, List.length_drop]; omega) (Gives.ret (hc.up (by omega)) ?_))))
      rw [bs_size]; simp only [List.length_append, List.length_take, List.length_drop]; omega
    · refine gives_grd (by omega) (gives_grd (by simp only [List.length_take, List.length_drop]; omega) (gives_grd (by omega) (gives_grd (by simp only [List.length_append, List.length_take, List.length_drop]; omega) (Gives.ret (hc.up (by omega)) ?_))))
      rw [bs_size]; simp only [List.length_append, List.length_take, List.length_drop]; omega
    · refine gives_grd (by omega) (gives_grd (by omega) (gives_grd (by simp only [List.length_take, List.length_drop]; omega) (Gives.ret (hc.up (by omega)) ?_)))
      rw [bs_size]; simp only [List.length_append, List.length_take, List.length_drop]; omega
theorem anyLog_ok (c : l1Cur) (n : Int) (h : CG c n) (hn : n ≤ 10000000) : Gives (spec_l1Cur_anyLog c) (n + 200) (fun l => l.1.size ≤ 3000 ∧ l.2.1.size ≤ 3000) := by
  obtain ⟨code, at', seed, u⟩ := c
  unfold spec_l1Cur_anyLog
  refine gives_bind (log_ok _ n h (by omega)) fun l code1 at1 seed1 hl hc => ?_
  obtain ⟨d, p, m, u2⟩ := l
  have hl : d.size + p.size ≤ 1000 := hl
  dsimp only
  refine gives_bind (pick_ok _ (n + 100) _ hc (by omega)) fun q code2 at2 seed2 hq hc => ?_
  dsimp only
  refine gives_cond (fun _ => ?_) (fun _ => gives_cond (fun _ => ?_) (fun _ => gives_cond (fun _ => ?_) (fun _ => ?_)))
  · exact Gives.ret (hc.up (by omega)) ⟨by show d.size ≤ 3000; omega, by show p.size ≤ 3000; omega⟩
  · obtain ⟨P, rfl⟩ := bs_ex p
    have hP := bs_size P
    refine gives_bind (spoilt_ok _ (n + 100 + 2) P [35, 64, 10, 48, 49] (by omega) rfl hc (by omega)) fun s code3 at3 seed3 hs hc => ?_
    exact Gives.ret (hc.up (by omega)) ⟨by show d.size ≤ 3000; omega, by show s.size ≤ 3000; omega⟩
  · refine gives_grd (by omega) (Gives.ret (hc.up (by omega)) ⟨?_, by show p.size ≤ 3000; omega⟩)
    show (d ++ p).size ≤ 3000
    rw [ba_app_size]; omega
  · exact Gives.ret (hc.up (by omega)) ⟨by show d.size ≤ 3000; omega, by show p.size ≤ 3000; omega⟩
theorem start_ok {code : List Int} (hb : ∀ x ∈ code, 0 ≤ x ∧ x ≤ 255) (hl : code.length ≤ 1048576) : CG (code, 0, 0, ()) 0 := ⟨hb, hl, by show (0 : Int) ≤ 0; omega, by show (0 : Int) ≤ 0; omega⟩
end Go.Proofs.YtppiaacfnoifkaaDoor
