/-
  Plain laws, carried over from texts of other seats.
-/
import Derived.Test.YtpmmaohaahbphaaDoorC867
import Derived.Test.YtpmmaohaahbphaaDoorO1
import Derived.Test.YtpmmaohaahbphaaDoorL2
namespace Go.Proofs.YtpmmaohaahbphaaDoor
open Go.RowKit

theorem l1In_eq (a lo hi : Int) : spec_l1In a lo hi = some (decide (lo ≤ a ∧ a ≤ hi)) := by
  unfold spec_l1In
  by_cases h : lo ≤ a
  · rw [cond_dt h]; simp [h]
  · rw [cond_df h]; simp [h]
theorem within_eq (a lo hi : Int) : impl_within a lo hi = some (decide (lo ≤ a ∧ a ≤ hi)) := by
  unfold impl_within
  by_cases h : lo ≤ a
  · rw [cond_dt h]; simp [h]
  · rw [cond_df h]; simp [h]

theorem digs_get (d : Nat) (h : d < 10) : bsub (ByteArray.mk #[48, 49, 50, 51, 52, 53, 54, 55, 56, 57]) (d : Int) (w64 ((d : Int) + 1)) = bs [UInt8.ofNat (48 + d)] := by
  have : w64 ((d : Int) + 1) = ((d + 1 : Nat) : Int) := w64_nat (by omega)
  rw [this, show (ByteArray.mk #[48, 49, 50, 51, 52, 53, 54, 55, 56, 57]) = bs [48, 49, 50, 51, 52, 53, 54, 55, 56, 57] from rfl, bsub_bs]
  have hd : d = 0 ∨ d = 1 ∨ d = 2 ∨ d = 3 ∨ d = 4 ∨ d = 5 ∨ d = 6 ∨ d = 7 ∨ d = 8 ∨ d = 9 := by omega
  rcases hd with rfl | rfl | rfl | rfl | rfl | rfl | rfl | rfl | rfl | rfl <;> rfl
theorem l1Num_f_eq : ∀ (k n : Nat), n < 10 ^ k → n < 1000000000000000000 → spec_l1Num_f (k + 1) (n : Int) = some (bs (Lib.decDigits n))
  | 0, n, h, _ => by
    obtain rfl : n = 0 := by simpa using h
    rw [spec_l1Num_f_succ, cond_df (by omega), cond_dt (by omega), grd_pos ⟨by omega, by decide, by decide⟩]
    have := digs_get 0 (by omega)
    rw [show ((0 : Nat) : Int) = (0 : Int) from rfl] at this ⊢
    rw [this]
    unfold Lib.decDigits
    rw [dif_pos (by omega)]
  | k + 1, n, h, h18 => by
    rw [spec_l1Num_f_succ, cond_df (by omega)]
    by_cases h10 : n < 10
    · have e : w64 ((n : Int) + 1) = ((n + 1 : Nat) : Int) := w64_nat (by omega)
      have hs : (ByteArray.mk #[48, 49, 50, 51, 52, 53, 54, 55, 56, 57]).size = 10 := rfl
      rw [cond_dt (by omega), grd_pos ⟨by omega, by rw [e]; omega, by rw [e, hs]; omega⟩, digs_get n h10]
      unfold Lib.decDigits
      rw [dif_pos h10]
    · have hq : n / 10 < 10 ^ k := by
        rw [Nat.div_lt_iff_lt_mul (by omega)]
        rw [Nat.pow_succ] at h; exact h
      have ih := l1Num_f_eq k (n / 10) hq (by omega)
      have e1 : w64 (Int.tdiv (n : Int) 10) = ((n / 10 : Nat) : Int) := by
        rw [show Int.tdiv (n : Int) 10 = ((n / 10 : Nat) : Int) from by rw [show (10 : Int) = ((10 : Nat) : Int) from rfl, ← Int.ofNat_tdiv]]
        rw [w64_id (by omega) (by omega)]
      have e2 : Int.tmod (n : Int) 10 = ((n % 10 : Nat) : Int) := by rw [show (10 : Int) = ((10 : Nat) : Int) from rfl, ← Int.ofNat_tmod]
      have hlen : (Lib.decDigits (n / 10)).length ≤ 19 := dec_length 18 (n / 10) (by omega)
      have hs : (ByteArray.mk #[48, 49, 50, 51, 52, 53, 54, 55, 56, 57]).size = 10 := rfl
      have e3 : w64 (((n % 10 : Nat) : Int) + 1) = ((n % 10 + 1 : Nat) : Int) := w64_nat (by omega)
      rw [cond_df (by omega), grd_pos (by omega), e1, ih, Option.bind_some]
      simp only [e2]
      have hm : n % 10 < 10 := Nat.mod_lt _ (by omega)
      rw [grd_pos (by omega), grd_pos (by omega), grd_pos ⟨by omega, by rw [e3]; omega, by rw [e3, hs]; omega⟩, digs_get (n % 10) hm, grd_pos (by rw [bs_size, bs_size]; simp; omega), bs_app]
      conv => rhs; unfold Lib.decDigits
      rw [dif_neg h10]
theorem l1Num_eq (n : Nat) (h : n < 1000000000000000000) : spec_l1Num (n : Int) = some (bs (Lib.decDigits n)) := by
  unfold spec_l1Num
  have := l1Num_f_eq 63 n (Nat.lt_of_lt_of_le h (by decide)) h
  exact this
theorem itoa_eq (n : Nat) (h : n < 1000000000000000000) : strconv_Itoa (n : Int) = some (bs (Lib.decDigits n)) := by
  unfold strconv_Itoa
  rw [grd_pos (by omega)]
  have : itoaB (n : Int) = bs (Lib.decDigits n) := by
    unfold itoaB Lib.itoa
    rw [if_neg (by omega), Int.toNat_natCast]
  rw [this]

def letB (b : UInt8) : Bool := decide (97 ≤ b.toNat ∧ b.toNat ≤ 122)
def wordB (s : ByteArray) : Bool := s.data.toList.all letB && decide ((1 : Int) ≤ (s.size : Int) ∧ (s.size : Int) ≤ 10)
theorem bAt_get (s : ByteArray) (k : Nat) : bAt s (k : Int) = ((s.data.toList.getD k 0).toNat : Int) := by unfold bAt; rw [Int.toNat_natCast]
theorem size_list (s : ByteArray) : s.data.toList.length = s.size := Array.length_toList
theorem isWord_eq (s : ByteArray) (h : s.size ≤ 1000000000) : impl_isWord s = some (wordB s) := by
  have hl := size_list s
  unfold impl_isWord
  have H : iter (fun q => impl_isWord_loop1 s q) (0 : Int) = some (if s.data.toList.all letB then (Sum.inr () : Unit ⊕ Unit) else Sum.inl ()) :=
    iter_all s.data.toList letB 0 (fun k => (k : Int)) (fun k hk => by
      show impl_isWord_loop1 s (k : Int) = _
      unfold impl_isWord_loop1
      rw [cond_dt (by omega), grd_pos (by omega), bAt_get, w64_nat (by omega)]
      generalize s.data.toList.getD k 0 = x
      by_cases h1 : (x.toNat : Int) < 97
      · rw [cond_dt h1, show letB x = false from decide_eq_false (by omega)]; rfl
      · rw [cond_df h1, grd_pos (by omega)]
        by_cases h2 : (122 : Int) < (x.toNat : Int)
        · rw [cond_dt h2, show letB x = false from decide_eq_false (by omega)]; rfl
        · rw [cond_df h2, show letB x = true from decide_eq_true (by omega)]; rfl) (by
      show impl_isWord_loop1 s (s.data.toList.length : Int) = _
      unfold impl_isWord_loop1
      rw [cond_df (by omega)]) rfl
  rw [H, Option.bind_some]
  unfold wordB
  cases s.data.toList.all letB with
  | false => rfl
  | true =>
    rw [if_pos rfl, Sum.elim_inr]
    by_cases h1 : (1 : Int) ≤ (s.size : Int)
    · rw [cond_dt h1]; simp [h1]
    · rw [cond_df h1]; simp [h1]
theorem l2Word_eq (s : ByteArray) (h : s.size ≤ 1000000000) : spec_l2Word s = some (wordB s) := by
  have hl := size_list s
  unfold spec_l2Word
  have H : iter (fun q => spec_l2Word_loop1 s q) (0 : Int) = some (if s.data.toList.all letB then (Sum.inr () : Unit ⊕ Unit) else Sum.inl ()) :=
    iter_all s.data.toList letB 0 (fun k => (k : Int)) (fun k hk => by
      show spec_l2Word_loop1 s (k : Int) = _
      unfold spec_l2Word_loop1
      rw [cond_dt (by omega), grd_pos (by omega), bAt_get, w64_nat (by omega)]
      generalize s.data.toList.getD k 0 = x
      by_cases h1 : (x.toNat : Int) < 97
      · rw [cond_dt h1, show letB x = false from decide_eq_false (by omega)]; rfl
      · rw [cond_df h1, grd_pos (by omega)]
        by_cases h2 : (122 : Int) < (x.toNat : Int)
        · rw [cond_dt h2, show letB x = false from decide_eq_false (by omega)]; rfl
        · rw [cond_df h2, show letB x = true from decide_eq_true (by omega)]; rfl) (by
      show spec_l2Word_loop1 s (s.data.toList.length : Int) = _
      unfold spec_l2Word_loop1
      rw [cond_df (by omega)]) rfl
  rw [H, Option.bind_some]
  unfold wordB
  cases s.data.toList.all letB with
  | false => rfl
  | true =>
    rw [if_pos rfl, Sum.elim_inr, l1In_eq]; rfl
/-- The place of the reader stays small; what it reads are bytes. -/
def CG (c : l1Cur) (n : Int) : Prop := (∀ x ∈ c.1, 0 ≤ x ∧ x ≤ 255) ∧ c.1.length ≤ 1048576 ∧ 0 ≤ c.2.1 ∧ c.2.1 ≤ n
theorem CG.up {c : l1Cur} {n m : Int} (h : CG c n) (hm : n ≤ m) : CG c m := ⟨h.1, h.2.1, h.2.2.1, by have := h.2.2.2; omega⟩
def Gives {α : Type} (x : Option (α × l1Cur)) (n : Int) (Q : α → Prop) : Prop := ∃ a c, x = some (a, c) ∧ CG c n ∧ Q a
theorem Gives.ret {α : Type} {a : α} {c : l1Cur} {n : Int} {Q : α → Prop} (h : CG c n) (hq : Q a) : Gives (some (a, c)) n Q := ⟨a, c, rfl, h, hq⟩
theorem Gives.mono {α : Type} {x : Option (α × l1Cur)} {n m : Int} {P Q : α → Prop} (h : Gives x n P) (hm : n ≤ m) (hq : ∀ a, P a → Q a) : Gives x m Q := by
  obtain ⟨a, c, e, h1, h2⟩ := h
  exact ⟨a, c, e, h1.up hm, hq a h2⟩
theorem gives_bind {α β : Type} {x : Option (α × l1Cur)} {f : α × l1Cur → Option (β × l1Cur)} {n m : Int} {P : α → Prop} {Q : β → Prop} (h : Gives x n P)
    (hf : ∀ a code at' seed, P a → CG (code, at', seed, ()) n → Gives (f (a, (code, at', seed, ()))) m Q) : Gives (x.bind f) m Q := by
  obtain ⟨a, ⟨code, at', seed, u⟩, e, h1, h2⟩ := h
  rw [e]
  exact hf a code at' seed h2 h1
theorem gives_cond {α : Type} {b : Bool} {x y : Option (α × l1Cur)} {n : Int} {Q : α → Prop} (h1 : b = true → Gives x n Q) (h2 : b = false → Gives y n Q) : Gives (cond b x y) n Q := by
  cases b
  · exact h2 rfl
  · exact h1 rfl
theorem gives_grd {α : Type} {p : Prop} [Decidable p] {x : Option (α × l1Cur)} {n : Int} {Q : α → Prop} (hp : p) (h : Gives x n Q) : Gives (grd p x) n Q := by
  rw [grd_pos hp]; exact h

theorem and255 (x : Int) : 0 ≤ w64 (wu64 ((BitVec.ofInt (IntKind.u64).bits x &&& BitVec.ofInt (IntKind.u64).bits (255 : Int)).toNat)) ∧ w64 (wu64 ((BitVec.ofInt (IntKind.u64).bits x &&& BitVec.ofInt (IntKind.u64).bits (255 : Int)).toNat)) ≤ 255 := by
  have h : (BitVec.ofInt (IntKind.u64).bits x &&& BitVec.ofInt (IntKind.u64).bits (255 : Int)).toNat ≤ 255 := by
    rw [BitVec.toNat_and]
    exact Nat.le_trans Nat.and_le_right (by decide)
  have e : wu64 ((BitVec.ofInt (IntKind.u64).bits x &&& BitVec.ofInt (IntKind.u64).bits (255 : Int)).toNat : Int) = ((BitVec.ofInt (IntKind.u64).bits x &&& BitVec.ofInt (IntKind.u64).bits (255 : Int)).toNat : Int) := by
    show IntKind.u64.wrap _ = _
    rw [IntKind.wrap_u64]; omega
  rw [e, w64_id (by omega) (by omega)]
  omega
theorem next_ok (c : l1Cur) (n : Int) (h : CG c n) (hn : n ≤ 1000000000000) : Gives (spec_l1Cur_next c) (n + 1) (fun v => 0 ≤ v ∧ v ≤ 255) := by
  obtain ⟨code, at', seed, u⟩ := c
  obtain ⟨hb, hl, h0, h1⟩ := h
  have h0 : 0 ≤ at' := h0
  have h1 : at' ≤ n := h1
  have hw : w64 (at' + 1) = at' + 1 := w64_id (by omega) (by omega)
  have key : ∃ b : Int, (cond (decide (at' < (code.length : Int))) (grd (0 ≤ at' ∧ at' < (code.length : Int)) ((some (w64 (code.getD at'.toNat 0))))) ((some (0 : Int)))) = some b ∧ 0 ≤ b ∧ b ≤ 255 := by
    by_cases hlt : at' < (code.length : Int)
    · rw [cond_dt hlt, grd_pos ⟨h0, hlt⟩]
      have hi : at'.toNat < code.length := by omega
      have hm : code.getD at'.toNat 0 ∈ code := by rw [getD_eq _ _ _ hi]; exact List.getElem_mem hi
      have := hb _ hm
      exact ⟨_, rfl, by rw [w64_id (by omega) (by omega)]; exact this⟩
    · rw [cond_df hlt]; exact ⟨0, rfl, by omega, by omega⟩
  obtain ⟨b, e, b0, b1⟩ := key
  unfold spec_l1Cur_next
  simp only [e, Option.bind_some]
  refine gives_cond (fun _ => ?_) (fun _ => ?_)
  · exact Gives.ret ⟨hb, hl, by show 0 ≤ w64 (at' + 1); omega, by show w64 (at' + 1) ≤ n + 1; omega⟩ ⟨b0, b1⟩
  · refine gives_grd (by omega) ?_
    exact Gives.ret ⟨hb, hl, by show 0 ≤ w64 (at' + 1); omega, by show w64 (at' + 1) ≤ n + 1; omega⟩ (and255 _)
theorem pick_ok (c : l1Cur) (n k : Int) (h : CG c n) (hn : n ≤ 100000000000) : Gives (spec_l1Cur_pick c k) (n + 2) (fun v => 0 ≤ v ∧ (v = 0 ∨ v < k)) := by
  obtain ⟨code, at', seed, u⟩ := c
  unfold spec_l1Cur_pick
  by_cases hk : k ≤ 1
  · rw [cond_dt hk]
    exact Gives.ret (h.up (by omega)) ⟨by omega, .inl rfl⟩
  rw [cond_df hk]
  refine gives_bind (next_ok _ n h (by omega)) fun a code1 at1 seed1 ha hc => ?_
  dsimp only
  by_cases h2 : 200 < k
  · rw [cond_dt h2]
    refine gives_bind (next_ok _ (n + 1) hc (by omega)) fun b code2 at2 seed2 hb hc => ?_
    dsimp only
    refine gives_grd (by omega) (Gives.ret (hc.up (by omega)) ?_)
    rw [w64_id (x := a * 256) (by omega) (by omega), w64_id (by omega) (by omega)]
    exact ⟨Int.tmod_nonneg _ (by omega), .inr (Int.tmod_lt_of_pos _ (by omega))⟩
  · rw [cond_df h2]
    refine gives_grd (by omega) (Gives.ret (hc.up (by omega)) ?_)
    exact ⟨Int.tmod_nonneg _ (by omega), .inr (Int.tmod_lt_of_pos _ (by omega))⟩
theorem among_ok (c : l1Cur) (n : Int) (l : List Int) (hl : l ≠ []) (h : CG c n) (hn : n ≤ 100000000000) : Gives (spec_l1Cur_among c l) (n + 2) (fun v => v ∈ l) := by
  obtain ⟨code, at', seed, u⟩ := c
  unfold spec_l1Cur_among
  refine gives_bind (pick_ok _ n _ h hn) fun a code1 at1 seed1 ha hc => ?_
  dsimp only
  have hpos : 0 < l.length := List.length_pos_iff.2 hl
  have hlt : a < (l.length : Int) := by omega
  refine gives_grd ⟨ha.1, hlt⟩ (Gives.ret hc ?_)
  have hi : a.toNat < l.length := by omega
  show l.getD a.toNat 0 ∈ l
  rw [getD_eq _ _ _ hi]; exact List.getElem_mem hi
theorem one_ok (c : l1Cur) (n k : Int) (h : CG c n) (hn : n ≤ 100000000000) : Gives (spec_l1Cur_one c k) (n + 2) (fun _ => True) := by
  obtain ⟨code, at', seed, u⟩ := c
  unfold spec_l1Cur_one
  refine gives_bind (pick_ok _ n _ h hn) fun a code1 at1 seed1 ha hc => ?_
  dsimp only
  exact Gives.ret hc trivial
theorem mem_getD {α : Type} (l : List α) (y d : α) : y ∈ l ↔ ∃ i, i < l.length ∧ y = l.getD i d := by
  constructor
  · intro h
    obtain ⟨i, hi, e⟩ := List.getElem_of_mem h
    exact ⟨i, hi, by rw [getD_eq _ _ _ hi, e]⟩
  · rintro ⟨i, hi, e⟩
    rw [e, getD_eq _ _ _ hi]; exact List.getElem_mem _
/-- The greatest first. -/
theorem of_ok (c : l1Cur) (n : Int) (l : List ByteArray) (hl : l ≠ []) (h : CG c n) (hn : n ≤ 100000000000) : Gives (spec_l1Cur_of c l) (n + 2) (fun v => v ∈ l) := by
  obtain ⟨code, at', seed, u⟩ := c
  unfold spec_l1Cur_of
  refine gives_bind (pick_ok _ n _ h hn) fun a code1 at1 seed1 ha hc => ?_
  dsimp only
  have hpos : 0 < l.length := List.length_pos_iff.2 hl
  have hlt : a < (l.length : Int) := by omega
  refine gives_grd ⟨ha.1, hlt⟩ (Gives.ret hc ?_)
  have hi : a.toNat < l.length := by omega
  show l.getD a.toNat _ ∈ l
  rw [getD_eq _ _ _ hi]; exact List.getElem_mem hi
theorem cg0 (code : List Int) (hb : ∀ x ∈ code, 0 ≤ x ∧ x ≤ 255) (hl : code.length ≤ 1048576) : CG (code, (0 : Int), (0 : Int), ()) 0 := ⟨hb, hl, by show (0 : Int) ≤ 0; omega, by show (0 : Int) ≤ 0; omega⟩
end Go.Proofs.YtpmmaohaahbphaaDoor
