/-
  The law of FormatConsole.
-/
import Derived.Test.YtdlngdmdebpadaaDoorM40r
namespace Go.Proofs.YtdlngdmdebpadaaDoor
open Go.RowKit

theorem szConsole_ex (r : Ropeway) (b : Log) (n : Int) : ∃ y, laws_szConsole (r, b, ()) n = some y := by
  unfold laws_szConsole
  obtain ⟨y1, h1⟩ := szRopeway_eq (r.1, r.2.1, r.2.2.1, r.2.2.2.1, r.2.2.2.2.1, ()) n
  obtain ⟨y2, h2⟩ := szLog_ex (b.1, b.2.1, b.2.2.1, ()) y1
  dsimp only
  rw [h1, Option.bind_some]
  by_cases h0 : y1 < 0
  · rw [cond_dt h0]; exact ⟨_, rfl⟩
  · rw [cond_df h0, h2, Option.bind_some]
    by_cases h3 : y2 < 0
    · rw [cond_dt h3]; exact ⟨_, rfl⟩
    · rw [cond_df h3]; exact ⟨_, rfl⟩
/-- The text of a slot. -/
def prt (s : Slot) : List UInt8 := if s.1 = 0 then [45] else Lib.decDigits s.1.toNat ++ [47] ++ Lib.decDigits s.2.2.1.toNat ++ (if s.2.1 = true then [42] else [])
theorem join_snoc (xs : List (List UInt8)) (y sep : List UInt8) : Lib.join (xs ++ [y]) sep = (if xs.length = 0 then Lib.join xs sep else Lib.join xs sep ++ sep) ++ y := by
  cases xs with
  | nil => simp [Lib.join_one, Lib.join_nil]
  | cons x r =>
    rw [List.cons_append, Lib.join_cons, Lib.join_cons]
    simp [Lib.joinTail]
structure SlotOk (c : Int) (o : Bool) (p : Int) : Prop where
  c0 : 0 ≤ c
  c1 : c ≤ 20
  p0 : 0 ≤ p
  p1 : p ≤ 8
  shut : c = 0 → o = false
theorem iOk_slot {l : List Slot} {k : Nat} (h : iOk l k = true) : SlotOk (cab l k) (opn l k) (ppl l k) := by
  simp only [iOk, Bool.and_eq_true, decide_eq_true_eq] at h
  refine ⟨h.1.1, h.1.2, h.2.1.1, h.2.1.2, fun h0 => ?_⟩
  have h3 := h.2.2
  rw [if_pos h0] at h3
  simp only [Bool.and_eq_true, Bool.not_eq_true'] at h3
  exact h3.1
theorem prt_len {c : Int} {o : Bool} {p : Int} (h : SlotOk c o p) : (prt (c, o, p, ())).length ≤ 6 := by
  obtain ⟨h1, h2, h3, h4, _⟩ := h
  unfold prt
  have d1 : (Lib.decDigits c.toNat).length ≤ 2 := dec_length 1 c.toNat (by omega)
  have d2 : (Lib.decDigits p.toNat).length ≤ 1 := dec_length 0 p.toNat (by omega)
  split
  · simp
  · cases o <;> simp <;> omega
theorem nn {c : Int} (h : 0 ≤ c) : c = ((c.toNat : Nat) : Int) := by omega
theorem impl_step (a : Console) (k : Nat) (hk : k < a.1.2.1.length) (h10 : a.1.2.1.length ≤ 10) (hi : iOk a.1.2.1 k = true) (parts : List ByteArray) (hp : parts.length ≤ 10) :
    impl_FormatConsole_loop1 a (k : Int) parts = some (.go (((k + 1 : Nat) : Int), parts ++ [bs (prt (a.1.2.1.getD k d_Slot))])) := by
  have hs := iOk_slot hi
  unfold impl_FormatConsole_loop1
  rw [cond_dt (by omega), grd_pos (by omega), Int.toNat_natCast, w64_nat (by omega)]
  simp only [cab, opn, ppl] at hs
  generalize a.1.2.1.getD k d_Slot = s at hs
  obtain ⟨c, o, p, u⟩ := s
  have hl := prt_len hs
  obtain ⟨h1, h2, h3, h4, h5⟩ := hs
  dsimp only at h1 h2 h3 h4 h5 hl ⊢
  by_cases h0 : c = 0
  · obtain rfl := h5 h0
    rw [cond_df (by omega), cond_false, grd_pos (by simp only [List.length_cons, List.length_nil]; omega)]
    unfold prt
    rw [if_pos h0]
  · have d1 : (Lib.decDigits c.toNat).length ≤ 2 := dec_length 1 c.toNat (by omega)
    have d2 : (Lib.decDigits p.toNat).length ≤ 1 := dec_length 0 p.toNat (by omega)
    have e1 : strconv_Itoa c = some (bs (Lib.decDigits c.toNat)) := (congrArg strconv_Itoa (nn h1)).trans (itoa_eq c.toNat (by omega))
    have e2 : strconv_Itoa p = some (bs (Lib.decDigits p.toNat)) := (congrArg strconv_Itoa (nn h3)).trans (itoa_eq p.toNat (by omega))
    rw [cond_dt (by omega), e1, Option.bind_some, grd_pos (by simp only [bs_size, List.length_cons, List.length_nil]; omega), e2, Option.bind_some, grd_pos (by simp only [bs_app, bs_size, List.length_append, List.length_cons, List.length_nil]; omega)]
    unfold prt
    rw [if_neg h0]
    cases o with
    | true =>
      rw [cond_true, grd_pos (by simp only [bs_app, bs_size, List.length_append, List.length_cons, List.length_nil]; omega), grd_pos (by simp only [List.length_cons, List.length_nil]; omega)]
      simp only [bs_app, if_true, List.append_assoc]
    | false =>
      rw [cond_false, grd_pos (by simp only [List.length_cons, List.length_nil]; omega)]
      simp only [bs_app, Bool.false_eq_true, if_false, List.append_nil, List.append_assoc]
theorem spec_step (a : Console) (k : Nat) (hk : k < a.1.2.1.length) (h10 : a.1.2.1.length ≤ 10) (hi : iOk a.1.2.1 k = true) (out : List UInt8) (hp : out.length ≤ 100) :
    spec_FormatConsole_loop1 a (bs out) (k : Int) = some (.go (bs ((if k = 0 then out else out ++ [32]) ++ prt (a.1.2.1.getD k d_Slot)), ((k + 1 : Nat) : Int))) := by
  have hs := iOk_slot hi
  unfold spec_FormatConsole_loop1
  have hz : (cond (decide ((0 : Int) < (k : Int))) (grd ((bs out).size + (ByteArray.mk #[32]).size ≤ 9223372036854775807) ((some (bs out ++ (ByteArray.mk #[32]))))) ((some (bs out)))) = some (bs (if k = 0 then out else out ++ [32])) := by
    by_cases h0 : k = 0
    · rw [cond_df (by omega), if_pos h0]
    · rw [cond_dt (by omega), if_neg h0, grd_pos (by simp only [bs_size, List.length_cons, List.length_nil]; omega)]
      simp only [bs_app]
  rw [cond_dt (by omega), hz, Option.bind_some, grd_pos (by omega), Int.toNat_natCast, w64_nat (by omega)]
  have hq : (if k = 0 then out else out ++ [32]).length ≤ 101 := by split <;> (try simp only [List.length_append, List.length_cons, List.length_nil]) <;> omega
  generalize (if k = 0 then out else out ++ [32]) = q at hq
  simp only [cab, opn, ppl] at hs
  generalize a.1.2.1.getD k d_Slot = s at hs
  obtain ⟨c, o, p, u⟩ := s
  obtain ⟨h1, h2, h3, h4, h5⟩ := hs
  dsimp only at h1 h2 h3 h4 h5 ⊢
  by_cases h0 : c = 0
  · rw [cond_dt h0, grd_pos (by simp only [bs_size, List.length_cons, List.length_nil]; omega)]
    unfold prt
    rw [if_pos h0]
    simp only [bs_app]
  · have d1 : (Lib.decDigits c.toNat).length ≤ 2 := dec_length 1 c.toNat (by omega)
    have d2 : (Lib.decDigits p.toNat).length ≤ 1 := dec_length 0 p.toNat (by omega)
    have e1 : spec_l1Num c = some (bs (Lib.decDigits c.toNat)) := (congrArg spec_l1Num (nn h1)).trans (l1Num_eq c.toNat (by omega))
    have e2 : spec_l1Num p = some (bs (Lib.decDigits p.toNat)) := (congrArg spec_l1Num (nn h3)).trans (l1Num_eq p.toNat (by omega))
    rw [cond_df h0, e1, Option.bind_some, grd_pos (by simp only [bs_size]; omega), grd_pos (by simp only [bs_app, bs_size, List.length_append, List.length_cons, List.length_nil]; omega), e2, Option.bind_some, grd_pos (by simp only [bs_app, bs_size, List.length_append, List.length_cons, List.length_nil]; omega)]
    unfold prt
    rw [if_neg h0]
    cases o with
    | true =>
      rw [cond_true, grd_pos (by simp only [bs_app, bs_size, List.length_append, List.length_cons, List.length_nil]; omega)]
      simp only [bs_app, if_true, List.append_assoc]
    | false =>
      rw [cond_false]
      simp only [bs_app, Bool.false_eq_true, if_false, List.append_nil, List.append_assoc]
abbrev prs (l : List Slot) (k : Nat) : List (List UInt8) := (l.take k).map prt
theorem prs_succ (l : List Slot) (k : Nat) (hk : k < l.length) : prs l (k + 1) = prs l k ++ [prt (l.getD k d_Slot)] := by
  unfold prs
  rw [List.take_succ_eq_append_getElem hk, List.map_append, List.getD_eq_getElem?_getD, List.getElem?_eq_getElem hk]
  rfl
theorem prs_length (l : List Slot) (k : Nat) (hk : k ≤ l.length) : (prs l k).length = k := by simp [prs]; omega
theorem join_len (l : List Slot) (h : ∀ k, k < l.length → iOk l k = true) : ∀ k, k ≤ l.length → (Lib.join (prs l k) [32]).length ≤ 7 * k
  | 0, _ => by simp [prs, Lib.join_nil]
  | k + 1, hk => by
    have ih := join_len l h k (by omega)
    have hp := prt_len (iOk_slot (h k (by omega)))
    have hp : (prt (l.getD k d_Slot)).length ≤ 6 := hp
    rw [prs_succ l k (by omega), join_snoc, List.length_append]
    split <;> (try simp only [List.length_append, List.length_cons, List.length_nil]) <;> omega
theorem both_text (x : Int) (l : List Slot) (w t d : Int) (D P : ByteArray) (n : Int) (h10 : l.length ≤ 10) (hi : ∀ k, k < l.length → iOk l k = true) :
    iter (fun s => spec_FormatConsole_loop1 ((x, l, w, t, d, ()), (D, P, n, ()), ()) s.1 s.2) ((ByteArray.mk #[]), (0 : Int)) = some (bs (Lib.join (prs l l.length) [32])) ∧
    iter (fun s => impl_FormatConsole_loop1 ((x, l, w, t, d, ()), (D, P, n, ()), ()) s.1 s.2) ((0 : Int), ([] : List ByteArray)) = some ((prs l l.length).map bs) := by
  constructor
  · refine iter_for l.length (fun k => (bs (Lib.join (prs l k) [32]), (k : Int))) (fun k hk => ?_) ?_ rfl
    · have hj := join_len l hi k (by omega)
      refine (spec_step ((x, l, w, t, d, ()), (D, P, n, ()), ()) k hk h10 (hi k hk) _ (by omega)).trans ?_
      rw [prs_succ l k hk, join_snoc, prs_length l k (by omega)]
    · show spec_FormatConsole_loop1 _ _ (l.length : Int) = _
      unfold spec_FormatConsole_loop1
      rw [cond_df (by simp)]
  · refine iter_for l.length (fun k => ((k : Int), (prs l k).map bs)) (fun k hk => ?_) ?_ rfl
    · refine (impl_step ((x, l, w, t, d, ()), (D, P, n, ()), ()) k hk h10 (hi k hk) _ (by rw [List.length_map, prs_length l k (by omega)]; omega)).trans ?_
      rw [prs_succ l k hk, List.map_append]
      rfl
    · show impl_FormatConsole_loop1 _ (l.length : Int) _ = _
      unfold impl_FormatConsole_loop1
      rw [cond_df (by simp)]
theorem fst_bs (l : List (List UInt8)) : (l.map bs).map (·.data.toList) = l := by
  rw [List.map_map]
  refine (List.map_congr_left fun a _ => ?_).trans (List.map_id _)
  simp
theorem join_eq (l : List (List UInt8)) (h : (Lib.join l [32]).length ≤ 1000) : strings_Join (l.map bs) (ByteArray.mk #[32]) = some (bs (Lib.join l [32])) := by
  unfold strings_Join
  have e : joinB (l.map bs) (ByteArray.mk #[32]) = bs (Lib.join l [32]) := by
    unfold joinB
    rw [fst_bs]
  rw [e, grd_pos (by rw [bs_size]; omega)]
theorem format_both (x : Int) (l : List Slot) (w t d : Int) (D P : ByteArray) (n : Int) (h10 : l.length ≤ 10) (hi : ∀ k, k < l.length → iOk l k = true) (hw : 0 ≤ w ∧ w ≤ 500) (ht : 0 ≤ t ∧ t ≤ 500) (hd : 0 ≤ d ∧ d ≤ 500) (hn : 0 ≤ n ∧ n ≤ 60)
    (g1 : spec_l28Good ((x, l, w, t, d, ()), (D, P, n, ()), ()) = some true) (g2 : impl_IsValidConsole ((x, l, w, t, d, ()), (D, P, n, ()), ()) = some true) :
    ∃ y, spec_FormatConsole ((x, l, w, t, d, ()), (D, P, n, ()), ()) = some (y, true) ∧ impl_FormatConsole ((x, l, w, t, d, ()), (D, P, n, ()), ()) = some (y, true) := by
  obtain ⟨b1, b2⟩ := both_text x l w t d D P n h10 hi
  have hj := join_len l hi l.length (Nat.le_refl _)
  have l1 : (Lib.decDigits w.toNat).length ≤ 4 := dec_length 3 w.toNat (by omega)
  have l2 : (Lib.decDigits t.toNat).length ≤ 4 := dec_length 3 t.toNat (by omega)
  have l3 : (Lib.decDigits d.toNat).length ≤ 4 := dec_length 3 d.toNat (by omega)
  have l4 : (Lib.decDigits n.toNat).length ≤ 4 := dec_length 3 n.toNat (by omega)
  have n1 : spec_l1Num w = some (bs (Lib.decDigits w.toNat)) := (congrArg spec_l1Num (nn hw.1)).trans (l1Num_eq w.toNat (by omega))
  have n2 : spec_l1Num t = some (bs (Lib.decDigits t.toNat)) := (congrArg spec_l1Num (nn ht.1)).trans (l1Num_eq t.toNat (by omega))
  have n3 : spec_l1Num d = some (bs (Lib.decDigits d.toNat)) := (congrArg spec_l1Num (nn hd.1)).trans (l1Num_eq d.toNat (by omega))
  have n4 : spec_l1Num n = some (bs (Lib.decDigits n.toNat)) := (congrArg spec_l1Num (nn hn.1)).trans (l1Num_eq n.toNat (by omega))
  have i1 : strconv_Itoa w = some (bs (Lib.decDigits w.toNat)) := (congrArg strconv_Itoa (nn hw.1)).trans (itoa_eq w.toNat (by omega))
  have i2 : strconv_Itoa t = some (bs (Lib.decDigits t.toNat)) := (congrArg strconv_Itoa (nn ht.1)).trans (itoa_eq t.toNat (by omega))
  have i3 : strconv_Itoa d = some (bs (Lib.decDigits d.toNat)) := (congrArg strconv_Itoa (nn hd.1)).trans (itoa_eq d.toNat (by omega))
  have i4 : strconv_Itoa n = some (bs (Lib.decDigits n.toNat)) := (congrArg strconv_Itoa (nn hn.1)).trans (itoa_eq n.toNat (by omega))
  have j1 := join_eq (prs l l.length) (by omega)
  unfold spec_FormatConsole impl_FormatConsole
  simp only [g1, g2, b1, b2, n1, n2, n3, n4, i1, i2, i3, i4, j1, Option.bind_some, Bool.not_true, cond_false]
  generalize Lib.join (prs l l.length) [32] = q at hj
  generalize Lib.decDigits w.toNat = q1 at l1
  generalize Lib.decDigits t.toNat = q2 at l2
  generalize Lib.decDigits d.toNat = q3 at l3
  generalize Lib.decDigits n.toNat = q4 at l4
  repeat rw [grd_pos (by simp only [bs_app, bs_size, List.length_append, List.length_cons, List.length_nil]; omega)]
  exact ⟨_, rfl, rfl⟩
theorem law_FnExactFormatConsole (a : Console) (ha : Ty.fit ty_Console a) : laws_FnExactFormatConsole a = some true := by
  obtain ⟨⟨x, l, p, q, r, u1⟩, ⟨D0, P0, n, u2⟩, u3⟩ := a
  obtain ⟨D, rfl⟩ := bs_ex D0
  obtain ⟨P, rfl⟩ := bs_ex P0
  have hl : l.length ≤ 1048576 := ha.1.2.1.1
  have hD : D.length ≤ 1048576 := by rw [← bs_size]; exact ha.2.1.1
  have hP : P.length ≤ 1048576 := by rw [← bs_size]; exact ha.2.1.2.1
  obtain ⟨y, hy⟩ := szConsole_ex (x, l, p, q, r, ()) (bs D, bs P, n, ()) 1048576
  have e1 := goodS_eq (x, l, p, q, r, ()) hl
  have e2 := isRopeway_eq (x, l, p, q, r, ()) hl
  have e4 : impl_IsValidLog (bs D, bs P, n, ()) = some (okLog D P n) := by
    unfold impl_IsValidLog
    simp only [records_eq D P n (by omega) (by omega), Option.bind_some]
  have e5 : spec_l27Log (bs D, bs P, n, ()) = some (okLog D P n) := log_eq D P n (by omega) (by omega)
  have t1 : laws_toConsole ((x, l, p, q, r, ()), (bs D, bs P, n, ()), ()) = some ((x, l, p, q, r, ()), (bs D, bs P, n, ()), ()) := by
    unfold laws_toConsole laws_toLog
    rw [toRopeway_eq (x, l, p, q, r, ()) hl]; rfl
  have t2 : laws_eqConsole ((x, l, p, q, r, ()), (bs D, bs P, n, ()), ()) ((x, l, p, q, r, ()), (bs D, bs P, n, ()), ()) = some true := by
    unfold laws_eqConsole
    simp only [eqRopeway_eq (x, l, p, q, r, ()) hl, eqLog_eq, Option.bind_some, Bool.not_true, cond_false]
  have g1 : spec_l28Good ((x, l, p, q, r, ()), (bs D, bs P, n, ()), ()) = some (gd (x, l, p, q, r, ()) && okLog D P n) := by
    unfold spec_l28Good
    simp only [e1, e5, Option.bind_some]
    cases gd (x, l, p, q, r, ()) <;> rfl
  have g2 : impl_IsValidConsole ((x, l, p, q, r, ()), (bs D, bs P, n, ()), ()) = some (gd (x, l, p, q, r, ()) && okLog D P n) := by
    unfold impl_IsValidConsole
    simp only [e2, e4, Option.bind_some]
    cases gd (x, l, p, q, r, ()) <;> rfl
  have fb : ∃ z, spec_FormatConsole ((x, l, p, q, r, ()), (bs D, bs P, n, ()), ()) = some z ∧ impl_FormatConsole ((x, l, p, q, r, ()), (bs D, bs P, n, ()), ()) = some z := by
    by_cases hg : (gd (x, l, p, q, r, ()) && okLog D P n) = true
    · rw [hg] at g1 g2
      rw [Bool.and_eq_true] at hg
      obtain ⟨_, ⟨_, h10⟩, hw, ht, hd, hi⟩ := gd_out hg.1
      obtain ⟨y, f1, f2⟩ := format_both x l p q r (bs D) (bs P) n h10 hi hw ht hd (okLog_count hg.2) g1 g2
      exact ⟨_, f1, f2⟩
    · rw [Bool.not_eq_true] at hg
      rw [hg] at g1 g2
      refine ⟨((ByteArray.mk #[]), false), ?_, ?_⟩
      · unfold spec_FormatConsole
        simp only [g1, Option.bind_some, Bool.not_false, cond_true]
      · unfold impl_FormatConsole
        simp only [g2, Option.bind_some, Bool.not_false, cond_true]
  obtain ⟨⟨z, b⟩, s1, s2⟩ := fb
  unfold laws_FnExactFormatConsole
  simp only [hy, Option.bind_some]
  by_cases h0 : y < 0
  · rw [cond_dt h0]
  · rw [cond_df h0]
    simp only [t1, t2, s1, s2, Option.bind_some, Bool.not_true, cond_false, beq_self_eq_true, decide_true]
end Go.Proofs.YtdlngdmdebpadaaDoor
