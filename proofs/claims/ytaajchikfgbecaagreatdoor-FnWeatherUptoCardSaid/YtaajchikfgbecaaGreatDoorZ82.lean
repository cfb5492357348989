/-
  Plain laws of a weather record's text and of its readers.
-/
import Derived.Test.YtaajchikfgbecaaGreatDoorZ81
namespace Go.Proofs.YtaajchikfgbecaaGreatDoor
open Go.RowKit

theorem m45 : (ByteArray.mk #[45]) = bs [45] := rfl
theorem m46 : (ByteArray.mk #[46]) = bs [46] := rfl
theorem m48 : (ByteArray.mk #[48]) = bs [48] := rfl
theorem m0 : (ByteArray.mk #[]) = bs [] := rfl
theorem parse_nil : parseI (bs []) = (0, false) := by
  rcases parseI_cases [] with ⟨n, hn, e, _⟩ | ⟨e, _⟩
  · have := (itoa_length n hn).2
    rw [← e] at this
    simp at this
  · exact e
/-! ## Digits -/
theorem dec_one {n : Nat} (h : n < 10) : Lib.decDigits n = [UInt8.ofNat (48 + n)] := by rw [Lib.decDigits, dif_pos h]
theorem dec_more {n : Nat} (h : ¬ n < 10) : Lib.decDigits n = Lib.decDigits (n / 10) ++ [UInt8.ofNat (48 + n % 10)] := by rw [Lib.decDigits, dif_neg h]
theorem ofNat_toNat {n : Nat} (h : n < 10) : (UInt8.ofNat (48 + n)).toNat = 48 + n := by
  rw [UInt8.toNat_ofNat']; omega
theorem dec_head : ∀ (m n : Nat), n ≤ m → 0 < n → ∃ b r, Lib.decDigits n = b :: r ∧ b ≠ 48 := by
  intro m
  induction m with
  | zero => intro n h1 h2; omega
  | succ m ih =>
    intro n h1 h2
    by_cases h : n < 10
    · refine ⟨_, [], dec_one h, fun e => ?_⟩
      have := congrArg UInt8.toNat e
      rw [ofNat_toNat h] at this
      have h48 : (48 : UInt8).toNat = 48 := rfl
      omega
    · obtain ⟨b, r, e, hb⟩ := ih (n / 10) (by omega) (by omega)
      refine ⟨b, r ++ [UInt8.ofNat (48 + n % 10)], ?_, hb⟩
      rw [dec_more h, e]; rfl
def tnN (n : Nat) : List UInt8 := Lib.decDigits (n / 10) ++ 46 :: Lib.decDigits (n % 10)
def tnL (v : Int) : List UInt8 := if v < 0 then 45 :: tnN v.natAbs else tnN v.toNat
theorem dec_le6 {n : Nat} (h : n ≤ 99999) : (Lib.decDigits n).length ≤ 5 := dec_length 4 n (by omega)
theorem dec_le1 (n : Nat) : (Lib.decDigits (n % 10)).length ≤ 1 := dec_length 0 (n % 10) (by omega)
theorem tnN_len {n : Nat} (h : n ≤ 999) : (tnN n).length ≤ 4 := by
  have h1 : (Lib.decDigits (n / 10)).length ≤ 2 := dec_length 1 (n / 10) (by omega)
  have h2 := dec_le1 n
  unfold tnN; simp; omega
theorem tnL_len {v : Int} (h : -999 ≤ v ∧ v ≤ 999) : (tnL v).length ≤ 5 := by
  unfold tnL; split
  · have := tnN_len (n := v.natAbs) (by omega); simp; omega
  · have := tnN_len (n := v.toNat) (by omega); omega
theorem tnN_no (c : UInt8) (h : c.toNat < 46 ∨ 57 < c.toNat) (n : Nat) : c ∉ tnN n := by
  have h1 := dec_no c (by omega) (n / 10)
  have h2 := dec_no c (by omega) (n % 10)
  unfold tnN
  simp only [List.mem_append, List.mem_cons, not_or]
  refine ⟨h1, fun e => ?_, h2⟩
  rw [e] at h
  exact absurd h (by decide)
theorem tnL_no (c : UInt8) (h : c.toNat < 45 ∨ 57 < c.toNat) (v : Int) : c ∉ tnL v := by
  unfold tnL; split
  · simp only [List.mem_cons, not_or]
    refine ⟨fun e => ?_, tnN_no c (by omega) _⟩
    rw [e] at h
    exact absurd h (by decide)
  · exact tnN_no c (by omega) _
theorem distance_eq (a : Int) (h : -100000 ≤ a ∧ a ≤ 100000) : impl_distance a 0 = some ((a.natAbs : Nat) : Int) := by
  unfold impl_distance
  rw [w64_id (x := 0 - a) (by omega) (by omega), w64_id (x := a - 0) (by omega) (by omega)]
  simp only [Bool.false_eq_true, if_false]
  refine congrArg some ?_
  split <;> omega
theorem tenths_impl (v : Int) (h : -999 ≤ v ∧ v ≤ 999) : impl_tenths v = some (bs (tnL v)) := by
  have l1 := dec_le6 (n := v.natAbs / 10) (by omega)
  have l2 := dec_le1 v.natAbs
  unfold impl_tenths
  rw [distance_eq v (by omega), Option.bind_some, grd_pos (by decide)]
  have t1 : Int.tdiv ((v.natAbs : Nat) : Int) 10 = ((v.natAbs / 10 : Nat) : Int) := rfl
  have t2 : Int.tmod ((v.natAbs : Nat) : Int) 10 = ((v.natAbs % 10 : Nat) : Int) := rfl
  rw [t1, t2, w64_id (by omega) (by omega), itoa_eq _ (by omega), Option.bind_some, itoa_eq _ (by omega), m45, m46]
  simp only [bs_app, bs_size, Option.bind_some]
  rw [grd_pos (by simp only [List.length_cons, List.length_nil]; omega), grd_pos (by decide), grd_pos (by simp only [List.length_append, List.length_cons, List.length_nil]; omega)]
  unfold tnL
  by_cases hv : v < 0
  · rw [cond_dt hv, if_pos hv, grd_pos (by simp only [List.length_append, List.length_cons, List.length_nil]; omega)]
    simp [tnN]
  · rw [cond_df hv, if_neg hv, show v.toNat = v.natAbs by omega]
    simp [tnN]
theorem tenthsN (k : Nat) (n : Nat) (h : n ≤ 999) : spec_l17Tenths_f (k + 1) (n : Int) = some (bs (tnN n)) := by
  have l1 := dec_le6 (n := n / 10) (by omega)
  have l2 := dec_le1 n
  have t1 : Int.tdiv ((n : Nat) : Int) 10 = ((n / 10 : Nat) : Int) := rfl
  have t2 : Int.tmod ((n : Nat) : Int) 10 = ((n % 10 : Nat) : Int) := rfl
  rw [spec_l17Tenths_f_succ, cond_df (by omega), grd_pos (by decide), t1, t2, w64_id (by omega) (by omega), l1Num_eq _ (by omega), Option.bind_some, l1Num_eq _ (by omega), m46]
  simp only [bs_app, bs_size, Option.bind_some]
  rw [grd_pos (by simp only [List.length_cons, List.length_nil]; omega), grd_pos (by decide), grd_pos (by simp only [List.length_append, List.length_cons, List.length_nil]; omega)]
  simp [tnN]
theorem tenths_spec (v : Int) (h : -999 ≤ v ∧ v ≤ 999) : spec_l17Tenths v = some (bs (tnL v)) := by
  unfold spec_l17Tenths tnL
  by_cases hv : v < 0
  · have l1 := tnN_len (n := v.natAbs) (by omega)
    rw [spec_l17Tenths_f_succ, cond_dt hv, if_pos hv, w64_id (by omega) (by omega), show (0 : Int) - v = ((v.natAbs : Nat) : Int) by omega, tenthsN 62 _ (by omega), Option.bind_some, m45, bs_app, bs_size, bs_size, grd_pos (by simp only [List.length_cons, List.length_nil]; omega)]
    rfl
  · rw [if_neg hv, show v = ((v.toNat : Nat) : Int) by omega, Int.toNat_natCast]
    exact tenthsN 63 _ (by omega)
/-! ## A record's text -/
def hdW (mi wa : Nat) (wi : Int) : List UInt8 := Lib.decDigits mi ++ 58 :: ([32] ++ (tnL wi ++ 32 :: ([109, 47, 115, 32, 102, 114, 111, 109, 32] ++ Lib.decDigits wa)))
def tmW (te : Int) : List UInt8 := tnL te ++ [32, 67]
def stW (st : Bool) : List UInt8 := if st = true then 44 :: ([32] ++ [115, 116, 111, 114, 109]) else []
def lnW (mi wa : Nat) (wi te : Int) (st : Bool) : List UInt8 := hdW mi wa wi ++ 44 :: ([32] ++ (tmW te ++ stW st))
structure RW (mi wa : Nat) (wi te : Int) : Prop where
  h1 : mi ≤ 9999
  h2 : wa ≤ 359
  h3 : 0 ≤ wi ∧ wi ≤ 600
  h4 : -400 ≤ te ∧ te ≤ 500
abbrev mkW (mi wa : Nat) (wi te : Int) (st : Bool) : Weather := ((mi : Int), wi, (wa : Int), te, st, ())
theorem w_out {r : Weather} (h : okW r) : ∃ mi wa wi te st, r = mkW mi wa wi te st ∧ RW mi wa wi te := by
  obtain ⟨h1, h2, h3, h4⟩ := h
  refine ⟨r.1.toNat, r.2.2.1.toNat, r.2.1, r.2.2.2.1, r.2.2.2.2.1, ?_, ⟨by omega, by omega, h2, h4⟩⟩
  have e1 : ((r.1.toNat : Nat) : Int) = r.1 := by omega
  have e2 : ((r.2.2.1.toNat : Nat) : Int) = r.2.2.1 := by omega
  show r = (((r.1.toNat : Nat) : Int), r.2.1, ((r.2.2.1.toNat : Nat) : Int), r.2.2.2.1, r.2.2.2.2.1, ())
  rw [e1, e2]
theorem okW_mk {mi wa : Nat} {wi te : Int} (st : Bool) (h : RW mi wa wi te) : okW (mkW mi wa wi te st) := by
  have a := h.h1; have b := h.h2
  exact ⟨⟨by show (0 : Int) ≤ (mi : Int); omega, by show (mi : Int) ≤ 9999; omega⟩, h.h3, ⟨by show (0 : Int) ≤ (wa : Int); omega, by show (wa : Int) ≤ 359; omega⟩, h.h4⟩
theorem lnW_len {mi wa : Nat} {wi te : Int} (st : Bool) (h : RW mi wa wi te) : (lnW mi wa wi te st).length ≤ 50 := by
  have l1 : (Lib.decDigits mi).length ≤ 4 := dec_length 3 mi (by have := h.h1; omega)
  have l2 : (Lib.decDigits wa).length ≤ 3 := dec_length 2 wa (by have := h.h2; omega)
  have l3 := tnL_len (v := wi) (by have := h.h3; omega)
  have l4 := tnL_len (v := te) (by have := h.h4; omega)
  unfold lnW hdW tmW stW
  split <;> simp <;> omega
theorem text_impl {mi wa : Nat} {wi te : Int} (st : Bool) (h : RW mi wa wi te) : impl_weatherText (mkW mi wa wi te st) = some (bs (lnW mi wa wi te st)) := by
  have l1 : (Lib.decDigits mi).length ≤ 4 := dec_length 3 mi (by have := h.h1; omega)
  have l2 : (Lib.decDigits wa).length ≤ 3 := dec_length 2 wa (by have := h.h2; omega)
  have l3 := tnL_len (v := wi) (by have := h.h3; omega)
  have l4 := tnL_len (v := te) (by have := h.h4; omega)
  unfold impl_weatherText
  dsimp only
  rw [itoa_eq mi (by have := h.h1; omega), Option.bind_some, tenths_impl wi (by have := h.h3; omega), Option.bind_some, itoa_eq wa (by have := h.h2; omega), Option.bind_some, tenths_impl te (by have := h.h4; omega), Option.bind_some]
  rw [show (ByteArray.mk #[58, 32]) = bs [58, 32] from rfl, show (ByteArray.mk #[32, 109, 47, 115, 32, 102, 114, 111, 109, 32]) = bs [32, 109, 47, 115, 32, 102, 114, 111, 109, 32] from rfl, show (ByteArray.mk #[44, 32]) = bs [44, 32] from rfl, show (ByteArray.mk #[32, 67]) = bs [32, 67] from rfl, show (ByteArray.mk #[44, 32, 115, 116, 111, 114, 109]) = bs [44, 32, 115, 116, 111, 114, 109] from rfl]
  simp only [bs_app, bs_size]
  iterate 7 rw [grd_pos (by simp only [List.length_append, List.length_cons, List.length_nil]; omega)]
  cases st
  · simp [lnW, hdW, tmW, stW]
  · simp only [cond_true]
    rw [grd_pos (by simp only [List.length_append, List.length_cons, List.length_nil]; omega)]
    simp [lnW, hdW, tmW, stW]
theorem text_spec {mi wa : Nat} {wi te : Int} (st : Bool) (h : RW mi wa wi te) : spec_l17Text (mkW mi wa wi te st) = some (bs (lnW mi wa wi te st)) := by
  have l1 : (Lib.decDigits mi).length ≤ 4 := dec_length 3 mi (by have := h.h1; omega)
  have l2 : (Lib.decDigits wa).length ≤ 3 := dec_length 2 wa (by have := h.h2; omega)
  have l3 := tnL_len (v := wi) (by have := h.h3; omega)
  have l4 := tnL_len (v := te) (by have := h.h4; omega)
  unfold spec_l17Text
  dsimp only
  rw [l1Num_eq mi (by have := h.h1; omega), Option.bind_some, tenths_spec wi (by have := h.h3; omega), Option.bind_some, l1Num_eq wa (by have := h.h2; omega), Option.bind_some, tenths_spec te (by have := h.h4; omega), Option.bind_some]
  rw [show (ByteArray.mk #[58, 32]) = bs [58, 32] from rfl, show (ByteArray.mk #[32, 109, 47, 115, 32, 102, 114, 111, 109, 32]) = bs [32, 109, 47, 115, 32, 102, 114, 111, 109, 32] from rfl, show (ByteArray.mk #[44, 32]) = bs [44, 32] from rfl, show (ByteArray.mk #[32, 67]) = bs [32, 67] from rfl, show (ByteArray.mk #[44, 32, 115, 116, 111, 114, 109]) = bs [44, 32, 115, 116, 111, 114, 109] from rfl]
  simp only [bs_app, bs_size]
  iterate 7 rw [grd_pos (by simp only [List.length_append, List.length_cons, List.length_nil]; omega)]
  cases st
  · simp [lnW, hdW, tmW, stW]
  · simp only [cond_true]
    rw [grd_pos (by simp only [List.length_append, List.length_cons, List.length_nil]; omega)]
    simp [lnW, hdW, tmW, stW]
/-! ## Tenths read -/
def rdT (l : List UInt8) : Int :=
  if l.take 1 = [45] then w64 (0 - (parseI (bs (Lib.trimLeftB (Lib.replace (l.drop 1) [46] [] 1) 48))).1) else (parseI (bs (Lib.trimLeftB (Lib.replace l [46] [] 1) 48))).1
theorem hasP (l : List UInt8) : strings_HasPrefix (bs l) (bs [45]) = some (decide (l.take 1 = [45])) := by
  unfold strings_HasPrefix internal_stringslite_HasPrefix
  simp only [bs_size]
  by_cases h1 : 1 ≤ l.length
  · rw [cond_dt (by simp only [List.length_singleton]; omega), grd_pos (by simp only [List.length_singleton]; omega), bsub_bs, Option.bind_some]
    refine congrArg some (decide_eq_decide.2 ?_)
    rw [bs_inj]; rfl
  · rw [cond_df (by simp only [List.length_singleton]; omega), Option.bind_some]
    have : l = [] := List.length_eq_zero_iff.1 (by omega)
    rw [this]; rfl
theorem repl_eq (q : List UInt8) (h : q.length ≤ 2000000) : strings_Replace (bs q) (ByteArray.mk #[46]) (ByteArray.mk #[]) 1 = some (bs (Lib.replace q [46] [] 1)) := by
  unfold strings_Replace
  rw [grd_pos ⟨by rw [bs_size]; omega, by decide, by rw [bs_size, show (ByteArray.mk #[]).size = 0 from rfl, Nat.mul_zero]; omega⟩]
  unfold replB
  rw [list_bs]
theorem trim_eq (q : List UInt8) : strings_TrimLeft (bs q) (ByteArray.mk #[48]) = some (bs (Lib.trimLeftB q 48)) := by
  unfold strings_TrimLeft
  rw [grd_pos ⟨rfl, rfl⟩]
  unfold trimL
  rw [list_bs]; rfl
theorem read_eq (l : List UInt8) (h : l.length ≤ 2000000) : impl_readTenths (bs l) = some (rdT l) := by
  unfold impl_readTenths rdT impl_ParseInt
  rw [m45, trimP_bs l [45] h (by decide), Option.bind_some]
  have hl : (if ([45] : List UInt8).length ≤ l.length ∧ l.take ([45] : List UInt8).length = [45] then l.drop ([45] : List UInt8).length else l) = if l.take 1 = [45] then l.drop 1 else l := by
    by_cases e : l.take 1 = [45]
    · have : 1 ≤ l.length := by
        have := congrArg List.length e
        simp at this; omega
      rw [if_pos e, if_pos ⟨this, e⟩]; rfl
    · rw [if_neg e, if_neg (fun q => e q.2)]
  rw [hl]
  by_cases e : l.take 1 = [45]
  · rw [if_pos e, if_pos e, repl_eq _ (by simp; omega), Option.bind_some, trim_eq, Option.bind_some, Option.bind_some, hasP, Option.bind_some, cond_dt e]
  · rw [if_neg e, if_neg e, repl_eq _ h, Option.bind_some, trim_eq, Option.bind_some, Option.bind_some, hasP, Option.bind_some, cond_df e]
theorem repl_dot (X Y : List UInt8) (h : (46 : UInt8) ∉ X) : Lib.replace (X ++ 46 :: Y) [46] [] 1 = X ++ Y := by
  have hi : Lib.index (X ++ 46 :: Y) [46] = (X.length : Int) := index_app 46 [] X Y h
  have hc : 1 ≤ Lib.count (X ++ 46 :: Y) [46] := by
    unfold Lib.count Lib.countFrom
    rw [hi, if_neg (by simp)]; omega
  have hn : Lib.replaceNum (X ++ 46 :: Y) [46] 1 = 1 := by
    unfold Lib.replaceNum
    rw [if_neg (by omega)]; rfl
  unfold Lib.replace
  rw [if_neg (by decide), hn, Lib.replaceK_hit [46] [] 0 _ X.length hi]
  simp [Lib.replaceK]
theorem trim_no {b : UInt8} {r : List UInt8} (h : b ≠ 48) : Lib.trimLeftB (b :: r) 48 = b :: r := by
  unfold Lib.trimLeftB
  rw [List.dropWhile_cons_of_neg (by simpa using h)]
theorem trim_yes (r : List UInt8) : Lib.trimLeftB (48 :: r) 48 = Lib.trimLeftB r 48 := by
  unfold Lib.trimLeftB
  rw [List.dropWhile_cons_of_pos (by simp)]
theorem readN (n : Nat) (h : n ≤ 9999) : (parseI (bs (Lib.trimLeftB (Lib.replace (tnN n) [46] [] 1) 48))).1 = n := by
  unfold tnN
  rw [repl_dot _ _ (dec_no 46 (by decide) _)]
  by_cases h10 : n < 10
  · rw [show n / 10 = 0 by omega, show n % 10 = n by omega, show Lib.decDigits 0 = [48] from dec_one (by decide), List.singleton_append, trim_yes]
    by_cases h0 : n = 0
    · subst h0
      rw [show Lib.decDigits 0 = [48] from dec_one (by decide), trim_yes]
      show (parseI (bs [])).1 = _
      rw [parse_nil]; rfl
    · obtain ⟨b, r, e, hb⟩ := dec_head n n (Nat.le_refl _) (by omega)
      rw [e, trim_no hb, ← e, parse_dec n (by omega)]
  · have e1 : Lib.decDigits (n / 10) ++ Lib.decDigits (n % 10) = Lib.decDigits n := by
      rw [dec_more h10, dec_one (n := n % 10) (by omega)]
    obtain ⟨b, r, e, hb⟩ := dec_head n n (Nat.le_refl _) (by omega)
    rw [e1, e, trim_no hb, ← e, parse_dec n (by omega)]
theorem tnN_head (n : Nat) : (tnN n).take 1 ≠ [45] := by
  obtain ⟨b, r, e, h1, h2⟩ := dec_cons (n / 10)
  unfold tnN
  rw [e]
  intro q
  have : b = 45 := by simpa using q
  rw [this] at h1
  exact absurd h1 (by decide)
theorem read_tn (v : Int) (h : -999 ≤ v ∧ v ≤ 999) : rdT (tnL v) = v := by
  unfold rdT tnL
  by_cases hv : v < 0
  · rw [if_pos hv, if_pos (by rfl), show (45 :: tnN v.natAbs).drop 1 = tnN v.natAbs from rfl, readN _ (by omega), w64_id (by omega) (by omega)]
    omega
  · rw [if_neg hv, if_neg (tnN_head _), readN _ (by omega)]
    omega
/-! ## Digits read, letter by letter -/
def dgS (acc : Nat) (b : UInt8) : Nat := if 48 ≤ b.toNat ∧ b.toNat ≤ 57 then 10 * acc + (b.toNat - 48) else acc
def dgF (l : List UInt8) : Nat := l.foldl dgS 0
theorem dgS_lt {acc B : Nat} (b : UInt8) (h : acc < B) : dgS acc b < 10 * B := by
  unfold dgS; split <;> omega
theorem dgF_lt (l : List UInt8) : ∀ k, k ≤ l.length → dgF (l.take k) < 10 ^ k := by
  intro k
  induction k with
  | zero => intro _; simp [dgF]
  | succ k ih =>
    intro hk
    have := ih (by omega)
    have e : l.take (k + 1) = l.take k ++ [l.getD k 0] := by
      rw [List.take_add_one, List.getElem?_eq_getElem (by omega), getD_eq l k 0 (by omega)]; rfl
    rw [e]
    have h2 := dgS_lt (l.getD k 0) this
    have h3 : dgF (l.take k ++ [l.getD k 0]) = dgS (dgF (l.take k)) (l.getD k 0) := by unfold dgF; rw [List.foldl_append]; rfl
    rw [h3, Nat.pow_succ]; omega
theorem dig_eq (l : List UInt8) (h : l.length ≤ 2000000) : spec_l17Digits (bs l) = some (if l.take 1 = [45] then w64 (0 - ((dgF (l.take 9) : Nat) : Int)) else ((dgF (l.take 9) : Nat) : Int)) := by
  have hb : ∀ k, k ≤ l.length → k ≤ 9 → dgF (l.take k) < 1000000000 := fun k h1 h2 => by
    have := dgF_lt l k h1
    have h3 := Nat.pow_le_pow_right (n := 10) (by omega) h2
    omega
  have H : iter (fun s => spec_l17Digits_loop1 (bs l) s.1 s.2) ((0 : Int), (0 : Int)) = some ((dgF (l.take (min l.length 9)) : Nat) : Int) :=
    iter_for (min l.length 9) (fun k => (((dgF (l.take k) : Nat) : Int), (k : Int))) (fun k hk => by
      show spec_l17Digits_loop1 (bs l) ((dgF (l.take k) : Nat) : Int) (k : Int) = _
      have hkl : k < l.length := by omega
      have hacc := hb k (by omega) (by omega)
      have e : l.take (k + 1) = l.take k ++ [l.getD k 0] := by
        rw [List.take_add_one, List.getElem?_eq_getElem (by omega), getD_eq l k 0 (by omega)]; rfl
      have h3 : dgF (l.take (k + 1)) = dgS (dgF (l.take k)) (l.getD k 0) := by rw [e]; unfold dgF; rw [List.foldl_append]; rfl
      have hg : 0 ≤ (k : Int) ∧ (k : Int) < ((bs l).size : Int) := by rw [bs_size]; omega
      have hbt : (l.getD k 0).toNat < 256 := UInt8.toNat_lt _
      unfold spec_l17Digits_loop1
      rw [cond_dt hg.2, cond_dt (by omega)]
      simp only [grd_pos hg]
      rw [bAt_get, list_bs, h3, w64_nat (by omega)]
      unfold dgS
      by_cases c1 : (48 : Int) ≤ ((l.getD k 0).toNat : Int)
      · rw [cond_dt c1]
        by_cases c2 : ((l.getD k 0).toNat : Int) ≤ 57
        · rw [cond_dt c2, if_pos (by omega), w64_id (x := (10 : Int) * _) (by omega) (by omega), w64_id (x := ((l.getD k 0).toNat : Int)) (by omega) (by omega), w64_id (x := (10 : Int) * _ + _) (by omega) (by omega), w64_id (by omega) (by omega)]
          refine congrArg (fun z => some (Lp.go (z, ((k + 1 : Nat) : Int)))) ?_
          omega
        · rw [cond_df c2, if_neg (by omega)]
      · rw [cond_df c1, if_neg (by omega)]) (by
      show spec_l17Digits_loop1 (bs l) ((dgF (l.take (min l.length 9)) : Nat) : Int) ((min l.length 9 : Nat) : Int) = _
      unfold spec_l17Digits_loop1
      rw [bs_size]
      by_cases c : ((min l.length 9 : Nat) : Int) < (l.length : Int)
      · rw [cond_dt c, cond_df (by omega)]
      · rw [cond_df c]) rfl
  have hm : l.take (min l.length 9) = l.take 9 := by
    rcases Nat.le_total l.length 9 with q | q
    · rw [Nat.min_eq_left q, List.take_of_length_le (Nat.le_refl _), List.take_of_length_le q]
    · rw [Nat.min_eq_right q]
  unfold spec_l17Digits
  rw [H, hm, Option.bind_some, bs_size]
  match l, h with
  | [], _ => rfl
  | b :: r, _ =>
    rw [cond_dt (by simp only [List.length_cons]; omega), grd_pos (by simp only [List.length_cons]; omega)]
    have e : bAt (bs (b :: r)) (0 : Int) = (b.toNat : Int) := rfl
    rw [e]
    by_cases c : b = 45
    · rw [cond_dt (by rw [c]; rfl), if_pos (by rw [c]; rfl)]
    · rw [cond_df (fun q => c (UInt8.toNat_inj.1 (by show b.toNat = 45; omega))), if_neg (fun q => c (by simpa using q))]
theorem dgF_dec : ∀ (m n : Nat), n ≤ m → dgF (Lib.decDigits n) = n := by
  intro m
  have one : ∀ acc n : Nat, n < 10 → dgS acc (UInt8.ofNat (48 + n)) = 10 * acc + n := fun acc n h => by
    unfold dgS
    rw [ofNat_toNat h, if_pos (by omega)]; omega
  induction m with
  | zero =>
    intro n h
    rw [show n = 0 by omega, dec_one (by decide)]; rfl
  | succ m ih =>
    intro n h
    by_cases h10 : n < 10
    · rw [dec_one h10]
      show dgS 0 _ = n
      rw [one 0 n h10]; omega
    · rw [dec_more h10]
      unfold dgF
      rw [List.foldl_append]
      show dgS (dgF (Lib.decDigits (n / 10))) _ = n
      rw [ih (n / 10) (by omega), one _ _ (by omega)]; omega
theorem dgF_tn (n : Nat) : dgF (tnN n) = n := by
  unfold tnN dgF
  rw [List.foldl_append]
  show (46 :: Lib.decDigits (n % 10)).foldl dgS (dgF (Lib.decDigits (n / 10))) = n
  rw [dgF_dec _ _ (Nat.le_refl _), dec_one (n := n % 10) (by omega)]
  show dgS (dgS (n / 10) 46) (UInt8.ofNat (48 + n % 10)) = n
  have e : dgS (n / 10) 46 = n / 10 := rfl
  rw [e]
  unfold dgS
  rw [ofNat_toNat (by omega), if_pos (by omega)]; omega
theorem dig_tn (v : Int) (h : -999 ≤ v ∧ v ≤ 999) : spec_l17Digits (bs (tnL v)) = some v := by
  have hl := tnL_len h
  rw [dig_eq _ (by omega), List.take_of_length_le (show (tnL v).length ≤ 9 by omega)]
  unfold tnL
  by_cases hv : v < 0
  · rw [if_pos hv, if_pos (by rfl)]
    have e : dgF (45 :: tnN v.natAbs) = dgF (tnN v.natAbs) := rfl
    rw [e, dgF_tn, w64_id (by omega) (by omega)]
    refine congrArg some ?_; omega
  · rw [if_neg hv, if_neg (tnN_head _), dgF_tn]
    refine congrArg some ?_; omega
theorem dig_num (n : Nat) (c : UInt8) (hc : ¬ (48 ≤ c.toNat ∧ c.toNat ≤ 57)) (h : n ≤ 99999) : spec_l17Digits (bs (Lib.decDigits n ++ [c])) = some (n : Int) := by
  have hl := dec_le6 h
  rw [dig_eq _ (by simp; omega), List.take_of_length_le (show (Lib.decDigits n ++ [c]).length ≤ 9 by simp; omega)]
  obtain ⟨b, r, e, h1, h2⟩ := dec_cons n
  rw [if_neg (by
    rw [e]
    intro q
    have : b = 45 := (List.cons.inj q).1
    rw [this] at h1
    exact absurd h1 (by decide))]
  unfold dgF
  rw [List.foldl_append]
  show some ((dgS (dgF (Lib.decDigits n)) c : Nat) : Int) = _
  rw [dgF_dec _ _ (Nat.le_refl _)]
  unfold dgS
  rw [if_neg hc]
end Go.Proofs.YtaajchikfgbecaaGreatDoor
