/-
  The reference reads the same row out of a line; and the law of ParseDayLine.
-/
import Derived.Test.YtppiaacfnoifkaaDoorWC
namespace Go.Proofs.YtppiaacfnoifkaaDoor
open Go.RowKit

theorem get_bs (ws : List (List UInt8)) (k : Nat) : (ws.map bs).getD k (ByteArray.mk #[]) = bs (ws.getD k []) := by
  rw [List.getD_eq_getElem?_getD, List.getD_eq_getElem?_getD, List.getElem?_map]
  cases ws[k]? <;> rfl
abbrev tailN (l : List UInt8) : List UInt8 := l.take (l.length - 1)
/-- The row that the words of a line tell. -/
def zS (ws : List (List UInt8)) : Int × Int × Int × Int × Int × ByteArray :=
  ((parseI (bs (tailN (ws.getD 1 [])))).1,
   if 3 < ws.length then (parseI (bs (ws.getD 2 []))).1 else 0,
   if 3 < ws.length then (parseI (bs (ws.getD 4 []))).1 else 0,
   if 3 < ws.length then (parseI (bs (ws.getD 6 []))).1 else 0,
   if ws.length = 11 ∧ 2 < (ws.getD 10 []).length then (parseI (bs (ws.getD 8 []))).1 else 0,
   if ws.length = 11 ∧ 2 < (ws.getD 10 []).length then bs ((tailN (ws.getD 10 [])).drop 1) else ByteArray.mk #[])
theorem zS_eleven (ws : List (List UInt8)) (h : ws.length = 11) (h2 : 2 < (ws.getD 10 []).length) : zS ws = ((parseI (bs (tailN (ws.getD 1 [])))).1, (parseI (bs (ws.getD 2 []))).1, (parseI (bs (ws.getD 4 []))).1, (parseI (bs (ws.getD 6 []))).1, (parseI (bs (ws.getD 8 []))).1, bs ((tailN (ws.getD 10 [])).drop 1)) := by
  unfold zS
  rw [if_pos (by omega), if_pos (by omega), if_pos (by omega), if_pos ⟨h, h2⟩, if_pos ⟨h, h2⟩]
theorem zS_size (ws : List (List UInt8)) (h : ∀ k, (ws.getD k []).length ≤ 1000) : (zS ws).2.2.2.2.2.size ≤ 1000000000 := by
  unfold zS
  dsimp only
  split
  · have := h 10
    rw [bs_size, List.length_drop, List.length_take]; omega
  · decide
theorem goS_eq (a0 : ByteArray) (ws : List (List UInt8)) (h : ∀ k, (ws.getD k []).length ≤ 1000) (hn : ws.length = 3 ∨ ws.length = 8 ∨ ws.length = 11) (h1 : 2 ≤ (ws.getD 1 []).length) :
    goS a0 ((ws.length : Int), ws.map bs) = tailS a0 (zS ws) := by
  have hm : (ws.map bs).length = ws.length := List.length_map ..
  have hk1 := h 1
  have hk10 := h 10
  have w1 : w64 (((ws.getD 1 []).length : Int) - 1) = (((ws.getD 1 []).length - 1 : Nat) : Int) := by rw [w64_id (by omega) (by omega)]; omega
  have g1 : (ws.map bs).getD (1 : Int).toNat (ByteArray.mk #[]) = bs (ws.getD 1 []) := get_bs ws 1
  have g2 : (ws.map bs).getD (2 : Int).toNat (ByteArray.mk #[]) = bs (ws.getD 2 []) := get_bs ws 2
  have g4 : (ws.map bs).getD (4 : Int).toNat (ByteArray.mk #[]) = bs (ws.getD 4 []) := get_bs ws 4
  have g6 : (ws.map bs).getD (6 : Int).toNat (ByteArray.mk #[]) = bs (ws.getD 6 []) := get_bs ws 6
  have g8 : (ws.map bs).getD (8 : Int).toNat (ByteArray.mk #[]) = bs (ws.getD 8 []) := get_bs ws 8
  have g10 : (ws.map bs).getD (10 : Int).toNat (ByteArray.mk #[]) = bs (ws.getD 10 []) := get_bs ws 10
  have b1 : bsub (bs (ws.getD 1 [])) (0 : Int) (((ws.getD 1 []).length - 1 : Nat) : Int) = bs (tailN (ws.getD 1 [])) := by
    rw [bsub_bs, show (0 : Int).toNat = 0 from rfl, List.drop_zero, Int.toNat_natCast, Nat.sub_zero]
  have r1 := l1Read_eq (tailN (ws.getD 1 [])) (by rw [List.length_take]; omega)
  have r2 := l1Read_eq (ws.getD 2 []) (by have := h 2; omega)
  have r4 := l1Read_eq (ws.getD 4 []) (by have := h 4; omega)
  have r6 := l1Read_eq (ws.getD 6 []) (by have := h 6; omega)
  have r8 := l1Read_eq (ws.getD 8 []) (by have := h 8; omega)
  unfold goS zS
  dsimp only
  rw [hm, g1, grd_pos (by omega), grd_pos (by omega), bs_size, w1, grd_pos (by omega), b1, r1, Option.bind_some, Option.bind_some]
  dsimp only
  rcases hn with hn | hn | hn
  · rw [cond_df (by omega), Option.bind_some]
    dsimp only
    rw [cond_df (by omega), Option.bind_some, cond_false, Option.bind_some, if_neg (by omega), if_neg (by omega), if_neg (by omega), if_neg (by omega), if_neg (by omega)]
  · rw [cond_dt (by omega), hm, grd_pos (by omega), g2, r2, Option.bind_some, grd_pos (by omega), g4, r4, Option.bind_some, grd_pos (by omega), g6, r6, Option.bind_some, Option.bind_some]
    dsimp only
    rw [cond_df (by omega), Option.bind_some, cond_false, Option.bind_some, if_pos (by omega), if_pos (by omega), if_pos (by omega), if_neg (by omega), if_neg (by omega)]
  · rw [cond_dt (by omega), hm, grd_pos (by omega), g2, r2, Option.bind_some, grd_pos (by omega), g4, r4, Option.bind_some, grd_pos (by omega), g6, r6, Option.bind_some, Option.bind_some]
    dsimp only
    rw [cond_dt (by omega), hm, grd_pos (by omega), g10, bs_size, Option.bind_some]
    dsimp only
    by_cases h2 : 2 < (ws.getD 10 []).length
    · have w10 : w64 (((ws.getD 10 []).length : Int) - 1) = (((ws.getD 10 []).length - 1 : Nat) : Int) := by rw [w64_id (by omega) (by omega)]; omega
      have b10 : bsub (bs (ws.getD 10 [])) (1 : Int) (((ws.getD 10 []).length - 1 : Nat) : Int) = bs ((tailN (ws.getD 10 [])).drop 1) := by
        rw [bsub_bs, show (1 : Int).toNat = 1 from rfl, Int.toNat_natCast, List.drop_take]
      rw [cond_dt (by omega), hm, grd_pos (by omega), g8, r8, Option.bind_some, grd_pos (by omega), grd_pos (by omega), g10, bs_size, w10, grd_pos (by omega), b10, Option.bind_some, if_pos (by omega), if_pos (by omega), if_pos (by omega), if_pos ⟨hn, h2⟩, if_pos ⟨hn, h2⟩]
    · rw [cond_df (by omega), Option.bind_some, if_pos (by omega), if_pos (by omega), if_pos (by omega), if_neg (by omega), if_neg (by omega)]
theorem spl_part (c : UInt8) : ∀ (l z : List UInt8), z ∈ spl c l → z.length ≤ l.length := by
  intro l
  induction l with
  | nil => intro z hz; simp [spl] at hz; simp [hz]
  | cons b l ih =>
    intro z hz
    unfold spl at hz
    split at hz
    · rcases List.mem_cons.1 hz with hz | hz
      · simp [hz]
      · have := ih z hz; simp; omega
    · cases hq : spl c l with
      | nil => rw [hq] at hz; simp at hz; simp [hz]
      | cons q qs =>
        rw [hq] at hz
        rcases List.mem_cons.1 hz with hz | hz
        · have := ih q (by rw [hq]; simp)
          rw [hz]; simp; omega
        · have := ih z (by rw [hq]; simp [hz])
          simp; omega
theorem preS_eq (s : List UInt8) (ws : List (List UInt8)) :
    preS (bs s) (ws.map bs) = if s.length ≤ 80 ∧ (ws.length = 3 ∨ ws.length = 8 ∨ ws.length = 11) ∧ 2 ≤ (ws.getD 1 []).length then some (.go ((ws.length : Int), ws.map bs)) else some (.out noRow) := by
  have hm : (ws.map bs).length = ws.length := List.length_map ..
  have g1 : (ws.map bs).getD (1 : Int).toNat (ByteArray.mk #[]) = bs (ws.getD 1 []) := get_bs ws 1
  unfold preS
  rw [hm, g1, bs_size, bs_size]
  by_cases h8 : s.length ≤ 80
  case neg => rw [cond_dt (by omega), if_neg (by omega)]; rfl
  rw [cond_df (by omega)]
  have last : ∀ hn : 1 < ws.length, (ws.length = 3 ∨ ws.length = 8 ∨ ws.length = 11) → grd (0 ≤ (1 : Int) ∧ (1 : Int) < (ws.length : Int)) (cond (decide (((ws.getD 1 []).length : Int) < (2 : Int))) (outm ((some (((0 : Int), (0 : Int), (0 : Int), (0 : Int), (0 : Int), (ByteArray.mk #[]), ()), false)))) ((some (Lp.go ((ws.length : Int), ws.map bs))))) = (if s.length ≤ 80 ∧ (ws.length = 3 ∨ ws.length = 8 ∨ ws.length = 11) ∧ 2 ≤ (ws.getD 1 []).length then some (.go ((ws.length : Int), ws.map bs)) else some (.out noRow)) := fun hn hl => by
    rw [grd_pos (by omega)]
    by_cases h2 : (ws.getD 1 []).length < 2
    · rw [cond_dt (by omega), if_neg (by omega)]; rfl
    · rw [cond_df (by omega), if_pos ⟨h8, hl, by omega⟩]
  by_cases h3 : ws.length = 3
  · rw [cond_ndt (by omega)]; exact last (by omega) (.inl h3)
  rw [cond_ndf (by omega)]
  by_cases h4 : ws.length = 8
  · rw [cond_ndt (by omega)]; exact last (by omega) (.inr (.inl h4))
  rw [cond_ndf (by omega)]
  by_cases h5 : ws.length = 11
  · rw [cond_ndt (by omega)]; exact last (by omega) (.inr (.inr h5))
  rw [cond_ndf (by omega), if_neg (by omega)]; rfl
theorem getD_part (s : List UInt8) (k : Nat) : ((spl 32 s).getD k []).length ≤ s.length := by
  by_cases hk : k < (spl 32 s).length
  · rw [getD_eq _ _ _ hk]
    exact spl_part 32 s _ (List.getElem_mem hk)
  · rw [List.getD_eq_getElem?_getD, List.getElem?_eq_none (by omega)]; simp
theorem spec_no (s : List UInt8) (hs : s.length ≤ 2000000) (h : ∀ r, rowB r = true → lineR r ≠ s) : spec_ParseDayLine (bs s) = some noRow := by
  have e : spec_l1Split (bs s) (32 : Int) = some ((spl 32 s).map bs) := split_eq s 32 (by omega)
  rw [spec_form, e, Option.bind_some, preS_eq]
  split
  · rename_i hc
    have hk : ∀ k, ((spl 32 s).getD k []).length ≤ 1000 := fun k => by have := getD_part s k; omega
    show goS (bs s) _ = _
    rw [goS_eq _ _ hk hc.2.1 hc.2.2]
    exact tailS_no s _ (zS_size _ hk) h
  · rfl
theorem words_closed (d : Nat) : spl 32 (lineL d 0 0 0 0 []) = [[100, 97, 121], Lib.decDigits d ++ [58], [99, 108, 111, 115, 101, 100]] := by
  have form : lineL d 0 0 0 0 [] = [100, 97, 121] ++ 32 :: ((Lib.decDigits d ++ [58]) ++ 32 :: [99, 108, 111, 115, 101, 100]) := by
    unfold lineL lineT; simp
  have n1 : (32 : UInt8) ∉ Lib.decDigits d ++ [58] := by
    have := dec_no 32 (by decide) d
    simp [this]
  rw [form, spl_app 32 _ _ (by decide), spl_app 32 _ _ n1]
  rfl
theorem words_open (d u dn h : Nat) (hh : h ≠ 0) : spl 32 (lineL d u dn h 0 []) = [[100, 97, 121], Lib.decDigits d ++ [58], Lib.decDigits u, [117, 112, 44], Lib.decDigits dn, [100, 111, 119, 110, 44], Lib.decDigits h, [104]] := by
  have form : lineL d u dn h 0 [] = [100, 97, 121] ++ 32 :: ((Lib.decDigits d ++ [58]) ++ 32 :: (Lib.decDigits u ++ 32 :: ([117, 112, 44] ++ 32 :: (Lib.decDigits dn ++ 32 :: ([100, 111, 119, 110, 44] ++ 32 :: (Lib.decDigits h ++ 32 :: [104])))))) := by
    unfold lineL lineT; rw [if_neg hh]; simp
  have n1 : (32 : UInt8) ∉ Lib.decDigits d ++ [58] := by
    have := dec_no 32 (by decide) d
    simp [this]
  rw [form, spl_app 32 _ _ (by decide), spl_app 32 _ _ n1, spl_app 32 _ _ (dec_no 32 (by decide) u), spl_app 32 _ _ (by decide), spl_app 32 _ _ (dec_no 32 (by decide) dn), spl_app 32 _ _ (by decide), spl_app 32 _ _ (dec_no 32 (by decide) h)]
  rfl
theorem words_stops (d u dn h s : Nat) (why : List UInt8) (hh : h ≠ 0) (h0 : s ≠ 0) (hw : (32 : UInt8) ∉ why) : spl 32 (lineL d u dn h s why) = [[100, 97, 121], Lib.decDigits d ++ [58], Lib.decDigits u, [117, 112, 44], Lib.decDigits dn, [100, 111, 119, 110, 44], Lib.decDigits h, [104, 44], Lib.decDigits s, stopW s, 40 :: (why ++ [41])] := by
  have form : lineL d u dn h s why = [100, 97, 121] ++ 32 :: ((Lib.decDigits d ++ [58]) ++ 32 :: (Lib.decDigits u ++ 32 :: ([117, 112, 44] ++ 32 :: (Lib.decDigits dn ++ 32 :: ([100, 111, 119, 110, 44] ++ 32 :: (Lib.decDigits h ++ 32 :: ([104, 44] ++ 32 :: (Lib.decDigits s ++ 32 :: (stopW s ++ 32 :: (40 :: (why ++ [41]))))))))))) := by
    unfold lineL
    rw [lineT_open _ _ _ _ _ hh, if_neg h0]
    unfold stopsL
    simp
  have n1 : (32 : UInt8) ∉ Lib.decDigits d ++ [58] := by
    have := dec_no 32 (by decide) d
    simp [this]
  have n2 : (32 : UInt8) ∉ stopW s := by unfold stopW; split <;> decide
  have n3 : (32 : UInt8) ∉ 40 :: (why ++ [41]) := by simp [hw]
  rw [form, spl_app 32 _ _ (by decide), spl_app 32 _ _ n1, spl_app 32 _ _ (dec_no 32 (by decide) u), spl_app 32 _ _ (by decide), spl_app 32 _ _ (dec_no 32 (by decide) dn), spl_app 32 _ _ (by decide), spl_app 32 _ _ (dec_no 32 (by decide) h), spl_app 32 _ _ (by decide), spl_app 32 _ _ (dec_no 32 (by decide) s), spl_app 32 _ _ n2, spl_not 32 _ n3]
theorem line_len (d u dn h s : Nat) (why : List UInt8) (ok : RowOk d u dn h s why) : (lineL d u dn h s why).length ≤ 80 := by
  have l0 : (Lib.decDigits d).length ≤ 3 := dec_length 2 d (by have := ok.hd; omega)
  have l1 : (Lib.decDigits u).length ≤ 5 := dec_length 4 u (by have := ok.hu; omega)
  have l2 : (Lib.decDigits dn).length ≤ 5 := dec_length 4 dn (by have := ok.hdn; omega)
  have l3 : (Lib.decDigits h).length ≤ 2 := dec_length 1 h (by have := ok.hh; omega)
  have l4 : (Lib.decDigits s).length ≤ 2 := dec_length 1 s (by have := ok.hs; omega)
  unfold lineL
  by_cases hh : h = 0
  · unfold lineT; rw [if_pos hh]; simp; omega
  · rw [lineT_open _ _ _ _ _ hh]
    by_cases h0 : s = 0
    · rw [if_pos h0]; simp; omega
    · have := (ok.word h0).2.2
      rw [if_neg h0]; unfold stopsL stopW; split <;> simp <;> omega
theorem tailN_app (a : List UInt8) (b : UInt8) : tailN (a ++ [b]) = a := by
  show (a ++ [b]).take ((a ++ [b]).length - 1) = a
  have : (a ++ [b]).length - 1 = a.length := by simp
  rw [this, List.take_left]
theorem dec_pos (n : Nat) : 1 ≤ (Lib.decDigits n).length := by
  obtain ⟨b, r, e, _⟩ := dec_cons n
  rw [e]; simp
theorem spec_yes (d u dn h s : Nat) (why : List UInt8) (ok : RowOk d u dn h s why) (hr : rowB ((d : Int), (u : Int), (dn : Int), (h : Int), (s : Int), bs why, ()) = true) (hl : lineR ((d : Int), (u : Int), (dn : Int), (h : Int), (s : Int), bs why, ()) = lineL d u dn h s why) :
    spec_ParseDayLine (bs (lineL d u dn h s why)) = some (((d : Int), (u : Int), (dn : Int), (h : Int), (s : Int), bs why, ()), true) := by
  have hlen := line_len d u dn h s why ok
  have e : spec_l1Split (bs (lineL d u dn h s why)) (32 : Int) = some ((spl 32 (lineL d u dn h s why)).map bs) := split_eq _ 32 (by omega)
  have hk : ∀ k, ((spl 32 (lineL d u dn h s why)).getD k []).length ≤ 1000 := fun k => by have := getD_part (lineL d u dn h s why) k; omega
  have pd := parse_dec d (by have := ok.hd; omega)
  have pu := parse_dec u ok.hu
  have pdn := parse_dec dn ok.hdn
  have ph := parse_dec h (by have := ok.hh; omega)
  have ps := parse_dec s (by have := ok.hs; omega)
  have hd1 := dec_pos d
  have key : ((spl 32 (lineL d u dn h s why)).length = 3 ∨ (spl 32 (lineL d u dn h s why)).length = 8 ∨ (spl 32 (lineL d u dn h s why)).length = 11) ∧ 2 ≤ ((spl 32 (lineL d u dn h s why)).getD 1 []).length ∧ zS (spl 32 (lineL d u dn h s why)) = ((d : Int), (u : Int), (dn : Int), (h : Int), (s : Int), bs why) := by
    by_cases hh : h = 0
    · obtain ⟨rfl, rfl, rfl⟩ := ok.closed hh
      obtain rfl := ok.none rfl
      subst hh
      rw [words_closed]
      refine ⟨.inl rfl, by show 2 ≤ (Lib.decDigits d ++ [58]).length; simp; omega, ?_⟩
      show ((parseI (bs (tailN (Lib.decDigits d ++ [58])))).1, (0 : Int), (0 : Int), (0 : Int), (0 : Int), ByteArray.mk #[]) = _
      rw [tailN_app, pd]
      rfl
    · by_cases h0 : s = 0
      · subst h0
        obtain rfl := ok.none rfl
        rw [words_open d u dn h hh]
        refine ⟨.inr (.inl rfl), by show 2 ≤ (Lib.decDigits d ++ [58]).length; simp; omega, ?_⟩
        show ((parseI (bs (tailN (Lib.decDigits d ++ [58])))).1, (parseI (bs (Lib.decDigits u))).1, (parseI (bs (Lib.decDigits dn))).1, (parseI (bs (Lib.decDigits h))).1, (0 : Int), ByteArray.mk #[]) = _
        rw [tailN_app, pd, pu, pdn, ph]
        rfl
      · obtain ⟨hw, hw1, _⟩ := ok.word h0
        rw [words_stops d u dn h s why hh h0 (word_no 32 (by decide) hw)]
        refine ⟨.inr (.inr rfl), by show 2 ≤ (Lib.decDigits d ++ [58]).length; simp; omega, ?_⟩
        have h2 : 2 < (40 :: (why ++ [41])).length := by simp; omega
        refine (zS_eleven [[100, 97, 121], Lib.decDigits d ++ [58], Lib.decDigits u, [117, 112, 44], Lib.decDigits dn, [100, 111, 119, 110, 44], Lib.decDigits h, [104, 44], Lib.decDigits s, stopW s, 40 :: (why ++ [41])] rfl h2).trans ?_
        show ((parseI (bs (tailN (Lib.decDigits d ++ [58])))).1, (parseI (bs (Lib.decDigits u))).1, (parseI (bs (Lib.decDigits dn))).1, (parseI (bs (Lib.decDigits h))).1, (parseI (bs (Lib.decDigits s))).1, bs ((tailN ((40 :: why) ++ [41])).drop 1)) = _
        rw [tailN_app, tailN_app, pd, pu, pdn, ph, ps]
        rfl
  obtain ⟨k1, k2, k3⟩ := key
  rw [spec_form, e, Option.bind_some, preS_eq, if_pos ⟨hlen, k1, k2⟩]
  show goS (bs (lineL d u dn h s why)) _ = _
  rw [goS_eq _ _ hk k1 k2, k3]
  exact tailS_yes _ ((d : Int), (u : Int), (dn : Int), (h : Int), (s : Int), bs why) (by show (bs why).size ≤ 1000000000; have := zS_size _ hk; rw [k3] at this; exact this) hr hl
theorem parse_both (s : List UInt8) (hs : s.length ≤ 2000000) : ∃ y, spec_ParseDayLine (bs s) = some y ∧ impl_ParseDayLine (bs s) = some y := by
  by_cases h : ∃ r, rowB r = true ∧ lineR r = s
  · obtain ⟨r, hr, hl⟩ := h
    obtain ⟨d, u, dn, hh, t, why, rfl, ok, e⟩ := row_out r hr
    rw [e] at hl
    subst hl
    exact ⟨_, spec_yes d u dn hh t why ok hr e, impl_yes d u dn hh t why ok hr e hs⟩
  · have h : ∀ r, rowB r = true → lineR r ≠ s := fun r hr hl => h ⟨r, hr, hl⟩
    exact ⟨_, spec_no s hs h, impl_no s hs h⟩
theorem eqRow_eq (a : DayRow) : laws_eqDayRow a a = some true := by
  unfold laws_eqDayRow
  rw [cond_ndt rfl, cond_ndt rfl, cond_ndt rfl, cond_ndt rfl, cond_ndt rfl, cond_ndt rfl]
theorem law_FnExactParseDayLine (s : ByteArray) (_ : Ty.fit .str s) : laws_FnExactParseDayLine s = some true := by
  obtain ⟨s, rfl⟩ := bs_ex s
  unfold laws_FnExactParseDayLine
  by_cases hq : (1048576 : Int) < ((bs s).size : Int)
  · rw [cond_dt hq]
  rw [cond_df hq]
  rw [bs_size] at hq
  obtain ⟨y, e1, e2⟩ := parse_both s (by omega)
  rw [e1, Option.bind_some, e2, Option.bind_some]
  have e3 : laws_eqDayRow (y.1.1, y.1.2.1, y.1.2.2.1, y.1.2.2.2.1, y.1.2.2.2.2.1, y.1.2.2.2.2.2.1, ()) (y.1.1, y.1.2.1, y.1.2.2.1, y.1.2.2.2.1, y.1.2.2.2.2.1, y.1.2.2.2.2.2.1, ()) = some true := eqRow_eq _
  rw [e3, Option.bind_some]
  simp
end Go.Proofs.YtppiaacfnoifkaaDoor
