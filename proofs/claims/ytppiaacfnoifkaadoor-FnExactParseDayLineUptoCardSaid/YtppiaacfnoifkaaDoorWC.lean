/-
  A day's line is read back as the row that it was written for, by both programs.
-/
import Derived.Test.YtppiaacfnoifkaaDoorWB
namespace Go.Proofs.YtppiaacfnoifkaaDoor
open Go.RowKit

def stopW (s : Nat) : List UInt8 := if s = 1 then [115, 116, 111, 112] else [115, 116, 111, 112, 115]
def stopsL (s : Nat) (why : List UInt8) : List UInt8 := Lib.decDigits s ++ 32 :: (stopW s ++ 32 :: 40 :: (why ++ [41]))
theorem lineT_open (h s u dn : Nat) (why : List UInt8) (hh : h ≠ 0) : lineT h s u dn why = (Lib.decDigits u ++ [32, 117, 112]) ++ 44 :: ([32] ++ ((Lib.decDigits dn ++ [32, 100, 111, 119, 110]) ++ 44 :: ([32] ++ ((Lib.decDigits h ++ [32, 104]) ++ (if s = 0 then [] else 44 :: ([32] ++ stopsL s why)))))) := by
  unfold lineT stopsL stopW
  rw [if_neg hh]
  by_cases h0 : s = 0
  · subst h0; simp
  · by_cases h1 : s = 1
    · subst h1
      rw [Lib.decDigits_one (i := 1) (by decide)]; simp
    · rw [if_neg h0, if_neg h0, if_neg h1, if_neg h1]; simp
/-- What a valid row is made of. -/
structure RowOk (d u dn h s : Nat) (why : List UInt8) : Prop where
  hd : d ≤ 999
  hu : u ≤ 99999
  hdn : dn ≤ 99999
  hh : h ≤ 24
  hs : s ≤ 99
  closed : h = 0 → u = 0 ∧ dn = 0 ∧ s = 0
  none : s = 0 → why = []
  word : s ≠ 0 → (∀ b ∈ why, 97 ≤ b.toNat ∧ b.toNat ≤ 122) ∧ 1 ≤ why.length ∧ why.length ≤ 10
theorem row_out (r : DayRow) (h : rowB r = true) : ∃ (d u dn hh s : Nat) (why : List UInt8), r = ((d : Int), (u : Int), (dn : Int), (hh : Int), (s : Int), bs why, ()) ∧ RowOk d u dn hh s why ∧ lineR r = lineL d u dn hh s why := by
  obtain ⟨⟨h1, h2⟩, ⟨h3, h4⟩, h5⟩ := nums_out h
  obtain ⟨d, u, dn, hh, s, why, ⟨⟩⟩ := r
  obtain ⟨why, rfl⟩ := bs_ex why
  dsimp only at h1 h2 h3 h4 h5
  unfold rowB at h
  rw [Bool.and_eq_true, Bool.and_eq_true] at h
  obtain ⟨_, hc, hw⟩ := h
  dsimp only at hc
  unfold whyB at hw
  dsimp only at hw
  refine ⟨d.toNat, u.toNat, dn.toNat, hh.toNat, s.toNat, why, ?_, ⟨by omega, by omega, by omega, by omega, by omega, fun e => ?_, fun e => ?_, fun e => ?_⟩, ?_⟩
  · simp only [Prod.mk.injEq, and_true]
    omega
  · have e : hh = 0 := by omega
    rw [decide_eq_true e, cond_true, decide_eq_true_eq] at hc
    omega
  · have e : s = 0 := by omega
    rw [decide_eq_true e, cond_true, decide_eq_true_eq] at hw
    exact bs_inj.1 hw
  · have e : ¬ s = 0 := by omega
    rw [decide_eq_false e, cond_false] at hw
    unfold wordB at hw
    rw [Bool.and_eq_true, decide_eq_true_eq, list_bs, bs_size, List.all_eq_true] at hw
    obtain ⟨h6, h7⟩ := hw
    refine ⟨fun b hb => ?_, by omega, by omega⟩
    have := h6 b hb
    unfold letB at this
    exact of_decide_eq_true this
  · unfold lineR
    simp only
theorem word_no (c : UInt8) (h : c.toNat < 97 ∨ 122 < c.toNat) {why : List UInt8} (hw : ∀ b ∈ why, 97 ≤ b.toNat ∧ b.toNat ≤ 122) : c ∉ why := fun hm => by
  have := hw c hm
  omega
theorem trimP_app (p a : List UInt8) (h : (p ++ a).length ≤ 2000000) (hp : p.length ≤ 100) : strings_TrimPrefix (bs (p ++ a)) (bs p) = some (bs a) := by
  rw [trimP_bs _ _ h hp, if_pos ⟨by simp, List.take_left ..⟩, List.drop_left ..]
theorem trimS_app (a q : List UInt8) (h : (a ++ q).length ≤ 2000000) (hq : q.length ≤ 100) : strings_TrimSuffix (bs (a ++ q)) (bs q) = some (bs a) := by
  rw [trimS_bs _ _ h hq, cutS_app]
theorem up_get {α : Type} (a b c : α) (l : List α) (d : α) : (a :: b :: c :: l).getD (2 : Int).toNat d = c := rfl
theorem rest_closed (d : Int) : restI d (bs [99, 108, 111, 115, 101, 100]) = some (d, 0, 0, 0, 0, ByteArray.mk #[]) := by
  unfold restI strings_Split
  have h1 : (ByteArray.mk #[44, 32]).size = 2 := rfl
  rw [grd_pos (by rw [bs_size]; exact ⟨by decide, by omega⟩), Option.bind_some]
  have e : splitB (bs [99, 108, 111, 115, 101, 100]) (ByteArray.mk #[44, 32]) = [bs [99, 108, 111, 115, 101, 100]] := split_none 44 [32] _ (by decide)
  rw [e, cond_df (by decide)]
theorem rest_open (d : Int) (u dn h s : Nat) (why : List UInt8) (ok : RowOk d.toNat u dn h s why) (hh : h ≠ 0) : restI d (bs (lineT h s u dn why)) = some (d, (u : Int), (dn : Int), (h : Int), (s : Int), bs why) := by
  have hu := ok.hu
  have hdn := ok.hdn
  have hh24 := ok.hh
  have hs := ok.hs
  have l1 := dec_le u hu
  have l2 := dec_le dn hdn
  have l3 := dec_le h (by omega)
  have l4 := dec_le s (by omega)
  have n1 : (44 : UInt8) ∉ Lib.decDigits u ++ [32, 117, 112] := by
    have := dec_no 44 (by decide) u
    simp [this]
  have n2 : (44 : UInt8) ∉ Lib.decDigits dn ++ [32, 100, 111, 119, 110] := by
    have := dec_no 44 (by decide) dn
    simp [this]
  have n3 : (44 : UInt8) ∉ Lib.decDigits h ++ [32, 104] := by
    have := dec_no 44 (by decide) h
    simp [this]
  have t0 : strings_TrimSuffix (bs (Lib.decDigits u ++ [32, 117, 112])) (ByteArray.mk #[32, 117, 112]) = _ := trimS_app (Lib.decDigits u) [32, 117, 112] (by simp; omega) (by decide)
  have t1 : strings_TrimSuffix (bs (Lib.decDigits dn ++ [32, 100, 111, 119, 110])) (ByteArray.mk #[32, 100, 111, 119, 110]) = _ := trimS_app (Lib.decDigits dn) [32, 100, 111, 119, 110] (by simp; omega) (by decide)
  have t2 : strings_TrimSuffix (bs (Lib.decDigits h ++ [32, 104])) (ByteArray.mk #[32, 104]) = _ := trimS_app (Lib.decDigits h) [32, 104] (by simp; omega) (by decide)
  have hlen : (lineT h s u dn why).length ≤ 1000 := by
    rw [lineT_open _ _ _ _ _ hh]
    by_cases h0 : s = 0
    · rw [if_pos h0]; simp; omega
    · have := (ok.word h0).2.2
      rw [if_neg h0]; unfold stopsL stopW; split <;> simp <;> omega
  unfold restI strings_Split
  have h1 : (ByteArray.mk #[44, 32]).size = 2 := rfl
  rw [grd_pos (by rw [bs_size]; omega), Option.bind_some, lineT_open _ _ _ _ _ hh]
  have e1 := split_app 44 [32] (Lib.decDigits u ++ [32, 117, 112]) ((Lib.decDigits dn ++ [32, 100, 111, 119, 110]) ++ 44 :: ([32] ++ ((Lib.decDigits h ++ [32, 104]) ++ (if s = 0 then [] else 44 :: ([32] ++ stopsL s why))))) n1
  have e2 := split_app 44 [32] (Lib.decDigits dn ++ [32, 100, 111, 119, 110]) ((Lib.decDigits h ++ [32, 104]) ++ (if s = 0 then [] else 44 :: ([32] ++ stopsL s why))) n2
  rw [e2] at e1
  have k9 : bs (44 :: [32]) = ByteArray.mk #[44, 32] := rfl
  rw [k9] at e1
  rw [e1]
  by_cases h0 : s = 0
  · subst h0
    obtain rfl := ok.none rfl
    have e3 := split_none 44 [32] (Lib.decDigits h ++ [32, 104]) n3
    rw [k9] at e3
    rw [if_pos rfl, List.append_nil, e3]
    unfold impl_ParseInt
    rw [cond_dt (by simp), grd_pos (by simp)]
    show ((strings_TrimSuffix (bs (Lib.decDigits u ++ [32, 117, 112])) (ByteArray.mk #[32, 117, 112])).bind _) = _
    rw [t0, Option.bind_some, Option.bind_some, grd_pos (by simp)]
    show ((strings_TrimSuffix (bs (Lib.decDigits dn ++ [32, 100, 111, 119, 110])) (ByteArray.mk #[32, 100, 111, 119, 110])).bind _) = _
    rw [t1, Option.bind_some, Option.bind_some, grd_pos (by simp)]
    show ((strings_TrimSuffix (bs (Lib.decDigits h ++ [32, 104])) (ByteArray.mk #[32, 104])).bind _) = _
    rw [t2, Option.bind_some, Option.bind_some, cond_df (by simp), parse_dec u hu, parse_dec dn hdn, parse_dec h (by omega)]
    rfl
  · obtain ⟨hw, hw1, hw2⟩ := ok.word h0
    have n4 : (44 : UInt8) ∉ stopsL s why := by
      have a1 := dec_no 44 (by decide) s
      have a2 := word_no 44 (by decide) hw
      unfold stopsL stopW
      split <;> simp [a1, a2]
    have e3 := split_app 44 [32] (Lib.decDigits h ++ [32, 104]) (stopsL s why) n3
    rw [split_none 44 [32] _ n4, k9] at e3
    rw [if_neg h0, e3]
    have hsl : (stopsL s why).length ≤ 1000 := by unfold stopsL stopW; split <;> simp <;> omega
    have c1 : strings_Cut (bs (stopsL s why)) (ByteArray.mk #[32, 40]) = _ := cut_bs (stopsL s why) 32 [40] (by omega)
    have c2 : Lib.cut (stopsL s why) [32, 40] = (Lib.decDigits s ++ 32 :: stopW s, why ++ [41], true) := by
      have a1 := dec_no 40 (by decide) s
      have := cut_app2 32 40 (by decide) (Lib.decDigits s ++ 32 :: stopW s) (why ++ [41]) (by unfold stopW; split <;> simp [a1])
      rw [← this]
      unfold stopsL
      simp
    have c3 : strings_Cut (bs (Lib.decDigits s ++ 32 :: stopW s)) (ByteArray.mk #[32]) = _ := cut_bs (Lib.decDigits s ++ 32 :: stopW s) 32 [] (by unfold stopW; split <;> simp <;> omega)
    have c4 : Lib.cut (Lib.decDigits s ++ 32 :: stopW s) [32] = (Lib.decDigits s, stopW s, true) := cut_app 32 [] (Lib.decDigits s) (stopW s) (dec_no 32 (by decide) s)
    have t3 : strings_TrimSuffix (bs (why ++ [41])) (ByteArray.mk #[41]) = _ := trimS_app why [41] (by simp; omega) (by decide)
    rw [c2] at c1
    rw [c4] at c3
    unfold impl_ParseInt
    rw [cond_dt (by simp), grd_pos (by simp)]
    show ((strings_TrimSuffix (bs (Lib.decDigits u ++ [32, 117, 112])) (ByteArray.mk #[32, 117, 112])).bind _) = _
    rw [t0, Option.bind_some, Option.bind_some, grd_pos (by simp)]
    show ((strings_TrimSuffix (bs (Lib.decDigits dn ++ [32, 100, 111, 119, 110])) (ByteArray.mk #[32, 100, 111, 119, 110])).bind _) = _
    rw [t1, Option.bind_some, Option.bind_some, grd_pos (by simp)]
    show ((strings_TrimSuffix (bs (Lib.decDigits h ++ [32, 104])) (ByteArray.mk #[32, 104])).bind _) = _
    rw [t2, Option.bind_some, Option.bind_some, cond_dt (by simp), grd_pos (by simp)]
    show ((strings_Cut (bs (stopsL s why)) (ByteArray.mk #[32, 40])).bind _) = _
    rw [c1, Option.bind_some]
    dsimp only
    rw [c3, Option.bind_some, Option.bind_some]
    dsimp only
    rw [t3, Option.bind_some, parse_dec u hu, parse_dec dn hdn, parse_dec h (by omega), parse_dec s (by omega)]
theorem impl_yes (d u dn h s : Nat) (why : List UInt8) (ok : RowOk d u dn h s why) (hr : rowB ((d : Int), (u : Int), (dn : Int), (h : Int), (s : Int), bs why, ()) = true) (hl : lineR ((d : Int), (u : Int), (dn : Int), (h : Int), (s : Int), bs why, ()) = lineL d u dn h s why) (hlen : (lineL d u dn h s why).length ≤ 2000000) :
    impl_ParseDayLine (bs (lineL d u dn h s why)) = some (((d : Int), (u : Int), (dn : Int), (h : Int), (s : Int), bs why, ()), true) := by
  have hd := ok.hd
  have ld := dec_le d (by omega)
  have form : lineL d u dn h s why = ([100, 97, 121, 32] ++ Lib.decDigits d) ++ 58 :: ([32] ++ lineT h s u dn why) := by unfold lineL; simp
  have n1 : (58 : UInt8) ∉ [100, 97, 121, 32] ++ Lib.decDigits d := by
    have := dec_no 58 (by decide) d
    simp [this]
  have c1 : strings_Cut (bs (lineL d u dn h s why)) (ByteArray.mk #[58, 32]) = _ := cut_bs _ 58 [32] hlen
  have c2 : Lib.cut (lineL d u dn h s why) [58, 32] = _ := (congrArg (fun z => Lib.cut z [58, 32]) form).trans (cut_app 58 [32] ([100, 97, 121, 32] ++ Lib.decDigits d) (lineT h s u dn why) n1)
  rw [c2] at c1
  have t1 : strings_TrimPrefix (bs ([100, 97, 121, 32] ++ Lib.decDigits d)) (ByteArray.mk #[100, 97, 121, 32]) = _ := trimP_app [100, 97, 121, 32] (Lib.decDigits d) (by simp; omega) (by decide)
  rw [impl_form, c1, Option.bind_some]
  dsimp only
  rw [t1, Option.bind_some]
  unfold impl_ParseInt
  rw [Option.bind_some, parse_dec d (by omega)]
  dsimp only
  by_cases hh : h = 0
  · obtain ⟨rfl, rfl, rfl⟩ := ok.closed hh
    obtain rfl := ok.none rfl
    subst hh
    have e : lineT 0 0 0 0 [] = [99, 108, 111, 115, 101, 100] := rfl
    rw [e, rest_closed, Option.bind_some]
    exact tailI_yes _ ((d : Int), 0, 0, 0, 0, ByteArray.mk #[]) (by show (ByteArray.mk #[]).size ≤ 1000000000; decide) hr hl
  · have hb : (bs why).size ≤ 1000000000 := by
      rw [bs_size]
      by_cases h0 : s = 0
      · rw [ok.none h0]; simp
      · have := (ok.word h0).2.2; omega
    rw [rest_open (d : Int) u dn h s why ok hh, Option.bind_some]
    exact tailI_yes _ ((d : Int), (u : Int), (dn : Int), (h : Int), (s : Int), bs why) hb hr hl
end Go.Proofs.YtppiaacfnoifkaaDoor
