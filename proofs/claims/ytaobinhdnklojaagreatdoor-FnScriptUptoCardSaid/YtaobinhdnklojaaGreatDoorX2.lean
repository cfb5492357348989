/-
  What a row's listed variables and the shape of its first world give.
-/
import Derived.Test.YtaobinhdnklojaaGreatDoorVL
import Derived.Test.YtaobinhdnklojaaGreatDoorC803
import Derived.Test.YtaobinhdnklojaaGreatDoorRows
import Derived.LaidLaws
namespace Go.Proofs.YtaobinhdnklojaaGreatDoor
open Go.RowKit

def prt (s : Slot) : List UInt8 := if s.1 = 0 then [45] else Lib.decDigits s.1.toNat ++ [47] ++ Lib.decDigits s.2.2.1.toNat ++ (if s.2.1 = true then [42] else [])
theorem vjs (xs : List (List UInt8)) (y sep : List UInt8) : Lib.join (xs ++ [y]) sep = (if xs.length = 0 then Lib.join xs sep else Lib.join xs sep ++ sep) ++ y := by
 cases xs with
 | nil => simp [Lib.join_one, Lib.join_nil]
 | cons x r =>
   rw [List.cons_append, Lib.join_cons, Lib.join_cons]
   simp [Lib.joinTail]
structure SlotOk (c : Int) (o : Bool) (p : Int) : Prop where
 c0 : 0 ≤ c
 c1 : c ≤ 20
 p0 : 0 ≤ p
 p1 : p ≤ 8
 shut : c = 0 → o = false
theorem iOk_slot {l : List Slot} {k : Nat} (h : iOk l k = true) : SlotOk (cab l k) (opn l k) (ppl l k) := by
 simp only [iOk, Bool.and_eq_true, decide_eq_true_eq] at h
 refine ⟨h.1.1, h.1.2, h.2.1.1, h.2.1.2, fun h0 => ?_⟩
 have h3 := h.2.2
 rw [if_pos h0] at h3
 simp only [Bool.and_eq_true, Bool.not_eq_true'] at h3
 exact h3.1
theorem prt_len {c : Int} {o : Bool} {p : Int} (h : SlotOk c o p) : (prt (c, o, p, ())).length ≤ 6 := by
 obtain ⟨h1, h2, h3, h4, _⟩ := h
 unfold prt
 have d1 : (Lib.decDigits c.toNat).length ≤ 2 := dl1 1 c.toNat (by omega)
 have d2 : (Lib.decDigits p.toNat).length ≤ 1 := dl1 0 p.toNat (by omega)
 split
 ·simp
 ·cases o <;> simp <;> omega
theorem nn {c : Int} (h : 0 ≤ c) : c = ((c.toNat : Nat) : Int) := by omega
theorem impl_step (a : C1) (k : Nat) (hk : k < a.1.2.1.length) (h10 : a.1.2.1.length ≤ 10) (hi : iOk a.1.2.1 k = true) (parts : List ByteArray) (hp : parts.length ≤ 10) :
  iFCl a (k : Int) parts = some (.go (((k + 1 : Nat) : Int), parts ++ [bs (prt (a.1.2.1.getD k dS))])) := by
 have hs := iOk_slot hi
 unfold iFCl
 rw [cd1 (by omega), gp1 (by omega), Int.toNat_natCast, wn (by omega)]
 simp only [cab, opn, ppl] at hs
 generalize a.1.2.1.getD k dS = s at hs
 obtain ⟨c, o, p, u⟩ := s
 have hl := prt_len hs
 obtain ⟨h1, h2, h3, h4, h5⟩ := hs
 dsimp only at h1 h2 h3 h4 h5 hl ⊢
 by_cases h0 : c = 0
 ·obtain rfl := h5 h0
  rw [cd (by omega), cond_false, gp1 (by simp only [List.length_cons, List.length_nil]; omega)]
  unfold prt
  rw [if_pos h0]
 ·have d1 : (Lib.decDigits c.toNat).length ≤ 2 := dl1 1 c.toNat (by omega)
  have d2 : (Lib.decDigits p.toNat).length ≤ 1 := dl1 0 p.toNat (by omega)
  have e1 : strconv_Itoa c = some (bs (Lib.decDigits c.toNat)) := (congrArg strconv_Itoa (nn h1)).trans (ie c.toNat (by omega))
  have e2 : strconv_Itoa p = some (bs (Lib.decDigits p.toNat)) := (congrArg strconv_Itoa (nn h3)).trans (ie p.toNat (by omega))
  rw [cd1 (by omega), e1, Option.bind_some, gp1 (by simp only [bs1, List.length_cons, List.length_nil]; omega), e2, Option.bind_some, gp1 (by simp only [ba, bs1, List.length_append, List.length_cons, List.length_nil]; omega)]
  unfold prt
  rw [if_neg h0]
  cases o with
  | true =>
    rw [cond_true, gp1 (by simp only [ba, bs1, List.length_append, List.length_cons, List.length_nil]; omega), gp1 (by simp only [List.length_cons, List.length_nil]; omega)]
    simp only [ba, if_true, List.append_assoc]
  | false =>
    rw [cond_false, gp1 (by simp only [List.length_cons, List.length_nil]; omega)]
    simp only [ba, Bool.false_eq_true, if_false, List.append_nil, List.append_assoc]
theorem spec_step (a : C1) (k : Nat) (hk : k < a.1.2.1.length) (h10 : a.1.2.1.length ≤ 10) (hi : iOk a.1.2.1 k = true) (out : List UInt8) (hp : out.length ≤ 100) :
  sFCl a (bs out) (k : Int) = some (.go (bs ((if k = 0 then out else out ++ [32]) ++ prt (a.1.2.1.getD k dS)), ((k + 1 : Nat) : Int))) := by
 have hs := iOk_slot hi
 unfold sFCl
 have hz : (cond (decide ((0 : Int) < (k : Int))) (grd ((bs out).size + (ByteArray.mk #[32]).size ≤ 9223372036854775807) ((some (bs out ++ (ByteArray.mk #[32]))))) ((some (bs out)))) = some (bs (if k = 0 then out else out ++ [32])) := by
  by_cases h0 : k = 0
  ·rw [cd (by omega), if_pos h0]
  ·rw [cd1 (by omega), if_neg h0, gp1 (by simp only [bs1, List.length_cons, List.length_nil]; omega)]
   simp only [ba]
 rw [cd1 (by omega), hz, Option.bind_some, gp1 (by omega), Int.toNat_natCast, wn (by omega)]
 have hq : (if k = 0 then out else out ++ [32]).length ≤ 101 := by split <;> (try simp only [List.length_append, List.length_cons, List.length_nil]) <;> omega
 generalize (if k = 0 then out else out ++ [32]) = q at hq
 simp only [cab, opn, ppl] at hs
 generalize a.1.2.1.getD k dS = s at hs
 obtain ⟨c, o, p, u⟩ := s
 obtain ⟨h1, h2, h3, h4, h5⟩ := hs
 dsimp only at h1 h2 h3 h4 h5 ⊢
 by_cases h0 : c = 0
 ·rw [cd1 h0, gp1 (by simp only [bs1, List.length_cons, List.length_nil]; omega)]
  unfold prt
  rw [if_pos h0]
  simp only [ba]
 ·have d1 : (Lib.decDigits c.toNat).length ≤ 2 := dl1 1 c.toNat (by omega)
  have d2 : (Lib.decDigits p.toNat).length ≤ 1 := dl1 0 p.toNat (by omega)
  have e1 : slN c = some (bs (Lib.decDigits c.toNat)) := (congrArg slN (nn h1)).trans (lNe c.toNat (by omega))
  have e2 : slN p = some (bs (Lib.decDigits p.toNat)) := (congrArg slN (nn h3)).trans (lNe p.toNat (by omega))
  rw [cd h0, e1, Option.bind_some, gp1 (by simp only [bs1]; omega), gp1 (by simp only [ba, bs1, List.length_append, List.length_cons, List.length_nil]; omega), e2, Option.bind_some, gp1 (by simp only [ba, bs1, List.length_append, List.length_cons, List.length_nil]; omega)]
  unfold prt
  rw [if_neg h0]
  cases o with
  | true =>
    rw [cond_true, gp1 (by simp only [ba, bs1, List.length_append, List.length_cons, List.length_nil]; omega)]
    simp only [ba, if_true, List.append_assoc]
  | false =>
    rw [cond_false]
    simp only [ba, Bool.false_eq_true, if_false, List.append_nil, List.append_assoc]
abbrev prs (l : List Slot) (k : Nat) : List (List UInt8) := (l.take k).map prt
theorem prs_succ (l : List Slot) (k : Nat) (hk : k < l.length) : prs l (k + 1) = prs l k ++ [prt (l.getD k dS)] := by
 unfold prs
 rw [List.take_succ_eq_append_getElem hk, List.map_append, List.getD_eq_getElem?_getD, List.getElem?_eq_getElem hk]
 rfl
theorem prs_length (l : List Slot) (k : Nat) (hk : k ≤ l.length) : (prs l k).length = k := by simp [prs]; omega
theorem join_len (l : List Slot) (h : ∀ k, k < l.length → iOk l k = true) : ∀ k, k ≤ l.length → (Lib.join (prs l k) [32]).length ≤ 7 * k
 | 0, _ => by simp [prs, Lib.join_nil]
 | k + 1, hk => by
   have ih := join_len l h k (by omega)
   have hp := prt_len (iOk_slot (h k (by omega)))
   have hp : (prt (l.getD k dS)).length ≤ 6 := hp
   rw [prs_succ l k (by omega), vjs, List.length_append]
   split <;> (try simp only [List.length_append, List.length_cons, List.length_nil]) <;> omega
theorem both_text (x : Int) (l : List Slot) (w t d : Int) (D P : ByteArray) (n : Int) (h10 : l.length ≤ 10) (hi : ∀ k, k < l.length → iOk l k = true) :
  iter (fun s => sFCl ((x, l, w, t, d, ()), (D, P, n, ()), ()) s.1 s.2) ((ByteArray.mk #[]), (0 : Int)) = some (bs (Lib.join (prs l l.length) [32])) ∧
  iter (fun s => iFCl ((x, l, w, t, d, ()), (D, P, n, ()), ()) s.1 s.2) ((0 : Int), ([] : List ByteArray)) = some ((prs l l.length).map bs) := by
 constructor
 ·refine if1 l.length (fun k => (bs (Lib.join (prs l k) [32]), (k : Int))) (fun k hk => ?_) ?_ rfl
  ·have hj := join_len l hi k (by omega)
   refine (spec_step ((x, l, w, t, d, ()), (D, P, n, ()), ()) k hk h10 (hi k hk) _ (by omega)).trans ?_
   rw [prs_succ l k hk, vjs, prs_length l k (by omega)]
  ·show sFCl _ _ (l.length : Int) = _
   unfold sFCl
   rw [cd (by simp)]
 ·refine if1 l.length (fun k => ((k : Int), (prs l k).map bs)) (fun k hk => ?_) ?_ rfl
  ·refine (impl_step ((x, l, w, t, d, ()), (D, P, n, ()), ()) k hk h10 (hi k hk) _ (by rw [List.length_map, prs_length l k (by omega)]; omega)).trans ?_
   rw [prs_succ l k hk, List.map_append]
   rfl
  ·show iFCl _ (l.length : Int) _ = _
   unfold iFCl
   rw [cd (by simp)]
theorem format_both (x : Int) (l : List Slot) (w t d : Int) (D P : ByteArray) (n : Int) (h10 : l.length ≤ 10) (hi : ∀ k, k < l.length → iOk l k = true) (hw : 0 ≤ w ∧ w ≤ 500) (ht : 0 ≤ t ∧ t ≤ 500) (hd : 0 ≤ d ∧ d ≤ 500) (hn : 0 ≤ n ∧ n ≤ 60)
  (g1 : slG1 ((x, l, w, t, d, ()), (D, P, n, ()), ()) = some true) (g2 : iIVC ((x, l, w, t, d, ()), (D, P, n, ()), ()) = some true) :
  ∃ y, sFC ((x, l, w, t, d, ()), (D, P, n, ()), ()) = some (y, true) ∧ iFC ((x, l, w, t, d, ()), (D, P, n, ()), ()) = some (y, true) := by
 obtain ⟨b1, b2⟩ := both_text x l w t d D P n h10 hi
 have hj := join_len l hi l.length (Nat.le_refl _)
 have l1 : (Lib.decDigits w.toNat).length ≤ 4 := dl1 3 w.toNat (by omega)
 have l2 : (Lib.decDigits t.toNat).length ≤ 4 := dl1 3 t.toNat (by omega)
 have l3 : (Lib.decDigits d.toNat).length ≤ 4 := dl1 3 d.toNat (by omega)
 have l4 : (Lib.decDigits n.toNat).length ≤ 4 := dl1 3 n.toNat (by omega)
 have n1 : slN w = some (bs (Lib.decDigits w.toNat)) := (congrArg slN (nn hw.1)).trans (lNe w.toNat (by omega))
 have n2 : slN t = some (bs (Lib.decDigits t.toNat)) := (congrArg slN (nn ht.1)).trans (lNe t.toNat (by omega))
 have n3 : slN d = some (bs (Lib.decDigits d.toNat)) := (congrArg slN (nn hd.1)).trans (lNe d.toNat (by omega))
 have n4 : slN n = some (bs (Lib.decDigits n.toNat)) := (congrArg slN (nn hn.1)).trans (lNe n.toNat (by omega))
 have i1 : strconv_Itoa w = some (bs (Lib.decDigits w.toNat)) := (congrArg strconv_Itoa (nn hw.1)).trans (ie w.toNat (by omega))
 have i2 : strconv_Itoa t = some (bs (Lib.decDigits t.toNat)) := (congrArg strconv_Itoa (nn ht.1)).trans (ie t.toNat (by omega))
 have i3 : strconv_Itoa d = some (bs (Lib.decDigits d.toNat)) := (congrArg strconv_Itoa (nn hd.1)).trans (ie d.toNat (by omega))
 have i4 : strconv_Itoa n = some (bs (Lib.decDigits n.toNat)) := (congrArg strconv_Itoa (nn hn.1)).trans (ie n.toNat (by omega))
 have j1 := join_eq (prs l l.length) (by omega)
 unfold sFC iFC
 simp only [g1, g2, b1, b2, n1, n2, n3, n4, i1, i2, i3, i4, j1, Option.bind_some, Bool.not_true, cond_false]
 generalize Lib.join (prs l l.length) [32] = q at hj
 generalize Lib.decDigits w.toNat = q1 at l1
 generalize Lib.decDigits t.toNat = q2 at l2
 generalize Lib.decDigits d.toNat = q3 at l3
 generalize Lib.decDigits n.toNat = q4 at l4
 repeat rw [gp1 (by simp only [ba, bs1, List.length_append, List.length_cons, List.length_nil]; omega)]
 exact ⟨_, rfl, rfl⟩
end Go.Proofs.YtaobinhdnklojaaGreatDoor
namespace Go.Proofs.YtaobinhdnklojaaGreatDoor
open Go.RowKit

theorem spl_noc (c : UInt8) : ∀ l z : List UInt8, z ∈ spl c l → c ∉ z := by
 intro l
 induction l with
 | nil => intro z hz; simp [spl] at hz; simp [hz]
 | cons b l ih =>
   intro z hz
   unfold spl at hz
   split at hz
   ·rcases List.mem_cons.1 hz with hz | hz
    ·simp [hz]
    ·exact ih z hz
   ·rename_i hb
    cases hq : spl c l with
    | nil => exact absurd hq (sn c l)
    | cons q qs =>
      rw [hq] at hz
      rcases List.mem_cons.1 hz with hz | hz
      ·have h1 := ih q (by rw [hq]; simp)
       rw [hz]
       intro hm
       rcases List.mem_cons.1 hm with hm | hm
       ·exact hb hm.symm
       ·exact h1 hm
      ·exact ih z (by rw [hq]; simp [hz])
theorem spl_self (c : UInt8) : ∀ l : List UInt8, c ∉ l → spl c l = [l] := by
 intro l
 induction l with
 | nil => intro _; simp [spl]
 | cons b l ih =>
   intro h
   have hb : ¬ b = c := fun e => h (by simp [e])
   unfold spl
   rw [if_neg hb, ih (fun hm => h (by simp [hm]))]
theorem script_first (x : Int) (l : List Slot) (w t d : Int) (D P z : List UInt8) (n : Int) (rest : List (List UInt8)) (hn : rest.length ≤ 29) (hs : ∀ q ∈ z :: rest, q.length ≤ 4000) (hv : (gd (x, l, w, t, d, ()) && okLog D P n) = true) (y : C1) (R : ByteArray)
  (he : iECi x l w t d (bs D) (bs P) n (bs z) = some (y, R)) :
  ∃ xs, iter (fun s => iRSl s.1 s.2.1 s.2.2.1 s.2.2.2.1 s.2.2.2.2.1 s.2.2.2.2.2.1 s.2.2.2.2.2.2.1 s.2.2.2.2.2.2.2.1 s.2.2.2.2.2.2.2.2.1 s.2.2.2.2.2.2.2.2.2.1 s.2.2.2.2.2.2.2.2.2.2.1 s.2.2.2.2.2.2.2.2.2.2.2) ((((z :: rest).map bs).length : Int), (0 : Int), x, l, w, t, d, bs D, bs P, n, ([] : List ByteArray), (z :: rest).map bs) = some xs ∧ xs.length = rest.length + 1 ∧ xs.getD 0 (ByteArray.mk #[]) = R := by
 have hm : ((z :: rest).map bs).length = rest.length + 1 := by simp
 exact iter_tot (f := (fun s => iRSl s.1 s.2.1 s.2.2.1 s.2.2.2.1 s.2.2.2.2.1 s.2.2.2.2.2.1 s.2.2.2.2.2.2.1 s.2.2.2.2.2.2.2.1 s.2.2.2.2.2.2.2.2.1 s.2.2.2.2.2.2.2.2.2.1 s.2.2.2.2.2.2.2.2.2.2.1 s.2.2.2.2.2.2.2.2.2.2.2)) (fun (k : Nat) s => ∃ (x' : Int) (l' : List Slot) (w' t' d' : Int) (P' : List UInt8) (n' : Int) (xs : List ByteArray), (gd (x', l', w', t', d', ()) && okLog D P' n') = true ∧ xs.length = k ∧ (k = 0 → (x', l', w', t', d', P', n') = (x, l, w, t, d, P, n)) ∧ (k ≠ 0 → xs.getD 0 (ByteArray.mk #[]) = R) ∧ s = ((((z :: rest).map bs).length : Int), (k : Int), x', l', w', t', d', bs D, bs P', n', xs, (z :: rest).map bs)) (fun xs => xs.length = rest.length + 1 ∧ xs.getD 0 (ByteArray.mk #[]) = R) (rest.length + 1)
  (by
   rintro k _ hk ⟨x', l', w', t', d', P', n', xs, hv, hx, h0, h1, rfl⟩
   refine .inl ?_
   have hk' : k < (z :: rest).length := by simpa using hk
   have hq := hs _ (List.getElem_mem hk')
   obtain ⟨x2, l2, w2, t2, d2, P2, m, R2, hex, hv2, _, e⟩ := ev1 x' l' w' t' d' D P' (z :: rest)[k] n' (by omega) hv
   have hgd : ((z :: rest).map bs).getD k (ByteArray.mk #[]) = bs (z :: rest)[k] := by
    rw [gDe _ _ _ (by simpa using hk'), List.getElem_map]
   refine ⟨_, ?_, x2, l2, w2, t2, d2, P2, m, xs ++ [bs R2], hv2, by simp [hx], fun h => by omega, fun _ => ?_, rfl⟩
   ·show iRSl (((z :: rest).map bs).length : Int) (k : Int) x' l' w' t' d' (bs D) (bs P') n' xs ((z :: rest).map bs) = _
    unfold iRSl
    rw [cd1 (by omega), gp1 (by omega), Int.toNat_natCast, hgd, e, Option.bind_some, gp1 (by simp; omega), wn (by omega)]
   ·by_cases hk0 : k = 0
    ·subst hk0
     obtain rfl : xs = [] := List.eq_nil_of_length_eq_zero hx
     have h0 := h0 rfl
     simp only [Prod.mk.injEq] at h0
     obtain ⟨rfl, rfl, rfl, rfl, rfl, rfl, rfl⟩ := h0
     have e : iECi x' l' w' t' d' (bs D) (bs P') n' (bs z) = _ := e
     rw [he] at e
     exact (congrArg (·.2) (Option.some.inj e)).symm
    ·have h1 := h1 hk0
     cases xs with
     | nil => exact absurd hx.symm hk0
     | cons a xs => exact h1)
  (by
   rintro _ ⟨x', l', w', t', d', P', n', xs, hv, hx, h0, h1, rfl⟩
   refine ⟨_, ?_, hx, h1 (by omega)⟩
   show iRSl (((z :: rest).map bs).length : Int) ((rest.length + 1 : Nat) : Int) x' l' w' t' d' (bs D) (bs P') n' xs ((z :: rest).map bs) = _
   unfold iRSl
   rw [cd (by omega)])
  ⟨x, l, w, t, d, P, n, [], hv, rfl, fun _ => rfl, fun h => absurd rfl h, rfl⟩
theorem runI (x : Int) (l : List Slot) (w t d : Int) (D P q z : List UInt8) (n : Int) (rest : List (List UInt8)) (hq : q.length ≤ 4000) (hz : spl 10 q = z :: rest) (hn : rest.length ≤ 29) (hv : (gd (x, l, w, t, d, ()) && okLog D P n) = true) (y : C1) (R : ByteArray)
  (he : iECi x l w t d (bs D) (bs P) n (bs z) = some (y, R)) :
  ∃ xs, iRS ((x, l, w, t, d, ()), (bs D, bs P, n, ()), ()) (bs q) = some (.inr xs) ∧ xs.length = rest.length + 1 ∧ xs.getD 0 (ByteArray.mk #[]) = R := by
 obtain ⟨hll, hdp⟩ := vl hv
 obtain ⟨xs, e, h1, h2⟩ := script_first x l w t d D P z n rest hn (fun u hu => by have := sp1 10 q u (by rw [hz]; exact hu); omega) hv y R he
 refine ⟨xs, ?_, h1, h2⟩
 have v1 := validI (x, l, w, t, d, ()) D P n (by show l.length ≤ 1048576; omega) (by omega) (by omega)
 have s2 : strings_Split (bs q) (ByteArray.mk #[10]) = some ((z :: rest).map bs) := by
  unfold strings_Split
  rw [gp1 ⟨by rw [bs1]; omega, by decide⟩, ← hz]
  exact congrArg some (sBe 10 q)
 have hm : ((z :: rest).map bs).length = rest.length + 1 := by simp
 unfold iRS
 dsimp only
 rw [s2, Option.bind_some, v1, Option.bind_some, hv]
 simp only [Bool.not_true, cond_false]
 rw [cd (by rw [bs1]; omega), cd (by omega), e]
 rfl
theorem same_loop (text : ByteArray) (xs : List ByteArray) (b : Bool) (x : Int) (l : List Slot) (w t d : Int) (g1 g2 : ByteArray) (g3 : Int) (hx : xs.length ≤ 1000000) :
  iter (fun s => lFSl s.1 s.2.1 s.2.2.1 s.2.2.2.1 s.2.2.2.2.1 s.2.2.2.2.2.1 s.2.2.2.2.2.2.1 s.2.2.2.2.2.2.2.1 s.2.2.2.2.2.2.2.2.1 s.2.2.2.2.2.2.2.2.2.1 s.2.2.2.2.2.2.2.2.2.2.1 s.2.2.2.2.2.2.2.2.2.2.2.1 s.2.2.2.2.2.2.2.2.2.2.2.2) (text, xs, b, (0 : Int), x, l, w, t, d, g1, g2, g3, xs) = some (.inr (text, xs, b, x, l, w, t, d, g1, g2, g3)) :=
 if1 xs.length (fun k => (text, xs, b, (k : Int), x, l, w, t, d, g1, g2, g3, xs)) (fun k hk => by
  show lFSl text xs b (k : Int) x l w t d g1 g2 g3 xs = _
  unfold lFSl
  rw [cd1 (by omega), gp1 (by omega), gp1 (by omega), cn rfl, wn (by omega)]) (by
  show lFSl text xs b (xs.length : Int) x l w t d g1 g2 g3 xs = _
  unfold lFSl
  rw [cd (by omega)]) rfl
theorem law_FnScript (code : List Int) (hc : Ty.fit (.sl (.int .u8)) code) : lFS code = some true := by
 have hl : code.length ≤ 1048576 := hc.1
 have hb : ∀ x ∈ code, 0 ≤ x ∧ x ≤ 255 := fun x hx => hc.2 x hx
 obtain ⟨⟨⟨x, l, w, t, d, ⟨⟩⟩, ⟨D0, P0, n, ⟨⟩⟩, ⟨⟩⟩, T, d2, ⟨hg0, hg1, hg2⟩, hT⟩ := drawScript_ok hb hl
 obtain ⟨D, rfl⟩ := bs_ex D0
 obtain ⟨P, rfl⟩ := bs_ex P0
 obtain ⟨T, rfl⟩ := bs_ex T
 have hg0 : l.length ≤ 11 := hg0
 have hg1 : (bs D).size ≤ 30000 := hg1
 have hg2 : (bs P).size ≤ 30000 := hg2
 rw [bs1] at hg1 hg2 hT
 obtain ⟨o, e1, e2, ho, _⟩ := script_both (x, l, w, t, d, ()) D P T n (by show l.length ≤ 1048576; omega) (by omega) (by omega) (by omega)
 have sp : sSS (bs T) (ByteArray.mk #[10]) = some ((spl 10 T).map bs, true) := by
  unfold sSS
  have h1 : (ByteArray.mk #[10]).size = 1 := rfl
  rw [cn (by omega), cd (by rw [bs1]; omega), gp1 (by omega)]
  show ((slS (bs T) (10 : Int)).bind _) = _
  rw [show slS (bs T) (10 : Int) = some ((spl 10 T).map bs) from se T 10 (by omega)]
  rfl
 unfold lFS lvB
 rw [Option.bind_some]
 by_cases h0 : (65536 : Int) < (code.length : Int)
 ·rw [cd1 h0]
 rw [cd h0, d2, Option.bind_some]
 dsimp only
 cases o with
 | none =>
   simp only [Option.elim_none, Option.getD_none, Option.isSome_none] at e1 e2
   have sl := same_loop (bs T) [] false x l w t d (bs D) (bs P) n (by simp)
   simp only [e2, e1, Option.bind_some, Sum.elim_inl, beq_self_eq_true, Bool.not_true, cond_false, List.length_nil, decide_true, sl, Sum.elim_inr, sp, Bool.not_false, cond_true]
   rfl
 | some xs =>
   obtain ⟨hv, hT4, h30, hx⟩ := ho xs rfl
   simp only [Option.elim_some, Option.getD_some, Option.isSome_some] at e1 e2
   have sl := same_loop (bs T) xs true x l w t d (bs D) (bs P) n (by omega)
   have hm : ((spl 10 T).map bs).length = (spl 10 T).length := List.length_map ..
   simp only [e2, e1, Option.bind_some, beq_self_eq_true, Bool.not_true, cond_false, decide_true, sl, Sum.elim_inr, sp]
   by_cases h2 : (((spl 10 T).map bs).length : Int) < 2
   ·rw [decide_eq_true h2]
    rfl
   rw [decide_eq_false h2]
   simp only [cond_false]
   cases hz : spl 10 T with
   | nil => exact absurd hz (sn 10 T)
   | cons z rest =>
     rw [hz] at h30 hx hm
     simp only [List.length_cons] at h30 hx
     obtain ⟨x', l', w', t', d', P', m, R, _, _, _, he⟩ := ev1 x l w t d D P z n (by have := sp1 10 T z (by rw [hz]; simp); omega) hv
     obtain ⟨ys, r1, hy, hy0⟩ := runI x l w t d D P T z n rest (by omega) hz (by omega) hv _ _ he
     have hz1 := spl_self 10 z (spl_noc 10 T z (by rw [hz]; simp))
     obtain ⟨us, r2, hu, hu0⟩ := runI x l w t d D P z z n [] (by have := sp1 10 T z (by rw [hz]; simp); omega) hz1 (by simp) hv _ _ he
     obtain rfl : xs = ys := by
      have := e2.symm.trans r1
      exact Sum.inr.inj (Option.some.inj this)
     have hg := (vS hv).1
     obtain ⟨_, ⟨_, h10⟩, hw, ht, hd, hi⟩ := go1 hg
     have v1 := validI (x, l, w, t, d, ()) D P n (by show l.length ≤ 1048576; omega) (by omega) (by omega)
     have v2 := validS (x, l, w, t, d, ()) D P n (by show l.length ≤ 1048576; omega) (by omega) (by omega)
     rw [hv] at v1 v2
     obtain ⟨y, f1, f2⟩ := format_both x l w t d (bs D) (bs P) n h10 hi hw ht hd (oLc (vS hv).2) v2 v1
     have hu1 : us.length = 1 := by simpa using hu
     rw [gp1 (by rw [hm]; simp)]
     have hgd : ((z :: rest).map bs).getD (0 : Int).toNat (ByteArray.mk #[]) = bs z := rfl
     rw [hgd, r2]
     simp only [Option.bind_some, Sum.elim_inr, f1, f2, cond_true]
     rw [cd1 (by omega), gp1 (by omega), gp1 (by omega)]
     have hfin : us.getD (0 : Int).toNat (ByteArray.mk #[]) = xs.getD (0 : Int).toNat (ByteArray.mk #[]) := hu0.trans hy0.symm
     rw [cd1 hfin]
     simp
end Go.Proofs.YtaobinhdnklojaaGreatDoor
namespace Go.Proofs.YtaobinhdnklojaaGreatDoor
open Go.RowKit

theorem lVg {P : Program} {w : World} : ∀ {l : List (String × DataW Unit)} {ps : List MemPlace}, DataW.LaidVars P w l ps → ∀ {n : String} {d : DataW Unit}, (n, d) ∈ l →
  ∃ g t cs fuel p, P.globalNamed n = some g ∧ (P.globals[g]?).map (·.type) = some t ∧ w.var? P n = some cs ∧ DataW.trod (fun _ => ()) P w 0 (fun _ => true) false fuel t cs.toList = some (d, p)
 | [], _, _, _, _, hm => by simp at hm
 | (n', d') :: r, ps, h, n, d, hm => by
   obtain ⟨g, t, cs, fuel, p, q, h1, h2, h3, h4, h5, _⟩ := h
   rcases List.mem_cons.1 hm with e | e
   ·cases e; exact ⟨g, t, cs, fuel, p, h1, h2, h3, h4⟩
   ·exact lVg h5 e
theorem var_heap {P : Program} {w : World} {n : String} {g : Nat} {cs : Array Value} (hg : P.globalNamed n = some g) (h : w.var? P n = some cs) : ∃ t fr, w.heap[g]? = some (.cells cs t fr) := by
 unfold World.var? at h
 rw [hg, Option.bind_some] at h
 split at h
 ·rename_i cs' t fr e
  cases h
  exact ⟨t, fr, e⟩
 ·cases h
def GBx (b : Nat) : Prop := b = 0 ∨ b = 1 ∨ b = 2
theorem facts {l : List (String × DataW Unit)} {W : World} (hL : laidMet Tryz.prog l W) (hsh : W.ShapedOpen Tryz.prog) {n : String} (hm : (n, Rows.laid_internal_strconv_uint64pow10) ∈ l) {n2 : String} (hm2 : (n2, Rows.laid_strconv_ErrSyntax) ∈ l)
  (hn : Tryz.prog.globalNamed n = some 1 := by kernel_rfl) (hn2 : Tryz.prog.globalNamed n2 = some 2 := by kernel_rfl) : Lw GBx W := by
 obtain ⟨ps, hv, _⟩ := hL
 obtain ⟨g, t, cs, fuel, p, h1, h2, h3, h4⟩ := lVg hv hm
 obtain rfl := Option.some.inj (hn.symm.trans h1)
 have ht : (Tryz.prog.globals[1]?).map (·.type) = some 216 := by kernel_rfl
 obtain rfl := Option.some.inj (ht.symm.trans h2)
 have hc := Lib.cells_of_tab (k := .u64) (zs := Lib.pow10Tab) (n := 20) Tryz.underlying216 Tryz.underlying88 (by kernel_rfl) (by kernel_rfl) h4
 obtain ⟨t, fr, hh⟩ := var_heap hn h3
 obtain ⟨m, hm⟩ := Tryz.laysM145.s1_3 W hsh
 obtain ⟨g2, t2, cs2, fuel2, p2, k1, k2, k3, k4⟩ := lVg hv hm2
 obtain rfl := Option.some.inj (hn2.symm.trans k1)
 have ht2 : (Tryz.prog.globals[2]?).map (·.type) = some 140 := by kernel_rfl
 obtain rfl := Option.some.inj (ht2.symm.trans k2)
 obtain ⟨_, u, v, hcs, _⟩ := iface_of_trod Tryz.underlying140 k4
 obtain ⟨t3, fr3, hh3⟩ := var_heap hn2 k3
 have hcell : W.cell? ⟨2, 0, none⟩ = some (.iface u v) := by
  have e : cs2 = #[.iface u v] := by rw [← Array.toArray_toList (xs := cs2), hcs]
  subst e
  simp [World.cell?, hh3]
 refine ⟨⟨⟨.inl rfl, .inr (.inr rfl), u, v, hcell⟩, m, hm⟩, .inr (.inl rfl), t, fr, ?_⟩
 rw [hh, ← hc]
theorem facts_lt {W : World} (h : Lw GBx W) : ∀ b, GBx b → b < W.heap.size := by
 obtain ⟨⟨⟨_, _, te, pe, h6⟩, m, h1⟩, _, t, fr, h2⟩ := h
 have key : ∀ (b : Nat) (x : Value), W.cell? ⟨b, 0, none⟩ = some x → b < W.heap.size := fun b x h1 => by
  rcases Nat.lt_or_ge b W.heap.size with h | h
  ·exact h
  ·exfalso
   unfold World.cell? at h1
   rw [Array.getElem?_eq_none h] at h1
   simp at h1
 rintro b (rfl | rfl | rfl)
 ·exact key _ _ h1
 ·exact (Array.getElem?_eq_some_iff.1 h2).1
 ·exact key _ _ h6
end Go.Proofs.YtaobinhdnklojaaGreatDoor
