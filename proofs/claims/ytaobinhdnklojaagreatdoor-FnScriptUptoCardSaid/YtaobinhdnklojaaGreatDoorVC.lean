/-
  Commands of the console: what a command answers, in both programs.
-/
import Derived.Test.YtaobinhdnklojaaGreatDoorVT
namespace Go.Proofs.YtaobinhdnklojaaGreatDoor
open Go.RowKit

abbrev cab (l : List Slot) (k : Nat) : Int := (l.getD k dS).1
abbrev opn (l : List Slot) (k : Nat) : Bool := (l.getD k dS).2.1
abbrev ppl (l : List Slot) (k : Nat) : Int := (l.getD k dS).2.2.1
abbrev nxt (l : List Slot) (k : Nat) : Int := cab l (Int.tmod (w64 ((k : Int) + 1)) (l.length : Int)).toNat
def fresh (l : List Slot) (k : Nat) : Bool := (List.range k).all fun j => !decide (cab l j = cab l k)
def stat (l : List Slot) (k : Nat) : Bool := decide ((k : Int) = 0) || decide ((k : Int) = w64 (Int.tdiv (l.length : Int) 2))
def sOk (l : List Slot) (k : Nat) : Bool :=
 decide (0 ≤ cab l k ∧ cab l k ≤ 20) && (decide (0 ≤ ppl l k ∧ ppl l k ≤ 8) && if cab l k = 0 then !opn l k && decide (ppl l k = 0) else fresh l k && (decide (nxt l k = 0) && (!opn l k || stat l k)))
theorem tmod_in (l : List Slot) (k : Nat) (hk : k < l.length) (h : l.length ≤ 1048576) : 0 ≤ Int.tmod (w64 ((k : Int) + 1)) (l.length : Int) ∧ Int.tmod (w64 ((k : Int) + 1)) (l.length : Int) < (l.length : Int) := by
 rw [wn (by omega)]
 exact ⟨Int.tmod_nonneg _ (by omega), Int.tmod_lt_of_pos _ (by omega)⟩
theorem l25Slot_eq (a : R1) (k : Nat) (hk : k < a.2.1.length) (h : a.2.1.length ≤ 1048576) : slS5 a (k : Int) = some (sOk a.2.1 k) := by
 obtain ⟨x, l, u⟩ := a
 have hk : k < l.length := hk
 have h : l.length ≤ 1048576 := h
 have H : iter (fun s => slSl3 (x, l, u) (k : Int) s) (0 : Int) = some (if fresh l k then Sum.inr () else Sum.inl ()) :=
  iaN k (fun j => !decide (cab l j = cab l k)) (fun j => (j : Int)) (fun j hj => by
   show slSl3 (x, l, u) (k : Int) (j : Int) = _
   unfold slSl3
   rw [cd1 (by omega), gp1 (by constructor <;> simp <;> omega), wn (by omega)]
   simp only [Int.toNat_natCast]
   by_cases hc : cab l j = cab l k
   ·rw [cd1 hc]; simp [hc]
   ·rw [cd hc]; simp [hc]) (by
   show slSl3 (x, l, u) (k : Int) (k : Int) = _
   unfold slSl3
   rw [cd (by omega)]) rfl
 have ht := tmod_in l k hk h
 unfold slS5
 rw [gp1 (show 0 ≤ (k : Int) ∧ (k : Int) < ((x, l, u) : R1).2.1.length from ⟨by omega, by simp; omega⟩)]
 simp only [lIe, Option.bind_some, H, Int.toNat_natCast, sOk]
 by_cases h1 : 0 ≤ cab l k ∧ cab l k ≤ 20
 ·rw [cn h1]
  by_cases h2 : 0 ≤ ppl l k ∧ ppl l k ≤ 8
  ·rw [cn h2]
   by_cases h3 : cab l k = 0
   ·rw [cd1 h3]
    show cond (!opn l k) (some (decide (ppl l k = 0))) (some false) = _
    cases h4 : opn l k <;> simp [h2, h3]
   ·rw [cd h3]
    cases h4 : fresh l k
    ·simp [h3]
    ·simp only [if_true, Sum.elim_inr]
     rw [gp1 (by omega), gp1 ht]
     by_cases h5 : nxt l k = 0
     ·rw [cn h5]
      show cond (!opn l k) _ _ = _
      cases h6 : opn l k
      ·simp [h1, h2, h3, h5]
      ·simp only [Bool.not_true, cond_false]
       by_cases h7 : (k : Int) = 0
       ·rw [cd1 h7]; simp [h1, h2, h3, h5, stat, h7]
       ·rw [cd h7]
        rw [gp1 (by omega)]
        have h7' : ¬ k = 0 := by omega
        simp [h1, h2, h3, h5, stat, h7']
     ·rw [cn1 h5]; simp [h3, h5]
  ·rw [cn1 h2]; simp [h2]
 ·rw [cn1 h1]; simp [h1]

theorem indexFunc_eq (l : List Slot) (c : Int) (o : Bool) (p : Int) (h : l.length ≤ 1048576) : ∃ r, sIFi2 l c o p = some r ∧ (decide ((0 : Int) ≤ r) = (List.range l.length).any fun j => decide (cab l j = c)) := by
 unfold sIFi2
 obtain ⟨r, e, hr⟩ := ie1 (f := fun s => sIFi5 l c o p s) (miss := Sum.inr ()) l.length (fun j => decide (cab l j = c)) (fun j => Sum.inl (j : Int)) (fun j => (j : Int)) (fun k hk => by
  show sIFi5 l c o p (k : Int) = _
  unfold sIFi5 iIR1
  rw [cd1 (by omega), gp1 (by omega), wn (by omega), Option.bind_some]
  show cond (decide (cab l k = c)) _ _ = _
  cases decide (cab l k = c) <;> rfl) (by
  show sIFi5 l c o p (l.length : Int) = _
  unfold sIFi5
  rw [cd (by omega)]) (s := (0 : Int)) rfl
 rw [e]
 rcases hr with ⟨k, hk, hp, _, rfl⟩ | ⟨hn, rfl⟩
 ·refine ⟨(k : Int), rfl, ?_⟩
  rw [decide_eq_true (by omega)]
  symm
  rw [List.any_eq_true]
  exact ⟨k, by simpa using hk, hp⟩
 ·refine ⟨-1, rfl, ?_⟩
  rw [decide_eq_false (by omega)]
  symm
  rw [List.any_eq_false]
  intro j hj
  rw [hn j (by simpa using hj)]
  simp
theorem lsub_get (l : List Slot) (k j : Nat) (hj : j < k) : cab (lsub l (0 : Int) (k : Int)) j = cab l j := by
 simp [cab, lsub, hj]
theorem contains_eq (l : List Slot) (k : Nat) (hk : k < l.length) (h : l.length ≤ 1048576) (o : Bool) (p : Int) :
  sCFi1 (lsub l (0 : Int) (k : Int)) (cab l k) o p = some (!fresh l k) := by
 have hl : (lsub l (0 : Int) (k : Int)).length = k := by simp [lsub]; omega
 obtain ⟨r, e, hr⟩ := indexFunc_eq (lsub l (0 : Int) (k : Int)) (cab l k) o p (by rw [hl]; omega)
 unfold sCFi1
 rw [e, Option.bind_some, hr, hl]
 refine congrArg some ?_
 unfold fresh
 rw [List.not_all_eq_any_not]
 rw [Bool.eq_iff_iff, List.any_eq_true, List.any_eq_true]
 constructor
 ·rintro ⟨j, hj, hp⟩
  exact ⟨j, hj, by rw [lsub_get l k j (by simpa using hj)] at hp; simpa using hp⟩
 ·rintro ⟨j, hj, hp⟩
  exact ⟨j, hj, by rw [lsub_get l k j (by simpa using hj)]; simpa using hp⟩
def iOk (l : List Slot) (k : Nat) : Bool :=
 decide (0 ≤ cab l k ∧ cab l k ≤ 20) && (decide (0 ≤ ppl l k ∧ ppl l k ≤ 8) && if cab l k = 0 then !opn l k && !decide (0 < ppl l k) else fresh l k && (!decide (0 < nxt l k) && (!opn l k || stat l k)))
theorem iSe (a : R1) (k : Nat) : iRiS a (k : Int) = some (stat a.2.1 k) := by
 unfold iRiS stat
 by_cases h : (k : Int) = 0
 ·rw [cd1 h]; simp [h]
 ·rw [cd h, gp1 (by omega), decide_eq_false h]; simp
theorem iRs1 (a : R1) (k : Nat) (hk : k < a.2.1.length) (h : a.2.1.length ≤ 1048576) : iIRl a (k : Int) = some (if iOk a.2.1 k then .go ((k + 1 : Nat) : Int) else .out (Sum.inl ())) := by
 obtain ⟨x, l, u⟩ := a
 have hk : k < l.length := hk
 have h : l.length ≤ 1048576 := h
 have ht := tmod_in l k hk h
 have hf : ∀ o p, sCFi1 (lsub l (0 : Int) (k : Int)) ((l.getD (k : Int).toNat dS).1) o p = some (!fresh l k) := fun o p => contains_eq l k hk h o p
 unfold iIRl
 rw [cd1 (show (k : Int) < (((x, l, u) : R1).2.1.length : Int) from by simp; omega), gp1 (show 0 ≤ (k : Int) ∧ (k : Int) < ((x, l, u) : R1).2.1.length from ⟨by omega, by simp; omega⟩)]
 simp only [we, Option.bind_some, iSe, hf]
 have hw : w64 ((k : Int) + 1) = ((k + 1 : Nat) : Int) := wn (by omega)
 show cond (!decide (0 ≤ cab l k ∧ cab l k ≤ 20)) _ (cond (!decide (0 ≤ ppl l k ∧ ppl l k ≤ 8)) _ (cond (decide (cab l k = 0)) (cond (opn l k) _ (cond (decide (0 < ppl l k)) _ _)) (cond (opn l k) (cond (!stat l k) _ _) _))) = some (if iOk l k then _ else _)
 by_cases h1 : 0 ≤ cab l k ∧ cab l k ≤ 20
 case neg => rw [cn1 h1, show iOk l k = false by simp [iOk, h1]]; rfl
 by_cases h2 : 0 ≤ ppl l k ∧ ppl l k ≤ 8
 case neg => rw [cn h1, cn1 h2, show iOk l k = false by simp [iOk, h2]]; rfl
 rw [cn h1, cn h2]
 by_cases h3 : cab l k = 0
 ·rw [cd1 h3]
  cases h4 : opn l k
  case true => rw [show iOk l k = false by simp [iOk, h3, h4]]; rfl
  by_cases h5 : 0 < ppl l k
  ·rw [show iOk l k = false by simp [iOk, h3, h5]]
   show cond (decide (0 < ppl l k)) _ _ = _
   rw [cd1 h5]; rfl
  ·rw [show iOk l k = true by simp [iOk, h2, h3, h4]; omega]
   show cond (decide (0 < ppl l k)) _ _ = _
   rw [cd h5, hw]; rfl
 ·rw [cd h3]
  have tail : ∀ (b : Bool), b = opn l k → (opn l k = true → stat l k = true) → (grd ((l.length : Int) ≠ 0) (grd (0 ≤ (Int.tmod (w64 ((k : Int) + 1)) (l.length : Int)) ∧ (Int.tmod (w64 ((k : Int) + 1)) (l.length : Int)) < (l.length : Int)) (cond (decide ((0 : Int) < nxt l k)) ((some (Lp.out (Sum.inl ()) : Lp Int (Unit ⊕ Unit)))) (grd (0 ≤ (0 : Int) ∧ (0 : Int) ≤ (k : Int) ∧ (k : Int) ≤ (l.length : Int)) (cond (!fresh l k) ((some (Lp.out (Sum.inl ())))) (some (Lp.go (w64 ((k : Int) + 1))))))))) = some (if iOk l k then Lp.go ((k + 1 : Nat) : Int) else Lp.out (Sum.inl ())) := fun b _ hs => by
   rw [gp1 (by omega), gp1 ht]
   by_cases h5 : 0 < nxt l k
   ·rw [cd1 h5, show iOk l k = false by simp [iOk, h3, h5]]; rfl
   ·rw [cd h5, gp1 (by omega), hw]
    cases h6 : fresh l k
    ·rw [show iOk l k = false by simp [iOk, h3, h6]]; rfl
    ·have hso : (!opn l k || stat l k) = true := by
      cases ho : opn l k
      ·rfl
      ·simp [hs ho]
     rw [show iOk l k = true by simp only [iOk, h3, h6, hso]; simp [h1, h2]; omega]; rfl
  cases h4 : opn l k
  case false => exact tail _ rfl (fun h => by rw [h4] at h; cases h)
  cases h5 : stat l k
  case false => rw [show iOk l k = false by simp [iOk, h3, h4, h5]]; rfl
  exact tail _ rfl (fun _ => h5)

theorem all_same (l : List Slot) (h : l.length ≤ 1048576) : (List.range l.length).all (sOk l) = (List.range l.length).all (iOk l) := by
 rw [Bool.eq_iff_iff, List.all_eq_true, List.all_eq_true]
 constructor
 ·intro H k hk
  have := H k hk
  simp only [sOk, iOk, Bool.and_eq_true, decide_eq_true_eq] at this ⊢
  obtain ⟨h1, h2, h3⟩ := this
  refine ⟨h1, h2, ?_⟩
  split
  ·rename_i hc
   rw [if_pos hc] at h3
   simp only [Bool.and_eq_true, decide_eq_true_eq, Bool.not_eq_true', decide_eq_false_iff_not] at h3 ⊢
   exact ⟨h3.1, by omega⟩
  ·rename_i hc
   rw [if_neg hc] at h3
   simp only [Bool.and_eq_true, decide_eq_true_eq, Bool.not_eq_true', decide_eq_false_iff_not] at h3 ⊢
   exact ⟨h3.1, by omega, h3.2.2⟩
 ·intro H k hk
  have hkl : k < l.length := by simpa using hk
  have hn : 0 ≤ nxt l k := by
   have ht := tmod_in l k hkl h
   have := H (Int.tmod (w64 ((k : Int) + 1)) (l.length : Int)).toNat (by simp; omega)
   simp only [iOk, Bool.and_eq_true, decide_eq_true_eq] at this
   exact this.1.1
  have := H k hk
  simp only [sOk, iOk, Bool.and_eq_true, decide_eq_true_eq] at this ⊢
  obtain ⟨h1, h2, h3⟩ := this
  refine ⟨h1, h2, ?_⟩
  split
  ·rename_i hc
   rw [if_pos hc] at h3
   simp only [Bool.and_eq_true, decide_eq_true_eq, Bool.not_eq_true', decide_eq_false_iff_not] at h3 ⊢
   exact ⟨h3.1, by omega⟩
  ·rename_i hc
   rw [if_neg hc] at h3
   simp only [Bool.and_eq_true, decide_eq_true_eq, Bool.not_eq_true', decide_eq_false_iff_not] at h3 ⊢
   exact ⟨h3.1, by omega, h3.2.2⟩
theorem rw_good_eq (a : R1) (h : a.2.1.length ≤ 1048576) : ∃ b, slG a = some b ∧ iIR a = some b := by
 have H1 : iter (fun s => slGl a s) (0 : Int) = some (if (List.range a.2.1.length).all (sOk a.2.1) then Sum.inr () else Sum.inl ()) :=
  iaN a.2.1.length (sOk a.2.1) (fun k => (k : Int)) (fun k hk => by
   show slGl a (k : Int) = _
   unfold slGl
   rw [cd1 (by omega), l25Slot_eq _ k hk h, wn (by omega)]
   show cond (!sOk a.2.1 k) _ _ = _
   cases sOk a.2.1 k <;> rfl) (by
   show slGl a (a.2.1.length : Int) = _
   unfold slGl
   rw [cd (by omega)]) rfl
 have H2 : iter (fun s => iIRl a s) (0 : Int) = some (if (List.range a.2.1.length).all (iOk a.2.1) then Sum.inr () else Sum.inl ()) :=
  iaN a.2.1.length (iOk a.2.1) (fun k => (k : Int)) (fun k hk => iRs1 a k hk h) (by
   show iIRl a (a.2.1.length : Int) = _
   unfold iIRl
   rw [cd (by omega)]) rfl
 have hs : slG a = iIR a := by
  unfold slG iIR
  simp only [lIe, we, Option.bind_some, H1, H2, all_same _ h]
 refine ⟨(iIR a).getD false, ?_⟩
 rw [hs]
 suffices hh : ∃ b, iIR a = some b by
  obtain ⟨b, hb⟩ := hh
  rw [hb]; exact ⟨rfl, rfl⟩
 unfold iIR
 simp only [we, Option.bind_some, H2]
 rw [gp1 (by omega)]
 simp only [Bool.cond_eq_ite]
 repeat' split
 all_goals exact ⟨_, rfl⟩

theorem gDss {α : Type} (l : List α) (i : Nat) (a d : α) (h : i < l.length) : (l.set i a).getD i d = a := by
 simp [List.getD_eq_getElem?_getD, h]
def gd (a : R1) : Bool := decide (0 ≤ a.1 ∧ a.1 ≤ 3) && (decide (4 ≤ (a.2.1.length : Int) ∧ (a.2.1.length : Int) ≤ 10) && (decide (Int.tmod (a.2.1.length : Int) 2 = 0) && (decide (0 ≤ a.2.2.1 ∧ a.2.2.1 ≤ 500) && (decide (0 ≤ a.2.2.2.1 ∧ a.2.2.2.1 ≤ 500) && (decide (0 ≤ a.2.2.2.2.1 ∧ a.2.2.2.2.1 ≤ 500) && (List.range a.2.1.length).all (iOk a.2.1))))))
theorem iRe (a : R1) (h : a.2.1.length ≤ 1048576) : iIR a = some (gd a) := by
 have H2 : iter (fun s => iIRl a s) (0 : Int) = some (if (List.range a.2.1.length).all (iOk a.2.1) then Sum.inr () else Sum.inl ()) :=
  iaN a.2.1.length (iOk a.2.1) (fun k => (k : Int)) (fun k hk => iRs1 a k hk h) (by
   show iIRl a (a.2.1.length : Int) = _
   unfold iIRl
   rw [cd (by omega)]) rfl
 unfold iIR gd
 simp only [we, Option.bind_some, H2]
 rw [gp1 (by omega)]
 cases decide (0 ≤ a.1 ∧ a.1 ≤ 3) <;> cases decide (4 ≤ (a.2.1.length : Int) ∧ (a.2.1.length : Int) ≤ 10) <;> cases decide (Int.tmod (a.2.1.length : Int) 2 = 0) <;> cases decide (0 ≤ a.2.2.1 ∧ a.2.2.1 ≤ 500) <;> cases decide (0 ≤ a.2.2.2.1 ∧ a.2.2.2.1 ≤ 500) <;> cases decide (0 ≤ a.2.2.2.2.1 ∧ a.2.2.2.2.1 ≤ 500) <;> first | rfl | skip
 cases (List.range a.2.1.length).all (iOk a.2.1) <;> rfl
theorem gSe (a : R1) (h : a.2.1.length ≤ 1048576) : slG a = some (gd a) := by
 obtain ⟨b, e1, e2⟩ := rw_good_eq a h
 rw [iRe a h] at e2
 rw [e1, ← e2]
theorem go1 {m w t d : Int} {l : List Slot} {u : Unit} (h : gd (m, l, w, t, d, u) = true) : (0 ≤ m ∧ m ≤ 3) ∧ (4 ≤ l.length ∧ l.length ≤ 10) ∧ (0 ≤ w ∧ w ≤ 500) ∧ (0 ≤ t ∧ t ≤ 500) ∧ (0 ≤ d ∧ d ≤ 500) ∧ ∀ k, k < l.length → iOk l k = true := by
 simp only [gd, Bool.and_eq_true, decide_eq_true_eq, List.all_eq_true, List.mem_range] at h
 obtain ⟨h1, h2, _, h4, h5, h6, h7⟩ := h
 exact ⟨h1, by omega, h4, h5, h6, h7⟩
theorem iOp {l : List Slot} {k : Nat} (h : iOk l k = true) : 0 ≤ ppl l k ∧ ppl l k ≤ 8 := by
 simp only [iOk, Bool.and_eq_true, decide_eq_true_eq] at h
 exact h.2.1
theorem iOk_cab {l : List Slot} {k : Nat} (h : iOk l k = true) : 0 ≤ cab l k ∧ cab l k ≤ 20 := by
 simp only [iOk, Bool.and_eq_true, decide_eq_true_eq] at h
 exact h.1
theorem iOk_opn {l : List Slot} {k : Nat} (h : iOk l k = true) (ho : opn l k = true) : 0 < cab l k := by
 have hc := iOk_cab h
 rcases Int.lt_or_le 0 (cab l k) with h' | h'
 ·exact h'
 ·have h0 : cab l k = 0 := by omega
  simp only [iOk, h0, if_true, ho] at h
  simp at h

def stn (l : List Slot) (v : Int) : Int := w64 (Int.tdiv (w64 (v * (l.length : Int))) 2)
theorem stn_in {l : List Slot} {v : Int} (hl : 4 ≤ l.length ∧ l.length ≤ 10) (hv : 0 ≤ v ∧ v ≤ 1) : 0 ≤ stn l v ∧ stn l v < l.length := by
 have : v = 0 ∨ v = 1 := by omega
 unfold stn
 rcases this with rfl | rfl
 ·rw [Int.zero_mul, show w64 0 = 0 from rfl, show Int.tdiv 0 2 = 0 from rfl, show w64 0 = 0 from rfl]; omega
 ·rw [Int.one_mul, wi (x := (l.length : Int)) (by omega) (by omega), Int.tdiv_eq_ediv_of_nonneg (by omega), wi (by omega) (by omega)]; omega
def aO (l : List Slot) : Bool := (List.range l.length).any fun k => opn l k
def rot (l : List Slot) : List Slot := l.drop (l.length - 1) ++ l.take (l.length - 1)
def setS (l : List Slot) (i : Nat) (o : Bool) (p : Int) : List Slot := l.set i (cab l i, o, p, ())
def act (a : R1) (s : RS1) : Bool × R1 :=
 let m := a.1; let l := a.2.1; let w := a.2.2.1; let t := a.2.2.2.1; let d := a.2.2.2.2.1; let v := s.2.1
 let i := (stn l v).toNat
 if s.1 = 1 then (decide (v ≠ m ∧ (m = 3 → v = 0) ∧ (v = 2 → m = 1)), (v, l, w, t, d, ()))
 else if s.1 = 2 then (decide (v = 0 ∧ aO l = false ∧ (m = 1 ∨ m = 2)), (m, rot l, w, t, d, ()))
 else if s.1 = 3 then (decide (m = 0 ∧ (1 ≤ v ∧ v ≤ 20) ∧ cab l 0 = 0 ∧ ∀ k, k < l.length → cab l k ≠ v), (m, l.set 0 (v, false, 0, ()), w, t, d, ()))
 else if s.1 = 4 then (decide (v = 0 ∧ m = 0 ∧ 0 < cab l 0 ∧ ppl l 0 = 0), (m, l.set 0 (0, false, 0, ()), w, t, d, ()))
 else if ¬ (0 ≤ v ∧ v ≤ 1) then (false, a)
 else if s.1 = 7 then (decide (0 < cab l i ∧ m ≠ 2), (m, setS l i (!opn l i) (ppl l i), w, t, d, ()))
 else if s.1 = 5 then (decide (opn l i = true ∧ (v = 1 ∨ m ≠ 3)), (m, setS l i (opn l i) (w64 (ppl l i + 1)), if v = 0 then w64 (w - 1) else w, if v = 0 then t else w64 (t - 1), d, ()))
 else if s.1 = 6 then (opn l i, (m, setS l i (opn l i) (w64 (ppl l i - 1)), w, if v = 0 then t else w64 (t + 1), if v = 0 then w64 (d + 1) else d, ()))
 else (false, a)

theorem any_eq (l : List Slot) (h : l.length ≤ 1048576) : sCFi l = some (aO l) := by
 unfold sCFi sIFi1
 obtain ⟨r, e, hr⟩ := ie1 (f := fun s => sIFi4 l s) (miss := Sum.inr ()) l.length (fun j => opn l j) (fun j => Sum.inl (j : Int)) (fun j => (j : Int)) (fun k hk => by
  show sIFi4 l (k : Int) = _
  unfold sIFi4 iRa1
  rw [cd1 (by omega), gp1 (by omega), wn (by omega), Option.bind_some]
  show cond (opn l k) _ _ = _
  cases opn l k <;> rfl) (by
  show sIFi4 l (l.length : Int) = _
  unfold sIFi4
  rw [cd (by omega)]) (s := (0 : Int)) rfl
 rw [e]
 rcases hr with ⟨k, hk, hp, _, rfl⟩ | ⟨hn, rfl⟩
 ·have ha : aO l = true := List.any_eq_true.2 ⟨k, by simpa using hk, hp⟩
  rw [ha]
  simp
 ·have ha : aO l = false := List.any_eq_false.2 fun k hk => by rw [hn k (by simpa using hk)]; simp
  rw [ha]
  rfl
theorem cabinAt_eq (a : R1) (c : Int) (h : a.2.1.length ≤ 1048576) (hc : 1 ≤ c) : ∃ r, iRcA1 a c = some r ∧ (r < 0 ↔ ∀ k, k < a.2.1.length → cab a.2.1 k ≠ c) := by
 unfold iRcA1 sIFi
 obtain ⟨r, e, hr⟩ := ie1 (f := fun s => sIFi3 a.2.1 c s) (miss := Sum.inr ()) a.2.1.length (fun j => decide (cab a.2.1 j = c)) (fun j => Sum.inl (j : Int)) (fun j => (j : Int)) (fun k hk => by
  show sIFi3 a.2.1 c (k : Int) = _
  unfold sIFi3 iRcA
  rw [cd1 (by omega), gp1 (by omega), wn (by omega)]
  show (cond (decide ((0 : Int) < cab a.2.1 k)) (some (decide (cab a.2.1 k = c))) (some false)).bind _ = _
  by_cases h0 : 0 < cab a.2.1 k
  ·rw [cd1 h0, Option.bind_some]
   cases decide (cab a.2.1 k = c) <;> rfl
  ·rw [cd h0, Option.bind_some, decide_eq_false (by omega)]
   rfl) (by
  show sIFi3 a.2.1 c (a.2.1.length : Int) = _
  unfold sIFi3
  rw [cd (by omega)]) (s := (0 : Int)) rfl
 rw [e]
 rcases hr with ⟨k, hk, hp, _, rfl⟩ | ⟨hn, rfl⟩
 ·refine ⟨(k : Int), rfl, ⟨fun h' => absurd h' (by omega), fun h' => absurd (of_decide_eq_true hp) (h' k hk)⟩⟩
 ·exact ⟨-1, rfl, ⟨fun _ k hk => of_decide_eq_false (hn k hk), fun _ => by omega⟩⟩
theorem clone_eq (l : List Slot) (h : 0 < l.length ∧ l.length ≤ 1048576) : sCiS l = some l := by
 unfold sCiS
 rw [gp1 h.1, gp1 (by simp; omega)]; rfl
theorem concat_eq (x y : List Slot) (h : 0 < x.length ∧ x.length ≤ 1000 ∧ y.length ≤ 1000) : sCiS1 [x, y] = some (x ++ y) := by
 unfold sCiS1
 have e1 : iter (fun s => sCiS3 [x, y] s.1 s.2) ((0 : Int), (0 : Int)) = some ((x.length : Int) + (y.length : Int)) := by
  rw [ig (s' := ((x.length : Int), (1 : Int))) (by
   show sCiS3 [x, y] 0 0 = _
   unfold sCiS3
   rw [cd1 (by simp), gp1 (by simp)]
   show cond (decide (w64 (0 + (x.length : Int)) < 0)) _ (some (Lp.go (w64 (0 + (x.length : Int)), _))) = _
   rw [wi (by omega) (by omega), cd (by omega), Int.zero_add]; rfl)]
  rw [ig (s' := ((x.length : Int) + (y.length : Int), (2 : Int))) (by
   show sCiS3 [x, y] (x.length : Int) 1 = _
   unfold sCiS3
   rw [cd1 (by simp), gp1 (by simp)]
   show cond (decide (w64 ((x.length : Int) + (y.length : Int)) < 0)) _ (some (Lp.go (w64 ((x.length : Int) + (y.length : Int)), _))) = _
   rw [wi (by omega) (by omega), cd (by omega)]; rfl)]
  exact io (by
   show sCiS3 [x, y] _ 2 = _
   unfold sCiS3
   rw [cd (by simp)])
 have e2 : sGiS ((x.length : Int) + (y.length : Int)) = some (Sum.inl []) := by
  unfold sGiS
  rw [cd (by omega), Option.bind_some]
  rw [show w64 ((0 : Int) - 0) = 0 from rfl, Int.sub_zero, wi (by omega) (by omega), cd1 (by omega), gp1 (by omega), gp1 (by omega), gp1 (by simp; omega)]
  rfl
 have e3 : iter (fun s => sCiS2 [x, y] s.1 s.2) ((0 : Int), ([] : List Slot)) = some (x ++ y) := by
  rw [ig (s' := ((1 : Int), x)) (by
   show sCiS2 [x, y] 0 [] = _
   unfold sCiS2
   rw [cd1 (by simp), gp1 (by simp), gp1 (by simp; omega)]; rfl)]
  rw [ig (s' := ((2 : Int), x ++ y)) (by
   show sCiS2 [x, y] 1 x = _
   unfold sCiS2
   rw [cd1 (by simp), gp1 (by simp), gp1 (by simp; omega)]; rfl)]
  exact io (by
   show sCiS2 [x, y] 2 _ = _
   unfold sCiS2
   rw [cd (by simp)])
 rw [e1, Option.bind_some, e2, Option.bind_some, Sum.elim_inl, e3]
 rfl
theorem getD_setS (l : List Slot) (i : Nat) (o : Bool) (p : Int) (h : i < l.length) : (setS l i o p).getD i dS = (cab l i, o, p, ()) := gDss l i _ _ h
theorem sSl (l : List Slot) (i : Nat) (o : Bool) (p : Int) : (setS l i o p).length = l.length := by simp [setS]
theorem rot_length (l : List Slot) (_ : 0 < l.length) : (rot l).length = l.length := by simp [rot]; try omega
theorem act_len (a : R1) (s : RS1) (h : 0 < a.2.1.length) : (act a s).2.2.1.length = a.2.1.length := by
 obtain ⟨m, l, w, t, d, u⟩ := a
 have h : 0 < l.length := h
 have := rot_length l h
 unfold act
 dsimp only
 repeat' split
 all_goals simp [sSl, this]
theorem act_eq (a : R1) (s : RS1) (hg : gd a = true) : ∃ r, iRa a s = some r ∧ (r = .inl (act a s) ∨ r = .inr (act a s)) := by
 obtain ⟨m, l, w, t, d, u⟩ := a
 obtain ⟨k, v, u'⟩ := s
 obtain ⟨hm, hl, hw, ht, hd, hs⟩ := go1 hg
 have hc0 : (l.getD (0 : Int).toNat dS).1 = cab l 0 := rfl
 have hp0 : (l.getD (0 : Int).toNat dS).2.2.1 = ppl l 0 := rfl
 unfold iRa act
 dsimp only
 by_cases k1 : k = 1
 ·rw [if_pos k1, cd1 k1]
  by_cases h1 : v = m
  ·rw [cn h1]; refine ⟨_, rfl, .inl ?_⟩; rw [decide_eq_false (fun h => h.1 h1)]
  rw [cn1 h1]
  have last : (m = 3 → v = 0) → ∃ r, cond (!decide (v = 2)) (some (Sum.inl (true, (v, l, w, t, d, ())))) (some (Sum.inl (decide (m = 1), (v, l, w, t, d, ())))) = some r ∧ (r = Sum.inl (decide (v ≠ m ∧ (m = 3 → v = 0) ∧ (v = 2 → m = 1)), (v, l, w, t, d, ())) ∨ r = (Sum.inr (decide (v ≠ m ∧ (m = 3 → v = 0) ∧ (v = 2 → m = 1)), (v, l, w, t, d, ())) : (Bool × R1) ⊕ (Bool × R1))) := fun h2 => by
   by_cases h4 : v = 2
   ·rw [cn h4]; refine ⟨_, rfl, .inl ?_⟩
    rw [show decide (m = 1) = decide (v ≠ m ∧ (m = 3 → v = 0) ∧ (v = 2 → m = 1)) from by rw [decide_eq_decide]; omega]
   ·rw [cn1 h4]; refine ⟨_, rfl, .inl ?_⟩
    rw [decide_eq_true (show v ≠ m ∧ (m = 3 → v = 0) ∧ (v = 2 → m = 1) by omega)]
  by_cases h2 : m = 3
  ·rw [cn h2]
   by_cases h3 : v = 0
   ·rw [cd1 h3]; exact last fun _ => h3
   ·rw [cd h3]; refine ⟨_, rfl, .inl ?_⟩
    rw [decide_eq_false (by omega)]
  ·rw [cn1 h2]; exact last fun h => absurd h h2
 rw [if_neg k1, cd k1]
 by_cases k2 : k = 2
 ·rw [if_pos k2, cd1 k2]
  have e1 : w64 ((l.length : Int) - 1) = ((l.length - 1 : Nat) : Int) := by rw [wi (by omega) (by omega)]; omega
  have e2 : (l.drop ((l.length - 1 : Nat) : Int).toNat).take ((l.length : Int) - ((l.length - 1 : Nat) : Int)).toNat = l.drop (l.length - 1) := by
   rw [Int.toNat_natCast, List.take_of_length_le (by simp <;> omega)]
  have e3 : (l.drop (0 : Int).toNat).take (((l.length - 1 : Nat) : Int) - 0).toNat = l.take (l.length - 1) := by simp
  rw [any_eq l (by omega), Option.bind_some, e1, e2, e3, gp1 (by omega), gp1 (by omega), concat_eq _ _ (by simp only [List.length_drop, List.length_take]; omega)]
  simp only [Option.bind_some]
  by_cases h1 : v = 0 <;> cases h2 : aO l <;> by_cases h3 : m = 1 <;> by_cases h4 : m = 2 <;> simp [h1, h3, h4, rot]
 rw [if_neg k2, cd k2]
 by_cases k3 : k = 3
 ·rw [if_pos k3, cd1 k3]
  by_cases h1 : m = 0
  ·rw [cd1 h1, we, Option.bind_some]
   by_cases h2 : 1 ≤ v ∧ v ≤ 20
   ·rw [decide_eq_true h2, cond_true, gp1 (by omega), hc0]
    by_cases h3 : cab l 0 = 0
    ·obtain ⟨r, e, hr⟩ := cabinAt_eq (m, l, w, t, d, ()) v (by show l.length ≤ 1048576; omega) h2.1
     have hr : r < 0 ↔ ∀ k, k < l.length → cab l k ≠ v := hr
     rw [cd1 h3, e, Option.bind_some, gp1 (by omega)]
     refine ⟨_, rfl, .inl ?_⟩
     rw [show decide (r < 0) = decide (m = 0 ∧ (1 ≤ v ∧ v ≤ 20) ∧ cab l 0 = 0 ∧ ∀ k, k < l.length → cab l k ≠ v) from by
      rw [decide_eq_decide, hr]
      exact ⟨fun h => ⟨h1, h2, h3, h⟩, fun h => h.2.2.2⟩]
     rfl
    ·rw [cd h3, gp1 (by omega)]
     refine ⟨_, rfl, .inl ?_⟩
     rw [decide_eq_false (fun h => h3 h.2.2.1)]; rfl
   ·rw [decide_eq_false h2, cond_false, gp1 (by omega)]
    refine ⟨_, rfl, .inl ?_⟩
    rw [decide_eq_false (fun h => h2 h.2.1)]; rfl
  ·rw [cd h1, gp1 (by omega)]
   refine ⟨_, rfl, .inl ?_⟩
   rw [decide_eq_false (fun h => h1 h.1)]; rfl
 rw [if_neg k3, cd k3]
 by_cases k4 : k = 4
 ·rw [if_pos k4, cd1 k4]
  simp only [gp1 (show (0 : Int) ≤ 0 ∧ (0 : Int) < (l.length : Int) by omega), hc0, hp0]
  by_cases h1 : v = 0 <;> by_cases h2 : m = 0 <;> by_cases h3 : 0 < cab l 0 <;> simp [h1, h2, h3]
 rw [if_neg k4, cd k4, we, Option.bind_some]
 by_cases hv : 0 ≤ v ∧ v ≤ 1
 case neg => rw [if_pos hv, cn1 hv]; exact ⟨_, rfl, .inl rfl⟩
 rw [if_neg (fun h => h hv), cn hv]
 have hst : iRsO (m, l, w, t, d, ()) v = some (stn l v) := by
  unfold iRsO
  rw [gp1 (by omega)]; rfl
 have hin := stn_in hl hv
 have hi : (stn l v).toNat < l.length := by omega
 rw [hst, Option.bind_some, gp1 hin]
 by_cases k7 : k = 7
 ·rw [if_pos k7, cd1 k7]
  rw [gDss l _ _ _ hi]
  show ∃ r, cond (decide (0 < cab l (stn l v).toNat)) _ _ = _ ∧ _
  by_cases h1 : 0 < cab l (stn l v).toNat
  ·rw [cd1 h1]
   have e : (!decide (m = 2)) = decide (0 < cab l (stn l v).toNat ∧ m ≠ 2) := by by_cases h2 : m = 2 <;> simp [h1, h2]
   refine ⟨_, rfl, .inl ?_⟩
   rw [e]; rfl
  ·rw [cd h1]
   refine ⟨_, rfl, .inl ?_⟩
   rw [decide_eq_false (fun h => h1 h.1)]; rfl
 rw [if_neg k7, cd k7]
 by_cases k5 : k = 5
 ·rw [if_pos k5, cd1 k5]
  by_cases h1 : v = 0
  ·have h1' : ¬ v = 1 := by omega
   rw [cd1 h1, Option.bind_some, if_pos h1, if_pos h1]
   dsimp only
   rw [gDss l _ _ _ hi, cd h1']
   dsimp only
   rw [show (l.getD (stn l v).toNat dS).2.1 = opn l (stn l v).toNat from rfl]
   cases opn l (stn l v).toNat
   ·refine ⟨_, rfl, .inl ?_⟩; rw [decide_eq_false (by simp)]; rfl
   ·have e : (!decide (m = 3)) = decide (true = true ∧ (v = 1 ∨ m ≠ 3)) := by by_cases h3 : m = 3 <;> simp [h3, h1']
    refine ⟨_, rfl, .inl ?_⟩; rw [← e]; rfl
  ·have h1' : v = 1 := by omega
   rw [cd h1, Option.bind_some, if_neg h1, if_neg h1]
   dsimp only
   rw [gDss l _ _ _ hi, cd1 h1']
   dsimp only
   rw [show (l.getD (stn l v).toNat dS).2.1 = opn l (stn l v).toNat from rfl]
   cases opn l (stn l v).toNat
   ·refine ⟨_, rfl, .inl ?_⟩; rw [decide_eq_false (by simp)]; rfl
   ·refine ⟨_, rfl, .inl ?_⟩; rw [decide_eq_true ⟨rfl, .inl h1'⟩]; rfl
 rw [if_neg k5, cd k5]
 by_cases k6 : k = 6
 ·rw [if_pos k6, cd1 k6]
  rw [gDss l _ _ _ hi]
  by_cases h1 : v = 0
  ·rw [cd1 h1, if_pos h1, if_pos h1]; exact ⟨_, rfl, .inl rfl⟩
  ·rw [cd h1, if_neg h1, if_neg h1]; exact ⟨_, rfl, .inl rfl⟩
 rw [if_neg k6, cd k6]
 exact ⟨_, rfl, .inl rfl⟩
def outc (a : R1) (s : RS1) : Option R1 := if ((act a s).1 && gd (act a s).2) = true then some (act a s).2 else none
theorem step_eq (a : R1) (s : RS1) (hg : gd a = true) : iRs a s = some ((outc a s).elim (.inl (0, [], 0, 0, 0, ())) .inr) := by
 obtain ⟨r, e, hr⟩ := act_eq a s hg
 have hlen := act_len a s
 unfold outc
 obtain ⟨m, l, w, t, d, u⟩ := a
 obtain ⟨k, v, u'⟩ := s
 obtain ⟨hm, hl, _⟩ := go1 hg
 have hlen : (act (m, l, w, t, d, u) (k, v, u')).2.2.1.length = l.length := hlen (by show 0 < l.length; omega)
 have e : iRa (m, l, w, t, d, ()) (k, v, ()) = some r := e
 unfold iRs icRi
 rw [clone_eq l (by omega)]
 simp only [Option.bind_some, e]
 generalize act (m, l, w, t, d, u) (k, v, u') = y at hr hlen
 obtain ⟨b, m', l', w', t', d', u''⟩ := y
 have hlen : l'.length = l.length := hlen
 have hgd := iRe (m', l', w', t', d', ()) (by show l'.length ≤ 1048576; omega)
 rcases hr with rfl | rfl
 ·simp only [Sum.elim_inl, hgd, Option.bind_some]
  cases b
  ·rfl
  ·cases hq : gd (m', l', w', t', d', ()) <;> simp []
 ·simp only [Sum.elim_inr, hgd, Option.bind_some]
  cases b
  ·rfl
  ·cases hq : gd (m', l', w', t', d', ()) <;> simp []
theorem own_eq (a : R1) (h : a.2.1.length ≤ 1048576) : slO2 a = some (a.1, a.2.1, a.2.2.1, a.2.2.2.1, a.2.2.2.2.1, ()) := by
 unfold slO2
 rw [gp1 (by simp; omega)]; rfl
def askB (s : RS1) : Bool :=
 if s.1 = 1 then decide (0 ≤ s.2.1 ∧ s.2.1 ≤ 3) else if s.1 = 2 ∨ s.1 = 4 then decide (s.2.1 = 0) else if s.1 = 3 then decide (1 ≤ s.2.1 ∧ s.2.1 ≤ 20) else decide (5 ≤ s.1 ∧ s.1 ≤ 7) && decide (0 ≤ s.2.1 ∧ s.2.1 ≤ 1)
theorem ask_eq (s : RS1) : slS3 s = some (askB s) := by
 obtain ⟨k, v, u⟩ := s
 unfold slS3 askB
 simp only [lIe, Option.bind_some]
 by_cases k1 : k = 1
 ·rw [cd1 k1, if_pos k1]
 rw [cd k1, if_neg k1]
 by_cases k2 : k = 2
 ·rw [cd1 k2, Option.bind_some, cond_true, if_pos (.inl k2)]
 rw [cd k2, Option.bind_some]
 by_cases k4 : k = 4
 ·rw [decide_eq_true k4, cond_true, if_pos (.inr k4)]
 rw [decide_eq_false k4, cond_false, if_neg (by omega)]
 by_cases k3 : k = 3
 ·rw [cd1 k3, if_pos k3]
 rw [cd k3, if_neg k3]
 cases decide (5 ≤ k ∧ k ≤ 7) <;> rfl
theorem find_eq (a : R1) (c : Int) (h : a.2.1.length ≤ 1048576) : ∃ r, slF a c = some r ∧ (r < 0 ↔ ∀ k, k < a.2.1.length → cab a.2.1 k ≠ c) := by
 unfold slF
 obtain ⟨r, e, hr⟩ := ie1 (f := fun s => slFl a c s) (miss := Sum.inr ()) a.2.1.length (fun j => decide (cab a.2.1 j = c)) (fun j => Sum.inl (j : Int)) (fun j => (j : Int)) (fun k hk => by
  show slFl a c (k : Int) = _
  unfold slFl
  rw [cd1 (by omega), gp1 (by omega), wn (by omega)]
  show cond (decide (cab a.2.1 k = c)) _ _ = _
  cases decide (cab a.2.1 k = c) <;> rfl) (by
  show slFl a c (a.2.1.length : Int) = _
  unfold slFl
  rw [cd (by omega)]) (s := (0 : Int)) rfl
 rw [e]
 rcases hr with ⟨k, hk, hp, _, rfl⟩ | ⟨hn, rfl⟩
 ·refine ⟨(k : Int), rfl, ⟨fun h' => absurd h' (by omega), fun h' => absurd (of_decide_eq_true hp) (h' k hk)⟩⟩
 ·exact ⟨-1, rfl, ⟨fun _ k hk => of_decide_eq_false (hn k hk), fun _ => by omega⟩⟩
def opnL (l : List Slot) (k : Nat) : List Int := ((List.range k).filter fun j => opn l j).map fun j : Nat => (j : Int)
theorem oLs (l : List Slot) (k : Nat) : opnL l (k + 1) = if opn l k = true then opnL l k ++ [(k : Int)] else opnL l k := by
 unfold opnL
 rw [List.range_succ, List.filter_append, List.map_append]
 cases h : opn l k <;> simp [h]
theorem opnL_le (l : List Slot) (k : Nat) : (opnL l k).length ≤ k := by
 unfold opnL
 rw [List.length_map]
 exact Nat.le_trans (List.length_filter_le _ _) (by simp)
theorem rw_open_eq (a : R1) (h : a.2.1.length ≤ 1048576) : ∃ y, slO a = some y ∧ decide ((y.length : Int) = 0) = !aO a.2.1 := by
 unfold slO
 have H : iter (fun s => slOl a s.1 s.2) ((0 : Int), ([] : List Int)) = some (opnL a.2.1 a.2.1.length) :=
  if1 a.2.1.length (fun k => ((k : Int), opnL a.2.1 k)) (fun k hk => by
   show slOl a (k : Int) (opnL a.2.1 k) = _
   have hle := opnL_le a.2.1 k
   unfold slOl
   rw [cd1 (by omega), gp1 (by omega), wn (by omega), oLs]
   show cond (opn a.2.1 k) _ _ = _
   cases opn a.2.1 k
   ·rfl
   ·rw [cond_true, gp1 (by simp; omega)]; rfl) (by
   show slOl a (a.2.1.length : Int) (opnL a.2.1 a.2.1.length) = _
   unfold slOl
   rw [cd (by omega)]) rfl
 rw [H]
 refine ⟨_, rfl, ?_⟩
 rw [Bool.eq_iff_iff, decide_eq_true_iff, Bool.not_eq_true']
 unfold opnL aO
 rw [List.length_map, List.any_eq_false]
 constructor
 ·intro h0 x hx ho
  have : (List.range a.2.1.length).filter (fun j => opn a.2.1 j) = [] := List.length_eq_zero_iff.1 (by omega)
  have hm : x ∈ (List.range a.2.1.length).filter (fun j => opn a.2.1 j) := List.mem_filter.2 ⟨hx, ho⟩
  rw [this] at hm; cases hm
 ·intro h0
  rw [List.filter_eq_nil_iff.2 h0]; rfl
def turn (l : List Slot) (k : Nat) : List Slot := if k = l.length then rot l else l.take 1 ++ (l.take k ++ l.drop (k + 1))
theorem turn_length (l : List Slot) (k : Nat) (h : 0 < l.length) (hk : k ≤ l.length) : (turn l k).length = l.length := by
 unfold turn
 split
 ·exact rot_length l h
 ·simp; omega
theorem turn_zero (l : List Slot) (h : 0 < l.length) : turn l 0 = l := by
 unfold turn
 rw [if_neg (by omega), List.take_zero, List.nil_append, List.take_append_drop]
theorem turn_succ (l : List Slot) (k : Nat) (h : 1 < l.length) (hk : k < l.length) : (turn l k).set ((k + 1) % l.length) (l.getD k dS) = turn l (k + 1) := by
 have hget : l.getD k dS = l[k] := by simp [List.getD_eq_getElem?_getD, hk]
 unfold turn
 rw [if_neg (by omega), hget]
 by_cases h1 : k + 1 = l.length
 ·rw [if_pos h1, h1, Nat.mod_self]
  unfold rot
  have e : l.length - 1 = k := by omega
  rw [e, List.drop_eq_getElem_cons hk, List.drop_of_length_le (by omega)]
  cases l with
  | nil => simp at h
  | cons x l => simp; simp at h1; omega
 ·rw [if_neg h1, Nat.mod_eq_of_lt (by omega)]
  have hd : l.drop (k + 1) = l[k + 1] :: l.drop (k + 1 + 1) := List.drop_eq_getElem_cons (by omega)
  rw [hd, ← List.append_assoc]
  have hl : (l.take 1 ++ l.take k).length = k + 1 := by simp; omega
  have hset := set_mid (l.take 1 ++ l.take k) l[k + 1] l[k] (l.drop (k + 1 + 1))
  rw [hl] at hset
  rw [hset, List.append_assoc]
  refine congrArg (l.take 1 ++ ·) ?_
  have ht : l.take (k + 1) = l.take k ++ [l[k]] := by rw [List.take_add_one, List.getElem?_eq_getElem hk]; rfl
  rw [ht, List.append_assoc]; rfl
theorem rope_loop (a : R1) (h : 1 < a.2.1.length ∧ a.2.1.length ≤ 1000) (m w t d : Int) : iter (fun s => slRl1 a s.1 s.2.1 s.2.2.1 s.2.2.2.1 s.2.2.2.2.1 s.2.2.2.2.2) ((0 : Int), m, w, t, d, a.2.1) = some (m, w, t, d, rot a.2.1) := by
 obtain ⟨x, l, u⟩ := a
 have h : 1 < l.length ∧ l.length ≤ 1000 := h
 refine if1 l.length (fun k => ((k : Int), m, w, t, d, turn l k)) (fun k hk => ?_) ?_ (by rw [turn_zero l (by omega)]; rfl)
 ·show slRl1 (x, l, u) (k : Int) m w t d (turn l k) = _
  have hm : Int.tmod (w64 ((k : Int) + 1)) (l.length : Int) = (((k + 1) % l.length : Nat) : Int) := by
   rw [wn (by omega), Int.tmod_eq_emod_of_nonneg (by omega)]; rfl
  have hlt : (k + 1) % l.length < l.length := Nat.mod_lt _ (by omega)
  have htl := turn_length l k (by omega) (by omega)
  unfold slRl1
  dsimp only
  rw [cd1 (by omega), gp1 (by omega), gp1 (by omega), hm, gp1 (by omega), wn (by omega), Int.toNat_natCast, Int.toNat_natCast]
  rw [← turn_succ l k h.1 hk]
 ·show slRl1 (x, l, u) (l.length : Int) m w t d (turn l l.length) = _
  unfold slRl1
  dsimp only
  rw [cd (by omega)]
  simp [turn]
theorem rope_eq (a : R1) (s : RS1) (hg : gd a = true) (hk : s.1 ≤ 4) (hs : askB s = true) : slR1 a s = some ((act a s).2, (act a s).1) := by
 obtain ⟨m, l, w, t, d, u⟩ := a
 obtain ⟨k, v, u'⟩ := s
 obtain ⟨hm, hl, hw, ht, hd, hs0⟩ := go1 hg
 have hk : k ≤ 4 := hk
 unfold askB at hs
 dsimp only at hs
 have hc0 : (l.getD (0 : Int).toNat dS).1 = cab l 0 := rfl
 have hp0 : (l.getD (0 : Int).toNat dS).2.2.1 = ppl l 0 := rfl
 unfold slR1 act
 dsimp only
 rw [own_eq (m, l, w, t, d, ()) (by show l.length ≤ 1048576; omega), Option.bind_some]
 by_cases k1 : k = 1
 ·rw [if_pos k1, cd1 k1]
  by_cases h1 : v = m
  ·rw [cd1 h1, decide_eq_false (fun h => h.1 h1)]
  rw [cd h1]
  have last : (m = 3 → v = 0) → cond (!decide (v = 2)) (some ((v, l, w, t, d, ()), true)) (some ((v, l, w, t, d, ()), decide (m = 1))) = some (((v, l, w, t, d, ()) : R1), decide (v ≠ m ∧ (m = 3 → v = 0) ∧ (v = 2 → m = 1))) := fun h2 => by
   by_cases h4 : v = 2
   ·rw [cn h4, show decide (m = 1) = decide (v ≠ m ∧ (m = 3 → v = 0) ∧ (v = 2 → m = 1)) from by rw [decide_eq_decide]; omega]
   ·rw [cn1 h4, decide_eq_true (show v ≠ m ∧ (m = 3 → v = 0) ∧ (v = 2 → m = 1) by omega)]
  by_cases h2 : m = 3
  ·rw [cd1 h2]
   by_cases h3 : v = 0
   ·rw [cn h3]; exact last fun _ => h3
   ·rw [cn1 h3, decide_eq_false (by omega)]
  ·rw [cd h2]; exact last fun h => absurd h h2
 rw [if_neg k1] at hs
 rw [if_neg k1, cd k1]
 by_cases k2 : k = 2
 ·rw [if_pos (.inl k2), decide_eq_true_iff] at hs
  rw [if_pos k2, cd1 k2, rope_loop (m, l, w, t, d, u) (by show 1 < l.length ∧ l.length ≤ 1000; omega), Option.bind_some]
  obtain ⟨y, ey, hy⟩ := rw_open_eq (m, l, w, t, d, ()) (by show l.length ≤ 1048576; omega)
  have hy : decide ((y.length : Int) = 0) = !aO l := hy
  rw [ey]
  simp only [Option.bind_some, hy]
  by_cases h1 : m = 1
  ·rw [cd1 h1]; cases aO l <;> simp [h1, hs]
  ·rw [cd h1]
   by_cases h2 : m = 2
   ·rw [cd1 h2]; cases aO l <;> simp [h2, hs]
   ·rw [cd h2, decide_eq_false (by omega)]
 rw [if_neg k2, cd k2]
 by_cases k3 : k = 3
 ·rw [if_neg (by omega), if_pos k3, decide_eq_true_iff] at hs
  rw [if_pos k3, cd1 k3, gp1 (show (0 : Int) ≤ 0 ∧ (0 : Int) < (l.length : Int) by omega)]
  by_cases h1 : m = 0
  ·rw [cd1 h1, gp1 (show (0 : Int) ≤ 0 ∧ (0 : Int) < (l.length : Int) by omega), hc0]
   by_cases h3 : cab l 0 = 0
   ·obtain ⟨r, e, hr⟩ := find_eq (m, l, w, t, d, ()) v (by show l.length ≤ 1048576; omega)
    have hr : r < 0 ↔ ∀ k, k < l.length → cab l k ≠ v := hr
    rw [cd1 h3, e, Option.bind_some]
    rw [show decide (r < 0) = decide (m = 0 ∧ (1 ≤ v ∧ v ≤ 20) ∧ cab l 0 = 0 ∧ ∀ k, k < l.length → cab l k ≠ v) from by
     rw [decide_eq_decide, hr]
     exact ⟨fun h => ⟨h1, hs, h3, h⟩, fun h => h.2.2.2⟩]
    rfl
   ·rw [cd h3, decide_eq_false (fun h => h3 h.2.2.1)]; rfl
  ·rw [cd h1, decide_eq_false (fun h => h1 h.1)]; rfl
 rw [if_neg k3, cd k3]
 have k4 : k = 4 := by
  rw [if_neg k3] at hs
  split at hs
  ·omega
  ·simp at hs; omega
 rw [if_pos (.inr k4), decide_eq_true_iff] at hs
 rw [if_pos k4]
 simp only [gp1 (show (0 : Int) ≤ 0 ∧ (0 : Int) < (l.length : Int) by omega), hc0, hp0]
 by_cases h2 : m = 0
 ·rw [cd1 h2]
  by_cases h3 : 0 < cab l 0
  ·rw [cd1 h3, show decide (ppl l 0 = 0) = decide (v = 0 ∧ m = 0 ∧ 0 < cab l 0 ∧ ppl l 0 = 0) from by rw [decide_eq_decide]; exact ⟨fun h => ⟨hs, h2, h3, h⟩, fun h => h.2.2.2⟩]; rfl
  ·rw [cd h3, decide_eq_false (fun h => h3 h.2.2.1)]; rfl
 ·rw [cd h2, decide_eq_false (fun h => h2 h.2.1)]; rfl
theorem people_eq (a : R1) (s : RS1) (hg : gd a = true) (hk : 5 ≤ s.1 ∧ s.1 ≤ 7) (hv : 0 ≤ s.2.1 ∧ s.2.1 ≤ 1) : ∃ ok, slP a s = some ((act a s).2, ok) ∧ (ok && gd (act a s).2) = ((act a s).1 && gd (act a s).2) := by
 obtain ⟨m, l, w, t, d, u⟩ := a
 obtain ⟨k, v, u'⟩ := s
 obtain ⟨hm, hl, hw, ht, hd, hs⟩ := go1 hg
 have hk : 5 ≤ k ∧ k ≤ 7 := hk
 have hv : 0 ≤ v ∧ v ≤ 1 := hv
 have hin := stn_in hl hv
 have hi : (stn l v).toNat < l.length := by omega
 have hpp := iOp (hs _ hi)
 have hoc := iOk_opn (hs _ hi)
 have hst : slS1 (m, l, w, t, d, ()) v = some (stn l v) := by
  unfold slS1
  rw [gp1 (by omega)]; rfl
 have hF : ∀ p, gd (m, setS l (stn l v).toNat (opn l (stn l v).toNat) p, w, t, d, ()) = true → 0 ≤ p ∧ p ≤ 8 := fun p h => by
  obtain ⟨_, _, _, _, _, h⟩ := go1 h
  have := iOp (h (stn l v).toNat (by rw [sSl]; exact hi))
  unfold ppl at this
  rw [getD_setS l _ _ _ hi] at this
  exact this
 have hG : ∀ p w' t' d', gd (m, setS l (stn l v).toNat (opn l (stn l v).toNat) p, w', t', d', ()) = true → (0 ≤ p ∧ p ≤ 8) ∧ (0 ≤ w' ∧ w' ≤ 500) ∧ (0 ≤ t' ∧ t' ≤ 500) ∧ (0 ≤ d' ∧ d' ≤ 500) := fun p w' t' d' h => by
  obtain ⟨_, _, h1, h2, h3, h⟩ := go1 h
  have := iOp (h (stn l v).toNat (by rw [sSl]; exact hi))
  unfold ppl at this
  rw [getD_setS l _ _ _ hi] at this
  exact ⟨this, h1, h2, h3⟩
 clear hF
 have hb : ∀ (x y g : Bool), (g = true → x = y) → (x && g) = (y && g) := fun x y g h => by
  cases g
  ·simp
  ·rw [h rfl]
 unfold slP act
 dsimp only
 rw [own_eq (m, l, w, t, d, ()) (by show l.length ≤ 1048576; omega), Option.bind_some, hst, Option.bind_some, gp1 hin]
 rw [if_neg (by omega), if_neg (by omega), if_neg (by omega), if_neg (by omega), if_neg (fun h => h hv)]
 have hc : (l.getD (stn l v).toNat dS).1 = cab l (stn l v).toNat := rfl
 have ho : (l.getD (stn l v).toNat dS).2.1 = opn l (stn l v).toNat := rfl
 have hp : (l.getD (stn l v).toNat dS).2.2.1 = ppl l (stn l v).toNat := rfl
 simp only [hc, ho, hp]
 by_cases k7 : k = 7
 ·rw [if_pos k7, cd1 k7]
  by_cases h1 : 0 < cab l (stn l v).toNat
  ·rw [cd1 h1, gp1 hin]
   exact ⟨_, rfl, hb _ _ _ fun _ => by by_cases h2 : m = 2 <;> simp [h1, h2]⟩
  ·rw [cd h1, gp1 hin]
   exact ⟨_, rfl, hb _ _ _ fun _ => by simp [h1]⟩
 rw [if_neg k7, cd k7]
 by_cases k5 : k = 5
 ·rw [if_pos k5, cd1 k5]
  have hbr : ∀ (A B C D : Option (Int × Bool × Int × Int × Int × Int × Int × Bool × Int × List Slot)), cond (decide (0 < cab l (stn l v).toNat)) (cond (opn l (stn l v).toNat) A B) B = if opn l (stn l v).toNat = true then A else B := fun A B _ _ => by
   cases ho : opn l (stn l v).toNat
   ·simp
   ·rw [cd1 (hoc ho)]; rfl
  rw [hbr _ _ none none]
  clear hbr
  cases hop : opn l (stn l v).toNat
  ·rw [if_neg (by simp), Option.bind_some]
   by_cases h1 : v = 0
   ·rw [cd1 h1]
    simp only [cond_false]
    rw [gp1 hin, if_pos h1, if_pos h1]
    exact ⟨_, rfl, hb _ _ _ fun _ => by simp⟩
   ·rw [cd h1]
    simp only [cond_false]
    rw [gp1 hin, if_neg h1, if_neg h1]
    exact ⟨_, rfl, hb _ _ _ fun _ => by simp⟩
  ·rw [if_pos rfl, Option.bind_some]
   by_cases h1 : v = 0
   ·rw [cd1 h1, if_pos h1, if_pos h1]
    simp only []
    have e1 : w64 (ppl l (stn l v).toNat + 1) = ppl l (stn l v).toNat + 1 := wi (by omega) (by omega)
    have e2 : w64 (w - 1) = w - 1 := wi (by omega) (by omega)
    have hG2 := hG (ppl l (stn l v).toNat + 1) (w - 1) t d
    rw [hop] at hG2
    rw [e1, e2]
    by_cases h2 : ppl l (stn l v).toNat < 8
    ·rw [cd1 h2]
     by_cases h3 : 0 < w
     ·rw [cd1 h3, gp1 hin]
      exact ⟨_, rfl, hb _ _ _ fun _ => by by_cases h4 : m = 3 <;> simp [h1, h4]⟩
     ·rw [cd h3, gp1 hin]
      exact ⟨_, rfl, hb _ _ _ fun hq => by have := hG2 hq; omega⟩
    ·rw [cd h2, gp1 hin]
     exact ⟨_, rfl, hb _ _ _ fun hq => by have := hG2 hq; omega⟩
   ·rw [cd h1, if_neg h1, if_neg h1]
    simp only []
    have e1 : w64 (ppl l (stn l v).toNat + 1) = ppl l (stn l v).toNat + 1 := wi (by omega) (by omega)
    have e2 : w64 (t - 1) = t - 1 := wi (by omega) (by omega)
    have hG2 := hG (ppl l (stn l v).toNat + 1) w (t - 1) d
    rw [hop] at hG2
    have h1' : v = 1 := by omega
    rw [e1, e2]
    by_cases h2 : ppl l (stn l v).toNat < 8
    ·rw [cd1 h2, gp1 hin]
     exact ⟨_, rfl, hb _ _ _ fun hq => by have := hG2 hq; simp [h1']; omega⟩
    ·rw [cd h2, gp1 hin]
     exact ⟨_, rfl, hb _ _ _ fun hq => by have := hG2 hq; omega⟩
 rw [if_neg k5, cd k5, if_pos (by omega)]
 have e1 : w64 (ppl l (stn l v).toNat - 1) = ppl l (stn l v).toNat - 1 := wi (by omega) (by omega)
 have e2 : w64 (d + 1) = d + 1 := wi (by omega) (by omega)
 have e3 : w64 (t + 1) = t + 1 := wi (by omega) (by omega)
 rw [e1, e2, e3]
 cases hop : opn l (stn l v).toNat
 ·simp only [cond_false]
  have hbr : ∀ (A : Option (R1 × Bool)), cond (decide (0 < cab l (stn l v).toNat)) A A = A := fun A => by cases decide (0 < cab l (stn l v).toNat) <;> rfl
  rw [hbr]
  by_cases h1 : v = 0
  ·rw [cd1 h1, gp1 hin, if_pos h1, if_pos h1]; exact ⟨_, rfl, rfl⟩
  ·rw [cd h1, gp1 hin, if_neg h1, if_neg h1]; exact ⟨_, rfl, rfl⟩
 ·rw [cd1 (hoc hop), cond_true]
  by_cases h1 : v = 0
  ·rw [cd1 h1, gp1 hin, if_pos h1, if_pos h1]
   have hG2 := hG (ppl l (stn l v).toNat - 1) w t (d + 1)
   rw [hop] at hG2
   exact ⟨_, rfl, hb _ _ _ fun hq => by have := hG2 hq; simp; omega⟩
  ·rw [cd h1, gp1 hin, if_neg h1, if_neg h1]
   have hG2 := hG (ppl l (stn l v).toNat - 1) w (t + 1) d
   rw [hop] at hG2
   exact ⟨_, rfl, hb _ _ _ fun hq => by have := hG2 hq; simp; omega⟩
theorem make_eq (a : R1) (s : RS1) (hg : gd a = true) (hs : askB s = true) : ∃ y ok, slM1 a s = some (y, ok) ∧ outc a s = if ok = true then some y else none := by
 have hlen := act_len a s
 obtain ⟨m, l, w, t, d, u⟩ := a
 obtain ⟨k, v, u'⟩ := s
 obtain ⟨hm, hl, hw, ht, hd, hs0⟩ := go1 hg
 have hlen : (act (m, l, w, t, d, u) (k, v, u')).2.2.1.length = l.length := hlen (by show 0 < l.length; omega)
 unfold slM1 outc
 dsimp only
 have tail : ∀ (ok : Bool), (ok && gd (act (m, l, w, t, d, u) (k, v, u')).2) = ((act (m, l, w, t, d, u) (k, v, u')).1 && gd (act (m, l, w, t, d, u) (k, v, u')).2) →
   ∃ y ok', ((some (ok, (act (m, l, w, t, d, u) (k, v, u')).2.1, (act (m, l, w, t, d, u) (k, v, u')).2.2.2.1, (act (m, l, w, t, d, u) (k, v, u')).2.2.2.2.1, (act (m, l, w, t, d, u) (k, v, u')).2.2.2.2.2.1, (act (m, l, w, t, d, u) (k, v, u')).2.2.1)).bind fun z3 => (cond z3.1 ((slG (z3.2.1, z3.2.2.2.2.2, z3.2.2.1, z3.2.2.2.1, z3.2.2.2.2.1, ())).bind fun y4 => (some ((z3.2.1, z3.2.2.2.2.2, z3.2.2.1, z3.2.2.2.1, z3.2.2.2.2.1, ()), y4))) ((some ((z3.2.1, z3.2.2.2.2.2, z3.2.2.1, z3.2.2.2.1, z3.2.2.2.2.1, ()), false))))) = some (((y : R1), ok') : R1 × Bool) ∧ (if ((act (m, l, w, t, d, u) (k, v, u')).1 && gd (act (m, l, w, t, d, u) (k, v, u')).2) = true then some (act (m, l, w, t, d, u) (k, v, u')).2 else none) = if ok' = true then some y else none := by
  intro ok hok
  generalize act (m, l, w, t, d, u) (k, v, u') = z at hlen hok
  obtain ⟨b, m', l', w', t', d', u''⟩ := z
  have hlen : l'.length = l.length := hlen
  have hgd := gSe (m', l', w', t', d', ()) (by show l'.length ≤ 1048576; omega)
  rw [← hok]
  dsimp only
  rw [Option.bind_some]
  cases ok
  ·exact ⟨_, _, rfl, rfl⟩
  ·simp only [cond_true, hgd, Option.bind_some]
   exact ⟨_, _, rfl, by simp⟩
 by_cases hk : k ≤ 4
 ·rw [cd1 hk]
  have e := rope_eq (m, l, w, t, d, u) (k, v, u') hg hk hs
  have e : slR1 (m, l, w, t, d, ()) (k, v, ()) = some ((act (m, l, w, t, d, u) (k, v, u')).2, (act (m, l, w, t, d, u) (k, v, u')).1) := e
  rw [e, Option.bind_some]
  exact tail _ rfl
 ·rw [cd hk]
  have hs' : decide (5 ≤ k ∧ k ≤ 7) && decide (0 ≤ v ∧ v ≤ 1) = true := by
   unfold askB at hs
   dsimp only at hs
   rw [if_neg (by omega), if_neg (by omega), if_neg (by omega)] at hs
   simpa using hs
  simp only [Bool.and_eq_true, decide_eq_true_eq] at hs'
  obtain ⟨ok, e, hok⟩ := people_eq (m, l, w, t, d, u) (k, v, u') hg hs'.1 hs'.2
  have e : slP (m, l, w, t, d, ()) (k, v, ()) = some ((act (m, l, w, t, d, u) (k, v, u')).2, ok) := e
  rw [e, Option.bind_some]
  exact tail _ hok
theorem ask_no (a : R1) (s : RS1) (hg : gd a = true) (hs : askB s = false) : outc a s = none := by
 obtain ⟨m, l, w, t, d, u⟩ := a
 obtain ⟨k, v, u'⟩ := s
 unfold outc
 rw [if_neg]
 intro h
 rw [Bool.and_eq_true] at h
 obtain ⟨h1, h2⟩ := h
 unfold act at h1 h2
 unfold askB at hs
 dsimp only at h1 h2 hs
 by_cases k1 : k = 1
 ·rw [if_pos k1] at h1 h2 hs
  obtain ⟨hm, _⟩ := go1 h2
  exact of_decide_eq_false hs hm
 rw [if_neg k1] at h1 hs
 by_cases k2 : k = 2
 ·rw [if_pos k2] at h1
  rw [if_pos (.inl k2)] at hs
  exact of_decide_eq_false hs (of_decide_eq_true h1).1
 rw [if_neg k2] at h1
 by_cases k3 : k = 3
 ·rw [if_pos k3] at h1
  rw [if_neg (by omega), if_pos k3] at hs
  exact of_decide_eq_false hs (of_decide_eq_true h1).2.1
 rw [if_neg k3] at h1
 by_cases k4 : k = 4
 ·rw [if_pos k4] at h1
  rw [if_pos (.inr k4)] at hs
  exact of_decide_eq_false hs (of_decide_eq_true h1).1
 rw [if_neg k4] at h1
 rw [if_neg (by omega), if_neg k3] at hs
 by_cases hv : 0 ≤ v ∧ v ≤ 1
 ·rw [if_neg (fun h => h hv)] at h1
  rw [decide_eq_true hv, Bool.and_true] at hs
  have hk := of_decide_eq_false hs
  rw [if_neg (by omega), if_neg (by omega), if_neg (by omega)] at h1
  cases h1
 ·rw [if_pos hv] at h1; cases h1
theorem outc_len (a : R1) (s : RS1) (hg : gd a = true) (y : R1) (h : outc a s = some y) : y.2.1.length = a.2.1.length := by
 unfold outc at h
 split at h
 ·cases h
  refine act_len a s ?_
  obtain ⟨m, l, w, t, d, u⟩ := a
  obtain ⟨_, hl, _⟩ := go1 hg
  show 0 < l.length
  omega
 ·cases h
theorem og (a : R1) (s : RS1) (y : R1) (h : outc a s = some y) : gd y = true := by
 unfold outc at h
 split at h
 ·rename_i hc
  cases h
  rw [Bool.and_eq_true] at hc
  exact hc.2
 ·cases h
def CG (c : l1Cur) (n : Int) : Prop := (∀ x ∈ c.1, 0 ≤ x ∧ x ≤ 255) ∧ c.1.length ≤ 1048576 ∧ 0 ≤ c.2.1 ∧ c.2.1 ≤ n
theorem CG.up {c : l1Cur} {n m : Int} (h : CG c n) (hm : n ≤ m) : CG c m := ⟨h.1, h.2.1, h.2.2.1, by have := h.2.2.2; omega⟩
def Gives {α : Type} (x : Option (α × l1Cur)) (n : Int) (Q : α → Prop) : Prop := ∃ a c, x = some (a, c) ∧ CG c n ∧ Q a
theorem Gives.ret {α : Type} {a : α} {c : l1Cur} {n : Int} {Q : α → Prop} (h : CG c n) (hq : Q a) : Gives (some (a, c)) n Q := ⟨a, c, rfl, h, hq⟩
theorem Gives.mono {α : Type} {x : Option (α × l1Cur)} {n m : Int} {P Q : α → Prop} (h : Gives x n P) (hm : n ≤ m) (hq : ∀ a, P a → Q a) : Gives x m Q := by
 obtain ⟨a, c, e, h1, h2⟩ := h
 exact ⟨a, c, e, h1.up hm, hq a h2⟩
theorem gb {α β : Type} {x : Option (α × l1Cur)} {f : α × l1Cur → Option (β × l1Cur)} {n m : Int} {P : α → Prop} {Q : β → Prop} (h : Gives x n P)
  (hf : ∀ a code at' seed, P a → CG (code, at', seed, ()) n → Gives (f (a, (code, at', seed, ()))) m Q) : Gives (x.bind f) m Q := by
 obtain ⟨a, ⟨code, at', seed, u⟩, e, h1, h2⟩ := h
 rw [e]
 exact hf a code at' seed h2 h1
theorem gc {α : Type} {b : Bool} {x y : Option (α × l1Cur)} {n : Int} {Q : α → Prop} (h1 : b = true → Gives x n Q) (h2 : b = false → Gives y n Q) : Gives (cond b x y) n Q := by
 cases b
 ·exact h2 rfl
 ·exact h1 rfl
theorem gg {α : Type} {p : Prop} [Decidable p] {x : Option (α × l1Cur)} {n : Int} {Q : α → Prop} (hp : p) (h : Gives x n Q) : Gives (grd p x) n Q := by
 rw [gp1 hp]; exact h

theorem and255 (x : Int) : 0 ≤ w64 (wu64 ((BitVec.ofInt (IntKind.u64).bits x &&& BitVec.ofInt (IntKind.u64).bits (255 : Int)).toNat)) ∧ w64 (wu64 ((BitVec.ofInt (IntKind.u64).bits x &&& BitVec.ofInt (IntKind.u64).bits (255 : Int)).toNat)) ≤ 255 := by
 have h : (BitVec.ofInt (IntKind.u64).bits x &&& BitVec.ofInt (IntKind.u64).bits (255 : Int)).toNat ≤ 255 := by
  rw [BitVec.toNat_and]
  exact Nat.le_trans Nat.and_le_right (by decide)
 have e : wu64 ((BitVec.ofInt (IntKind.u64).bits x &&& BitVec.ofInt (IntKind.u64).bits (255 : Int)).toNat : Int) = ((BitVec.ofInt (IntKind.u64).bits x &&& BitVec.ofInt (IntKind.u64).bits (255 : Int)).toNat : Int) := by
  show IntKind.u64.wrap _ = _
  rw [IntKind.wrap_u64]; omega
 rw [e, wi (by omega) (by omega)]
 omega
theorem next_ok (c : l1Cur) (n : Int) (h : CG c n) (hn : n ≤ 1000000000000) : Gives (slCn c) (n + 1) (fun v => 0 ≤ v ∧ v ≤ 255) := by
 obtain ⟨code, at', seed, u⟩ := c
 obtain ⟨hb, hl, h0, h1⟩ := h
 have h0 : 0 ≤ at' := h0
 have h1 : at' ≤ n := h1
 have hw : w64 (at' + 1) = at' + 1 := wi (by omega) (by omega)
 have key : ∃ b : Int, (cond (decide (at' < (code.length : Int))) (grd (0 ≤ at' ∧ at' < (code.length : Int)) ((some (w64 (code.getD at'.toNat 0))))) ((some (0 : Int)))) = some b ∧ 0 ≤ b ∧ b ≤ 255 := by
  by_cases hlt : at' < (code.length : Int)
  ·rw [cd1 hlt, gp1 ⟨h0, hlt⟩]
   have hi : at'.toNat < code.length := by omega
   have hm : code.getD at'.toNat 0 ∈ code := by rw [gDe _ _ _ hi]; exact List.getElem_mem hi
   have := hb _ hm
   exact ⟨_, rfl, by rw [wi (by omega) (by omega)]; exact this⟩
  ·rw [cd hlt]; exact ⟨0, rfl, by omega, by omega⟩
 obtain ⟨b, e, b0, b1⟩ := key
 unfold slCn
 simp only [e, Option.bind_some]
 refine gc (fun _ => ?_) (fun _ => ?_)
 ·exact Gives.ret ⟨hb, hl, by show 0 ≤ w64 (at' + 1); omega, by show w64 (at' + 1) ≤ n + 1; omega⟩ ⟨b0, b1⟩
 ·refine gg (by omega) ?_
  exact Gives.ret ⟨hb, hl, by show 0 ≤ w64 (at' + 1); omega, by show w64 (at' + 1) ≤ n + 1; omega⟩ (and255 _)
theorem po (c : l1Cur) (n k : Int) (h : CG c n) (hn : n ≤ 100000000000) : Gives (slCp c k) (n + 2) (fun v => 0 ≤ v ∧ (v = 0 ∨ v < k)) := by
 obtain ⟨code, at', seed, u⟩ := c
 unfold slCp
 by_cases hk : k ≤ 1
 ·rw [cd1 hk]
  exact Gives.ret (h.up (by omega)) ⟨by omega, .inl rfl⟩
 rw [cd hk]
 refine gb (next_ok _ n h (by omega)) fun a code1 at1 seed1 ha hc => ?_
 dsimp only
 by_cases h2 : 200 < k
 ·rw [cd1 h2]
  refine gb (next_ok _ (n + 1) hc (by omega)) fun b code2 at2 seed2 hb hc => ?_
  dsimp only
  refine gg (by omega) (Gives.ret (hc.up (by omega)) ?_)
  rw [wi (x := a * 256) (by omega) (by omega), wi (by omega) (by omega)]
  exact ⟨Int.tmod_nonneg _ (by omega), .inr (Int.tmod_lt_of_pos _ (by omega))⟩
 ·rw [cd h2]
  refine gg (by omega) (Gives.ret (hc.up (by omega)) ?_)
  exact ⟨Int.tmod_nonneg _ (by omega), .inr (Int.tmod_lt_of_pos _ (by omega))⟩
theorem ao1 (c : l1Cur) (n : Int) (l : List Int) (hl : l ≠ []) (h : CG c n) (hn : n ≤ 100000000000) : Gives (slCa c l) (n + 2) (fun v => v ∈ l) := by
 obtain ⟨code, at', seed, u⟩ := c
 unfold slCa
 refine gb (po _ n _ h hn) fun a code1 at1 seed1 ha hc => ?_
 dsimp only
 have hpos : 0 < l.length := List.length_pos_iff.2 hl
 have hlt : a < (l.length : Int) := by omega
 refine gg ⟨ha.1, hlt⟩ (Gives.ret hc ?_)
 have hi : a.toNat < l.length := by omega
 show l.getD a.toNat 0 ∈ l
 rw [gDe _ _ _ hi]; exact List.getElem_mem hi
theorem openAny (a : R1) (h : a.2.1.length ≤ 1048576) : ∃ y, slO a = some y := by
 obtain ⟨y, e, _⟩ := rw_open_eq a h
 exact ⟨y, e⟩
def G1 (x : Option (RS1 × l1Cur × List Slot)) (n : Int) (l : List Slot) : Prop := ∃ e c, x = some (e, c, l) ∧ CG c n
theorem G1.ret {e : RS1} {c : l1Cur} {n : Int} {l : List Slot} (h : CG c n) : G1 (some (e, c, l)) n l := ⟨e, c, rfl, h⟩
theorem gb1 {α : Type} {x : Option (α × l1Cur)} {f : α × l1Cur → Option (RS1 × l1Cur × List Slot)} {n m : Int} {P : α → Prop} {l : List Slot} (h : Gives x n P)
  (hf : ∀ a code at' seed, P a → CG (code, at', seed, ()) n → G1 (f (a, (code, at', seed, ()))) m l) : G1 (x.bind f) m l := by
 obtain ⟨a, ⟨code, at', seed, u⟩, e, h1, h2⟩ := h
 rw [e]
 exact hf a code at' seed h2 h1
theorem gc1 {b : Bool} {x y : Option (RS1 × l1Cur × List Slot)} {n : Int} {l : List Slot} (h1 : b = true → G1 x n l) (h2 : b = false → G1 y n l) : G1 (cond b x y) n l := by
 cases b
 ·exact h2 rfl
 ·exact h1 rfl
theorem specStep_any (r : R1) (s : RS1) (hr : r.2.1.length ≤ 10) : ∃ o : Option R1, sSR r s = some (o.elim (.inl (0, [], 0, 0, 0, ())) .inr) ∧ ∀ y, o = some y → y.2.1.length = r.2.1.length := by
 have e1 : slG (r.1, r.2.1, r.2.2.1, r.2.2.2.1, r.2.2.2.2.1, ()) = some (gd r) := gSe r (by omega)
 have e3 : slS3 (s.1, s.2.1, ()) = some (askB s) := ask_eq s
 unfold sSR
 simp only [e1, e3, Option.bind_some]
 cases hg : gd r
 ·exact ⟨none, rfl, fun y h => by cases h⟩
 refine ⟨outc r s, ?_, fun y hy => outc_len r s hg y hy⟩
 simp only [Bool.not_true, cond_false]
 cases ha : askB s
 ·rw [ask_no r s hg ha]; rfl
 ·obtain ⟨y, ok, e5, e6⟩ := make_eq r s hg ha
  have e5 : slM1 (r.1, r.2.1, r.2.2.1, r.2.2.2.1, r.2.2.2.2.1, ()) (s.1, s.2.1, ()) = some (y, ok) := e5
  simp only [Bool.not_true, cond_false, e5, e6, Option.bind_some]
  cases ok <;> rfl
theorem newGood (n w : Int) (hn : n ∈ [(4 : Int), (4 : Int), (6 : Int), (8 : Int), (10 : Int)]) (hw : w ∈ [(0 : Int), (3 : Int), (10 : Int), (500 : Int)]) : sNR n w = some (Sum.inr (0, List.replicate n.toNat ((0 : Int), false, (0 : Int), ()), w, 0, 0, ())) ∧ n ≤ 10 ∧ 4 ≤ n := by
 have hn10 : 4 ≤ n ∧ n ≤ 10 := by
  simp only [List.mem_cons, List.not_mem_nil, or_false] at hn; omega
 have hgd : gd ((0 : Int), List.replicate n.toNat ((0 : Int), false, (0 : Int), ()), w, (0 : Int), (0 : Int), ()) = true := by
  simp only [List.mem_cons, List.not_mem_nil, or_false] at hn hw
  rcases hn with rfl | rfl | rfl | rfl | rfl <;> rcases hw with rfl | rfl | rfl | rfl <;> decide
 unfold sNR
 rw [lIe, Option.bind_some, cn hn10, gp1 (by omega), gSe _ (by simp; omega), hgd]
 exact ⟨rfl, hn10.2, hn10.1⟩
theorem sum_ok (a : R1) (h : a.2.1.length ≤ 10) (hp : ∀ k, k < a.2.1.length → 0 ≤ ppl a.2.1 k ∧ ppl a.2.1 k ≤ 8) : ∃ y, slS4 a = some y ∧ iRpO a = some y ∧ 0 ≤ y.2 ∧ y.2 ≤ y.1 := by
 obtain ⟨r, r', e1, e2, rfl, h0, h1⟩ := iter_rel (f := fun s => slSl1 a s.1 s.2.1 s.2.2) (g := fun s => iRpO1 a s.1 s.2.1 s.2.2)
  (fun (k : Nat) s t => ∃ c d : Int, s = (c, d, (k : Int)) ∧ t = (c, d, (k : Int)) ∧ 0 ≤ d ∧ d ≤ c ∧ c ≤ 8 * k) (fun r r' => r = r' ∧ 0 ≤ r.2 ∧ r.2 ≤ r.1) a.2.1.length
  (by
   rintro k _ _ hk ⟨c, d, rfl, rfl, g1, g2, g3⟩
   refine .inl ?_
   have hpk := hp k hk
   have w1 : w64 (c + ppl a.2.1 k) = c + ppl a.2.1 k := wi (by omega) (by omega)
   have w2 : w64 (d + ppl a.2.1 k) = d + ppl a.2.1 k := wi (by omega) (by omega)
   have hs : iRiS (a.1, a.2.1, a.2.2.1, a.2.2.2.1, a.2.2.2.2.1, ()) (k : Int) = some (stat a.2.1 k) := iSe _ k
   have hw : w64 ((k : Int) + 1) = ((k + 1 : Nat) : Int) := wn (by omega)
   cases hst : stat a.2.1 k with
   | true =>
     refine ⟨_, _, ?_, ?_, w64 (c + ppl a.2.1 k), d, rfl, rfl, by omega, by omega, by omega⟩
     ·show slSl1 a c d (k : Int) = _
      unfold slSl1
      rw [cd1 (by omega), gp1 (by omega)]
      by_cases h0 : (k : Int) = 0
      ·rw [cn h0, hw]; rfl
      ·rw [cn1 h0, gp1 (by omega)]
       have h1 : (k : Int) = w64 (Int.tdiv (a.2.1.length : Int) 2) := by
        simp only [stat, Bool.or_eq_true, decide_eq_true_eq] at hst
        exact hst.resolve_left h0
       rw [cn h1, hw]; rfl
     ·show iRpO1 a c d (k : Int) = _
      unfold iRpO1
      rw [cd1 (by omega), gp1 (by omega), hs, Option.bind_some, hst, hw]; rfl
   | false =>
     refine ⟨_, _, ?_, ?_, w64 (c + ppl a.2.1 k), w64 (d + ppl a.2.1 k), rfl, rfl, by omega, by omega, by omega⟩
     ·show slSl1 a c d (k : Int) = _
      unfold slSl1
      rw [cd1 (by omega), gp1 (by omega)]
      simp only [stat, Bool.or_eq_false_iff, decide_eq_false_iff_not] at hst
      rw [cn1 hst.1, gp1 (by omega), cn1 hst.2, gp1 (by omega), hw]; rfl
     ·show iRpO1 a c d (k : Int) = _
      unfold iRpO1
      rw [cd1 (by omega), gp1 (by omega), hs, Option.bind_some, hst, hw]; rfl)
  (by
   rintro _ _ ⟨c, d, rfl, rfl, g1, g2, g3⟩
   refine ⟨(c, d), (c, d), ?_, ?_, rfl, g1, g2⟩
   ·show slSl1 a c d (a.2.1.length : Int) = _
    unfold slSl1
    rw [cd (by omega)]
   ·show iRpO1 a c d (a.2.1.length : Int) = _
    unfold iRpO1
    rw [cd (by omega)])
  (s := ((0 : Int), (0 : Int), (0 : Int))) (t := ((0 : Int), (0 : Int), (0 : Int))) ⟨0, 0, rfl, rfl, by omega, by omega, by omega⟩
 refine ⟨(r.1, r.2), ?_, ?_, h0, h1⟩
 ·unfold slS4; rw [e1]; rfl
 ·unfold iRpO; rw [e2]; rfl
theorem find2 (a : R1) (n : Int) (h : a.2.1.length ≤ 1048576) : ∃ r, slF a n = some r ∧ ((∃ k, k < a.2.1.length ∧ cab a.2.1 k = n ∧ (∀ j, j < k → cab a.2.1 j ≠ n) ∧ r = (k : Int)) ∨ ((∀ k, k < a.2.1.length → cab a.2.1 k ≠ n) ∧ r = -1)) := by
 obtain ⟨r, e, hr⟩ := ie1 (f := fun s => slFl a n s) (miss := Sum.inr ()) a.2.1.length (fun j => decide (cab a.2.1 j = n)) (fun j => Sum.inl (j : Int)) (fun j => (j : Int)) (fun k hk => by
  show slFl a n (k : Int) = _
  unfold slFl
  rw [cd1 (by omega), gp1 (by omega), wn (by omega)]
  show cond (decide (cab a.2.1 k = n)) _ _ = _
  cases decide (cab a.2.1 k = n) <;> rfl) (by
  show slFl a n (a.2.1.length : Int) = _
  unfold slFl
  rw [cd (by omega)]) (s := (0 : Int)) rfl
 unfold slF
 rw [e]
 rcases hr with ⟨k, hk, hp, hj, rfl⟩ | ⟨hn, rfl⟩
 ·exact ⟨(k : Int), rfl, .inl ⟨k, hk, of_decide_eq_true hp, fun j h => of_decide_eq_false (hj j h), rfl⟩⟩
 ·exact ⟨-1, rfl, .inr ⟨fun k hk => of_decide_eq_false (hn k hk), rfl⟩⟩
theorem cab2 (a : R1) (n : Int) (h : a.2.1.length ≤ 1048576) : ∃ r, iRcA1 a n = some r ∧ ((∃ k, k < a.2.1.length ∧ (0 < cab a.2.1 k ∧ cab a.2.1 k = n) ∧ (∀ j, j < k → ¬ (0 < cab a.2.1 j ∧ cab a.2.1 j = n)) ∧ r = (k : Int)) ∨ ((∀ k, k < a.2.1.length → ¬ (0 < cab a.2.1 k ∧ cab a.2.1 k = n)) ∧ r = -1)) := by
 obtain ⟨r, e, hr⟩ := ie1 (f := fun s => sIFi3 a.2.1 n s) (miss := Sum.inr ()) a.2.1.length (fun j => decide (0 < cab a.2.1 j ∧ cab a.2.1 j = n)) (fun j => Sum.inl (j : Int)) (fun j => (j : Int)) (fun k hk => by
  show sIFi3 a.2.1 n (k : Int) = _
  unfold sIFi3
  rw [cd1 (by omega), gp1 (by omega), wn (by omega)]
  have hp : ∀ (o : Bool) (p : Int), iRcA (cab a.2.1 k, o, p, ()) n = some (decide (0 < cab a.2.1 k ∧ cab a.2.1 k = n)) := fun o p => by
   unfold iRcA
   show cond (decide (0 < cab a.2.1 k)) (some (decide (cab a.2.1 k = n))) (some false) = _
   by_cases h1 : 0 < cab a.2.1 k
   ·rw [cd1 h1]; simp [h1]
   ·rw [cd h1]; simp [h1]
  have hp := hp (opn a.2.1 k) (ppl a.2.1 k)
  show (iRcA (cab a.2.1 k, opn a.2.1 k, ppl a.2.1 k, ()) n).bind _ = _
  rw [hp, Option.bind_some]
  cases decide (0 < cab a.2.1 k ∧ cab a.2.1 k = n) <;> rfl) (by
  show sIFi3 a.2.1 n (a.2.1.length : Int) = _
  unfold sIFi3
  rw [cd (by omega)]) (s := (0 : Int)) rfl
 unfold iRcA1 sIFi
 rw [e]
 rcases hr with ⟨k, hk, hp, hj, rfl⟩ | ⟨hn, rfl⟩
 ·exact ⟨(k : Int), rfl, .inl ⟨k, hk, of_decide_eq_true hp, fun j h => of_decide_eq_false (hj j h), rfl⟩⟩
 ·exact ⟨-1, rfl, .inr ⟨fun k hk => of_decide_eq_false (hn k hk), rfl⟩⟩
theorem at_ok (a : R1) (n : Int) (h : a.2.1.length ≤ 1048576) : (sCA1 a n = some (0, false) ∧ iCA a n = some (0, false) ∧ (gd a = true → ∀ k, k < a.2.1.length → ¬ (0 < cab a.2.1 k ∧ cab a.2.1 k = n))) ∨
  ∃ k : Nat, sCA1 a n = some ((k : Int), true) ∧ iCA a n = some ((k : Int), true) ∧ gd a = true ∧ k < a.2.1.length ∧ 0 < n ∧ cab a.2.1 k = n ∧ ∀ j, j < k → cab a.2.1 j ≠ n := by
 have e1 : slG (a.1, a.2.1, a.2.2.1, a.2.2.2.1, a.2.2.2.2.1, ()) = some (gd a) := gSe a h
 have e2 : iIR (a.1, a.2.1, a.2.2.1, a.2.2.2.1, a.2.2.2.2.1, ()) = some (gd a) := iRe a h
 obtain ⟨f, f1, hf⟩ := find2 a n h
 obtain ⟨g, g1, hg⟩ := cab2 a n h
 have f1 : slF (a.1, a.2.1, a.2.2.1, a.2.2.2.1, a.2.2.2.2.1, ()) n = some f := f1
 have g1 : iRcA1 (a.1, a.2.1, a.2.2.1, a.2.2.2.1, a.2.2.2.2.1, ()) n = some g := g1
 unfold sCA1 iCA
 simp only [e1, e2, f1, g1, Option.bind_some]
 cases hgd : gd a
 ·exact .inl ⟨rfl, rfl, fun h => by cases h⟩
 simp only [Bool.not_true, cond_false]
 rcases hg with ⟨k, hk, ⟨h1, h2⟩, h3, rfl⟩ | ⟨h1, rfl⟩
 ·have hn : 0 < n := by omega
  have hf' : f = (k : Int) := by
   rcases hf with ⟨k', hk', p1, p2, rfl⟩ | ⟨p1, _⟩
   ·rcases Nat.lt_trichotomy k k' with hl | he | hl
    ·exact absurd h2 (p2 k hl)
    ·rw [he]
    ·exact absurd ⟨by omega, p1⟩ (h3 k' hl)
   ·exact absurd h2 (p1 k hk)
  subst hf'
  refine .inr ⟨k, ?_, ?_, trivial, hk, hn, h2, fun j hj e => h3 j hj ⟨by omega, e⟩⟩
  ·rw [cd (by omega), cd (by omega)]
  ·have h0 : ¬ (0 : Int) > (k : Int) := by omega
   simp [h0]
 ·refine .inl ⟨?_, rfl, fun _ => h1⟩
  by_cases hn : n < 1
  ·rw [cd1 hn]
  ·rw [cd hn]
   rcases hf with ⟨k', hk', p1, _, _⟩ | ⟨_, rfl⟩
   ·exact absurd ⟨by omega, p1⟩ (h1 k' hk')
   ·rfl
def trn (L k : Nat) (up : Bool) : Int := if up then (((L / 2 + L - k) % L : Nat) : Int) else (((L - k) % L : Nat) : Int)
theorem trn_eq (L k : Nat) (up : Bool) (hL : L ≤ 10) (hk : k < L) : (if up = true then Int.tmod (w64 ((w64 ((w64 (Int.tdiv (L : Int) 2)) - (k : Int))) + (L : Int))) (L : Int) else Int.tmod (w64 ((w64 ((0 : Int) - (k : Int))) + (L : Int))) (L : Int)) = trn L k up := by
 cases up
 ·rw [if_neg (by simp)]
  rw [wi (x := (0 : Int) - (k : Int)) (by omega) (by omega), wi (by omega) (by omega)]
  have e : (0 : Int) - (k : Int) + (L : Int) = ((L - k : Nat) : Int) := by omega
  rw [e, Int.tmod_eq_emod_of_nonneg (by omega)]
  rfl
 ·rw [if_pos rfl, Int.tdiv_eq_ediv_of_nonneg (by omega), wi (x := (L : Int) / 2) (by omega) (by omega), wi (x := (L : Int) / 2 - (k : Int)) (by omega) (by omega), wi (by omega) (by omega)]
  have e : (L : Int) / 2 - (k : Int) + (L : Int) = ((L / 2 + L - k : Nat) : Int) := by omega
  rw [e, Int.tmod_eq_emod_of_nonneg (by omega)]
  rfl
theorem turns_ok (a : R1) (n : Int) (up : Bool) (h : a.2.1.length ≤ 1048576) : (sCA1 a n = some (0, false) ∧ iCA a n = some (0, false) ∧ sTT a n up = some (0, false) ∧ iTT a n up = some (0, false)) ∨
  ∃ k : Nat, iCA a n = some ((k : Int), true) ∧ gd a = true ∧ k < a.2.1.length ∧ 0 < n ∧ cab a.2.1 k = n ∧ sTT a n up = some (trn a.2.1.length k up, true) ∧ iTT a n up = some (trn a.2.1.length k up, true) ∧ iTT a n (!up) = some (trn a.2.1.length k (!up), true) := by
 rcases at_ok a n h with ⟨e1, e2, _⟩ | ⟨k, e1, e2, hg, hk, hn, hc, _⟩
 ·have e1' : sCA1 (a.1, a.2.1, a.2.2.1, a.2.2.2.1, a.2.2.2.2.1, ()) n = some (0, false) := e1
  have e2' : iCA (a.1, a.2.1, a.2.2.1, a.2.2.2.1, a.2.2.2.2.1, ()) n = some (0, false) := e2
  refine .inl ⟨e1, e2, ?_, ?_⟩
  ·unfold sTT; rw [e1']; rfl
  ·unfold iTT; rw [e2']; rfl
 ·have e1' : sCA1 (a.1, a.2.1, a.2.2.1, a.2.2.2.1, a.2.2.2.2.1, ()) n = some ((k : Int), true) := e1
  have e2' : iCA (a.1, a.2.1, a.2.2.1, a.2.2.2.1, a.2.2.2.2.1, ()) n = some ((k : Int), true) := e2
  have hl : 4 ≤ a.2.1.length ∧ a.2.1.length ≤ 10 := by
   obtain ⟨m, l, w, t, d, u⟩ := a
   exact (go1 hg).2.1
  have both : ∀ up, sTT a n up = some (trn a.2.1.length k up, true) ∧ iTT a n up = some (trn a.2.1.length k up, true) := fun up => by
   have ht := trn_eq a.2.1.length k up hl.2 hk
   unfold sTT iTT
   rw [e1', e2', ← ht]
   simp only [Option.bind_some, Bool.not_true, cond_false]
   cases up
   ·simp only [cond_false, Bool.false_eq_true, if_false]
    rw [gp1 (by omega)]; exact ⟨rfl, rfl⟩
   ·simp only [cond_true, if_true]
    rw [gp1 (by omega), gp1 (by omega)]; exact ⟨rfl, rfl⟩
  exact .inr ⟨k, e2, hg, hk, hn, hc, (both up).1, (both up).2, (both (!up)).2⟩
def sm (l : List Slot) : Int := (l.map fun s => s.2.2.1).sum
theorem sm_append (a b : List Slot) : sm (a ++ b) = sm a + sm b := by
 unfold sm; rw [List.map_append, List.sum_append]
theorem sm_take (l : List Slot) (k : Nat) (hk : k < l.length) : sm (l.take (k + 1)) = sm (l.take k) + ppl l k := by
 rw [List.take_succ_eq_append_getElem hk, sm_append, ppl, gDe _ _ _ hk]
 show sm (l.take k) + ((l[k]).2.2.1 + (0 : Int)) = sm (l.take k) + (l[k]).2.2.1
 omega
theorem sm_le (l : List Slot) (hp : ∀ k, k < l.length → 0 ≤ ppl l k ∧ ppl l k ≤ 8) : ∀ k, k ≤ l.length → 0 ≤ sm (l.take k) ∧ sm (l.take k) ≤ 8 * k
 | 0, _ => by
   rw [List.take_zero]
   show 0 ≤ (0 : Int) ∧ (0 : Int) ≤ 8 * ((0 : Nat) : Int)
   omega
 | k + 1, h => by
   have e := sm_le l hp k (by omega)
   have := hp k (by omega)
   rw [sm_take l k (by omega)]
   omega
def sB (l : List Slot) : Nat → Int
 | 0 => 0
 | k + 1 => if stat l k = true then sB l k else w64 (sB l k + ppl l k)
theorem sum_val (a : R1) (h : a.2.1.length ≤ 10) (hp : ∀ k, k < a.2.1.length → 0 ≤ ppl a.2.1 k ∧ ppl a.2.1 k ≤ 8) : ∃ z, iRpO a = some (sm a.2.1, z) := by
 have H : iter (fun s => iRpO1 a s.1 s.2.1 s.2.2) ((0 : Int), (0 : Int), (0 : Int)) = some (sm (a.2.1.take a.2.1.length), sB a.2.1 a.2.1.length) :=
  if1 a.2.1.length (fun k => (sm (a.2.1.take k), sB a.2.1 k, (k : Int))) (fun k hk => by
   have hpk := hp k hk
   have hle := sm_le a.2.1 hp k (by omega)
   have hs : iRiS (a.1, a.2.1, a.2.2.1, a.2.2.2.1, a.2.2.2.2.1, ()) (k : Int) = some (stat a.2.1 k) := iSe _ k
   have hw : w64 ((k : Int) + 1) = ((k + 1 : Nat) : Int) := wn (by omega)
   have e1 : w64 (sm (a.2.1.take k) + ppl a.2.1 k) = sm (a.2.1.take (k + 1)) := by rw [sm_take _ _ hk, wi (by omega) (by omega)]
   have e2 : sB a.2.1 (k + 1) = if stat a.2.1 k = true then sB a.2.1 k else w64 (sB a.2.1 k + ppl a.2.1 k) := rfl
   show iRpO1 a (sm (a.2.1.take k)) (sB a.2.1 k) (k : Int) = _
   unfold iRpO1
   rw [cd1 (by omega), gp1 (by omega), hs, Option.bind_some, hw, ← e1, e2]
   cases stat a.2.1 k <;> rfl) (by
   show iRpO1 a (sm (a.2.1.take a.2.1.length)) (sB a.2.1 a.2.1.length) (a.2.1.length : Int) = _
   unfold iRpO1
   rw [cd (by omega)]) (by rw [List.take_zero]; rfl)
 refine ⟨sB a.2.1 a.2.1.length, ?_⟩
 unfold iRpO
 rw [H, List.take_length]; rfl
theorem opnL_mem {l : List Slot} {n : Nat} {x : Int} (h : x ∈ opnL l n) : ∃ j, j < n ∧ opn l j = true ∧ x = (j : Int) := by
 unfold opnL at h
 obtain ⟨j, hj, e⟩ := List.mem_map.1 h
 obtain ⟨h1, h2⟩ := List.mem_filter.1 hj
 exact ⟨j, by simpa using h1, h2, e.symm⟩
theorem gl {a : R1} (hg : gd a = true) : a.2.1.length ≤ 1048576 := by
 obtain ⟨m, l, w, t, d, u⟩ := a
 obtain ⟨_, hl, _⟩ := go1 hg
 show l.length ≤ 1048576
 omega
end Go.Proofs.YtaobinhdnklojaaGreatDoor
namespace Go.Proofs.YtaobinhdnklojaaGreatDoor
open Go.RowKit

theorem lNi (n : Int) (h : -1000000000000 ≤ n ∧ n ≤ 1000000000000) : slN n = some (bs (Lib.itoa n)) := by
 by_cases h0 : n < 0
 ·obtain ⟨m, rfl⟩ : ∃ m : Nat, n = -(m : Int) := ⟨n.natAbs, by omega⟩
  have hm : 1 ≤ m := by omega
  have e := lNfe 62 m (Nat.lt_of_lt_of_le (m := 10 ^ 18) (by omega) (by decide)) (by omega)
  have hl := dl1 18 m (Nat.lt_of_lt_of_le (m := 10 ^ 18) (by omega) (by decide))
  unfold slN
  rw [show (64 : Nat) = 63 + 1 from rfl, slNf1, cd1 h0, show (0 - -(m : Int)) = (m : Int) by omega, wi (by omega) (by omega), e, Option.bind_some, gp1 (by rw [bs1]; show 1 + (Lib.decDigits m).length ≤ 9223372036854775807; omega), Lib.itoa_neg m hm]
  show some (bs [45] ++ bs (Lib.decDigits m)) = _
  rw [ba]; rfl
 ·obtain ⟨m, rfl⟩ : ∃ m : Nat, n = (m : Int) := ⟨n.toNat, by omega⟩
  rw [lNe m (by omega), Lib.itoa_nonneg]
theorem itoa_int (n : Int) (h : -1000000000000 ≤ n ∧ n ≤ 1000000000000) : strconv_Itoa n = some (bs (Lib.itoa n)) := by
 unfold strconv_Itoa
 rw [gp1 (by omega)]; rfl
theorem read_loop (t : List UInt8) (ht : t.length ≤ 6) : ∀ (r p : List UInt8) (acc : Nat), t = p ++ r → acc < 10 ^ p.length →
  iter (fun s => slRl s.1 s.2.1 s.2.2) (bs t, (acc : Int), (p.length : Int)) = some (match Lib.decFrom acc r with | none => Sum.inl () | some m => Sum.inr (bs t, (m : Int)))
 | [], p, acc, e, _ => by
   refine io ?_
   show slRl (bs t) (acc : Int) (p.length : Int) = _
   unfold slRl
   have : t.length = p.length := by rw [e]; simp
   rw [cd (by rw [bs1]; omega)]
   rfl
 | b :: r, p, acc, e, ha => by
   have hl : t.length = p.length + (r.length + 1) := by rw [e]; simp
   have hb : bAt (bs t) (p.length : Int) = (b.toNat : Int) := by
    rw [bAb, Int.toNat_natCast, e]; simp [List.getD_eq_getElem?_getD]
   have hlt : b.toNat < 256 := UInt8.toNat_lt b
   have hacc : acc < 1000000 := Nat.lt_of_lt_of_le ha (Nat.le_trans (Nat.pow_le_pow_right (by omega) (show p.length ≤ 6 by omega)) (by decide))
   have h1 : 0 ≤ (p.length : Int) ∧ (p.length : Int) < ((bs t).size : Int) := by rw [bs1]; omega
   by_cases hd : 48 ≤ b.toNat ∧ b.toNat ≤ 57
   ·have hv : Lib.digitVal b = some (b.toNat - 48) := by unfold Lib.digitVal; rw [if_pos hd]
    have e2 : Lib.decFrom acc (b :: r) = Lib.decFrom (acc * 10 + (b.toNat - 48)) r := by
     conv => lhs; unfold Lib.decFrom
     rw [hv]
    have w1 : wu8 ((b.toNat : Int) - 48) = (b.toNat : Int) - 48 := by
     show IntKind.u8.wrap _ = _
     rw [IntKind.wrap_u8]; omega
    have w2 : w64 (w64 (10 * (acc : Int)) + w64 (wu8 ((b.toNat : Int) - 48))) = ((acc * 10 + (b.toNat - 48) : Nat) : Int) := by
     rw [w1, wi (x := 10 * (acc : Int)) (by omega) (by omega), wi (x := (b.toNat : Int) - 48) (by omega) (by omega), wi (by omega) (by omega)]; omega
    have w3 : w64 ((p.length : Int) + 1) = ((p ++ [b]).length : Int) := by rw [wn (by omega)]; simp
    have step : slRl (bs t) (acc : Int) (p.length : Int) = some (.go (bs t, ((acc * 10 + (b.toNat - 48) : Nat) : Int), ((p ++ [b]).length : Int))) := by
     unfold slRl
     rw [cd1 h1.2, gp1 h1, hb, cd (by omega), gp1 h1, cd (by omega), gp1 h1, w2, w3]
    have hp : acc * 10 + (b.toNat - 48) < 10 ^ (p ++ [b]).length := by
     rw [List.length_append, List.length_singleton, Nat.pow_succ]; omega
    rw [e2]
    exact (ig step).trans (read_loop t ht r (p ++ [b]) _ (by rw [e]; simp) hp)
   ·have hv : Lib.digitVal b = none := by unfold Lib.digitVal; rw [if_neg hd]
    have e2 : Lib.decFrom acc (b :: r) = none := by
     conv => lhs; unfold Lib.decFrom
     rw [hv]
    rw [e2]
    refine io ?_
    show slRl (bs t) (acc : Int) (p.length : Int) = _
    unfold slRl
    rw [cd1 h1.2, gp1 h1, hb]
    by_cases h2 : (b.toNat : Int) < 48
    ·rw [cd1 h2]
    ·rw [cd h2, gp1 h1, cd1 (by omega)]
theorem cut_sign (l : List UInt8) (hl : l.length ≤ 1000000) : ∃ t, (cond (decide ((1 : Int) < ((bs l).size : Int))) (grd (0 ≤ (0 : Int) ∧ (0 : Int) < ((bs l).size : Int)) (cond (decide ((bAt (bs l) (0 : Int)) = (45 : Int))) (grd (0 ≤ (1 : Int) ∧ (1 : Int) ≤ ((bs l).size : Int) ∧ ((bs l).size : Int) ≤ ((bs l).size : Int)) ((some (bsub (bs l) (1 : Int) ((bs l).size : Int))))) ((some (bs l))))) ((some (bs l)))) = some (bs t) ∧
  ((t = l ∧ ∀ r, l = 45 :: r → r = []) ∨ (l = 45 :: t ∧ t ≠ [])) := by
 match l, hl with
 | [], _ => exact ⟨[], rfl, .inl ⟨rfl, (fun r h => by cases h)⟩⟩
 | [b], _ => exact ⟨[b], rfl, .inl ⟨rfl, fun r h => by cases h; rfl⟩⟩
 | b :: c :: r, hl =>
   have hs : ((bs (b :: c :: r)).size : Int) = (r.length : Int) + 2 := by rw [bs1]; simp only [List.length_cons]; omega
   rw [cd1 (by rw [hs]; omega), gp1 (by rw [hs]; omega)]
   have hb : bAt (bs (b :: c :: r)) (0 : Int) = (b.toNat : Int) := by rw [bAb]; rfl
   rw [hb]
   by_cases h : b.toNat = 45
   ·have hb45 : b = 45 := UInt8.toNat_inj.1 h
    rw [cd1 (by omega), gp1 (by rw [hs]; omega), bb]
    refine ⟨c :: r, ?_, .inr ⟨by rw [hb45], by simp⟩⟩
    congr 2
    have : ((bs (b :: c :: r)).size : Int).toNat = r.length + 2 := by rw [hs]; omega
    rw [this]
    simp
   ·rw [cd (by omega)]
    refine ⟨b :: c :: r, rfl, .inl ⟨rfl, fun r' h' => ?_⟩⟩
    have : b = 45 := by cases h'; rfl
    rw [this] at h
    exact absurd rfl h
theorem decFrom_six {t : List UInt8} {m : Nat} (h : Lib.decFrom 0 t = some m) (hl : t.length ≤ 6) : m < 1000000 := by
 have := Lib.decFrom_lt t 0 m h
 have h6 : (10 : Nat) ^ t.length ≤ 10 ^ 6 := Nat.pow_le_pow_right (by omega) hl
 have h7 : (10 : Nat) ^ 6 = 1000000 := by decide
 omega
theorem l1Read_eq (l : List UInt8) (hl : l.length ≤ 1000000) : slR3 (bs l) = some (pI (bs l)) := by
 obtain ⟨t, e1, e2⟩ := cut_sign l hl
 have hts : (t = l ∧ t.length = l.length) ∨ (l = 45 :: t ∧ t.length < l.length) := by
  rcases e2 with ⟨h, _⟩ | ⟨h, _⟩
  ·exact .inl ⟨h, by rw [h]⟩
  ·exact .inr ⟨h, by rw [h]; simp⟩
 -- what is read, if anything
 have key : ∃ o : Option Int, slR3 (bs l) = some (match o with | none => (0, false) | some n => if l = Lib.itoa n then (n, true) else (0, false)) ∧
   (∀ n, o = some n → -999999 ≤ n ∧ n ≤ 999999) ∧ (1 ≤ t.length ∧ t.length ≤ 6 → ∀ m, Lib.decFrom 0 t = some m → o = some (if t.length < l.length then -(m : Int) else (m : Int))) := by
  unfold slR3
  rw [e1, Option.bind_some, lIe, Option.bind_some, bs1]
  by_cases hr : (1 : Int) ≤ (t.length : Int) ∧ (t.length : Int) ≤ 6
  case neg =>
   rw [cn1 hr]
   exact ⟨none, rfl, (fun n h => by cases h), fun h => absurd h (by omega)⟩
  rw [cn hr]
  have lp := read_loop t (by omega) t [] 0 rfl (by simp)
  rw [show (([] : List UInt8).length : Int) = (0 : Int) from rfl, show ((0 : Nat) : Int) = (0 : Int) from rfl] at lp
  rw [lp]
  cases hd : Lib.decFrom 0 t with
  | none => exact ⟨none, rfl, (fun n h => by cases h), (fun _ m h => by cases h)⟩
  | some m =>
    have hm := decFrom_six hd (by omega)
    simp only [Option.bind_some, Sum.elim_inr, bs1]
    by_cases hlt : t.length < l.length
    ·have w1 : w64 (0 - (m : Int)) = -(m : Int) := by rw [wi (by omega) (by omega)]; omega
     rw [cd1 (by omega), w1, lNi _ (by omega), Option.bind_some]
     refine ⟨some (-(m : Int)), ?_, (fun n h => by cases h; omega), (fun _ m' h => by cases h; rw [if_pos hlt])⟩
     dsimp only
     by_cases he : bs (Lib.itoa (-(m : Int))) = bs l
     ·rw [cn he, if_pos (bi.1 he).symm]
     ·rw [cn1 he, if_neg (fun h => he (by rw [h]))]
    ·rw [cd (by omega), lNi _ (by omega), Option.bind_some]
     refine ⟨some (m : Int), ?_, (fun n h => by cases h; omega), (fun _ m' h => by cases h; rw [if_neg hlt])⟩
     dsimp only
     by_cases he : bs (Lib.itoa (m : Int)) = bs l
     ·rw [cn he, if_pos (bi.1 he).symm]
     ·rw [cn1 he, if_neg (fun h => he (by rw [h]))]
 obtain ⟨o, k1, k2, k3⟩ := key
 rw [k1]
 rcases parseI_cases l with ⟨n, hn, hln, hp⟩ | ⟨hp, hno⟩
 ·rw [hp]
  have hlen := il n hn
  have ho : o = some n := by
   by_cases h0 : n < 0
   ·obtain ⟨m, rfl⟩ : ∃ m : Nat, n = -(m : Int) := ⟨n.natAbs, by omega⟩
    have h45 : l = 45 :: Lib.decDigits m := by rw [hln, Lib.itoa_neg m (by omega)]
    have ht : t = Lib.decDigits m := by
     rcases e2 with ⟨_, h⟩ | ⟨h, _⟩
     ·have := h _ h45
      have h2 := dl2 m
      rw [this] at h2; simp at h2
     ·rw [h45] at h
      simp only [List.cons.injEq, true_and] at h
      exact h.symm
    have hl6 := dl1 5 m (by have : (10 : Nat) ^ (5 + 1) = 1000000 := by decide
                            omega)
    have := k3 ⟨by rw [ht]; exact dl2 m, by rw [ht]; omega⟩ m (by rw [ht]; exact dFd m)
    rw [this, if_pos (by rw [h45, ht]; simp)]
   ·obtain ⟨m, rfl⟩ : ∃ m : Nat, n = (m : Int) := ⟨n.toNat, by omega⟩
    have hd : l = Lib.decDigits m := by rw [hln, Lib.itoa_nonneg]
    have ht : t = Lib.decDigits m := by
     rcases e2 with ⟨h, _⟩ | ⟨h, _⟩
     ·rw [h, hd]
     ·exfalso
      obtain ⟨b, r, e, hb, _⟩ := dec_cons m
      rw [hd, e] at h
      have : b = 45 := by cases h; rfl
      rw [this] at hb
      exact absurd hb (by decide)
    have hl6 := dl1 5 m (by have : (10 : Nat) ^ (5 + 1) = 1000000 := by decide
                            omega)
    have := k3 ⟨by rw [ht]; exact dl2 m, by rw [ht]; omega⟩ m (by rw [ht]; exact dFd m)
    rw [this, if_neg (by rw [hd, ht]; omega)]
  rw [ho]
  dsimp only
  rw [if_pos hln]
 ·rw [hp]
  cases o with
  | none => rfl
  | some n =>
    dsimp only
    rw [if_neg (hno n (k2 n rfl))]

def numsL (l : List Int) : List UInt8 := if l = [] then [110, 111, 110, 101] else Lib.join (l.map Lib.itoa) [32]
theorem join_snoc (xs : List (List UInt8)) (x : List UInt8) (h : xs ≠ []) : Lib.join (xs ++ [x]) [32] = Lib.join xs [32] ++ [32] ++ x := by
 induction xs with
 | nil => exact absurd rfl h
 | cons a xs ih =>
   cases xs with
   | nil => simp [Lib.join, List.intercalate]
   | cons b xs =>
     have := ih (by simp)
     simp only [Lib.join, List.intercalate, List.cons_append, List.intersperse_cons_cons, List.flatten_cons] at this ⊢
     rw [this]
     simp
end Go.Proofs.YtaobinhdnklojaaGreatDoor
namespace Go.Proofs.YtaobinhdnklojaaGreatDoor
open Go.RowKit

theorem fst_bs (l : List (List UInt8)) : (l.map bs).map (·.data.toList) = l := by
 rw [List.map_map]
 refine (List.map_congr_left fun a _ => ?_).trans (List.map_id _)
 simp
theorem join_eq (l : List (List UInt8)) (h : (Lib.join l [32]).length ≤ 1000) : strings_Join (l.map bs) (ByteArray.mk #[32]) = some (bs (Lib.join l [32])) := by
 unfold strings_Join
 have e : joinB (l.map bs) (ByteArray.mk #[32]) = bs (Lib.join l [32]) := by
  unfold joinB
  rw [fst_bs]
 rw [e, gp1 (by rw [bs1]; omega)]
def Small (l : List Int) : Prop := l.length ≤ 12 ∧ ∀ x ∈ l, -100000 ≤ x ∧ x ≤ 100000
theorem is1 (x : Int) (h : -100000 ≤ x ∧ x ≤ 100000) : (Lib.itoa x).length ≤ 7 := (il x (by omega)).1
theorem ts1 {α : Type} (l : List α) (k : Nat) (h : k < l.length) : l.take (k + 1) = l.take k ++ [l[k]] := List.take_succ_eq_append_getElem h
theorem js (l : List Int) (h : ∀ x ∈ l, -100000 ≤ x ∧ x ≤ 100000) : ∀ k, k ≤ l.length → (Lib.join ((l.take k).map Lib.itoa) [32]).length ≤ 8 * k
 | 0, _ => by simp [Lib.join, List.intercalate]
 | k + 1, hk => by
   have hk' : k < l.length := by omega
   have hx := is1 l[k] (h _ (List.getElem_mem hk'))
   rw [ts1 l k hk', List.map_append, List.map_cons, List.map_nil]
   by_cases h0 : k = 0
   ·subst h0
    simp [Lib.join, List.intercalate]; omega
   ·have ih := js l h k (by omega)
    have hne : (l.take k).map Lib.itoa ≠ [] := by
     intro e
     have := congrArg List.length e
     simp at this
     rcases this with h1 | h1
     ·exact h0 h1
     ·rw [h1] at hk'; simp at hk'
    rw [join_snoc _ _ hne]
    simp only [List.length_append, List.length_cons, List.length_nil]; omega
def Fine (R : List UInt8) : Prop := R.length ≤ 100 ∧ plainB [35] R = true
instance (R : List UInt8) : Decidable (Fine R) := inferInstanceAs (Decidable (_ ∧ _))
theorem pBa (no a b : List UInt8) : plainB no (a ++ b) = (plainB no a && plainB no b) := List.all_append
theorem dec_plain (k : Nat) : plainB [35] (Lib.decDigits k) = true := by
 unfold plainB
 rw [List.all_eq_true]
 intro b hb
 have := dec_mem k b hb
 have h1 : (32 : Nat) ≤ b.toNat := by omega
 have h2 : b.toNat ≤ 126 := by omega
 have h3 : b ≠ 35 := by
  rintro rfl
  have : (35 : UInt8).toNat = 35 := rfl
  omega
 simp [h1, h2, h3]
theorem ip (x : Int) : plainB [35] (Lib.itoa x) = true := by
 unfold Lib.itoa
 split
 ·rw [show (45 : UInt8) :: Lib.decDigits x.natAbs = [45] ++ Lib.decDigits x.natAbs from rfl, pBa, dec_plain]; rfl
 ·exact dec_plain _
theorem join_plain : ∀ l : List (List UInt8), (∀ x ∈ l, plainB [35] x = true) → plainB [35] (Lib.join l [32]) = true
 | [], _ => rfl
 | [x], h => by
   have e : Lib.join [x] [32] = x := by simp [Lib.join, List.intercalate]
   rw [e]; exact h x (by simp)
 | x :: y :: l, h => by
   have e : Lib.join (x :: y :: l) [32] = x ++ ([32] ++ Lib.join (y :: l) [32]) := by simp [Lib.join, List.intercalate]
   rw [e, pBa, pBa, h x (by simp), join_plain (y :: l) (fun z hz => h z (List.mem_cons_of_mem _ hz))]
   rfl
theorem nLs (l : List Int) (h : Small l) : Fine (numsL l) := by
 unfold numsL
 split
 ·exact ⟨by simp, by decide⟩
 ·have := js l h.2 l.length (Nat.le_refl _)
  rw [List.take_length] at this
  have := h.1
  refine ⟨by omega, join_plain _ fun x hx => ?_⟩
  obtain ⟨n, _, rfl⟩ := List.mem_map.1 hx
  exact ip n
theorem lTe (l : List Int) (h : Small l) : ilT l = some (bs (numsL l)) := by
 unfold ilT numsL
 by_cases h0 : l = []
 ·subst h0
  rw [if_pos rfl]; rfl
 have hpos : 0 < l.length := List.length_pos_iff.2 h0
 rw [cd (by omega), if_neg h0]
 have hlen := h.1
 have H : iter (fun s => inTl l s.1 s.2) ((0 : Int), ([] : List ByteArray)) = some (((l.take l.length).map Lib.itoa).map bs) :=
  if1 l.length (fun k => ((k : Int), ((l.take k).map Lib.itoa).map bs)) (fun k hk => by
   have hx := h.2 _ (List.getElem_mem hk)
   show inTl l (k : Int) (((l.take k).map Lib.itoa).map bs) = _
   unfold inTl
   rw [cd1 (by omega), gp1 (by omega), Int.toNat_natCast, gDe _ _ _ hk, itoa_int _ (by omega), Option.bind_some, gp1 (by simp; omega), wn (by omega), ts1 l k hk]
   simp only [List.map_append, List.map_cons, List.map_nil]) (by
   show inTl l (l.length : Int) _ = _
   unfold inTl
   rw [cd (by omega)]) rfl
 rw [List.take_length] at H
 have hj := js l h.2 l.length (Nat.le_refl _)
 rw [List.take_length] at hj
 unfold inT
 rw [H, Option.bind_some, join_eq _ (by omega)]
 rfl
theorem lLe (l : List Int) (h : Small l) : slL1 l true = some (bs (numsL l)) := by
 unfold slL1 numsL
 by_cases h0 : l = []
 ·subst h0
  rw [if_pos rfl]; rfl
 have hpos : 0 < l.length := List.length_pos_iff.2 h0
 have hlen := h.1
 rw [Bool.not_true, cond_false, cd (by omega), if_neg h0, gp1 (by omega)]
 have hx0 := h.2 _ (List.getElem_mem hpos)
 rw [show (0 : Int).toNat = 0 from rfl, gDe _ _ _ hpos, lNi _ (by omega), Option.bind_some]
 have step : ∀ k, 1 ≤ k → k < l.length → slLl l (bs (Lib.join ((l.take k).map Lib.itoa) [32])) (k : Int) = some (.go (bs (Lib.join ((l.take (k + 1)).map Lib.itoa) [32]), ((k + 1 : Nat) : Int))) := fun k h1 hk => by
  have hx := h.2 _ (List.getElem_mem hk)
  have hj := js l h.2 k (by omega)
  have hi := is1 _ hx
  have hne : (l.take k).map Lib.itoa ≠ [] := by
   intro e
   have := congrArg List.length e
   simp at this
   rcases this with h2 | h2
   ·omega
   ·rw [h2] at hk; simp at hk
  have hs : (ByteArray.mk #[32]).size = 1 := rfl
  have e1 : (bs (Lib.join ((l.take k).map Lib.itoa) [32]) ++ ByteArray.mk #[32]) = bs (Lib.join ((l.take k).map Lib.itoa) [32] ++ [32]) := ba _ [32]
  unfold slLl
  rw [cd1 (by omega), gp1 (by rw [bs1, hs]; omega), gp1 (by omega), Int.toNat_natCast, gDe _ _ _ hk, lNi _ (by omega), Option.bind_some, e1,
   gp1 (by rw [bs1, bs1, List.length_append]; simp only [List.length_cons, List.length_nil]; omega), ba, wn (by omega), ts1 l k hk, List.map_append, List.map_cons, List.map_nil, join_snoc _ _ hne]
 have run : ∀ d k, 1 ≤ k → k + d = l.length → iter (fun s => slLl l s.1 s.2) (bs (Lib.join ((l.take k).map Lib.itoa) [32]), (k : Int)) = some (bs (Lib.join (l.map Lib.itoa) [32])) := by
  intro d
  induction d with
  | zero =>
    intro k h1 hk
    refine io ?_
    show slLl l _ (k : Int) = _
    unfold slLl
    rw [cd (by omega), List.take_of_length_le (by omega)]
  | succ d ih =>
    intro k h1 hk
    exact (ig (step k h1 (by omega))).trans (ih (k + 1) (by omega) (by omega))
 have e0 : bs (Lib.itoa l[0]) = bs (Lib.join ((l.take 1).map Lib.itoa) [32]) := by
  rw [ts1 l 0 hpos]
  simp [Lib.join, List.intercalate]
 have r := run (l.length - 1) 1 (Nat.le_refl _) (by omega)
 rw [e0]
 rw [show ((1 : Nat) : Int) = (1 : Int) from rfl] at r
 rw [r]; rfl
def cabsL (l : List Slot) : List Int := l.map fun s => s.1
theorem cLs {l : List Slot} (hl : l.length ≤ 10) (h : ∀ k, k < l.length → iOk l k = true) : Small (cabsL l) := by
 refine ⟨by simp [cabsL]; omega, fun x hx => ?_⟩
 obtain ⟨s, hs, rfl⟩ := List.mem_map.1 hx
 obtain ⟨k, hk, e⟩ := List.mem_iff_getElem.1 hs
 have := iOk_cab (h k hk)
 unfold cab at this
 rw [gDe _ _ _ hk, e] at this
 omega
theorem cabins_loop (a : R1) (hl : a.2.1.length ≤ 1000) : iter (fun s => icTl a s.1 s.2) ((0 : Int), ([] : List Int)) = some (cabsL a.2.1) ∧ iter (fun s => slCl2 a s.1 s.2) ((0 : Int), ([] : List Int)) = some (cabsL a.2.1) := by
 have e : ∀ k, (hk : k < a.2.1.length) → cabsL (a.2.1.take k) ++ [(a.2.1.getD k dS).1] = cabsL (a.2.1.take (k + 1)) := fun k hk => by
  rw [ts1 _ _ hk, gDe _ _ _ hk]
  unfold cabsL
  rw [List.map_append]; rfl
 have hle : ∀ k, (cabsL (a.2.1.take k)).length ≤ k := fun k => by simp [cabsL]; omega
 constructor
 ·have H := if1 (f := fun s => icTl a s.1 s.2) (r := cabsL (a.2.1.take a.2.1.length)) a.2.1.length (fun k => ((k : Int), cabsL (a.2.1.take k))) (fun k hk => by
   have := hle k
   show icTl a (k : Int) (cabsL (a.2.1.take k)) = _
   unfold icTl
   rw [cd1 (by omega), gp1 (by omega), Int.toNat_natCast, e k hk, gp1 (by simp; omega), wn (by omega)]) (by
   show icTl a (a.2.1.length : Int) _ = _
   unfold icTl
   rw [cd (by omega)]) (s := ((0 : Int), ([] : List Int))) rfl
  rw [List.take_length] at H; exact H
 ·have H := if1 (f := fun s => slCl2 a s.1 s.2) (r := cabsL (a.2.1.take a.2.1.length)) a.2.1.length (fun k => ((k : Int), cabsL (a.2.1.take k))) (fun k hk => by
   have := hle k
   show slCl2 a (k : Int) (cabsL (a.2.1.take k)) = _
   unfold slCl2
   rw [cd1 (by omega), gp1 (by omega), Int.toNat_natCast, e k hk, gp1 (by simp; omega), wn (by omega)]) (by
   show slCl2 a (a.2.1.length : Int) _ = _
   unfold slCl2
   rw [cd (by omega)]) (s := ((0 : Int), ([] : List Int))) rfl
  rw [List.take_length] at H; exact H
theorem cabins_eq (a : R1) (hl : a.2.1.length ≤ 10) (h : ∀ k, k < a.2.1.length → iOk a.2.1 k = true) : icT a = some (bs (numsL (cabsL a.2.1))) ∧ slC a = some (bs (numsL (cabsL a.2.1))) := by
 obtain ⟨h1, h2⟩ := cabins_loop a (by omega)
 have hs := cLs hl h
 unfold icT slC
 rw [h1, h2, Option.bind_some, Option.bind_some, lTe _ hs, lLe _ hs]
 exact ⟨rfl, rfl⟩

def modeL (v : Int) : List UInt8 := [[115, 116, 111, 112, 112, 101, 100], [115, 108, 111, 119], [110, 111, 114, 109, 97, 108], [108, 111, 99, 107, 101, 100]].getD v.toNat []
def repL (a : R1) (k v : Int) : List UInt8 :=
 if k = 1 then modeL v
 else if k = 7 then if opn a.2.1 (stn a.2.1 v).toNat = true then [111, 112, 101, 110] else [115, 104, 117, 116]
 else if k = 5 ∨ k = 6 then Lib.itoa (ppl a.2.1 (stn a.2.1 v).toNat)
 else numsL (cabsL a.2.1)
theorem ask_out {k v : Int} (h : askB (k, v, ()) = true) : (k = 1 ∧ 0 ≤ v ∧ v ≤ 3) ∨ k = 2 ∨ k = 3 ∨ k = 4 ∨ ((k = 5 ∨ k = 6 ∨ k = 7) ∧ 0 ≤ v ∧ v ≤ 1) := by
 unfold askB at h
 dsimp only at h
 split at h
 ·rename_i h1
  exact .inl ⟨h1, of_decide_eq_true h⟩
 ·split at h
  ·rename_i h2; omega
  ·split at h
   ·rename_i h3; omega
   ·rw [Bool.and_eq_true, decide_eq_true_eq, decide_eq_true_eq] at h
    omega
theorem modes_eq (v : Int) (h : 0 ≤ v ∧ v ≤ 3) : [(ByteArray.mk #[115, 116, 111, 112, 112, 101, 100]), (ByteArray.mk #[115, 108, 111, 119]), (ByteArray.mk #[110, 111, 114, 109, 97, 108]), (ByteArray.mk #[108, 111, 99, 107, 101, 100])].getD v.toNat (ByteArray.mk #[]) = bs (modeL v) := by
 have : v = 0 ∨ v = 1 ∨ v = 2 ∨ v = 3 := by omega
 rcases this with rfl | rfl | rfl | rfl <;> rfl
theorem step_ask {a : R1} {k v : Int} {y : R1} (hg : gd a = true) (hy : outc a (k, v, ()) = some y) : askB (k, v, ()) = true := by
 cases h : askB (k, v, ()) with
 | true => rfl
 | false => rw [ask_no a _ hg h] at hy; cases hy
theorem sRe (y : R1) (k v : Int) (hg : gd y = true) (ha : askB (k, v, ()) = true) : isR y (k, v, ()) = some (bs (repL y k v)) ∧ Fine (repL y k v) := by
 obtain ⟨m, l, w, t, d, ⟨⟩⟩ := y
 obtain ⟨_, hl, _, _, _, hk⟩ := go1 hg
 have hcab := cabins_eq (m, l, w, t, d, ()) (by show l.length ≤ 10; omega) hk
 have hcs := nLs _ (cLs (l := l) (by omega) hk)
 unfold isR repL
 dsimp only
 have hcases := ask_out ha
 by_cases k1 : k = 1
 ·have hv : 0 ≤ v ∧ v ≤ 3 := by omega
  rw [cd1 k1, if_pos k1, gp1 (by omega), modes_eq v hv]
  refine ⟨rfl, ?_⟩
  have : v = 0 ∨ v = 1 ∨ v = 2 ∨ v = 3 := by omega
  rcases this with rfl | rfl | rfl | rfl <;> exact ⟨by decide, by decide⟩
 rw [cd k1, if_neg k1]
 have hst : ∀ v, iRsO (m, l, w, t, d, ()) v = some (stn l v) := fun v => by
  unfold iRsO
  rw [gp1 (by decide)]; rfl
 by_cases k7 : k = 7
 ·have hv : 0 ≤ v ∧ v ≤ 1 := by omega
  have hi := stn_in (l := l) (v := v) hl hv
  rw [cd1 k7, if_pos k7, hst, Option.bind_some, gp1 hi]
  show cond (opn l (stn l v).toNat) _ _ = _ ∧ _
  cases opn l (stn l v).toNat
  ·exact ⟨rfl, by decide, by decide⟩
  ·exact ⟨rfl, by decide, by decide⟩
 rw [cd k7, if_neg k7]
 by_cases k56 : k = 5 ∨ k = 6
 ·have hv : 0 ≤ v ∧ v ≤ 1 := by omega
  have hi := stn_in (l := l) (v := v) hl hv
  have hp := iOp (hk (stn l v).toNat (by omega))
  have hz : (cond (decide (k = (5 : Int))) ((some true)) ((some (decide (k = (6 : Int)))))) = some true := by
   rcases k56 with h | h
   ·rw [cd1 h]
   ·rw [cd (by omega), decide_eq_true h]
  rw [hz, if_pos k56, Option.bind_some, cond_true, hst, Option.bind_some, gp1 hi]
  have e := itoa_int (ppl l (stn l v).toNat) (by omega)
  have e : strconv_Itoa (l.getD (stn l v).toNat dS).2.2.1 = _ := e
  rw [e]
  have := is1 (ppl l (stn l v).toNat) (by omega)
  exact ⟨rfl, by omega, ip _⟩
 ·have hz : (cond (decide (k = (5 : Int))) ((some true)) ((some (decide (k = (6 : Int)))))) = some false := by
   rw [cd (by omega), decide_eq_false (by omega)]
  rw [hz, if_neg k56, Option.bind_some, cond_false, hcab.1]
  exact ⟨rfl, hcs⟩
theorem specStep_eq (a : R1) (s : RS1) (hg : gd a = true) : sSR a s = some ((outc a s).elim (.inl (0, [], 0, 0, 0, ())) .inr) := by
 have h : a.2.1.length ≤ 1048576 := gl hg
 have e1 : slG (a.1, a.2.1, a.2.2.1, a.2.2.2.1, a.2.2.2.2.1, ()) = some (gd a) := gSe a h
 have e3 : slS3 (s.1, s.2.1, ()) = some (askB s) := ask_eq s
 unfold sSR
 simp only [e1, e3, hg, Option.bind_some, Bool.not_true, cond_false]
 cases ha : askB s
 ·rw [ask_no a s hg ha]; rfl
 ·obtain ⟨y, ok, e5, e6⟩ := make_eq a s hg ha
  have e5 : slM1 (a.1, a.2.1, a.2.2.1, a.2.2.2.1, a.2.2.2.2.1, ()) (s.1, s.2.1, ()) = some (y, ok) := e5
  simp only [Bool.not_true, cond_false, e5, e6, Option.bind_some]
  cases ok <;> rfl
abbrev RI (a y : R1) (b : Bool) (R : List UInt8) : (R1 × ByteArray × (List Slot)) ⊕ (R1 × ByteArray × (List Slot)) := if b = true then .inr (y, bs R, a.2.1) else .inl (y, bs R, a.2.1)
abbrev RS (a y : R1) (g : Log) (b : Bool) (R : List UInt8) : (C1 × ByteArray × (List Slot)) ⊕ (C1 × ByteArray × (List Slot)) := if b = true then .inr ((y, g, ()), bs R, a.2.1) else .inl ((y, g, ()), bs R, a.2.1)
theorem make_spec (a : R1) (g : Log) (k v : Int) (hg : gd a = true) : slM (a, g, ()) k v = some (match outc a (k, v, ()) with | none => RS a a g false [63] | some y => RS a y g true (repL y k v)) := by
 have e1 := specStep_eq a (k, v, ()) hg
 obtain ⟨m, l, w, t, d, ⟨⟩⟩ := a
 obtain ⟨gd', gp, gn, ⟨⟩⟩ := g
 unfold slM
 dsimp only
 rw [e1, Option.bind_some]
 cases ho : outc (m, l, w, t, d, ()) (k, v, ()) with
 | none => rfl
 | some y =>
   have ha := step_ask hg ho
   have hgy := og _ _ _ ho
   obtain ⟨m2, l2, w2, t2, d2, ⟨⟩⟩ := y
   obtain ⟨_, hl, _, _, _, hk⟩ := go1 hgy
   have hcab := cabins_eq (m2, l2, w2, t2, d2, ()) (by show l2.length ≤ 10; omega) hk
   have hcases := ask_out ha
   rw [Option.elim_some, Sum.elim_inr]
   dsimp only
   unfold repL
   dsimp only
   by_cases k1 : k = 1
   ·have hv : 0 ≤ v ∧ v ≤ 3 := by omega
    rw [cd1 k1, if_pos k1, gp1 (by simp; omega), modes_eq v hv]
    rfl
   rw [cd k1, if_neg k1]
   have hst : ∀ v, slS1 (m2, l2, w2, t2, d2, ()) v = some (stn l2 v) := fun v => by
    unfold slS1
    rw [gp1 (by decide)]; rfl
   by_cases k234 : k = 2 ∨ k = 3 ∨ k = 4
   ·have hz : ∀ {α : Type} (x : α), (cond (decide (k = (2 : Int))) ((some (true, x))) (cond (decide (k = (3 : Int))) ((some (true, x))) ((some ((decide (k = (4 : Int))), x))))) = some (true, x) := fun x => by
     rcases k234 with h | h | h
     ·rw [cd1 h]
     ·rw [cd (by omega), cd1 h]
     ·rw [cd (by omega), cd (by omega), decide_eq_true h]
    rw [hz, if_neg (by omega), if_neg (by omega), Option.bind_some, cond_true]
    dsimp only
    rw [hcab.2]
    rfl
   have hz : ∀ {α : Type} (x : α), (cond (decide (k = (2 : Int))) ((some (true, x))) (cond (decide (k = (3 : Int))) ((some (true, x))) ((some ((decide (k = (4 : Int))), x))))) = some (false, x) := fun x => by
    rw [cd (by omega), cd (by omega), decide_eq_false (by omega)]
   have hv : 0 ≤ v ∧ v ≤ 1 := by omega
   have hi := stn_in (l := l2) (v := v) hl hv
   rw [hz, Option.bind_some, cond_false]
   dsimp only
   by_cases k7 : k = 7
   ·rw [cd1 k7, if_pos k7, hst, Option.bind_some, gp1 hi]
    show cond (opn l2 (stn l2 v).toNat) _ _ = _
    cases opn l2 (stn l2 v).toNat <;> rfl
   ·have hp := iOp (hk (stn l2 v).toNat (by omega))
    rw [cd k7, if_neg k7, if_pos (by omega), hst, Option.bind_some, gp1 hi]
    have e : slN (l2.getD (stn l2 v).toNat dS).2.2.1 = _ := lNi (ppl l2 (stn l2 v).toNat) (by omega)
    rw [e]
    rfl
end Go.Proofs.YtaobinhdnklojaaGreatDoor
