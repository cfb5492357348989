/-
  The law of open runs, marked and held.
-/
import Derived.Test.YtaajchikfgbecaaR71
namespace Go.Proofs.Ytaajchikfgbecaa
open Go.RowKit

theorem strOfN_one (x : Int) : (strOfN [x]).size = 1 := rfl
theorem mark_loop : ∀ (m n : Nat) (s : ByteArray), n < 10 ^ m → s.size + m ≤ 1000000 → n < 4611686018427387904 → ∃ r, iter (fun x => laws_markText_loop1 x.1 x.2) ((n : Int), s) = some r ∧ r.size ≤ 1000000 := by
  intro m
  induction m with
  | zero =>
    intro n s h1 h2 _
    have h0 : n = 0 := by simpa using h1
    subst h0
    refine ⟨s, iter_out ?_, by omega⟩
    show laws_markText_loop1 ((0 : Nat) : Int) s = _
    unfold laws_markText_loop1
    rw [cond_df (by omega)]
  | succ m ih =>
    intro n s h1 h2 h3
    by_cases h0 : n = 0
    · subst h0
      refine ⟨s, iter_out ?_, by omega⟩
      show laws_markText_loop1 ((0 : Nat) : Int) s = _
      unfold laws_markText_loop1
      rw [cond_df (by omega)]
    · rw [Nat.pow_succ] at h1
      have t1 : Int.tdiv ((n : Nat) : Int) 10 = ((n / 10 : Nat) : Int) := rfl
      generalize hx : (wu8 (w64 ((48 : Int) + (Int.tmod ((n : Nat) : Int) (10 : Int))))) = x
      have hsz : ((strOfN [x]) ++ s).size = 1 + s.size := by rw [ByteArray.size_append, strOfN_one]
      obtain ⟨r, hr, hs⟩ := ih (n / 10) ((strOfN [x]) ++ s) (by omega) (by rw [hsz]; omega) (by omega)
      refine ⟨r, (iter_go ?_).trans hr, hs⟩
      show laws_markText_loop1 ((n : Nat) : Int) s = _
      unfold laws_markText_loop1
      rw [hx, cond_dt (by omega), grd_pos (by decide), grd_pos (by rw [strOfN_one]; omega), grd_pos (by decide), t1, w64_id (by omega) (by omega)]
theorem markText_ok (k : Int) (h : k ≤ 100000000) : ∃ y, laws_markText k = some y := by
  unfold laws_markText
  by_cases h0 : k ≤ 0
  · rw [cond_dt h0]; exact ⟨_, rfl⟩
  · rw [cond_df h0]
    obtain ⟨n, rfl⟩ : ∃ n : Nat, k = (n : Int) := ⟨k.toNat, by omega⟩
    obtain ⟨r, hr, hs⟩ := mark_loop 10 n (ByteArray.mk #[]) (by omega) (by decide) (by omega)
    rw [hr, Option.bind_some, grd_pos (by show 1 + r.size ≤ _; omega)]
    exact ⟨_, rfl⟩
theorem bind_len {t : Nat} {β : Type} {n : Nat} (L : List DayRow) (hL : L.length = n) {F : Tg t × List DayRow → Option β} {Q : Option β → Prop} (h : ∀ L' : List DayRow, L'.length = n → Q (F (Tg.mk, L'))) : Q ((some ((Tg.mk : Tg t), L)).bind F) := h L hL
def MR (n k : Nat) (o : Option (Lp (Int × Int × List DayRow) (Int × List DayRow))) : Prop := ∃ s', o = some (.go s') ∧ s'.1 = 1 + 6 * ((k + 1 : Nat) : Int) ∧ s'.2.1 = ((k + 1 : Nat) : Int) ∧ s'.2.2.length = n
theorem markRows_ok (l : List DayRow) (h : l.length ≤ 1048576) : ∃ y, laws_markDayRowS l 1 = some y ∧ 0 ≤ y.1 := by
  unfold laws_markDayRowS
  obtain ⟨r, hr, hq⟩ := iter_tot (f := fun s => laws_markDayRowS_loop1 s.1 s.2.1 s.2.2) (fun k s => s.1 = 1 + 6 * (k : Int) ∧ s.2.1 = (k : Int) ∧ s.2.2.length = l.length) (fun r => 0 ≤ r.1) l.length (fun k s hk hI => by
    obtain ⟨v, i, m⟩ := s
    obtain ⟨rfl, rfl, hl⟩ := hI
    left
    have hl : m.length = l.length := hl
    obtain ⟨y, hy⟩ := markText_ok (1 + 6 * (k : Int) + 5) (by omega)
    show MR l.length k (laws_markDayRowS_loop1 (1 + 6 * (k : Int)) (k : Int) m)
    unfold laws_markDayRowS_loop1
    have w1 : w64 (1 + 6 * (k : Int) + 1) = 1 + 6 * (k : Int) + 1 := w64_id (by omega) (by omega)
    have w2 : w64 (1 + 6 * (k : Int) + 1 + 1) = 1 + 6 * (k : Int) + 2 := by rw [w64_id (by omega) (by omega)]; omega
    have w3 : w64 (1 + 6 * (k : Int) + 2 + 1) = 1 + 6 * (k : Int) + 3 := by rw [w64_id (by omega) (by omega)]; omega
    have w4 : w64 (1 + 6 * (k : Int) + 3 + 1) = 1 + 6 * (k : Int) + 4 := by rw [w64_id (by omega) (by omega)]; omega
    have w5 : w64 (1 + 6 * (k : Int) + 4 + 1) = 1 + 6 * (k : Int) + 5 := by rw [w64_id (by omega) (by omega)]; omega
    have w6 : w64 (1 + 6 * (k : Int) + 5 + 1) = 1 + 6 * ((k + 1 : Nat) : Int) := by rw [w64_id (by omega) (by omega)]; omega
    simp only [w1, w2, w3, w4, w5, w6]
    rw [cond_dt (by omega), grd_pos (by omega)]
    refine bind_len (Q := MR l.length k) _ ((List.length_set ..).trans hl) (fun L1 h1 => ?_)
    dsimp only
    rw [grd_pos (by omega)]
    refine bind_len (Q := MR l.length k) _ ((List.length_set ..).trans h1) (fun L2 h2 => ?_)
    dsimp only
    rw [grd_pos (by omega)]
    refine bind_len (Q := MR l.length k) _ ((List.length_set ..).trans h2) (fun L3 h3 => ?_)
    dsimp only
    rw [grd_pos (by omega)]
    refine bind_len (Q := MR l.length k) _ ((List.length_set ..).trans h3) (fun L4 h4 => ?_)
    dsimp only
    rw [grd_pos (by omega)]
    refine bind_len (Q := MR l.length k) _ ((List.length_set ..).trans h4) (fun L5 h5 => ?_)
    dsimp only
    rw [hy, Option.bind_some, grd_pos (by omega)]
    refine bind_len (Q := MR l.length k) _ ((List.length_set ..).trans h5) (fun L6 h6 => ?_)
    dsimp only
    rw [w64_nat (by omega)]
    exact ⟨_, rfl, rfl, rfl, h6⟩) (fun s hI => by
    obtain ⟨v, i, m⟩ := s
    obtain ⟨rfl, rfl, hl⟩ := hI
    have hl : m.length = l.length := hl
    refine ⟨(1 + 6 * (l.length : Int), m), ?_, ?_⟩
    · show laws_markDayRowS_loop1 (1 + 6 * (l.length : Int)) (l.length : Int) m = _
      unfold laws_markDayRowS_loop1
      rw [cond_df (by omega)]
    · show 0 ≤ 1 + 6 * (l.length : Int); omega) (s := ((1 : Int), (0 : Int), l)) ⟨rfl, rfl, rfl⟩
  rw [hr]
  exact ⟨_, rfl, hq⟩
/-- Rows marked. -/
def mks : Nat → List (List Int)
  | 0 => []
  | j + 1 => mks j ++ [[1 + 2 * (j : Int), 1 + 2 * (j : Int) + 1]]
theorem mks_length : ∀ j, (mks j).length = j
  | 0 => rfl
  | j + 1 => by simp [mks, mks_length j]
theorem mks_get : ∀ (n j : Nat), j < n → (mks n).getD j [] = [1 + 2 * (j : Int), 1 + 2 * (j : Int) + 1]
  | 0, j, h => by omega
  | n + 1, j, h => by
    rw [mks, List.getD_eq_getElem?_getD]
    by_cases e : j < n
    · rw [List.getElem?_append_left (by rw [mks_length]; exact e), ← List.getD_eq_getElem?_getD]
      exact mks_get n j e
    · obtain rfl : j = n := by omega
      rw [List.getElem?_append_right (by rw [mks_length]; exact Nat.le_refl _), mks_length, Nat.sub_self]; rfl
theorem markRow (xss : List (List Int)) (i : Nat) (k a b : Int) (hi : i < xss.length) (e : xss.getD i [] = [a, b]) (hk : 0 ≤ k ∧ k ≤ 1000000) : laws_markIntS_i1 xss i k = some (k + 2, xss.set i [k, k + 1]) := by
  have g1 : ∀ r : List Int, (xss.set i r).getD i [] = r := fun r => by rw [List.getD_eq_getElem?_getD, List.getElem?_set_self hi]; rfl
  have s1 : laws_markIntS_i1_loop1 i k ((0 : Nat) : Int) xss = some (.go (k + 1, ((1 : Nat) : Int), xss.set i [k, b])) := by
    unfold laws_markIntS_i1_loop1
    simp only [e]
    rw [cond_dt (by simp), grd_pos (by simp), w64_id (by omega) (by omega)]
    rfl
  have s2 : laws_markIntS_i1_loop1 i (k + 1) ((1 : Nat) : Int) (xss.set i [k, b]) = some (.go (k + 2, ((2 : Nat) : Int), xss.set i [k, k + 1])) := by
    unfold laws_markIntS_i1_loop1
    simp only [g1]
    rw [cond_dt (by simp), grd_pos (by simp), w64_id (by omega) (by omega), List.set_set]
    refine congrArg (fun z => some (Lp.go (z, ((2 : Nat) : Int), xss.set i [k, k + 1]))) ?_
    omega
  have s3 : laws_markIntS_i1_loop1 i (k + 2) ((2 : Nat) : Int) (xss.set i [k, k + 1]) = some (.out (k + 2, xss.set i [k, k + 1])) := by
    unfold laws_markIntS_i1_loop1
    simp only [g1]
    rw [cond_df (by simp)]
  unfold laws_markIntS_i1
  rw [show iter (fun s => laws_markIntS_i1_loop1 i s.1 s.2.1 s.2.2) (k, (0 : Int), xss) = some (k + 2, xss.set i [k, k + 1]) from (iter_go s1).trans ((iter_go s2).trans (iter_out s3))]
  rfl
theorem markSS (p : List (List Int)) (hp : ∀ row ∈ p, Pair row) (hl : p.length ≤ 100000) : laws_markIntSS p 1 = some (1 + 2 * (p.length : Int), mks p.length) := by
  unfold laws_markIntSS
  have H : iter (fun s => laws_markIntSS_loop1 s.1 s.2.1 s.2.2) ((1 : Int), (0 : Int), p) = some (1 + 2 * (p.length : Int), mks p.length) := by
    refine iter_for p.length (fun j => (1 + 2 * (j : Int), (j : Int), mks j ++ p.drop j)) (fun j hj => ?_) ?_ (by simp [mks])
    · show laws_markIntSS_loop1 (1 + 2 * (j : Int)) (j : Int) (mks j ++ p.drop j) = _
      have hlen : (mks j ++ p.drop j).length = p.length := by simp [mks_length]; omega
      have hd : p.drop j = p.getD j [] :: p.drop (j + 1) := by rw [List.drop_eq_getElem_cons hj, getD_eq p j _ hj]
      have hm : p.getD j [] ∈ p := by rw [getD_eq p j _ hj]; exact List.getElem_mem hj
      obtain ⟨a, b, e, _⟩ := hp _ hm
      have hg : (mks j ++ p.drop j).getD j [] = [a, b] := by
        rw [hd, ← e]
        have := getD_mid (mks j) (p.getD j []) [] (p.drop (j + 1))
        rw [mks_length] at this; exact this
      have hs : (mks j ++ p.drop j).set j [1 + 2 * (j : Int), 1 + 2 * (j : Int) + 1] = mks (j + 1) ++ p.drop (j + 1) := by
        rw [hd]
        have := set_mid (mks j) (p.getD j []) [1 + 2 * (j : Int), 1 + 2 * (j : Int) + 1] (p.drop (j + 1))
        rw [mks_length] at this
        rw [this, mks]; simp
      unfold laws_markIntSS_loop1
      rw [hlen, cond_dt (by omega), grd_pos (by omega), Int.toNat_natCast, markRow _ j _ a b (by rw [hlen]; exact hj) hg (by omega), Option.bind_some, hs, w64_nat (by omega)]
      refine congrArg (fun z => some (Lp.go (z, ((j + 1 : Nat) : Int), mks (j + 1) ++ p.drop (j + 1)))) ?_
      omega
    · show laws_markIntSS_loop1 (1 + 2 * (p.length : Int)) (p.length : Int) (mks p.length ++ p.drop p.length) = _
      rw [List.drop_length, List.append_nil]
      unfold laws_markIntSS_loop1
      rw [mks_length, cond_df (by omega)]
  rw [H]; rfl
theorem heldRow (k : Int) (hk : 0 ≤ k ∧ k ≤ 1000000) : laws_heldIntS [k, k + 1] k = some (k + 2) := by
  have s1 : laws_heldIntS_loop1 [k, k + 1] k ((0 : Nat) : Int) = some (.go (k + 1, ((1 : Nat) : Int))) := by
    unfold laws_heldIntS_loop1
    rw [cond_dt (by simp), grd_pos (by simp), cond_ndt (show ([k, k + 1].getD ((0 : Nat) : Int).toNat 0) = k from rfl), w64_id (by omega) (by omega)]; rfl
  have s2 : laws_heldIntS_loop1 [k, k + 1] (k + 1) ((1 : Nat) : Int) = some (.go (k + 2, ((2 : Nat) : Int))) := by
    unfold laws_heldIntS_loop1
    rw [cond_dt (by simp), grd_pos (by simp), cond_ndt (show ([k, k + 1].getD ((1 : Nat) : Int).toNat 0) = k + 1 from rfl), w64_id (by omega) (by omega)]
    refine congrArg (fun z => some (Lp.go (z, ((2 : Nat) : Int)))) ?_
    omega
  have s3 : laws_heldIntS_loop1 [k, k + 1] (k + 2) ((2 : Nat) : Int) = some (.out (.inr (k + 2))) := by
    unfold laws_heldIntS_loop1
    rw [cond_df (by simp)]
  unfold laws_heldIntS
  rw [show iter (fun s => laws_heldIntS_loop1 [k, k + 1] s.1 s.2) (k, (0 : Int)) = some (.inr (k + 2)) from (iter_go s1).trans ((iter_go s2).trans (iter_out s3))]
  rfl
theorem heldSS (n : Nat) (hn : n ≤ 100000) : laws_heldIntSS (mks n) 1 = some (1 + 2 * (n : Int)) := by
  unfold laws_heldIntSS
  have H : iter (fun s => laws_heldIntSS_loop1 (mks n) s.1 s.2) ((1 : Int), (0 : Int)) = some (Sum.inr (1 + 2 * (n : Int))) := by
    refine iter_for n (fun j => (1 + 2 * (j : Int), (j : Int))) (fun j hj => ?_) ?_ rfl
    · show laws_heldIntSS_loop1 (mks n) (1 + 2 * (j : Int)) (j : Int) = _
      unfold laws_heldIntSS_loop1
      rw [mks_length, cond_dt (by omega), grd_pos (by omega), Int.toNat_natCast, mks_get n j hj, heldRow _ (by omega), Option.bind_some, cond_df (by omega), w64_nat (by omega)]
      refine congrArg (fun z => some (Lp.go (z, ((j + 1 : Nat) : Int)))) ?_
      omega
    · show laws_heldIntSS_loop1 (mks n) (1 + 2 * (n : Int)) (n : Int) = _
      unfold laws_heldIntSS_loop1
      rw [mks_length, cond_df (by omega)]
  rw [H]; rfl
theorem eqSS (l : List (List Int)) (h : l.length ≤ 1048576) (hr : ∀ r ∈ l, r.length ≤ 1048576) : laws_eqIntSS l l = some true := by
  unfold laws_eqIntSS
  rw [cond_ndt rfl]
  have H : iter (fun s => laws_eqIntSS_loop1 l l s) (0 : Int) = some (Sum.inr ()) :=
    iter_for l.length (fun k => (k : Int)) (fun k hk => by
      show laws_eqIntSS_loop1 l l (k : Int) = _
      unfold laws_eqIntSS_loop1
      have hm : l.getD k [] ∈ l := by rw [getD_eq l k _ hk]; exact List.getElem_mem hk
      rw [cond_dt (by omega), grd_pos (by omega), grd_pos (by omega), Int.toNat_natCast, eqIntS_eq _ (hr _ hm), Option.bind_some, w64_nat (by omega)]
      rfl) (by
      show laws_eqIntSS_loop1 l l (l.length : Int) = _
      unfold laws_eqIntSS_loop1
      rw [cond_df (by omega)]) rfl
  rw [H]; rfl
theorem markSS_nil : laws_markIntSS_i1 1 = some 1 := by
  unfold laws_markIntSS_i1
  rw [show iter (fun _ : Unit => laws_markIntSS_i1_loop1) () = some () from iter_out rfl]; rfl
theorem law_FnExactOpenRuns (l : List DayRow) (hf : Ty.fit (.sl ty_DayRow) l) : laws_FnExactOpenRuns l = some true := by
  have hs := small_of hf
  have hl : l.length ≤ 1048576 := hs.1
  unfold laws_FnExactOpenRuns
  obtain ⟨y, ey⟩ := szRows_ex l hl 1048576
  rw [ey, Option.bind_some]
  by_cases h0 : y < 0
  · rw [cond_dt h0]
  rw [cond_df h0]
  obtain ⟨m, em, hm⟩ := markRows_ok l hl
  have hm' : ¬ m.1 < 0 := by omega
  have e0 := eqSS [] (by simp) (by simp)
  have k0 : laws_heldIntSS [] 1 = some 1 := heldSS 0 (by omega)
  rcases runs_eq l hs with ⟨e1, e2⟩ | ⟨ho, e1, e2⟩
  · simp only [toRows_eq l hl, Option.bind_some, e1, e2, Sum.elim_inl, e0, Bool.not_true, cond_false, beq_self_eq_true, eqRows_eq l hl, em, decide_eq_false hm', markSS_nil, k0, decide_true, show decide ((1 : Int) < 0) = false from rfl]
  · obtain ⟨i1, i2, i3⟩ := orK_inv ho l.length (Nat.le_refl _)
    have hn := (okL_out ho).1
    have eP := eqSS (orK l l.length) (by omega) (fun row hrow => by obtain ⟨a, b, e, _⟩ := i2 row hrow; rw [e]; simp)
    have mP := markSS (orK l l.length) i2 (by omega)
    have kP := heldSS (orK l l.length).length (by omega)
    have hneg : decide (1 + 2 * ((orK l l.length).length : Int) < 0) = false := decide_eq_false (by omega)
    simp only [toRows_eq l hl, Option.bind_some, e1, e2, Sum.elim_inr, eP, Bool.not_true, cond_false, beq_self_eq_true, eqRows_eq l hl, em, decide_eq_false hm', mP, kP, hneg, decide_true]
end Go.Proofs.Ytaajchikfgbecaa
