/-
  Scripts and replays, in both programs.
-/
import Derived.Test.YtaobinhdnklojaaGreatDoorX2
namespace Go.Proofs.YtaobinhdnklojaaGreatDoor
open Go.RowKit

theorem eqStrs_eq (l : List ByteArray) (h : l.length ≤ 1048576) : laws_eqStringS l l = some true := by
  unfold laws_eqStringS
  rw [cond_ndt rfl]
  have H : iter (fun s => laws_eqStringS_loop1 l l s) (0 : Int) = some (Sum.inr ()) :=
    iter_for l.length (fun k => (k : Int)) (fun k hk => by
      show laws_eqStringS_loop1 l l (k : Int) = _
      unfold laws_eqStringS_loop1
      rw [cond_dt (by omega), grd_pos (by omega), grd_pos (by omega), cond_ndt rfl, w64_nat (by omega)]) (by
      show laws_eqStringS_loop1 l l (l.length : Int) = _
      unfold laws_eqStringS_loop1
      rw [cond_df (by omega)]) rfl
  rw [H]; rfl
theorem markText_iter : ∀ (n : Nat) (k : Int) (v : ByteArray), 0 ≤ k → k < 10 ^ n → n ≤ 18 → v.size + n ≤ 1000 → ∃ r, iter (fun s => laws_markText_loop1 s.1 s.2) (k, v) = some r ∧ r.size ≤ 1000
  | 0, k, v, h0, h1, _, h2 => by
    obtain rfl : k = 0 := by simp at h1; omega
    refine ⟨v, iter_out ?_, by omega⟩
    show laws_markText_loop1 0 v = _
    unfold laws_markText_loop1
    rw [cond_df (by omega)]
  | n + 1, k, v, h0, h1, h3, h2 => by
    by_cases hk : 0 < k
    · have hq : w64 (Int.tdiv k 10) = k / 10 := by
        have e : Int.tdiv k 10 = k / 10 := Int.tdiv_eq_ediv_of_nonneg h0
        have hp : (10 : Int) ^ (n + 1) ≤ 10 ^ 18 := by
          have : (10 : Nat) ^ (n + 1) ≤ 10 ^ 18 := Nat.pow_le_pow_right (by omega) h3
          exact_mod_cast this
        have : (10 : Int) ^ 18 = 1000000000000000000 := by decide
        rw [e, w64_id (by omega) (by omega)]
      have hs : (strOfN [wu8 (w64 (48 + Int.tmod k 10))] ++ v).size = v.size + 1 := by
        rw [ByteArray.size_append]
        have : (strOfN [wu8 (w64 (48 + Int.tmod k 10))]).size = 1 := rfl
        omega
      obtain ⟨r, e, hr⟩ := markText_iter n (k / 10) (strOfN [wu8 (w64 (48 + Int.tmod k 10))] ++ v) (by omega) (by rw [Int.pow_succ] at h1; omega) (by omega) (by omega)
      refine ⟨r, (iter_go ?_).trans e, hr⟩
      show laws_markText_loop1 k v = _
      unfold laws_markText_loop1
      have : (strOfN [wu8 (w64 (48 + Int.tmod k 10))]).size = 1 := rfl
      rw [cond_dt hk, grd_pos (by omega), grd_pos (by omega), grd_pos (by omega), hq]
    · refine ⟨v, iter_out ?_, by omega⟩
      show laws_markText_loop1 k v = _
      unfold laws_markText_loop1
      rw [cond_df hk]
theorem st_markText_ex (k : Int) (h0 : 0 ≤ k) (h1 : k ≤ 1000000000) : ∃ t, laws_markText k = some t := by
  unfold laws_markText
  by_cases h : k ≤ 0
  · rw [cond_dt h]; exact ⟨_, rfl⟩
  · rw [cond_df h]
    obtain ⟨r, e, hr⟩ := markText_iter 10 k (ByteArray.mk #[]) h0 (by omega) (by omega) (by decide)
    have : (ByteArray.mk #[109]).size = 1 := rfl
    rw [e, Option.bind_some, grd_pos (by omega)]
    exact ⟨_, rfl⟩
/-- The text of a mark. -/
noncomputable def mt (i : Nat) : ByteArray := (laws_markText (1 + (i : Int))).getD (ByteArray.mk #[])
theorem mt_eq (i : Nat) (h : i ≤ 1048576) : laws_markText (1 + (i : Int)) = some (mt i) := by
  obtain ⟨t, e⟩ := st_markText_ex (1 + (i : Int)) (by omega) (by omega)
  unfold mt
  rw [e]; rfl
theorem markStrs_eq (l : List ByteArray) (h : l.length ≤ 1048576) : laws_markStringS l 1 = some (1 + (l.length : Int), (List.range l.length).map mt) := by
  unfold laws_markStringS
  have H : iter (fun s => laws_markStringS_loop1 s.1 s.2.1 s.2.2) ((1 : Int), (0 : Int), l) = some (1 + (l.length : Int), (List.range l.length).map mt) :=
    iter_for l.length (fun k => (1 + (k : Int), (k : Int), (List.range k).map mt ++ l.drop k)) (fun k hk => by
      show laws_markStringS_loop1 (1 + (k : Int)) (k : Int) ((List.range k).map mt ++ l.drop k) = _
      have hlen : ((List.range k).map mt ++ l.drop k).length = l.length := by simp; omega
      have hset : ((List.range k).map mt ++ l.drop k).set k (mt k) = (List.range (k + 1)).map mt ++ l.drop (k + 1) := by
        rw [List.drop_eq_getElem_cons hk]
        have := set_mid ((List.range k).map mt) l[k] (mt k) (l.drop (k + 1))
        rw [List.length_map, List.length_range] at this
        rw [this, List.range_succ, List.map_append, List.append_assoc]; rfl
      unfold laws_markStringS_loop1
      rw [cond_dt (by omega), mt_eq k (by omega), Option.bind_some, grd_pos (by omega), Int.toNat_natCast, w64_nat (by omega), hset, w64_id (by omega) (by omega)]
      refine congrArg (fun x => some (Lp.go (x, _))) ?_
      omega) (by
      show laws_markStringS_loop1 (1 + (l.length : Int)) (l.length : Int) ((List.range l.length).map mt ++ l.drop l.length) = _
      unfold laws_markStringS_loop1
      rw [List.drop_length, List.append_nil, cond_df (by simp)]) (by simp)
  rw [H]; rfl
theorem heldStrs_eq (n : Nat) (h : n ≤ 1048576) : laws_heldStringS ((List.range n).map mt) 1 = some (1 + (n : Int)) := by
  unfold laws_heldStringS
  have hlen : ((List.range n).map mt).length = n := by simp
  have H : iter (fun s => laws_heldStringS_loop1 ((List.range n).map mt) s.1 s.2) ((1 : Int), (0 : Int)) = some (Sum.inr (1 + (n : Int))) :=
    iter_for n (fun k => (1 + (k : Int), (k : Int))) (fun k hk => by
      show laws_heldStringS_loop1 ((List.range n).map mt) (1 + (k : Int)) (k : Int) = _
      have hg : ((List.range n).map mt).getD k (ByteArray.mk #[]) = mt k := by
        rw [getD_eq _ k _ (by omega)]; simp
      unfold laws_heldStringS_loop1
      rw [cond_dt (by omega), grd_pos (by omega), Int.toNat_natCast, hg, mt_eq k (by omega), Option.bind_some, cond_ndt rfl, w64_nat (by omega), w64_id (by omega) (by omega)]
      refine congrArg (fun x => some (Lp.go (x, _))) ?_
      omega) (by
      show laws_heldStringS_loop1 ((List.range n).map mt) (1 + (n : Int)) (n : Int) = _
      unfold laws_heldStringS_loop1
      rw [cond_df (by omega)]) rfl
  rw [H]; rfl
theorem markStrs_nil : laws_markStringS_i1 1 = some 1 := by
  unfold laws_markStringS_i1
  rw [show iter (fun _ : Unit => laws_markStringS_i1_loop1) () = some () from iter_out rfl]; rfl
theorem heldStrs_nil : laws_heldStringS [] 1 = some 1 := heldStrs_eq 0 (by omega)
end Go.Proofs.YtaobinhdnklojaaGreatDoor
namespace Go.Proofs.YtaobinhdnklojaaGreatDoor
open Go.RowKit

theorem validSplit {a : Ropeway} {D P : List UInt8} {n : Int} (h : (gd a && okLog D P n) = true) : gd a = true ∧ okLog D P n = true := by
  rwa [Bool.and_eq_true] at h
theorem gd_pos {a : Ropeway} (h : gd a = true) : 0 < a.2.1.length := by
  obtain ⟨m, l, w, t, d, u⟩ := a
  obtain ⟨_, hl, _⟩ := gd_out h
  show 0 < l.length
  omega
theorem script_loop (lines : List (List UInt8)) (hn : lines.length ≤ 30) (hs : ∀ z ∈ lines, z.length ≤ 4000) (a : Ropeway) (D P : List UInt8) (n : Int) (hv : (gd a && okLog D P n) = true) :
    ∃ xs : List ByteArray, xs.length = lines.length ∧
      iter (fun s => spec_RunScript_loop1 s.1 s.2.1 s.2.2.1 s.2.2.2.1 s.2.2.2.2.1 s.2.2.2.2.2.1 s.2.2.2.2.2.2.1 s.2.2.2.2.2.2.2.1 s.2.2.2.2.2.2.2.2.1 s.2.2.2.2.2.2.2.2.2.1 s.2.2.2.2.2.2.2.2.2.2) ((0 : Int), a.1, a.2.1, a.2.2.1, a.2.2.2.1, a.2.2.2.2.1, bs D, bs P, n, ([] : List ByteArray), lines.map bs) = some xs ∧
      iter (fun s => impl_RunScript_loop1 s.1 s.2.1 s.2.2.1 s.2.2.2.1 s.2.2.2.2.1 s.2.2.2.2.2.1 s.2.2.2.2.2.2.1 s.2.2.2.2.2.2.2.1 s.2.2.2.2.2.2.2.2.1 s.2.2.2.2.2.2.2.2.2.1 s.2.2.2.2.2.2.2.2.2.2.1 s.2.2.2.2.2.2.2.2.2.2.2) (((lines.map bs).length : Int), (0 : Int), a.1, a.2.1, a.2.2.1, a.2.2.2.1, a.2.2.2.2.1, bs D, bs P, n, ([] : List ByteArray), lines.map bs) = some xs := by
  obtain ⟨r, r', e1, e2, rfl, hr⟩ := iter_rel (f := fun s : Int × Int × (List Slot) × Int × Int × Int × ByteArray × ByteArray × Int × (List ByteArray) × (List ByteArray) => spec_RunScript_loop1 s.1 s.2.1 s.2.2.1 s.2.2.2.1 s.2.2.2.2.1 s.2.2.2.2.2.1 s.2.2.2.2.2.2.1 s.2.2.2.2.2.2.2.1 s.2.2.2.2.2.2.2.2.1 s.2.2.2.2.2.2.2.2.2.1 s.2.2.2.2.2.2.2.2.2.2)
    (g := fun s : Int × Int × Int × (List Slot) × Int × Int × Int × ByteArray × ByteArray × Int × (List ByteArray) × (List ByteArray) => impl_RunScript_loop1 s.1 s.2.1 s.2.2.1 s.2.2.2.1 s.2.2.2.2.1 s.2.2.2.2.2.1 s.2.2.2.2.2.2.1 s.2.2.2.2.2.2.2.1 s.2.2.2.2.2.2.2.2.1 s.2.2.2.2.2.2.2.2.2.1 s.2.2.2.2.2.2.2.2.2.2.1 s.2.2.2.2.2.2.2.2.2.2.2)
    (fun (k : Nat) s t => ∃ (a : Ropeway) (P : List UInt8) (n : Int) (xs : List ByteArray), (gd a && okLog D P n) = true ∧ xs.length = k ∧ s = ((k : Int), a.1, a.2.1, a.2.2.1, a.2.2.2.1, a.2.2.2.2.1, bs D, bs P, n, xs, lines.map bs) ∧ t = (((lines.map bs).length : Int), (k : Int), a.1, a.2.1, a.2.2.1, a.2.2.2.1, a.2.2.2.2.1, bs D, bs P, n, xs, lines.map bs))
    (fun r r' => r = r' ∧ r.length = lines.length) lines.length
    (by
      rintro k _ _ hk ⟨a, P, n, xs, hv, hx, rfl, rfl⟩
      refine .inl ?_
      obtain ⟨hg, ho⟩ := validSplit hv
      have hlen := okLog_len ho
      have hz : (lines[k]).length ≤ 4000 := hs _ (List.getElem_mem hk)
      obtain ⟨y, P', m, R, hex, x1, _, x3⟩ := exec_both a D P lines[k] n (gd_len hg) (by omega) (by omega) (by omega)
      have x3 := x3 (gd_pos hg)
      have x1 : spec_ExecuteCommand ((a.1, a.2.1, a.2.2.1, a.2.2.2.1, a.2.2.2.2.1, ()), (bs D, bs P, n, ()), ()) (bs lines[k]) = _ := x1
      have hgd : (lines.map bs).getD k (ByteArray.mk #[]) = bs lines[k] := by
        rw [getD_eq _ _ _ (by simpa using hk), List.getElem_map]
      have hm : (lines.map bs).length = lines.length := List.length_map ..
      have hw : w64 ((k : Int) + 1) = ((k + 1 : Nat) : Int) := w64_nat (by omega)
      refine ⟨_, _, ?_, ?_, y, P', m, xs ++ [bs R], hex.valid hv, by simp [hx], rfl, rfl⟩
      · dsimp only
        unfold spec_RunScript_loop1
        rw [cond_dt (by omega), grd_pos (by omega), Int.toNat_natCast, hgd, x1, Option.bind_some, grd_pos (by simp; omega), hw]
      · dsimp only
        unfold impl_RunScript_loop1
        rw [cond_dt (by omega), grd_pos (by omega), Int.toNat_natCast, hgd, x3, Option.bind_some, grd_pos (by simp; omega), hw])
    (by
      rintro _ _ ⟨a, P, n, xs, hv, hx, rfl, rfl⟩
      have hm : (lines.map bs).length = lines.length := List.length_map ..
      refine ⟨xs, xs, ?_, ?_, rfl, hx⟩
      · dsimp only
        unfold spec_RunScript_loop1
        rw [cond_df (by omega)]
      · dsimp only
        unfold impl_RunScript_loop1
        rw [cond_df (by omega)])
    (s := ((0 : Int), a.1, a.2.1, a.2.2.1, a.2.2.2.1, a.2.2.2.2.1, bs D, bs P, n, ([] : List ByteArray), lines.map bs)) (t := (((lines.map bs).length : Int), (0 : Int), a.1, a.2.1, a.2.2.1, a.2.2.2.1, a.2.2.2.2.1, bs D, bs P, n, ([] : List ByteArray), lines.map bs)) ⟨a, P, n, [], hv, rfl, rfl, rfl⟩
  exact ⟨r, hr, e1, e2⟩
theorem spl_part (c : UInt8) : ∀ (l z : List UInt8), z ∈ spl c l → z.length ≤ l.length := by
  intro l
  induction l with
  | nil => intro z hz; simp [spl] at hz; simp [hz]
  | cons b l ih =>
    intro z hz
    unfold spl at hz
    split at hz
    · rcases List.mem_cons.1 hz with hz | hz
      · simp [hz]
      · have := ih z hz; simp; omega
    · cases hq : spl c l with
      | nil => exact absurd hq (spl_ne c l)
      | cons q qs =>
        rw [hq] at hz
        rcases List.mem_cons.1 hz with hz | hz
        · have := ih q (by rw [hq]; simp)
          rw [hz]; simp; omega
        · have := ih z (by rw [hq]; simp [hz])
          simp; omega
theorem script_both (a : Ropeway) (D P q : List UInt8) (n : Int) (ha : a.2.1.length ≤ 1048576) (hD : D.length ≤ 1048576) (hP : P.length ≤ 1048576) (hq : q.length ≤ 1048576) :
    ∃ o : Option (List ByteArray), spec_RunScript (a, (bs D, bs P, n, ()), ()) (bs q) = some (o.getD [], o.isSome) ∧ impl_RunScript (a, (bs D, bs P, n, ()), ()) (bs q) = some (o.elim (.inl ()) .inr) ∧
      (∀ xs, o = some xs → (gd a && okLog D P n) = true ∧ q.length ≤ 4000 ∧ (spl 10 q).length ≤ 30 ∧ xs.length = (spl 10 q).length) ∧ (o = none → ¬ ((gd a && okLog D P n) = true ∧ q.length ≤ 4000 ∧ (spl 10 q).length ≤ 30)) := by
  have v1 := validI a D P n ha hD hP
  have v2 := validS a D P n ha hD hP
  have v1 : impl_IsValidConsole ((a.1, a.2.1, a.2.2.1, a.2.2.2.1, a.2.2.2.2.1, ()), (bs D, bs P, n, ()), ()) = _ := v1
  have v2 : spec_l28Good ((a.1, a.2.1, a.2.2.1, a.2.2.2.1, a.2.2.2.2.1, ()), (bs D, bs P, n, ()), ()) = _ := v2
  have s1 : spec_l1Split (bs q) (10 : Int) = some ((spl 10 q).map bs) := split_eq q 10 (by omega)
  have s2 : strings_Split (bs q) (ByteArray.mk #[10]) = some ((spl 10 q).map bs) := by
    unfold strings_Split
    rw [grd_pos ⟨by rw [bs_size]; omega, by decide⟩]
    exact congrArg some (splitB_eq 10 q)
  have hm : ((spl 10 q).map bs).length = (spl 10 q).length := List.length_map ..
  unfold spec_RunScript impl_RunScript
  dsimp only
  rw [s1, s2, Option.bind_some, Option.bind_some, v1, v2, Option.bind_some, Option.bind_some]
  cases hv : (gd a && okLog D P n) with
  | false =>
    refine ⟨none, rfl, rfl, ?_, ?_⟩
    · intro xs h; cases h
    · intro _ h; cases h.1
  | true =>
    simp only [Bool.not_true, cond_false]
    by_cases h4 : (4000 : Int) < ((bs q).size : Int)
    · rw [cond_dt h4, cond_dt h4]
      rw [bs_size] at h4
      exact ⟨none, rfl, rfl, (fun xs h => by cases h), fun _ h => by omega⟩
    rw [cond_df h4, cond_df h4]
    rw [bs_size] at h4
    by_cases h30 : (30 : Int) < (((spl 10 q).map bs).length : Int)
    · rw [cond_dt h30, cond_dt h30]
      exact ⟨none, rfl, rfl, (fun xs h => by cases h), fun _ h => by omega⟩
    rw [cond_df h30, cond_df h30]
    obtain ⟨xs, hx, e1, e2⟩ := script_loop (spl 10 q) (by omega) (fun z hz => by have := spl_part 10 q z hz; omega) a D P n hv
    rw [e1, e2]
    exact ⟨some xs, rfl, rfl, (fun ys h => by cases h; exact ⟨trivial, by omega, by omega, hx⟩), fun h => by cases h⟩
theorem law_FnExactRunScript (a : Console) (s : ByteArray) (ha : Ty.fit ty_Console a) (_ : Ty.fit .str s) : laws_FnExactRunScript a s = some true := by
  obtain ⟨⟨x, l, w, t, d, ⟨⟩⟩, ⟨D0, P0, n, ⟨⟩⟩, ⟨⟩⟩ := a
  obtain ⟨D, rfl⟩ := bs_ex D0
  obtain ⟨P, rfl⟩ := bs_ex P0
  obtain ⟨q, rfl⟩ := bs_ex s
  have hl : l.length ≤ 1048576 := ha.1.2.1.1
  have hD : D.length ≤ 1048576 := by rw [← bs_size]; exact ha.2.1.1
  have hP : P.length ≤ 1048576 := by rw [← bs_size]; exact ha.2.1.2.1
  unfold laws_FnExactRunScript
  by_cases hq : (1048576 : Int) < ((bs q).size : Int)
  · rw [cond_dt hq]
  rw [cond_df hq]
  rw [bs_size] at hq
  obtain ⟨z, hz⟩ := szConsole_ex (x, l, w, t, d, ()) (bs D, bs P, n, ()) 1048576
  obtain ⟨o, e1, e2, ho, _⟩ := script_both (x, l, w, t, d, ()) D P q n hl hD hP (by omega)
  have h1 : ¬ (1 : Int) + 3 * (l.length : Int) < 0 := by omega
  dsimp only
  rw [hz, Option.bind_some]
  by_cases h0 : z < 0
  · rw [cond_dt h0]
  rw [cond_df h0]
  have tc := toC_eq (x, l, w, t, d, ()) (bs D, bs P, n, ()) hl
  have q1 := eqC_eq (x, l, w, t, d, ()) (bs D) (bs P) n hl
  cases o with
  | none =>
    simp only [Option.elim_none, Option.getD_none, Option.isSome_none] at e1 e2
    have h3 : ¬ (1 : Int) < 0 := by omega
    simp only [tc, e1, e2, q1, markC_eq _ _ _ _ _ _ hl, eqStrs_eq [] (by simp), markStrs_nil, heldStrs_nil, Option.bind_some, Sum.elim_inl, Bool.not_true, cond_false, decide_true, beq_self_eq_true, cond_df h1, cond_df h3]
  | some xs =>
    have hx : xs.length ≤ 1048576 := by
      obtain ⟨_, _, h30, e⟩ := ho xs rfl
      omega
    simp only [Option.elim_some, Option.getD_some, Option.isSome_some] at e1 e2
    have h3 : ¬ (1 : Int) + (xs.length : Int) < 0 := by omega
    simp only [tc, e1, e2, q1, markC_eq _ _ _ _ _ _ hl, eqStrs_eq xs hx, markStrs_eq xs hx, heldStrs_eq xs.length hx, Option.bind_some, Sum.elim_inr, Bool.not_true, cond_false, decide_true, beq_self_eq_true, cond_df h1, cond_df h3]
end Go.Proofs.YtaobinhdnklojaaGreatDoor
