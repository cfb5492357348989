/-
  Plain laws of the log: reading all records; whether a log is valid.
-/
import Derived.Test.YtppiaacfnoifkaaDoorU3
namespace Go.Proofs.YtppiaacfnoifkaaDoor
open Go.RowKit

abbrev Rc : Type := List UInt8 × List UInt8 × Nat
/-- The records at the beginning of some bytes, the first of them with number k; with each the length of its line. -/
def par : Nat → Nat → List UInt8 → List Rc
  | 0, _, _ => []
  | f + 1, k, l =>
    if (10 : UInt8) ∈ l then
      match decL k (bef 10 l) with
      | some (c, r) => (c, r, (bef 10 l).length + 1) :: par f (k + 1) (l.drop ((bef 10 l).length + 1))
      | none => []
    else []
def recOf (x : Rc) : LogRecord := (bs x.1, bs x.2.1, ())
def endsOf (p : Nat) : List Rc → List Nat
  | [] => []
  | x :: xs => (p + x.2.2) :: endsOf (p + x.2.2) xs
def tot : List Rc → Nat
  | [] => 0
  | x :: xs => x.2.2 + tot xs
theorem par_length : ∀ (f k : Nat) (l : List UInt8), (par f k l).length ≤ f
  | 0, _, _ => by simp [par]
  | f + 1, k, l => by
    unfold par
    split
    · split
      · have := par_length f (k + 1) (l.drop ((bef 10 l).length + 1)); simp; omega
      · simp
    · simp
theorem tot_le : ∀ (f k : Nat) (l : List UInt8), tot (par f k l) ≤ l.length
  | 0, _, l => by simp [par, tot]
  | f + 1, k, l => by
    unfold par
    split
    · rename_i hm
      have h1 := bef_lt 10 l hm
      split
      · have := tot_le f (k + 1) (l.drop ((bef 10 l).length + 1))
        simp only [tot, List.length_drop] at this ⊢
        omega
      · simp [tot]
    · simp [tot]
theorem tot_small : ∀ (f k : Nat) (l : List UInt8), k + f ≤ 500 → tot (par f k l) ≤ f * 400
  | 0, _, l, _ => by simp [par, tot]
  | f + 1, k, l, h => by
    unfold par
    split
    · split
      · rename_i c r hd
        have h1 := decL_length (by omega) hd
        have := tot_small f (k + 1) (l.drop ((bef 10 l).length + 1)) (by omega)
        simp only [tot]
        omega
      · simp [tot]
    · simp [tot]
theorem endsOf_last : ∀ (xs : List Rc) (p : Nat), (p :: endsOf p xs).getD xs.length 0 = p + tot xs
  | [], p => by simp [tot, endsOf]
  | x :: xs, p => by
    have := endsOf_last xs (p + x.2.2)
    simp only [endsOf, tot, List.length_cons]
    rw [List.getD_cons_succ, this]
    omega
theorem getD_mapZ (l : List Nat) (k : Nat) : (l.map fun n : Nat => (n : Int)).getD k 0 = ((l.getD k 0 : Nat) : Int) := by
  simp only [List.getD_eq_getElem?_getD, List.getElem?_map]
  cases l[k]? <;> rfl
theorem endsOf_length : ∀ (xs : List Rc) (p : Nat), (endsOf p xs).length = xs.length
  | [], _ => rfl
  | x :: xs, p => by simp [endsOf, endsOf_length xs]

theorem impl_loop (s : List UInt8) (hs : s.length ≤ 100000000) : ∀ (f k p : Nat) (recs : List LogRecord) (ends : List Int), recs.length = k → k + f = 60 → p ≤ s.length → ends.length = k + 1 →
    iter (fun q => impl_readRecords_loop1 (bs s) q.1 q.2.1 q.2.2) ((p : Int), recs, ends) = some (recs ++ (par f k (s.drop p)).map recOf, ends ++ (endsOf p (par f k (s.drop p))).map (fun n : Nat => (n : Int)))
  | 0, k, p, recs, ends, hk, hf, hp, he => by
    refine iter_out ?_
    show impl_readRecords_loop1 (bs s) (p : Int) recs ends = _
    unfold impl_readRecords_loop1
    rw [cond_df (by omega)]
    simp [par, endsOf]
  | f + 1, k, p, recs, ends, hk, hf, hp, he => by
    have hdl : (s.drop p).length = s.length - p := by simp
    have hb := bef_length 10 (s.drop p)
    obtain ⟨e, b, h1, h2, h3⟩ := decode_eq k (bef 10 (s.drop p)) (by omega) (by omega)
    have hstep : impl_readRecords_loop1 (bs s) (p : Int) recs ends = if (10 : UInt8) ∈ s.drop p ∧ b = true then some (.go (((p + ((bef 10 (s.drop p)).length + 1) : Nat) : Int), recs ++ [(e.1, e.2.1, ())], ends ++ [((p + ((bef 10 (s.drop p)).length + 1) : Nat) : Int)])) else some (.out (recs, ends)) := by
      unfold impl_readRecords_loop1 strings_Cut
      rw [show (ByteArray.mk #[10]) = bs [10] from rfl, cond_dt (by omega), bs_size, grd_pos (by omega), bsub_bs]
      have e0 : (s.drop (p : Int).toNat).take ((s.length : Int).toNat - (p : Int).toNat) = s.drop p := by rw [Int.toNat_natCast, Int.toNat_natCast, List.take_of_length_le (by simp)]
      have ca : cutA (bs (s.drop p)) (bs [10]) = bs (bef 10 (s.drop p)) := by unfold cutA; rw [list_bs, list_bs, cut_eq]
      have cf : cutF (bs (s.drop p)) (bs [10]) = decide ((10 : UInt8) ∈ s.drop p) := by unfold cutF; rw [list_bs, list_bs, cut_eq]
      rw [e0, grd_pos (by rw [bs_size]; omega), Option.bind_some]
      simp only [ca, cf, hk, h1, Option.bind_some, bs_size]
      have w1 : w64 (((bef 10 (s.drop p)).length : Int) + 1) = (((bef 10 (s.drop p)).length + 1 : Nat) : Int) := w64_nat (by omega)
      have w2 : w64 ((p : Int) + (((bef 10 (s.drop p)).length + 1 : Nat) : Int)) = ((p + ((bef 10 (s.drop p)).length + 1) : Nat) : Int) := by rw [w64_id (by omega) (by omega)]; omega
      rw [w1, w2]
      by_cases hm : (10 : UInt8) ∈ s.drop p
      · rw [cond_ndt hm]
        cases b with
        | true => rw [Bool.not_true, cond_false, if_pos ⟨hm, rfl⟩, grd_pos (by simp; omega), grd_pos (by simp; omega)]
        | false => rw [Bool.not_false, cond_true, if_neg (fun h => by cases h.2)]
      · rw [cond_ndf hm, if_neg (fun h => hm h.1)]
    by_cases hm : (10 : UInt8) ∈ s.drop p
    · cases hd : decL k (bef 10 (s.drop p)) with
      | none =>
        have hb : b = false := by rw [h2, hd]; rfl
        have e0 : par (f + 1) k (s.drop p) = [] := by unfold par; rw [if_pos hm, hd]
        rw [e0]
        rw [if_neg (fun h => by rw [hb] at h; cases h.2)] at hstep
        rw [iter_out hstep]
        simp [endsOf]
      | some cr =>
        obtain ⟨c, r⟩ := cr
        have hb : b = true := by rw [h2, hd]; rfl
        have he' : e = (bs c, bs r, ()) := h3 c r hd
        have e0 : par (f + 1) k (s.drop p) = (c, r, (bef 10 (s.drop p)).length + 1) :: par f (k + 1) ((s.drop p).drop ((bef 10 (s.drop p)).length + 1)) := by
          conv => lhs; unfold par
          rw [if_pos hm, hd]
        rw [if_pos ⟨hm, hb⟩] at hstep
        have hlt := bef_lt 10 (s.drop p) hm
        have ih := impl_loop s hs f (k + 1) (p + ((bef 10 (s.drop p)).length + 1)) (recs ++ [(e.1, e.2.1, ())]) (ends ++ [((p + ((bef 10 (s.drop p)).length + 1) : Nat) : Int)]) (by simp [hk]) (by omega) (by omega) (by simp [he])
        rw [iter_go hstep, ih, e0, List.drop_drop]
        subst he'
        simp [endsOf, recOf, Nat.add_comm]
    · have e0 : par (f + 1) k (s.drop p) = [] := by unfold par; rw [if_neg hm]
      rw [e0]
      rw [if_neg (fun h => hm h.1)] at hstep
      rw [iter_out hstep]
      simp [endsOf]
theorem spec_loop (s : List UInt8) (hs : s.length ≤ 100000000) : ∀ (f k p : Nat) (recs : List LogRecord), recs.length = k → k + f = 60 → p ≤ s.length →
    iter (fun q => spec_l27Open_loop1 (bs s) q.1 q.2) ((p : Int), recs) = some (((p + tot (par f k (s.drop p)) : Nat) : Int), recs ++ (par f k (s.drop p)).map recOf)
  | 0, k, p, recs, hk, hf, hp => by
    refine iter_out ?_
    show spec_l27Open_loop1 (bs s) (p : Int) recs = _
    unfold spec_l27Open_loop1
    rw [bs_size]
    by_cases h0 : (p : Int) < s.length
    · rw [cond_dt h0, cond_df (by omega)]; simp [par, tot]
    · rw [cond_df h0]; simp [par, tot]
  | f + 1, k, p, recs, hk, hf, hp => by
    by_cases h0 : p < s.length
    case neg =>
      have e0 : s.drop p = [] := List.drop_eq_nil_of_le (by omega)
      rw [e0]
      have e1 : par (f + 1) k [] = [] := by unfold par; rw [if_neg (by simp)]
      rw [e1]
      refine iter_out ?_
      show spec_l27Open_loop1 (bs s) (p : Int) recs = _
      unfold spec_l27Open_loop1
      rw [bs_size, cond_df (by omega)]
      simp [tot]
    have hdl : (s.drop p).length = s.length - p := by simp
    have hb := bef_length 10 (s.drop p)
    obtain ⟨e, b, h1, h2, h3⟩ := read_eq k (bef 10 (s.drop p)) (by omega) (by omega)
    have hstep : spec_l27Open_loop1 (bs s) (p : Int) recs = if (10 : UInt8) ∈ s.drop p ∧ b = true then some (.go (((p + ((bef 10 (s.drop p)).length + 1) : Nat) : Int), recs ++ [(e.1, e.2.1, ())])) else some (.out ((p : Int), recs)) := by
      unfold spec_l27Open_loop1
      rw [show (ByteArray.mk #[]) = bs [] from rfl, bs_size, cond_dt (by omega), cond_dt (by omega), grd_pos (by omega), bsub_bs]
      have e0 : (s.drop (p : Int).toNat).take ((s.length : Int).toNat - (p : Int).toNat) = s.drop p := by rw [Int.toNat_natCast, Int.toNat_natCast, List.take_of_length_le (by simp)]
      rw [e0, show ((10 : Int)) = (((10 : UInt8).toNat : Nat) : Int) from rfl, split_eq (s.drop p) 10 (by omega), Option.bind_some]
      have hne : 0 < ((spl 10 (s.drop p)).map bs).length := by
        rw [List.length_map]; exact List.length_pos_iff.2 (spl_ne 10 _)
      have hg0 : ((spl 10 (s.drop p)).map bs).getD ((0 : Int).toNat) (bs []) = bs (bef 10 (s.drop p)) := by
        have := spl_head 10 (s.drop p) []
        rw [← this]
        rw [show ((0 : Int).toNat) = 0 from rfl]
        simp [List.getD_eq_getElem?_getD]
      have h2iff := spl_two 10 (s.drop p)
      rw [grd_pos (by omega), hg0, hk, h1, Option.bind_some]
      have w1 : w64 ((p : Int) + ((bef 10 (s.drop p)).length : Int)) = ((p + (bef 10 (s.drop p)).length : Nat) : Int) := by rw [w64_id (by omega) (by omega)]; omega
      have w2 : w64 (((p + (bef 10 (s.drop p)).length : Nat) : Int) + 1) = ((p + ((bef 10 (s.drop p)).length + 1) : Nat) : Int) := by rw [w64_nat (by omega)]; omega
      simp only [bs_size]
      rw [w1, w2]
      by_cases hm : (10 : UInt8) ∈ s.drop p
      · have hl2 := h2iff.2 hm
        rw [cond_df (by simp; omega)]
        cases b with
        | true => rw [Bool.not_true, cond_false, if_pos ⟨hm, rfl⟩, grd_pos (by simp; omega), grd_pos (by omega)]
        | false => rw [Bool.not_false, cond_true, if_neg (fun h => by cases h.2)]
      · have hl2 : ¬ 2 ≤ (spl 10 (s.drop p)).length := fun h => hm (h2iff.1 h)
        rw [cond_dt (by simp; omega), if_neg (fun h => hm h.1)]
    by_cases hm : (10 : UInt8) ∈ s.drop p
    · cases hd : decL k (bef 10 (s.drop p)) with
      | none =>
        have hb : b = false := by rw [h2, hd]; rfl
        have e0 : par (f + 1) k (s.drop p) = [] := by unfold par; rw [if_pos hm, hd]
        rw [e0]
        rw [if_neg (fun h => by rw [hb] at h; cases h.2)] at hstep
        rw [iter_out hstep]
        simp [tot]
      | some cr =>
        obtain ⟨c, r⟩ := cr
        have hb : b = true := by rw [h2, hd]; rfl
        have he' : e = (bs c, bs r, ()) := h3 c r hd
        have e0 : par (f + 1) k (s.drop p) = (c, r, (bef 10 (s.drop p)).length + 1) :: par f (k + 1) ((s.drop p).drop ((bef 10 (s.drop p)).length + 1)) := by
          conv => lhs; unfold par
          rw [if_pos hm, hd]
        rw [if_pos ⟨hm, hb⟩] at hstep
        have hlt := bef_lt 10 (s.drop p) hm
        have ih := spec_loop s hs f (k + 1) (p + ((bef 10 (s.drop p)).length + 1)) (recs ++ [(e.1, e.2.1, ())]) (by simp [hk]) (by omega) (by omega)
        rw [iter_go hstep, ih, e0, List.drop_drop]
        subst he'
        simp [tot, recOf, Nat.add_comm, Nat.add_assoc]
    · have e0 : par (f + 1) k (s.drop p) = [] := by unfold par; rw [if_neg hm]
      rw [e0]
      rw [if_neg (fun h => hm h.1)] at hstep
      rw [iter_out hstep]
      simp [tot]
abbrev rsOf (s : List UInt8) : List Rc := par 60 0 s
theorem readRecords_eq (s : List UInt8) (hs : s.length ≤ 100000000) : impl_readRecords (bs s) = some ((rsOf s).map recOf, (0 : Int) :: (endsOf 0 (rsOf s)).map (fun n : Nat => (n : Int))) := by
  have := impl_loop s hs 60 0 0 [] [(0 : Int)] rfl rfl (by omega) (by simp)
  unfold impl_readRecords
  rw [show ((0 : Nat) : Int) = (0 : Int) from rfl] at this
  rw [this]
  simp
theorem open_eq (s : List UInt8) (hs : s.length ≤ 100000000) : spec_l27Open (bs s) = some ((rsOf s).map recOf, ((tot (rsOf s) : Nat) : Int)) := by
  have := spec_loop s hs 60 0 0 [] rfl rfl (by omega)
  unfold spec_l27Open
  rw [show ((0 : Nat) : Int) = (0 : Int) from rfl] at this
  rw [this]
  simp

/-! ### Where a beginning ends -/
theorem endsOf_shift : ∀ (xs : List Rc) (p q : Nat), endsOf (p + q) xs = (endsOf q xs).map (p + ·)
  | [], _, _ => rfl
  | x :: xs, p, q => by
    have := endsOf_shift xs p (q + x.2.2)
    simp only [endsOf, List.map_cons]
    rw [Nat.add_assoc, this]
theorem endsOf_ge : ∀ (xs : List Rc) (p n : Nat), n ∈ endsOf p xs → p ≤ n
  | [], _, _, h => by simp [endsOf] at h
  | x :: xs, p, n, h => by
    simp only [endsOf, List.mem_cons] at h
    rcases h with rfl | h
    · omega
    · have := endsOf_ge xs _ _ h; omega
theorem bef_app_mem {c : UInt8} (D P : List UInt8) (h : c ∈ D) : bef c (D ++ P) = bef c D := by
  obtain ⟨r, e⟩ := bef_split c D h
  have : D ++ P = bef c D ++ c :: (r ++ P) := by
    conv => lhs; rw [e]
    simp
  rw [this, bef_app c _ _ (bef_not c D)]
theorem bef_app_not {c : UInt8} (D P : List UInt8) (h : c ∉ D) : D.length ≤ (bef c (D ++ P)).length := by
  induction D with
  | nil => simp
  | cons b D ih =>
    simp only [List.mem_cons, not_or] at h
    rw [List.cons_append]
    unfold bef
    rw [if_neg (fun e => h.1 e.symm)]
    have := ih h.2
    simp; omega
theorem durable_iff : ∀ (f k : Nat) (D P : List UInt8), D.length ∈ 0 :: endsOf 0 (par f k (D ++ P)) ↔ tot (par f k D) = D.length
  | 0, k, D, P => by
    simp only [par, endsOf, tot, List.mem_singleton]
    omega
  | f + 1, k, D, P => by
    by_cases h0 : D = []
    · subst h0
      have : par (f + 1) k [] = [] := by unfold par; rw [if_neg (by simp)]
      rw [this]
      simp [tot]
    have hpos : 0 < D.length := List.length_pos_iff.2 h0
    by_cases hm : (10 : UInt8) ∈ D
    · have hb := bef_app_mem D P hm
      have hm2 : (10 : UInt8) ∈ D ++ P := List.mem_append_left _ hm
      have hlt := bef_lt 10 D hm
      cases hd : decL k (bef 10 D) with
      | none =>
        have e1 : par (f + 1) k D = [] := by unfold par; rw [if_pos hm, hd]
        have e2 : par (f + 1) k (D ++ P) = [] := by unfold par; rw [if_pos hm2, hb, hd]
        rw [e1, e2]
        simp only [endsOf, tot, List.mem_singleton]; omega
      | some cr =>
        obtain ⟨c, r⟩ := cr
        have e1 : par (f + 1) k D = (c, r, (bef 10 D).length + 1) :: par f (k + 1) (D.drop ((bef 10 D).length + 1)) := by
          conv => lhs; unfold par
          rw [if_pos hm, hd]
        have e2 : par (f + 1) k (D ++ P) = (c, r, (bef 10 D).length + 1) :: par f (k + 1) (D.drop ((bef 10 D).length + 1) ++ P) := by
          conv => lhs; unfold par
          rw [if_pos hm2, hb, hd]
          simp only []
          rw [List.drop_append_of_le_length (show (bef 10 D).length + 1 ≤ D.length by omega)]
        have ih := durable_iff f (k + 1) (D.drop ((bef 10 D).length + 1)) P
        rw [e1, e2]
        simp only [endsOf, tot, Nat.zero_add, List.mem_cons, List.length_drop] at ih ⊢
        rw [show ((bef 10 D).length + 1) = ((bef 10 D).length + 1) + 0 by omega, endsOf_shift]
        simp only [Nat.add_zero, List.mem_map]
        constructor
        · intro h
          have : D.length - ((bef 10 D).length + 1) = 0 ∨ D.length - ((bef 10 D).length + 1) ∈ endsOf 0 (par f (k + 1) (D.drop ((bef 10 D).length + 1) ++ P)) := by
            rcases h with h | h | ⟨a, ha, h⟩
            · omega
            · left; omega
            · right
              rw [show D.length - ((bef 10 D).length + 1) = a by omega]; exact ha
          have := ih.1 this
          omega
        · intro h
          have := ih.2 (by omega)
          rcases this with h2 | h2
          · right; left; omega
          · right; right
            exact ⟨_, h2, by omega⟩
    · have e1 : par (f + 1) k D = [] := by unfold par; rw [if_neg hm]
      rw [e1]
      constructor
      · intro h
        exfalso
        simp only [List.mem_cons] at h
        rcases h with h | h
        · omega
        · unfold par at h
          split at h
          · split at h
            · simp only [endsOf, List.mem_cons, Nat.zero_add] at h
              have hb := bef_app_not D P hm
              rcases h with h | h
              · omega
              · have := endsOf_ge _ _ _ h; omega
            · simp [endsOf] at h
          · simp [endsOf] at h
      · intro h
        simp [tot] at h; omega

/-! ### Whether a log is valid -/
def okLog (D P : List UInt8) (n : Int) : Bool := decide (tot (rsOf (D ++ P)) = D.length + P.length ∧ n = ((rsOf (D ++ P)).length : Int) ∧ tot (rsOf D) = D.length)
theorem durable_loop (a0 : Log) (D : List UInt8) (hD : a0.1 = bs D) (b : Bool) (recs : List LogRecord) (ends : List Nat) (he : ends.length ≤ 1000) :
    iter (fun s => impl_Log_records_loop1 a0 s.1 s.2.1 s.2.2.1 s.2.2.2.1 s.2.2.2.2.1 s.2.2.2.2.2) (b, false, ((ends.map fun n : Nat => (n : Int)).length : Int), (0 : Int), recs, ends.map fun n : Nat => (n : Int)) = some (b, decide (D.length ∈ ends), recs) := by
  have H : iter (fun s => impl_Log_records_loop1 a0 s.1 s.2.1 s.2.2.1 s.2.2.2.1 s.2.2.2.2.1 s.2.2.2.2.2) (b, false, ((ends.map fun n : Nat => (n : Int)).length : Int), (0 : Int), recs, ends.map fun n : Nat => (n : Int)) = some (b, decide (D.length ∈ ends.take ends.length), recs) :=
    iter_for ends.length (fun k => (b, decide (D.length ∈ ends.take k), ((ends.map fun n : Nat => (n : Int)).length : Int), (k : Int), recs, ends.map fun n : Nat => (n : Int))) (fun k hk => by
      show impl_Log_records_loop1 a0 b (decide (D.length ∈ ends.take k)) ((ends.map fun n : Nat => (n : Int)).length : Int) (k : Int) recs (ends.map fun n : Nat => (n : Int)) = _
      unfold impl_Log_records_loop1
      rw [cond_dt (by simp; omega), grd_pos (by simp; omega), w64_nat (by omega), hD, bs_size, Int.toNat_natCast]
      have hg : (ends.map fun n : Nat => (n : Int)).getD k 0 = (ends[k] : Int) := by simp [hk]
      rw [hg, List.take_succ_eq_append_getElem hk]
      by_cases h : D.length ∈ ends.take k
      · rw [cond_dt h]
        rw [decide_eq_true (show D.length ∈ ends.take k ++ [ends[k]] from List.mem_append_left _ h)]
      · rw [cond_df h]
        have : decide ((ends[k] : Int) = (D.length : Int)) = decide (D.length ∈ ends.take k ++ [ends[k]]) := by
          rw [Bool.eq_iff_iff, decide_eq_true_eq, decide_eq_true_eq, List.mem_append, List.mem_singleton]
          constructor
          · intro h2; right; omega
          · rintro (h2 | h2)
            · exact absurd h2 h
            · omega
        rw [this]) (by
      show impl_Log_records_loop1 a0 b (decide (D.length ∈ ends.take ends.length)) ((ends.map fun n : Nat => (n : Int)).length : Int) (ends.length : Int) recs (ends.map fun n : Nat => (n : Int)) = _
      unfold impl_Log_records_loop1
      rw [cond_df (by simp)]) rfl
  rw [H, List.take_length]
theorem records_eq (D P : List UInt8) (n : Int) (hD : D.length ≤ 10000000) (hP : P.length ≤ 10000000) : impl_Log_records (bs D, bs P, n, ()) = some ((rsOf (D ++ P)).map recOf, okLog D P n) := by
  have hle : (rsOf (D ++ P)).length ≤ 60 := par_length 60 0 (D ++ P)
  have htl : tot (rsOf (D ++ P)) ≤ (D ++ P).length := tot_le 60 0 (D ++ P)
  simp only [List.length_append] at htl
  unfold impl_Log_records
  simp only [bs_app, bs_size]
  rw [grd_pos (by omega), readRecords_eq (D ++ P) (by simp; omega), Option.bind_some]
  simp only []
  have hel : ((0 : Int) :: (endsOf 0 (rsOf (D ++ P))).map (fun n : Nat => (n : Int))).length = (rsOf (D ++ P)).length + 1 := by simp [endsOf_length]
  have hew : w64 ((((0 : Int) :: (endsOf 0 (rsOf (D ++ P))).map (fun n : Nat => (n : Int))).length : Int) - 1) = (((rsOf (D ++ P)).length : Nat) : Int) := by rw [hel, w64_id (by omega) (by omega)]; omega
  have hlast : ((0 : Int) :: (endsOf 0 (rsOf (D ++ P))).map (fun n : Nat => (n : Int))).getD (rsOf (D ++ P)).length 0 = ((tot (rsOf (D ++ P)) : Nat) : Int) := by
    have := endsOf_last (rsOf (D ++ P)) 0
    rw [Nat.zero_add] at this
    rw [← this, ← getD_mapZ]
    rfl
  rw [hew, grd_pos (by rw [hel]; omega), Int.toNat_natCast, hlast]
  have dl := fun (b : Bool) => durable_loop (bs D, bs P, n, ()) D rfl b ((rsOf (D ++ P)).map recOf) (0 :: endsOf 0 (rsOf (D ++ P))) (by simp [endsOf_length]; omega)
  simp only [List.map_cons, show ((0 : Nat) : Int) = (0 : Int) from rfl] at dl
  have hdur : decide (D.length ∈ 0 :: endsOf 0 (rsOf (D ++ P))) = decide (tot (rsOf D) = D.length) := by
    rw [Bool.eq_iff_iff, decide_eq_true_eq, decide_eq_true_eq]
    exact durable_iff 60 0 D P
  by_cases h1 : tot (rsOf (D ++ P)) = D.length + P.length
  · rw [cond_dt (by simp; omega), Option.bind_some]
    simp only [dl, Option.bind_some, hdur, List.length_map]
    by_cases h2 : n = ((rsOf (D ++ P)).length : Int)
    · rw [cond_dt h2]
      refine congrArg some (congrArg (Prod.mk _) ?_)
      unfold okLog
      rw [Bool.eq_iff_iff, decide_eq_true_eq, decide_eq_true_eq]
      exact ⟨fun h => ⟨h1, h2, h⟩, fun h => h.2.2⟩
    · rw [cond_df h2]
      refine congrArg some (congrArg (Prod.mk _) ?_)
      unfold okLog
      symm
      rw [decide_eq_false_iff_not]
      exact fun h => h2 h.2.1
  · rw [cond_df (by simp; omega), Option.bind_some]
    simp only [dl, Option.bind_some, cond_false]
    refine congrArg some (congrArg (Prod.mk _) ?_)
    unfold okLog
    symm
    rw [decide_eq_false_iff_not]
    exact fun h => h1 h.1
theorem log_eq (D P : List UInt8) (n : Int) (hD : D.length ≤ 10000000) (hP : P.length ≤ 10000000) : spec_l27Log (bs D, bs P, n, ()) = some (okLog D P n) := by
  have hsm : tot (rsOf (D ++ P)) ≤ 60 * 400 := tot_small 60 0 (D ++ P) (by omega)
  have htl : tot (rsOf (D ++ P)) ≤ (D ++ P).length := tot_le 60 0 (D ++ P)
  have htd : tot (rsOf D) ≤ D.length := tot_le 60 0 D
  simp only [List.length_append] at htl
  unfold spec_l27Log
  simp only [bs_app, bs_size]
  rw [w64_id (x := (D.length : Int) + (P.length : Int)) (by omega) (by omega)]
  by_cases h0 : (30000 : Int) < (D.length : Int) + (P.length : Int)
  · rw [cond_dt h0]
    refine congrArg some ?_
    unfold okLog
    symm
    rw [decide_eq_false_iff_not]
    exact fun h => by have := h.1; omega
  · rw [cond_df h0, grd_pos (by omega), open_eq (D ++ P) (by simp; omega), Option.bind_some, open_eq D (by omega), Option.bind_some]
    simp only [List.length_map]
    unfold okLog
    by_cases h1 : tot (rsOf (D ++ P)) = D.length + P.length
    · rw [cond_dt (by omega)]
      by_cases h2 : tot (rsOf D) = D.length
      · rw [cond_dt (by omega)]
        refine congrArg some ?_
        rw [Bool.eq_iff_iff, decide_eq_true_eq, decide_eq_true_eq]
        exact ⟨fun h => ⟨h1, h.symm, h2⟩, fun h => h.2.1.symm⟩
      · rw [cond_df (by omega)]
        refine congrArg some ?_
        symm
        rw [decide_eq_false_iff_not]
        exact fun h => h2 h.2.2
    · rw [cond_df (by omega)]
      refine congrArg some ?_
      symm
      rw [decide_eq_false_iff_not]
      exact fun h => h1 h.1
end Go.Proofs.YtppiaacfnoifkaaDoor
