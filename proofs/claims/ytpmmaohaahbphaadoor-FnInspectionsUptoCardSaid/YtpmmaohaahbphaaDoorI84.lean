/-
  The contract of the library's slices.Insert at conditions: one element is put into one's own slice.
-/
import Derived.Test.YtpmmaohaahbphaaDoorX0
import Derived.Test.YtpmmaohaahbphaaDoorI81
namespace Go.Proofs.YtpmmaohaahbphaaDoor
open Go.RowKit Go.Lib

/-- One's own row behind stores. -/
theorem setCells_row {g : Nat} {t : TypeId} {fr : Nat × Nat} : ∀ (vs : List Value) (o : Nat) (w : World) (cur : Array Value), w.heap[g]? = some (.cells cur t fr) →
    ∃ cur', (w.setCells g o vs).heap[g]? = some (.cells cur' t fr) ∧ cur'.size = cur.size ∧ (∀ p, p < o ∨ o + vs.length ≤ p → cur'[p]? = cur[p]?) ∧ (∀ p, o ≤ p → p < o + vs.length → p < cur.size → cur'[p]? = vs[p - o]?)
  | [], o, w, cur, h => ⟨cur, h, rfl, fun _ _ => rfl, fun p h1 h2 _ => by simp at h2; omega⟩
  | v :: r, o, w, cur, h => by
    have e := setCell_eq_setRow w g o cur t fr v h
    have h1 : (w.setCell ⟨g, o, none⟩ v).heap[g]? = some (.cells (cur.setIfInBounds o v) t fr) := by rw [e]; exact setRow_heap w g cur _ t fr h
    obtain ⟨cur', g1, g2, g3, g4⟩ := setCells_row r (o + 1) (w.setCell ⟨g, o, none⟩ v) _ h1
    refine ⟨cur', g1, by rw [g2]; simp, fun p hp => ?_, fun p hp1 hp2 hp3 => ?_⟩
    · rw [g3 p (by simp at hp; omega), Array.getElem?_setIfInBounds]
      rw [if_neg (by simp at hp; omega)]
    · by_cases hpo : p = o
      · subst hpo
        rw [g3 p (by omega), Array.getElem?_setIfInBounds, if_pos rfl, if_pos hp3]
        simp
      · rw [g4 p (by omega) (by simp at hp2; omega) (by simpa using hp3)]
        rw [show p - o = (p - (o + 1)) + 1 by omega]; simp
theorem setCells_env (g : Nat) : ∀ (vs : List Value) (o : Nat) (w : World), (w.setCells g o vs).os = w.os ∧ (w.setCells g o vs).tape = w.tape ∧ (w.setCells g o vs).output = w.output ∧ (w.setCells g o vs).heap.size = w.heap.size ∧ ∀ k, k ≠ g → (w.setCells g o vs).heap[k]? = w.heap[k]?
  | [], _, w => ⟨rfl, rfl, rfl, rfl, fun _ _ => rfl⟩
  | v :: r, o, w => by
    obtain ⟨h1, h2, h3, h4, h5⟩ := setCells_env g r (o + 1) (w.setCell ⟨g, o, none⟩ v)
    refine ⟨h1, h2, h3, by rw [World.setCells, h4]; simp [World.setCell], fun k hk => ?_⟩
    rw [World.setCells, h5 k hk]
    simp [World.setCell, Array.getElem?_modify, Ne.symm hk]

/-- One's own slice with something put in. -/
def insL (l : List Condition) (i : Int) (v : List Condition) : List Condition := l.take i.toNat ++ (v ++ l.drop i.toNat)

/-- What an own array holds, as cells. -/
theorem arr_cells {w : World} {S : Nat → Prop} {V : Nat → Info} {N : Nat} {I : Info} {ty : TypeId} {xs : List Condition} {cur : Array Value} (h : BlkR w S V N I (.arr ty ty_Condition xs) cur) :
    ∃ cap, I.val = .slice (some ⟨I.blk, 0, none⟩) xs.length cap ∧ xs.length ≤ cap ∧ cap ≤ maxLen ∧ cur.size = cap * 5 ∧ xs.length ≤ bigLen ∧ w.heap[I.blk]? = some (.cells cur ty (0, 0)) ∧
      ∀ (k j : Nat) (c : AV), k < xs.length → (rowT ty_Condition xs k)[j]? = some c → ∃ x, cur[k * 5 + j]? = some x ∧ x.oneCell' = true ∧ Rt w S c x := by
  obtain ⟨cap, h1, h2, h3, h4, h5⟩ := h.own rfl
  obtain ⟨fr, e, hf⟩ := h.heap rfl
  have hfr : fr = (0, 0) := FrOk.no hf
  subst hfr
  refine ⟨cap, h1, h2, h3, h4, h5, e, fun k j c hk hj => ?_⟩
  obtain ⟨x, e1, e2, _⟩ := h.cell k j c hk hj
  exact ⟨x, e1, e2, h.still rfl k j c x hk hj e1⟩
theorem rowC_get (xs : List Condition) (k j : Nat) (hj : j < 5) : ∃ c, (rowT ty_Condition xs k)[j]? = some c := by
  have hl : (rowT ty_Condition xs k).length = 5 := rowT_length ..
  exact ⟨_, List.getElem?_eq_getElem (by omega)⟩
theorem rowC_lt {xs : List Condition} {k j : Nat} {c : AV} (h : (rowT ty_Condition xs k)[j]? = some c) : j < 5 := by
  have hl : (rowT ty_Condition xs k).length = 5 := rowT_length ..
  have := (List.getElem?_eq_some_iff.1 h).1
  omega

theorem rowT_ins (l v : List ty_Condition.den) (i k : Nat) (hi : i ≤ l.length) (hv : v.length = 1) :
    rowT ty_Condition (l.take i ++ (v ++ l.drop i)) k = if k < i then rowT ty_Condition l k else if k - i < 1 then rowT ty_Condition v 0 else rowT ty_Condition l (k - 1) := by
  have l2 : (l.take i).length = i := by rw [List.length_take]; omega
  rw [rowT_append, l2]
  by_cases h1 : k < i
  · rw [if_pos h1, if_pos h1]
    unfold rowT
    rw [show (l.take i).getD k (Ty.dflt ty_Condition) = l.getD k (Ty.dflt ty_Condition) by
      simp only [List.getD_eq_getElem?_getD, List.getElem?_take, if_pos h1]]
  · rw [if_neg h1, if_neg h1, rowT_append, hv]
    by_cases h2 : k - i < 1
    · rw [if_pos h2, if_pos h2, show k - i = 0 by omega]
    · rw [if_neg h2, if_neg h2]
      unfold rowT
      rw [show (l.drop i).getD (k - i - 1) (Ty.dflt ty_Condition) = l.getD (k - 1) (Ty.dflt ty_Condition) by
        simp only [List.getD_eq_getElem?_getD, List.getElem?_drop]
        rw [show i + (k - i - 1) = k - 1 by omega]]

set_option maxHeartbeats 4000000 in
theorem ext_slices_Insert (a0 : List Condition) (a1 : Int) (a2 : List Condition) (hg : (0 ≤ a1 ∧ a1 ≤ (a0.length : Int)) ∧ a0.length ≤ 1000000 ∧ a2.length = 1) :
    Spec Tryd.prog fI [.own 0, .v (.int .i64 a1), .own 1] [some (.arr tE ty_Condition a0), some (.arr tE ty_Condition a2)] (.own 2) [none, none, some (.arr tE ty_Condition (insL a0 a1 a2))] := by
  obtain ⟨⟨hi0, hi1⟩, hlen, hv1⟩ := hg
  intro w GB V S0 args hLw hGB hHR hsz hargs
  match args, hsz with
  | ⟨[x0, x1, x2]⟩, _ =>
  have e0 := (hargs 0 _ _ rfl rfl).own_inv
  have e1 := (hargs 1 _ _ rfl rfl).v_inv
  have e2 := (hargs 2 _ _ rfl rfl).own_inv
  subst e0 e1 e2
  obtain ⟨cur, hb⟩ := hHR.blk 0 _ rfl
  obtain ⟨cur2, hb2⟩ := hHR.blk 1 _ rfl
  have hne : (V 0).blk ≠ (V 1).blk := hHR.ne (i := 0) (j := 1) rfl rfl (by decide)
  obtain ⟨cap, v1, v2, v3, v4, v5, v6, v7⟩ := arr_cells hb
  obtain ⟨cap2, u1, u2, u3, u4, u5, u6, u7⟩ := arr_cells hb2
  rw [v1, u1]
  generalize hA : atR S0 [some (LB.arr tE ty_Condition a0), some (LB.arr tE ty_Condition a2)] V w = A at *
  generalize hS : Stb A w [some (LB.arr tE ty_Condition a0), some (LB.arr tE ty_Condition a2)] V = S at *
  obtain ⟨i, rfl⟩ : ∃ i : Nat, a1 = (i : Int) := ⟨a1.toNat, by omega⟩
  have hin : i ≤ a0.length := by omega
  have hi2 : ((i : Int)).toNat = i := by omega
  have hg0 : (V 0).blk < w.heap.size := (Array.getElem?_eq_some_iff.1 v6).1
  have hg1 : (V 1).blk < w.heap.size := (Array.getElem?_eq_some_iff.1 u6).1
  rw [hv1] at u1 u2 u5
  rw [hv1]
  -- the cells
  obtain ⟨cs, hcs⟩ : ∃ cs, cs = cur.toList.take (a0.length * 5) := ⟨_, rfl⟩
  obtain ⟨vs, hvs⟩ : ∃ vs, vs = cur2.toList.take 5 := ⟨_, rfl⟩
  have hcl : cs.length = a0.length * 5 := by rw [hcs, List.length_take, Array.length_toList (xs := cur), v4]; omega
  have hvl : vs.length = 5 := by rw [hvs, List.length_take, Array.length_toList (xs := cur2), u4]; omega
  have gcs : ∀ p, p < a0.length * 5 → cs[p]? = cur[p]? := fun p hp => by rw [hcs, List.getElem?_take, if_pos hp]; simp
  have gvs : ∀ p, p < 5 → vs[p]? = cur2[p]? := fun p hp => by rw [hvs, List.getElem?_take, if_pos hp]; simp
  have kcs : ∀ (k j : Nat) (c : AV), k < a0.length → (rowT ty_Condition a0 k)[j]? = some c → ∃ x, cs[k * 5 + j]? = some x ∧ x.oneCell' = true ∧ Rt w S c x := fun k j c hk hj => by
    have := rowC_lt hj
    rw [gcs _ (by omega)]; exact v7 k j c hk hj
  have kvs : ∀ (j : Nat) (c : AV), (rowT ty_Condition a2 0)[j]? = some c → ∃ x, vs[j]? = some x ∧ x.oneCell' = true ∧ Rt w S c x := fun j c hj => by
    have h5 := rowC_lt hj
    rw [gvs _ h5]
    have := u7 0 j c (by omega) hj
    rwa [Nat.zero_mul, Nat.zero_add] at this
  have ocs : ∀ v ∈ cs, v.oneCell' = true := fun v hv => by
    obtain ⟨p, hp, e⟩ := List.mem_iff_getElem.1 hv
    have hp2 : p / 5 < a0.length := by omega
    obtain ⟨c, hc⟩ := rowC_get a0 (p / 5) (p % 5) (by omega)
    obtain ⟨x, f1, f2, _⟩ := kcs _ _ c hp2 hc
    rw [show p / 5 * 5 + p % 5 = p by omega, List.getElem?_eq_getElem hp] at f1
    rw [← e, Option.some.inj f1]; exact f2
  have ovs : ∀ v ∈ vs, v.oneCell' = true := fun v hv => by
    obtain ⟨p, hp, e⟩ := List.mem_iff_getElem.1 hv
    obtain ⟨c, hc⟩ := rowC_get a2 0 p (by omega)
    obtain ⟨x, f1, f2, _⟩ := kvs _ c hc
    rw [List.getElem?_eq_getElem hp] at f1
    rw [← e, Option.some.inj f1]; exact f2
  have wcs : ∀ j v, cs[j]? = some v → w.cell? ⟨(V 0).blk, 0 + j, none⟩ = some v := fun j v hj => by
    have hlt : j < cs.length := (List.getElem?_eq_some_iff.1 hj).1
    rw [gcs j (by omega)] at hj
    simp [World.cell?, v6, hj]
  have wvs : ∀ j v, vs[j]? = some v → w.cell? ⟨(V 1).blk, 0 + j, none⟩ = some v := fun j v hj => by
    have hlt : j < vs.length := (List.getElem?_eq_some_iff.1 hj).1
    rw [gvs j (by omega)] at hj
    simp [World.cell?, u6, hj]
  have wsp : ∀ p, p < cap * 5 → (w.cell? ⟨(V 0).blk, p, none⟩).isSome = true := fun p hp => by
    simp [World.cell?, v6, v4, hp]
  have wfz : ∀ p, w.frozen? ⟨(V 0).blk, p, none⟩ = false := fun p => by simp [World.frozen?, v6]
  have wfz1 : ∀ p, w.frozen? ⟨(V 1).blk, p, none⟩ = false := fun p => by simp [World.frozen?, u6]
  -- the end
  have fin : ∀ (w' : World) (g cap' : Nat) (cur' : Array Value), w'.os = w.os → w'.tape = w.tape → w'.output = w.output → w.heap.size ≤ w'.heap.size → (∀ k, k < w.heap.size → k ≠ (V 0).blk → w'.heap[k]? = w.heap[k]?) →
      w'.heap[g]? = some (.cells cur' tE (0, 0)) → (g = (V 0).blk ∨ w.heap.size ≤ g) → cur'.size = cap' * 5 → a0.length + 1 ≤ cap' → cap' ≤ maxLen →
      (∀ p, p < (a0.length + 1) * 5 → cur'[p]? = (cs.take (i * 5) ++ (vs ++ cs.drop (i * 5)))[p]?) →
      ∃ x V', Ending.returned (Value.slice (some ⟨g, 0, none⟩) (a0.length + 1) cap') = .returned x ∧ Kept (blkOf [some (LB.arr tE ty_Condition a0), some (LB.arr tE ty_Condition a2)] V) w w' ∧ 2 ≤ 3 ∧ (∀ i, i < 2 → V' i = V i) ∧
        HR w (blkOf [some (LB.arr tE ty_Condition a0), some (LB.arr tE ty_Condition a2)] V) A V' [none, none, some (.arr tE ty_Condition (insL a0 i a2))] w' ∧
        R w' (Stb A w' [none, none, some (.arr tE ty_Condition (insL a0 i a2))] V') V' 3 (.own 2) x := by
    intro w' g cap' cur' q1 q2 q3 q4 q5 q6 q7 q8 q9 q10 q11
    have hL : (insL a0 i a2).length = a0.length + 1 := by
      unfold insL
      rw [hi2]
      simp only [List.length_append, List.length_take, List.length_drop, hv1]
      omega
    have hgw : g < w'.heap.size := (Array.getElem?_eq_some_iff.1 q6).1
    have hSt : ∀ b, S b → Stb A w' [none, none, some (.arr tE ty_Condition (insL a0 i a2))] (updV V 2 ⟨g, 5, a0.length + 1, .slice (some ⟨g, 0, none⟩) (a0.length + 1) cap', noSub⟩) b ∧ w'.heap[b]? = w.heap[b]? := fun b hbS => by
      rw [← hS] at hbS
      obtain ⟨s1, s2, s3⟩ := hbS
      have hb0 : b ≠ (V 0).blk := fun e => s3 0 _ rfl (.inl e.symm)
      refine ⟨⟨s1, Nat.lt_of_lt_of_le s2 q4, fun id lb e hf => ?_⟩, q5 b s2 hb0⟩
      match id, e with
      | 2, e =>
        cases e
        have hf := foot_plain rfl hf
        have hf : g = b := by simpa [updV] using hf
        rcases q7 with q7 | q7
        · exact hb0 (hf.symm.trans q7)
        · omega
    refine ⟨_, updV V 2 ⟨g, 5, a0.length + 1, .slice (some ⟨g, 0, none⟩) (a0.length + 1) cap', noSub⟩, rfl, ⟨q1, q2, q3, q4, fun k hk hm => q5 k hk fun e => hm ⟨0, _, rfl, .inl e.symm⟩⟩, by decide, fun i hi => by simp [updV]; omega, ⟨?_, ?_, ?_⟩, ?_⟩
    · intro i j li lj h1 h2 hij
      match i, j, h1, h2 with
      | 2, 2, _, _ => exact absurd rfl hij
    · intro id lb e
      match id, e with
      | 2, e =>
        cases e
        refine ⟨cur', ?_⟩
        have hbl : (insL a0 i a2).length ≤ bigLen := by rw [hL]; show _ ≤ 140737488355328; omega
        have ee : updV V 2 ⟨g, 5, a0.length + 1, .slice (some ⟨g, 0, none⟩) (a0.length + 1) cap', noSub⟩ 2 = ⟨g, ty_Condition.n, a0.length + 1, .slice (some ⟨g, 0, none⟩) (a0.length + 1) cap', noSub⟩ := rfl
        rw [ee]
        refine BlkR.newArr (L := cs.take (i * 5) ++ (vs ++ cs.drop (i * 5))) q6 hL (Nat.le_trans (Nat.le_of_eq hL) q9) q10 q8 hbl ?_ fun k j c hk hj => ?_
        · apply List.ext_getElem?
          intro p
          rw [List.getElem?_take]
          have h5 : @List.length ty_Condition.den (insL a0 i a2) * ty_Condition.n = (a0.length + 1) * 5 := congrArg (· * 5) hL
          rw [h5]
          split
          · rename_i hp
            rw [← q11 p hp]; simp
          · rename_i hp
            rw [List.getElem?_eq_none]
            simp only [List.length_append, List.length_take, List.length_drop, hcl, hvl]
            omega
        · have h5 := rowC_lt hj
          have hk : k < a0.length + 1 := Nat.lt_of_lt_of_eq hk hL
          have key : ∃ x, (cs.take (i * 5) ++ (vs ++ cs.drop (i * 5)))[k * 5 + j]? = some x ∧ x.oneCell' = true ∧ Rt w S c x := by
            have l1 : (cs.take (i * 5)).length = i * 5 := by rw [List.length_take]; omega
            have er : rowT ty_Condition (insL a0 i a2) k = if k < i then rowT ty_Condition a0 k else if k - i < 1 then rowT ty_Condition a2 0 else rowT ty_Condition a0 (k - 1) := rowT_ins a0 a2 i k hin hv1
            rw [er] at hj
            by_cases hki : k < i
            · rw [if_pos hki] at hj
              rw [List.getElem?_append_left (by omega), List.getElem?_take, if_pos (by omega)]
              exact kcs k j c (by omega) hj
            · rw [if_neg hki] at hj
              rw [List.getElem?_append_right (by omega), l1]
              by_cases hk2 : k - i < 1
              · rw [if_pos hk2] at hj
                rw [List.getElem?_append_left (by omega), show k * 5 + j - i * 5 = j by omega]
                exact kvs j c hj
              · rw [if_neg hk2] at hj
                rw [List.getElem?_append_right (by omega), hvl, List.getElem?_drop, show i * 5 + (k * 5 + j - i * 5 - 5) = (k - 1) * 5 + j by omega]
                exact kcs (k - 1) j c (by omega) hj
          obtain ⟨x, f1, f2, f3⟩ := key
          exact ⟨x, f1, f2, f3.mono hSt⟩
    · intro id lb e b hf hlt
      match id, e with
      | 2, e =>
        cases e
        have hf := foot_plain rfl hf
        have hf : g = b := by simpa [updV] using hf
        subst hf
        rcases q7 with q7 | q7
        · exact ⟨0, _, rfl, .inl q7.symm⟩
        · omega
    · have := R.own (w := w') (S := Stb A w' [none, none, some (.arr tE ty_Condition (insL a0 i a2))] (updV V 2 ⟨g, 5, a0.length + 1, .slice (some ⟨g, 0, none⟩) (a0.length + 1) cap', noSub⟩)) (V := updV V 2 ⟨g, 5, a0.length + 1, .slice (some ⟨g, 0, none⟩) (a0.length + 1) cap', noSub⟩) (N := 3) 2 (by decide)
      simpa [updV] using this
  have hmx : maxLen = 9223372036854775807 := by decide
  have fz0 : ∀ (n : Nat) (cs : List Value), cs.drop (cs.length) = [] := fun _ cs => List.drop_length
  by_cases hroom : a0.length + 1 ≤ cap
  · by_cases hlt : i < a0.length
    · refine (ins_shift (V 0).blk 0 a0.length cap i (V 1).blk 0 cap2 cs vs w hlt hroom (by omega) hne.symm hcl hvl wcs (fun j hj => by rw [Nat.zero_add]; exact wsp j (by omega)) (fun j _ => by rw [Nat.zero_add]; exact wfz j) wvs ocs ovs tE tE (cap2 * 5) (cap * 5)
        (by simp [World.shape?, u6, u4]) (by simp [World.shape?, v6, v4]) (by omega) (wfz1 0) (wfz1 _)).mono ?_
      rintro e w' ⟨rfl, rfl⟩
      obtain ⟨r1, a1, a2', a3, a4⟩ := setCells_row (cs.drop (i * 5)) (0 + (i + 1) * 5) w.drew cur v6
      obtain ⟨r2, b1, b2, b3, b4⟩ := setCells_row vs (0 + i * 5) (w.drew.setCells (V 0).blk (0 + (i + 1) * 5) (cs.drop (i * 5))) r1 a1
      obtain ⟨s1, s2, s3, s4, s5⟩ := setCells_env (V 0).blk (cs.drop (i * 5)) (0 + (i + 1) * 5) w.drew
      obtain ⟨t1, t2, t3, t4, t5⟩ := setCells_env (V 0).blk vs (0 + i * 5) (w.drew.setCells (V 0).blk (0 + (i + 1) * 5) (cs.drop (i * 5)))
      refine fin _ (V 0).blk cap r2 (t1.trans s1) (t2.trans s2) (t3.trans s3) (by rw [t4, s4]; exact Nat.le_refl _) (fun k _ hk => (t5 k hk).trans (s5 k hk)) b1 (.inl rfl) (by rw [b2, a2', v4]) hroom v3 fun p hp => ?_
      have hdl : (cs.drop (i * 5)).length = (a0.length - i) * 5 := by rw [List.length_drop, hcl]; omega
      have l1 : (cs.take (i * 5)).length = i * 5 := by rw [List.length_take]; omega
      by_cases h1 : p < i * 5
      · rw [b3 p (by omega), a3 p (by omega), List.getElem?_append_left (by omega), List.getElem?_take, if_pos h1, gcs p (by omega)]
      · rw [List.getElem?_append_right (by omega), l1]
        by_cases h2 : p < (i + 1) * 5
        · rw [b4 p (by omega) (by omega) (by rw [a2', v4]; omega), List.getElem?_append_left (by omega), Nat.zero_add]
        · rw [b3 p (by omega), a4 p (by omega) (by omega) (by rw [v4]; omega), List.getElem?_append_right (by omega), hvl]
          congr 1; omega
    · have hie : i = a0.length := by omega
      subst hie
      refine (ins_end_room (V 0).blk 0 a0.length cap (V 1).blk 0 cap2 vs w hroom (by omega) hvl (fun j hj => wsp _ (by omega)) (fun j _ => wfz _) wvs ovs).mono ?_
      rintro e w' ⟨rfl, rfl⟩
      obtain ⟨r2, b1, b2, b3, b4⟩ := setCells_row vs (0 + a0.length * 5) w cur v6
      obtain ⟨t1, t2, t3, t4, t5⟩ := setCells_env (V 0).blk vs (0 + a0.length * 5) w
      refine fin _ (V 0).blk cap r2 t1 t2 t3 (by rw [t4]; exact Nat.le_refl _) (fun k _ hk => t5 k hk) b1 (.inl rfl) (by rw [b2, v4]) hroom v3 fun p hp => ?_
      have l1 : (cs.take (a0.length * 5)).length = a0.length * 5 := by rw [List.length_take]; omega
      by_cases h1 : p < a0.length * 5
      · rw [b3 p (by omega), List.getElem?_append_left (by omega), List.getElem?_take, if_pos h1, gcs p (by omega)]
      · rw [List.getElem?_append_right (by omega), l1, b4 p (by omega) (by omega) (by rw [v4]; omega), List.getElem?_append_left (by omega), Nat.zero_add]
  · have hroom : cap < a0.length + 1 := by omega
    have hzc : ∀ k, (Builtin.zeroCells zC.cells k).size = k * 5 := fun k => by simp [Builtin.zeroCells, Value.cells]
    have hG1 := grownCap_ge w (a0.length + 1) cap tE
    have hG2 := grownCap_le_maxLen w (a0.length + 1) cap tE (by rw [hmx]; omega)
    by_cases hlt : i < a0.length
    · refine (ins_grow (V 0).blk 0 a0.length cap i (V 1).blk 0 cap2 cs vs w hlt (by omega) hroom (by omega) hcl hvl wcs wvs ocs ovs).mono ?_
      generalize grownCap w (a0.length + 1) cap tE = G at hG1 hG2 ⊢
      rintro e w' ⟨rfl, rfl⟩
      generalize hROW : (cs.take (i * 5)).toArray ++ Builtin.zeroCells zC.cells (a0.length + 1 - i) ++ Builtin.zeroCells zC.cells (G - (a0.length + 1)) = ROW
      have hdl : (cs.drop (i * 5)).length = (a0.length - i) * 5 := by rw [List.length_drop, hcl]; omega
      have l1 : (cs.take (i * 5)).length = i * 5 := by rw [List.length_take]; omega
      have hRs : ROW.size = G * 5 := by rw [← hROW, Array.size_append, Array.size_append, hzc, hzc, List.size_toArray, l1]; omega
      have hR1 : ∀ p, p < i * 5 → ROW[p]? = cs[p]? := fun p hp => by
        rw [← hROW, Array.append_assoc, Array.getElem?_append_left (by rw [List.size_toArray]; omega), List.getElem?_toArray, List.getElem?_take, if_pos hp]
      have h0 : (w.alloc (.cells ROW tE)).drew.heap[w.heap.size]? = some (.cells ROW tE (0, 0)) := heap_alloc_new w _
      obtain ⟨r1, a1, a2', a3, a4⟩ := setCells_row vs (i * 5) (w.alloc (.cells ROW tE)).drew ROW h0
      obtain ⟨r2, b1, b2, b3, b4⟩ := setCells_row (cs.drop (i * 5)) ((i + 1) * 5) ((w.alloc (.cells ROW tE)).drew.setCells w.heap.size (i * 5) vs).drew r1 a1
      obtain ⟨s1, s2, s3, s4, s5⟩ := setCells_env w.heap.size vs (i * 5) (w.alloc (.cells ROW tE)).drew
      obtain ⟨t1, t2, t3, t4, t5⟩ := setCells_env w.heap.size (cs.drop (i * 5)) ((i + 1) * 5) ((w.alloc (.cells ROW tE)).drew.setCells w.heap.size (i * 5) vs).drew
      have hbel : Below w.heap.size w (w.alloc (.cells ROW tE)) := (Below.refl _ _).alloc (Nat.le_refl _) _
      refine fin _ w.heap.size G r2 ((t1.trans s1).trans hbel.os) ((t2.trans s2).trans hbel.tape) ((t3.trans s3).trans hbel.output) ?_ (fun k hk _ => ((t5 k (by omega)).trans (s5 k (by omega))).trans (hbel.block k hk)) b1 (.inr (Nat.le_refl _)) (by rw [b2, a2', hRs]) hG1 hG2 fun p hp => ?_
      · rw [t4]
        show w.heap.size ≤ ((w.alloc (.cells ROW tE)).drew.setCells w.heap.size (i * 5) vs).heap.size
        rw [s4]; exact hbel.size
      · by_cases h1 : p < i * 5
        · rw [b3 p (by omega), a3 p (by omega), List.getElem?_append_left (by omega), List.getElem?_take, if_pos h1, hR1 p h1]
        · rw [List.getElem?_append_right (by omega), l1]
          by_cases h2 : p < (i + 1) * 5
          · rw [b3 p (by omega), a4 p (by omega) (by omega) (by rw [hRs]; omega), List.getElem?_append_left (by omega)]
          · rw [b4 p (by omega) (by omega) (by rw [a2', hRs]; omega), List.getElem?_append_right (by omega), hvl]
            congr 1; omega
    · have hie : i = a0.length := by omega
      subst hie
      refine (ins_end_grow (V 0).blk 0 a0.length cap (V 1).blk 0 cap2 cs vs w (by omega) hroom (by omega) hcl hvl wcs wvs ovs).mono ?_
      generalize grownCap w (a0.length + 1) cap tE = G at hG1 hG2 ⊢
      rintro e w' ⟨rfl, rfl⟩
      have hbel : ∀ o, Below w.heap.size w (w.drew.alloc o) := fun o => Below.alloc (show Below w.heap.size w w.drew from below_draw w 1) (Nat.le_refl _) o
      refine fin _ w.heap.size G _ (hbel _).os (hbel _).tape (hbel _).output (hbel _).size (fun k hk _ => (hbel _).block k hk) (heap_alloc_new w.drew _) (.inr (Nat.le_refl _)) ?_ hG1 hG2 fun p hp => ?_
      · rw [Array.size_append, hzc, List.size_toArray, List.length_append, hcl, hvl]; omega
      · have l1 : cs.take (a0.length * 5) = cs := List.take_of_length_le (by omega)
        have l2 : cs.drop (a0.length * 5) = [] := List.drop_of_length_le (by omega)
        rw [l1, l2, List.append_nil, Array.getElem?_append_left (by rw [List.size_toArray, List.length_append]; omega), List.getElem?_toArray]
end Go.Proofs.YtpmmaohaahbphaaDoor
