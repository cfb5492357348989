/-
  The contract of the library's slices.SortFunc at rows of two numbers, ordered by the program's closure: one's own slice of rows is put in order.
-/
import Derived.Shelf.SlSortCmp.Whole1
import Derived.Test.YtpmmaohaahbphaaDoorX0
import Derived.Test.YtpmmaohaahbphaaDoorI83
namespace Go.Proofs
open Go.Shelf
def Tryd.sortP_ren : Go.Shelf.Ren := ⟨fun | 6 => 26 | 15 => 48 | 14 => 47 | 28 => 64 | 29 => 65 | 20 => 56 | 21 => 57 | 22 => 58 | 23 => 59 | 24 => 60 | 25 => 61 | 26 => 62 | 27 => 63 | 46 => 69 | 47 => 70 | 48 => 71 | 49 => 72 | 50 => 73 | 57 => 79 | n => n, fun | 22 => 27 | 24 => 31 | 25 => 57 | 3 => 3 | 39 => 72 | 0 => 0 | 53 => 84 | 55 => 47 | 4 => 4 | 46 => 78 | 45 => 77 | 50 => 63 | 5 => 5 | 9 => 9 | 66 => 87 | 70 => 91 | 76 => 98 | 77 => 99 | n => n, fun | n => n⟩
theorem Tryd.sortP : Go.Proofs.SlLaysF.n6 Tryd.prog Tryd.sortP_ren where
  mixed := by kernel_rfl
  f6 := ⟨ "slices.SortFunc[[][]int,[]int]", by decide, Tryd.func26.trans (congrArg some (by kernel_rfl))⟩
  f14 := ⟨ "slices.pdqsortCmpFunc[[]int]", by decide, Tryd.func47.trans (congrArg some (by kernel_rfl))⟩
  f15 := Tryd.func48.trans (congrArg some (by kernel_rfl))
  f20 := ⟨ "slices.insertionSortCmpFunc[[]int]", by decide, Tryd.func56.trans (congrArg some (by kernel_rfl))⟩
  f21 := ⟨ "slices.heapSortCmpFunc[[]int]", by decide, Tryd.func57.trans (congrArg some (by kernel_rfl))⟩
  f22 := ⟨ "slices.breakPatternsCmpFunc[[]int]", by decide, Tryd.func58.trans (congrArg some (by kernel_rfl))⟩
  f23 := ⟨ "slices.choosePivotCmpFunc[[]int]", by decide, Tryd.func59.trans (congrArg some (by kernel_rfl))⟩
  f24 := ⟨ "slices.reverseRangeCmpFunc[[]int]", by decide, Tryd.func60.trans (congrArg some (by kernel_rfl))⟩
  f25 := ⟨ "slices.partialInsertionSortCmpFunc[[]int]", by decide, Tryd.func61.trans (congrArg some (by kernel_rfl))⟩
  f26 := ⟨ "slices.partitionEqualCmpFunc[[]int]", by decide, Tryd.func62.trans (congrArg some (by kernel_rfl))⟩
  f27 := ⟨ "slices.partitionCmpFunc[[]int]", by decide, Tryd.func63.trans (congrArg some (by kernel_rfl))⟩
  f28 := Tryd.func64.trans (congrArg some (by kernel_rfl))
  f29 := Tryd.func65.trans (congrArg some (by kernel_rfl))
  f46 := ⟨ "slices.siftDownCmpFunc[[]int]", by decide, Tryd.func69.trans (congrArg some (by kernel_rfl))⟩
  f47 := Tryd.func70.trans (congrArg some (by kernel_rfl))
  f48 := Tryd.func71.trans (congrArg some (by kernel_rfl))
  f49 := ⟨ "slices.medianAdjacentCmpFunc[[]int]", by decide, Tryd.func72.trans (congrArg some (by kernel_rfl))⟩
  f50 := ⟨ "slices.medianCmpFunc[[]int]", by decide, Tryd.func73.trans (congrArg some (by kernel_rfl))⟩
  f57 := ⟨ "slices.order2CmpFunc[[]int]", by decide, Tryd.func79.trans (congrArg some (by kernel_rfl))⟩
  t0 := Tryd.underlying0
  a0 := Tryd.isAgg0
  z0 := Tryd.sizeOf0
  v0 := Tryd.zeroValue0
  t3 := Tryd.underlying3
  a3 := Tryd.isAgg3
  z3 := Tryd.sizeOf3
  v3 := Tryd.zeroValue3
  t4 := Tryd.underlying4
  a4 := Tryd.isAgg4
  z4 := Tryd.sizeOf4
  v4 := Tryd.zeroValue4
  t5 := Tryd.underlying5
  a5 := Tryd.isAgg5
  z5 := Tryd.sizeOf5
  v5 := Tryd.zeroValue5
  t9 := Tryd.underlying9
  a9 := Tryd.isAgg9
  z9 := Tryd.sizeOf9
  v9 := Tryd.zeroValue9
  t22 := Tryd.underlying27
  a22 := Tryd.isAgg27
  z22 := Tryd.sizeOf27
  v22 := Tryd.zeroValue27
  a24 := Tryd.isAgg31
  z24 := Tryd.sizeOf31
  t25 := Tryd.underlying57
  a25 := Tryd.isAgg57
  z25 := Tryd.sizeOf57
  v25 := Tryd.zeroValue57
  t39 := Tryd.underlying72
  a39 := Tryd.isAgg72
  z39 := Tryd.sizeOf72
  v39 := Tryd.zeroValue72
  t45 := Tryd.underlying77
  a45 := Tryd.isAgg77
  z45 := Tryd.sizeOf77
  v45 := Tryd.zeroValue77
  t46 := Tryd.underlying78
  a46 := Tryd.isAgg78
  z46 := Tryd.sizeOf78
  v46 := Tryd.zeroValue78
  t50 := Tryd.underlying63
  a50 := Tryd.isAgg63
  z50 := Tryd.sizeOf63
  v50 := Tryd.zeroValue63
  t53 := Tryd.underlying84
  a53 := Tryd.isAgg84
  z53 := Tryd.sizeOf84
  v53 := Tryd.zeroValue84
  t55 := Tryd.underlying47
  a55 := Tryd.isAgg47
  z55 := Tryd.sizeOf47
  v55 := Tryd.zeroValue47
  t66 := Tryd.underlying87
  a66 := Tryd.isAgg87
  z66 := Tryd.sizeOf87
  v66 := Tryd.zeroValue87
  t70 := Tryd.underlying91
  a70 := Tryd.isAgg91
  z70 := Tryd.sizeOf91
  v70 := Tryd.zeroValue91
  t76 := Tryd.underlying98
  a76 := Tryd.isAgg98
  z76 := Tryd.sizeOf98
  v76 := Tryd.zeroValue98
  t77 := Tryd.underlying99
  a77 := Tryd.isAgg99
  z77 := Tryd.sizeOf99
  v77 := Tryd.zeroValue99
end Go.Proofs
namespace Go.Proofs.YtpmmaohaahbphaaDoor
open Go.RowKit Go.Lib

set_option maxHeartbeats 4000000 in
set_option maxRecDepth 100000 in
/-- Two rows of no memory. -/
theorem calls_clo_nil (w : World) : Calls Tryd.prog fClo #[.slice none 0 0, .slice none 0 0] w fun e w' => e = .returned (.int .i64 0) ∧ w' = w := by
  have c1 : Calls Tryd.prog fCmpR #[.slice none 0 0, .slice none 0 0] w fun e w' => e = .returned (.int .i64 0) ∧ w' = w := by
    go_enter Tryd.func28, Tryd.ntmps28
    go_wp2
    refine wp_loop_rounds 1 ?_
    rw [rounds_succ]
    go_wp2
    go_ret
    exact ⟨rfl, rfl⟩
  go_enter Tryd.func27, Tryd.ntmps27
  go_wp2_with (first | (go_at_call 28; refine c1.mono ?_; rintro e w' ⟨rfl, rfl⟩))
  go_ret
  exact ⟨rfl, rfl⟩

abbrev fS : Nat := 26
theorem eg_clo : ∀ (args : Array Value) (w : World), (callFunc fClo args).run Tryd.prog w = .ok (.enter fClo args) w := enters_of Tryd.func27 (by kernel_rfl) rfl
theorem drewN_zero (w : World) : w.drewN 0 = w := rfl
theorem calls_sort0 (w : World) (blk cap : Nat) (hblk : blk < w.heap.size) :
    Calls Tryd.prog fS #[.slice (some ⟨blk, 0, none⟩) 0 cap, .func (.func fClo) #[] #[]] w fun e w' => e = .returned (.tuple #[]) ∧ ∃ n os, w' = sortWorld (fun _ : Nat => Value.slice none 0 0) w blk 0 n #[] os := by
  have h := Any.slices_SortFunc Tryd.sortP (fun _ : Nat => Value.slice none 0 0) (fun _ => rfl) (fun _ _ => 0) ⟨fun _ => rfl, fun _ _ _ h => by simp [ltOf] at h, fun _ _ _ _ _ => rfl⟩ fClo #[] blk 0 cap #[] w eg_clo
    (fun m os dk _ _ _ => (calls_clo_nil _).mono fun e w' h => ⟨h.1, 0, #[], by rw [h.2, drewN_zero, Sort.grow_empty]⟩) (fun j hj => by simp at hj) hblk (by simp)
  refine Calls.mono h ?_
  rintro e w' ⟨h1, d', n, os, hp, _, h2⟩
  have : d' = #[] := Array.eq_empty_of_size_eq_zero hp.1
  subst this
  exact ⟨h1, n, os, h2⟩

def clN (n k : Nat) : Nat := if k < n then k else 0
def rowN (rows : List (List Int)) (k : Nat) : List Int := rows.getD (clN rows.length k) []
def encN (rows : List (List Int)) (cur : Array Value) (k : Nat) : Value := cur.getD (clN rows.length k) (.slice none 0 0)
def cfN (rows : List (List Int)) (i j : Nat) : Int := cmpR (rowN rows i) (rowN rows j)
theorem swoN (rows : List (List Int)) : Sort.SWO (ltOf (cfN rows)) where
  irrefl x := by unfold ltOf cfN; rw [cmpR_self]; rfl
  trans x y z h1 h2 := by
    unfold ltOf cfN at *
    simp only [decide_eq_true_eq] at *
    exact cmpR_trans _ _ _ h1 h2
  ntrans x y z h1 h2 := by
    unfold ltOf cfN at *
    simp only [decide_eq_false_iff_not] at *
    exact cmpR_le_trans _ _ _ h1 h2

theorem calls_sort (w : World) (blk cap : Nat) (ty : TypeId) (cur : Array Value) (rows : List (List Int)) (h0 : 0 < rows.length) (hheap : w.heap[blk]? = some (.cells cur ty (0, 0))) (hl : rows.length ≤ bigLen)
    (hrow : ∀ k, k < rows.length → ∃ b o c x y, cur[k]? = some (.slice (some ⟨b, o, none⟩) 2 c) ∧ b ≠ blk ∧ b < w.heap.size ∧ rows.getD k [] = [x, y] ∧ w.cell? ⟨b, o, none⟩ = some (.int .i64 x) ∧ w.cell? ⟨b, o + 1, none⟩ = some (.int .i64 y)) :
    Calls Tryd.prog fS #[.slice (some ⟨blk, 0, none⟩) rows.length cap, .func (.func fClo) #[] #[]] w fun e w' => e = .returned (.tuple #[]) ∧
      ∃ (d' : Array Nat) (n : Nat) (os : Array Obj), d'.size = rows.length ∧ (∀ k, k < rows.length → d'[k]! < rows.length) ∧ d'.toList.map (fun k => rows.getD k []) = sortR rows ∧ w' = sortWorld (encN rows cur) w blk 0 n d' os := by
  have hcl : ∀ k, clN rows.length k < rows.length := fun k => by unfold clN; split <;> omega
  have hblk : blk < w.heap.size := (Array.getElem?_eq_some_iff.1 hheap).1
  have henc : ∀ k, ∃ b o c x y, encN rows cur k = .slice (some ⟨b, o, none⟩) 2 c ∧ b ≠ blk ∧ b < w.heap.size ∧ rowN rows k = [x, y] ∧ w.cell? ⟨b, o, none⟩ = some (.int .i64 x) ∧ w.cell? ⟨b, o + 1, none⟩ = some (.int .i64 y) := fun k => by
    obtain ⟨b, o, c, x, y, e1, e2⟩ := hrow _ (hcl k)
    refine ⟨b, o, c, x, y, ?_, e2⟩
    unfold encN
    rw [Array.getD_eq_getD_getElem?, e1]; rfl
  have hc : ∀ (m : Nat) (os : Array Obj) (dk : Array Nat) (b o : Nat), b ≠ blk → b < w.heap.size → (sortWorld (encN rows cur) w blk 0 m dk os).cell? ⟨b, o, none⟩ = w.cell? ⟨b, o, none⟩ := fun m os dk b o h1 h2 => by
    unfold sortWorld
    rw [Sort.cell?_grow _ _ _ (by simpa using h2), Sort.cell?_putRow_other _ _ _ _ _ _ (.inl h1)]
    rfl
  have hcmp : CmpLays1 Tryd.prog fClo #[] (encN rows cur) (cfN rows) blk 0 (Array.range rows.length).size w := fun m os dk _ x y => by
    obtain ⟨b1, o1, c1, x1, x2, e1, e2, e3, e4, e5, e6⟩ := henc x
    obtain ⟨b2, o2, c2, y1, y2, g1, g2, g3, g4, g5, g6⟩ := henc y
    have hh := calls_clo b1 o1 c1 b2 o2 c2 x1 x2 y1 y2 (sortWorld (encN rows cur) w blk 0 m dk os) ((hc m os dk b1 o1 e2 e3).trans e5) ((hc m os dk b1 (o1 + 1) e2 e3).trans e6) ((hc m os dk b2 o2 g2 g3).trans g5) ((hc m os dk b2 (o2 + 1) g2 g3).trans g6)
    rw [e1, g1]
    refine Calls.mono (by simpa using hh) ?_
    rintro e w' ⟨f1, f2⟩
    refine ⟨by rw [f1]; unfold cfN; rw [e4, g4], 0, #[], by rw [f2, drewN_zero, Sort.grow_empty]⟩
  have hH : Sort.Holds (encN rows cur) w blk 0 (Array.range rows.length) := fun j hj => by
    have hj : j < rows.length := by simpa using hj
    obtain ⟨b, o, c, x, y, e1, _⟩ := hrow j hj
    have e : (Array.range rows.length)[j]! = j := by rw [getElem!_pos _ j (by simpa using hj)]; simp
    rw [e]
    refine ⟨?_, by simp [World.frozen?, hheap]⟩
    unfold encN clN
    rw [if_pos hj, Array.getD_eq_getD_getElem?, e1]
    simp [World.cell?, hheap, e1]
  have h := Any.slices_SortFunc Tryd.sortP (encN rows cur) (fun k => by obtain ⟨b, o, c, x, y, e1, _⟩ := henc k; rw [e1]; rfl) (cfN rows) (swoN rows) fClo #[] blk 0 cap (Array.range rows.length) w eg_clo hcmp hH hblk (by simp only [Array.size_range]; have : bigLen = 140737488355328 := rfl; omega)
  rw [Array.size_range] at h
  refine Calls.mono h ?_
  rintro e w' ⟨h1, d', n, os, hp, hs, h2⟩
  obtain ⟨hsz, _, hperm⟩ := hp
  rw [Array.size_range] at hsz
  have ex1 : d'.extract 0 rows.length = d' := by rw [← hsz]; exact Array.extract_size
  have ex2 : (Array.range rows.length).extract 0 rows.length = Array.range rows.length := by
    have := Array.extract_size (xs := Array.range rows.length)
    rwa [Array.size_range] at this
  rw [ex1, ex2, Array.toList_range] at hperm
  have hlt : ∀ k ∈ d'.toList, k < rows.length := fun k hk => by simpa using hperm.mem_iff.1 hk
  have hget : ∀ k, k < rows.length → d'[k]! < rows.length := fun k hk => by
    rw [getElem!_pos _ k (by omega)]
    exact hlt _ (by simp)
  refine ⟨h1, d', n, os, hsz, hget, ?_, h2⟩
  refine sortR_unique ?_ ?_
  · refine (hperm.map _).trans ?_
    refine List.Perm.of_eq (List.ext_getElem? fun k => ?_)
    rw [List.getElem?_map]
    by_cases hk : k < rows.length
    · rw [List.getElem?_range hk, List.getElem?_eq_getElem hk]
      simp [hk]
    · rw [List.getElem?_eq_none (by simpa using hk), List.getElem?_eq_none (by omega)]; rfl
  · rw [List.pairwise_map, List.pairwise_iff_getElem]
    intro i j hi hj hij
    simp only [Array.length_toList] at hi hj
    have := hs i j (Nat.zero_le _) hij (by simpa [hsz] using hj)
    unfold ltOf cfN rowN at this
    rw [getElem!_pos _ i hi, getElem!_pos _ j hj] at this
    have l1 := hlt d'[i] (by simp)
    have l2 := hlt d'[j] (by simp)
    unfold clN at this
    rw [if_pos l1, if_pos l2] at this
    unfold leR
    simpa using this

/-- What an own array of rows holds. -/
theorem arr_rows {w : World} {S : Nat → Prop} {V : Nat → Info} {N : Nat} {I : Info} {ty : TypeId} {xs : List (List Int)} {cur : Array Value} (h : BlkR w S V N I (.arr ty (.sl (.int .i64)) xs) cur) :
    ∃ cap, I.val = .slice (some ⟨I.blk, 0, none⟩) xs.length cap ∧ xs.length ≤ cap ∧ cap ≤ maxLen ∧ cur.size = cap ∧ xs.length ≤ bigLen ∧ w.heap[I.blk]? = some (.cells cur ty (0, 0)) ∧
      ∀ (k : Nat), k < xs.length → ∃ x, cur[k]? = some x ∧ x.oneCell' = true ∧ Rt w S (.tree (.int .i64) (xs.getD k [])) x := by
  obtain ⟨cap, h1, h2, h3, h4, h5⟩ := h.own rfl
  obtain ⟨fr, e, hf⟩ := h.heap rfl
  have hfr : fr = (0, 0) := FrOk.no hf
  subst hfr
  refine ⟨cap, h1, h2, h3, by rw [h4]; exact Nat.mul_one _, h5, e, fun k hk => ?_⟩
  obtain ⟨x, e1, e2, _⟩ := h.cell k 0 _ hk rfl
  have e3 := h.still rfl k 0 _ x hk rfl e1
  have e1 : cur[k * 1 + 0]? = some x := e1
  rw [Nat.mul_one] at e1
  exact ⟨x, e1, e2, e3⟩

set_option maxHeartbeats 4000000 in
theorem ext_slices_SortFunc (a0 : List (List Int)) (hg : ∀ r ∈ a0, r.length = 2) :
    Spec Tryd.prog fS [.own 0, .fn fClo []] [some (.arr 31 (.sl (.int .i64)) a0)] (.tup []) [some (.arr 31 (.sl (.int .i64)) (sortR a0))] := by
  intro w GB V S0 args hLw hGB hHR hsz hargs
  match args, hsz with
  | ⟨[x0, x1]⟩, _ =>
  have e0 := (hargs 0 _ _ rfl rfl).own_inv
  obtain ⟨vs, e1, e2, _⟩ := (hargs 1 _ _ rfl rfl).fn_inv
  have e3 : vs = #[] := Array.eq_empty_of_size_eq_zero e2
  subst e0 e1 e3
  obtain ⟨cur, hb⟩ := hHR.blk 0 _ rfl
  obtain ⟨cap, v1, v2, v3, v4, v5, v6, v7⟩ := arr_rows hb
  rw [v1]
  generalize hA : atR S0 [some (LB.arr 31 (.sl (.int .i64)) a0)] V w = A at *
  generalize hS : Stb A w [some (LB.arr 31 (.sl (.int .i64)) a0)] V = S at *
  have hg0 : (V 0).blk < w.heap.size := (Array.getElem?_eq_some_iff.1 v6).1
  have hSne : ∀ b, S b → b ≠ (V 0).blk ∧ b < w.heap.size := fun b hbS => by
    rw [← hS] at hbS
    exact ⟨fun e => hbS.2.2 0 _ rfl (.inl e.symm), hbS.2.1⟩
  have hsl : (sortR a0).length = a0.length := sortR_length a0
  have fin : ∀ (w' : World) (cur' : Array Value), w'.os = w.os → w'.tape = w.tape → w'.output = w.output → w.heap.size ≤ w'.heap.size → (∀ k, k < w.heap.size → k ≠ (V 0).blk → w'.heap[k]? = w.heap[k]?) →
      w'.heap[(V 0).blk]? = some (.cells cur' 31 (0, 0)) → cur'.size = cap → (∀ k, k < a0.length → ∃ j, j < a0.length ∧ (sortR a0).getD k [] = a0.getD j [] ∧ cur'[k]? = cur[j]?) →
      ∃ x V', Ending.returned (Value.tuple #[]) = .returned x ∧ Kept (blkOf [some (LB.arr 31 (.sl (.int .i64)) a0)] V) w w' ∧ 1 ≤ 1 ∧ (∀ i, i < 1 → V' i = V i) ∧
        HR w (blkOf [some (LB.arr 31 (.sl (.int .i64)) a0)] V) A V' [some (.arr 31 (.sl (.int .i64)) (sortR a0))] w' ∧
        R w' (Stb A w' [some (.arr 31 (.sl (.int .i64)) (sortR a0))] V') V' 1 (.tup []) x := by
    intro w' cur' q1 q2 q3 q4 q5 q6 q7 q8
    have hSt : ∀ b, S b → Stb A w' [some (.arr 31 (.sl (.int .i64)) (sortR a0))] V b ∧ w'.heap[b]? = w.heap[b]? := fun b hbS => by
      have hne := hSne b hbS
      rw [← hS] at hbS
      obtain ⟨s1, s2, s3⟩ := hbS
      refine ⟨⟨s1, Nat.lt_of_lt_of_le s2 q4, fun id lb e hf => ?_⟩, q5 b s2 hne.1⟩
      match id, e with
      | 0, e =>
        cases e
        exact hne.1 (foot_plain rfl hf).symm
    refine ⟨_, V, rfl, ⟨q1, q2, q3, q4, fun k hk hm => q5 k hk fun e => hm ⟨0, _, rfl, .inl e.symm⟩⟩, by decide, fun _ _ => rfl, ⟨?_, ?_, ?_⟩, .imm _ _ (.tup [] #[] rfl (fun i c x e => by simp at e))⟩
    · intro i j li lj h1 h2 hij
      match i, j, h1, h2 with
      | 0, 0, _, _ => exact absurd rfl hij
    · intro id lb e
      match id, e with
      | 0, e =>
        cases e
        have hcell : ∀ (k j : Nat) (c : AV), k < (sortR a0).length → (rowT (.sl (.int .i64)) (sortR a0) k)[j]? = some c → ∃ x, cur'[k * 1 + j]? = some x ∧ x.oneCell' = true ∧ Rt w' (Stb A w' [some (.arr 31 (.sl (.int .i64)) (sortR a0))] V) c x := fun k j c hk hj => by
          match j, hj with
          | j + 1, hj => simp [rowT, Ty.enc] at hj
          | 0, hj =>
            have hj : AV.tree (.int .i64) ((sortR a0).getD k []) = c := Option.some.inj hj
            subst hj
            obtain ⟨j, g1, g2, g3⟩ := q8 k (by omega)
            obtain ⟨x, f1, f2, f3⟩ := v7 j g1
            refine ⟨x, ?_, f2, ?_⟩
            · rw [Nat.mul_one, Nat.add_zero, g3, f1]
            · rw [g2]; exact f3.mono hSt
        refine ⟨cur', ⟨hb.sz, (hb.ln).trans hsl.symm, fun _ => ⟨_, q6, .inl rfl⟩, fun k j c hk hj => ?_, fun _ k j c x hk hj hx => ?_, (fun e => by cases e), fun _ => ⟨cap, ?_, ?_, v3, ?_, ?_⟩, trivial⟩⟩
        · obtain ⟨x, f1, f2, f3⟩ := hcell k j c hk hj
          exact ⟨x, f1, f2, .imm _ _ f3⟩
        · obtain ⟨y, f1, _, f3⟩ := hcell k j c hk hj
          have hx : cur'[k * 1 + j]? = some x := hx
          rw [f1] at hx; cases hx; exact f3
        · rw [v1]; exact congrArg (fun n => Value.slice _ n cap) hsl.symm
        · exact Nat.le_trans (Nat.le_of_eq hsl) v2
        · rw [q7]; exact (Nat.mul_one _).symm
        · exact Nat.le_trans (Nat.le_of_eq hsl) v5
    · intro id lb e b hf hlt
      match id, e with
      | 0, e =>
        cases e
        exact ⟨0, _, rfl, .inl (foot_plain rfl hf)⟩
  have henv : ∀ (enc : Nat → Value) (n : Nat) (d' : Array Nat) (os : Array Obj), (sortWorld enc w (V 0).blk 0 n d' os).os = w.os ∧ (sortWorld enc w (V 0).blk 0 n d' os).tape = w.tape ∧ (sortWorld enc w (V 0).blk 0 n d' os).output = w.output ∧
      w.heap.size ≤ (sortWorld enc w (V 0).blk 0 n d' os).heap.size ∧ (∀ k, k < w.heap.size → k ≠ (V 0).blk → (sortWorld enc w (V 0).blk 0 n d' os).heap[k]? = w.heap[k]?) ∧ (sortWorld enc w (V 0).blk 0 n d' os).heap[(V 0).blk]? = some (.cells (Sort.putCells enc 0 d' cur) 31 (0, 0)) := fun enc n d' os => by
    have hz : ∀ k, k < w.heap.size → (sortWorld enc w (V 0).blk 0 n d' os).heap[k]? = (Sort.putRow enc (Sort.ahead w n) (V 0).blk 0 d').heap[k]? := fun k hk => Sort.heap_grow_old _ _ (by simpa using hk)
    refine ⟨rfl, rfl, rfl, by unfold sortWorld; simp, fun k hk hne => ?_, ?_⟩
    · rw [hz k hk]
      simp [Sort.putRow, Sort.mapBlock, Array.getElem?_modify, Ne.symm hne]
    · rw [hz _ hg0]
      simp [Sort.putRow, Sort.mapBlock, Array.getElem?_modify, v6, Sort.onCells]
  cases hn : a0.length with
  | zero =>
    refine (calls_sort0 w (V 0).blk cap hg0).mono ?_
    rintro e w' ⟨rfl, n, os, rfl⟩
    obtain ⟨s1, s2, s3, s4, s5, s6⟩ := henv (fun _ => Value.slice none 0 0) n #[] os
    refine fin _ _ s1 s2 s3 s4 s5 s6 (by unfold Sort.putCells; simpa using v4) fun k hk => by omega
  | succ m =>
    rw [← hn]
    have hrow : ∀ k, k < a0.length → ∃ b o c x y, cur[k]? = some (.slice (some ⟨b, o, none⟩) 2 c) ∧ b ≠ (V 0).blk ∧ b < w.heap.size ∧ a0.getD k [] = [x, y] ∧ w.cell? ⟨b, o, none⟩ = some (.int .i64 x) ∧ w.cell? ⟨b, o + 1, none⟩ = some (.int .i64 y) := fun k hk => by
      obtain ⟨x, f1, _, f3⟩ := v7 k hk
      have hl2 : (a0.getD k []).length = 2 := by
        have : a0.getD k [] = a0[k] := by simp [List.getD_eq_getElem?_getD, hk]
        rw [this]; exact hg _ (List.getElem_mem hk)
      generalize a0.getD k [] = r at f3 hl2 ⊢
      match r, hl2 with
      | [p, q], _ =>
        cases f3 with
        | tree _ _ a len cp b o X hlen hbb hcc hm ha hx hr =>
          obtain ⟨ha1, ha2⟩ := ha (show (0 : Nat) < 2 by decide)
          have hlen : len = 2 := hlen
          subst ha1 hlen
          have t0 : Rt w S (.v (.int .i64 p)) (X 0 0) := hr 0 0 _ (show (0 : Nat) < 2 by decide) rfl
          have t1 : Rt w S (.v (.int .i64 q)) (X 1 0) := hr 1 0 _ (show (1 : Nat) < 2 by decide) rfl
          have y0 := hx 0 0 _ (show (0 : Nat) < 2 by decide) rfl
          have y1 := hx 1 0 _ (show (1 : Nat) < 2 by decide) rfl
          have z0 : X 0 0 = .int .i64 p := (R.imm (V := V) (N := 1) _ _ t0).v_inv
          have z1 : X 1 0 = .int .i64 q := (R.imm (V := V) (N := 1) _ _ t1).v_inv
          refine ⟨b, o, cp, p, q, f1, (hSne b ha2).1, (hSne b ha2).2, rfl, ?_, ?_⟩
          · have := y0.1; rw [z0] at this; simpa using this
          · have := y1.1; rw [z1] at this; simpa [Ty.n] using this
    refine (calls_sort w (V 0).blk cap 31 cur a0 (by omega) v6 v5 hrow).mono ?_
    rintro e w' ⟨rfl, d', n, os, p1, p2, p3, rfl⟩
    obtain ⟨s1, s2, s3, s4, s5, s6⟩ := henv (encN a0 cur) n d' os
    refine fin _ _ s1 s2 s3 s4 s5 s6 (by unfold Sort.putCells; simpa using v4) fun k hk => ⟨d'[k]!, p2 k hk, ?_, ?_⟩
    · rw [← p3]
      simp only [List.getD_eq_getElem?_getD, List.getElem?_map]
      have e1 : d'.toList[k]? = some d'[k]! := by
        rw [getElem!_pos _ k (by omega)]; simp [p1, hk]
      rw [e1]; rfl
    · have hk2 : k < cur.size := by omega
      have hd := p2 k hk
      obtain ⟨_, _, c, _, _, g1, _⟩ := hrow _ hd
      unfold Sort.putCells
      rw [Array.getElem?_mapIdx, Array.getElem?_eq_getElem hk2, Option.map_some, if_pos ⟨Nat.zero_le _, by omega⟩, Nat.sub_zero]
      unfold encN clN
      rw [if_pos hd, Array.getD_eq_getD_getElem?, g1]; rfl
end Go.Proofs.YtpmmaohaahbphaaDoor
