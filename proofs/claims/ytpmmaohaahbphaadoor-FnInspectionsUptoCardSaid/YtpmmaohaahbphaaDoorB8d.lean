/-
  The abstract evaluator, part 8d: append of a make to nothing; parts of own slices in a literal of slices.
-/
import Derived.Test.YtpmmaohaahbphaaDoorB8c
import Derived.Laws.BytesString
import Derived.Lib.ConvBytes
namespace Go.Proofs.YtpmmaohaahbphaaDoor
open Go.RowKit

section
variable {P : Program} {M : Nat → List Bool} {o : Oper} {st : St} {T : Nat → Option TI}

theorem zeroCells_size (z : Array Value) (n : Nat) : (Builtin.zeroCells z n).size = n * z.size := by simp [Builtin.zeroCells]
theorem zeroC_get (z : Array Value) (n k s j : Nat) (hz : z.size = s) (hj : j < s) (hk : k < n) : (Builtin.zeroCells z n)[k * s + j]? = z[j]? := by
  have hjz : j < z.size := by omega
  have e : (k * s + j) % z.size = j := by rw [hz, Nat.mul_add_mod_self_right, Nat.mod_eq_of_lt hj]
  have hlt : k * s + j < n * z.size := by
    have h2 : (k + 1) * s ≤ n * s := Nat.mul_le_mul_right _ hk
    rw [Nat.succ_mul] at h2; rw [hz]; omega
  simp [Builtin.zeroCells, hlt, e, hjz]
theorem run_append_nil_zeros (w : World) (t u ty e : TypeId) (i : TypeInfo) (z : Value) (k : IntKind) (ht : P.underlying t = some (.slice e)) (hu : P.underlying u = some (.int k)) (hi : P.info? e = some i) (hz : i.zero = some z)
    (n : Nat) (h0 : 0 < n) (h63 : (n : Int) ≤ 9223372036854775807) (h48 : n * i.bytes ≤ 281474976710656) (hsz : 0 < i.size) :
    (Builtin.append_ #[t, u] ty #[.slice none 0 0, .int .i64 n]).run P w =
      .ok (.slice (some ⟨w.heap.size, 0, none⟩) n (grownCap w n 0 e)) (w.drew.alloc (.cells (Builtin.zeroCells z.cells n ++ Builtin.zeroCells z.cells (grownCap w n 0 e - n)) e)) := by
  have hn : n ≠ 0 := by omega
  have h63' : ¬ (9223372036854775807 < (n : Int)) := by omega
  have h48' : ¬ (281474976710656 < Builtin.nextslicecap n 0 * i.bytes) := by rw [nextslicecap_zero h0]; omega
  have hw : IntKind.i64.wrap (n : Int) = n := by rw [IntKind.wrap_i64]; omega
  have hneg : ¬ ((n : Int) < 0) := by omega
  have h48'' : ¬ ((281474976710656 : Int) < (n : Int) * (i.bytes : Int)) := by
    have : ((n * i.bytes : Nat) : Int) ≤ 281474976710656 := by omega
    rw [Int.natCast_mul] at this; omega
  have hns : i.size ≠ 0 := by omega
  simp [Builtin.append_, run_underlying ht, run_underlying hu, sizeOf, typeInfo, zeroValue, hi, hz, hn, h63', h48', hw, hneg, h48'', hns, Question.forced, run_firstCells_none, newRow, grownCap, asInt, asIntOf]
  exact fun h => absurd h (Nat.mul_ne_zero hn hns)

/-- What is appended to nothing: so many zeros. -/
def evAppZ (T : Nat → Option TI) (i : Option TI) (st : St) (x y : AV) (K : AV → St → Prop) : Prop :=
  match i, elemT T i, x, y with
  | some ti, some te, .v (.slice none 0 0), .v (.int .i64 n) => match te.cod with
    | some t => (te.zero.cells.toList.all Value.oneCell' && Nat.beq t.n te.size && Nat.beq te.zero.cells.size te.size && Nat.blt 0 te.size) = true ∧ Ob (0 < n ∧ te.bytes * n ≤ 140737488355328 ∧ n ≤ 140737488355328) ∧
      evMakeT ti.elem t (t.dec (te.zero.cells.toList.map AV.v)) n st K
    | none => False
  | _, _, _, _ => False
theorem edoes_appZ {K : AV → St → Prop} (hT : TOk P T) (t u : TypeId) (tu : TI) (k : IntKind) (hu : T u = some tu) (hku : tu.kind = some k) (x y : Operand) (ho : o.op = .call { callee := .builtin .append, args := #[x, y], argTypes := #[t, u] }) (hk : evAppZ T (T t) st (st.ev x) (st.ev y) K) : EDoes P M o st K := by
  have hund := (hT u tu hu).kind k hku
  unfold evAppZ at hk
  split at hk
  case h_2 => exact hk.elim
  rename_i ti te n hti hte hx hy
  split at hk
  case h_2 => exact hk.elim
  rename_i tt hcod
  obtain ⟨hz, hb, hk⟩ := hk
  simp only [Bool.and_eq_true, Nat.blt_eq] at hz
  obtain ⟨⟨⟨hz1, hz0⟩, hz2⟩, hz3⟩ := hz
  have hz0 := Nat.eq_of_beq_eq_true hz0
  have hz2 := Nat.eq_of_beq_eq_true hz2
  unfold evMakeT at hk
  split at hk
  case h_2 => exact hk.elim
  rename_i z hdec
  obtain ⟨d1, d2⟩ := dec_sound tt _ z hdec
  obtain ⟨h0, hbytes, hm⟩ := hb.out
  obtain ⟨ti', hi, hel, hte'⟩ := elemT_sound hte
  rw [hti] at hi; cases hi
  have hu' := (hT t ti hti).elem hel
  obtain ⟨inf, hinf, hzero, hsize, hby⟩ := (hT _ te hte').info
  intro C V a w h next Q hn
  have ex : a.eval x = .slice none 0 0 := h.evv hx
  have ey : a.eval y = .int .i64 n := h.evv hy
  obtain ⟨m, rfl⟩ : ∃ m : Nat, n = m := ⟨n.toNat, by omega⟩
  have hm0 : 0 < m := by omega
  have hby2 : m * inf.bytes ≤ 281474976710656 := by
    rw [hby]
    have : ((m * te.bytes : Nat) : Int) ≤ 140737488355328 := by rw [Int.natCast_mul, Int.mul_comm]; exact hbytes
    omega
  have hr := run_append_nil_zeros (P := P) w t u o.type ti.elem inf te.zero k hu' hund hinf hzero m hm0 (by omega) hby2 (by omega)
  have hge := grownCap_ge w m 0 ti.elem
  have hcm : grownCap w m 0 ti.elem ≤ maxLen := grownCap_le_maxLen w m 0 ti.elem (by have := maxLen_eq'; omega)
  have hsz : (Builtin.zeroCells te.zero.cells m ++ Builtin.zeroCells te.zero.cells (grownCap w m 0 ti.elem - m)).size = grownCap w m 0 ti.elem * te.size := by
    rw [Array.size_append, zeroCells_size, zeroCells_size, hz2, ← Nat.add_mul]
    congr 1; omega
  have hgr : w.grownBy (w.drew.alloc (.cells (Builtin.zeroCells te.zero.cells m ++ Builtin.zeroCells te.zero.cells (grownCap w m 0 ti.elem - m)) ti.elem)) none :=
    ⟨rfl, rfl, rfl, by simp, fun k hk _ => heap_alloc_old w.drew _ hk⟩
  have hnew : (w.drew.alloc (.cells (Builtin.zeroCells te.zero.cells m ++ Builtin.zeroCells te.zero.cells (grownCap w m 0 ti.elem - m)) ti.elem)).heap[w.heap.size]? = some (.cells (Builtin.zeroCells te.zero.cells m ++ Builtin.zeroCells te.zero.cells (grownCap w m 0 ti.elem - m)) ti.elem (0, 0)) := heap_alloc_new w.drew _
  have hlr : (List.replicate m z).length = m := by simp
  have hs := h.regrow (dead := none) (row := none) (I := ⟨w.heap.size, tt.n, m, .slice (some ⟨w.heap.size, 0, none⟩) m (grownCap w m 0 ti.elem), noSub⟩) (lb := .arr ti.elem tt (List.replicate m z))
    (cur' := Builtin.zeroCells te.zero.cells m ++ Builtin.zeroCells te.zero.cells (grownCap w m 0 ti.elem - m)) (fun i hi => by cases hi) (fun k hk => by cases hk) hgr (.inr rfl) (by simp) (fun hS => by
      refine BlkR.newArr (L := (Builtin.zeroCells te.zero.cells m).toList) hnew hlr (by rw [hlr]; exact hge) hcm (by rw [hz0]; exact hsz) (by rw [hlr]; simp only [bigLen]; omega) (by
        rw [hlr, hz0, Array.toList_append, List.take_left' (by rw [Array.length_toList, zeroCells_size, hz2])]) (fun k j c' g1 g2 => ?_)
      have hk : k < m := by simpa using g1
      have e3 : rowT tt (List.replicate m z) k = tt.enc z := by simp [rowT, List.getD, hk]
      rw [e3] at g2
      have hj : j < te.size := by rw [← hz0, ← enc_length tt z]; exact (List.getElem?_eq_some_iff.1 g2).1
      have hxx : te.zero.cells[j]? = some te.zero.cells[j] := Array.getElem?_eq_getElem (by omega)
      refine ⟨te.zero.cells[j], ?_, List.all_eq_true.1 hz1 _ (by simp), d2 j (.v te.zero.cells[j]) c' (by simp [hxx]) g2 _ _ _ (.v _)⟩
      rw [Array.getElem?_toList, hz0, zeroC_get _ _ _ _ _ hz2 hj hk, hxx])
  have hrun : (execOp a.eval o).run P w = .ok (.value (.slice (some ⟨w.heap.size, 0, none⟩) m (grownCap w m 0 ti.elem))) (w.drew.alloc (.cells (Builtin.zeroCells te.zero.cells m ++ Builtin.zeroCells te.zero.cells (grownCap w m 0 ti.elem - m)) ti.elem)) := by
    unfold execOp
    simp only [ho, resolve, invoke, builtin, Sem.run_bind, Sem.run_pure, Result.andThen_ok, List.map_toArray, List.map_cons, List.map_nil, ex, ey, hr]
  unfold Oper.wp
  rw [hrun]
  refine hn _ _ _ _ _ hk hs ?_ (fun _ => (Below.refl _ _).drew.alloc (Nat.le_refl _) _)
  have := R.own (w := w.drew.alloc (.cells (Builtin.zeroCells te.zero.cells m ++ Builtin.zeroCells te.zero.cells (grownCap w m 0 ti.elem - m)) ti.elem)) (S := Stb C.A (w.drew.alloc (.cells (Builtin.zeroCells te.zero.cells m ++ Builtin.zeroCells te.zero.cells (grownCap w m 0 ti.elem - m)) ti.elem)) (st.h ++ [some (.arr ti.elem tt (List.replicate m z))]) (updV V st.h.length ⟨w.heap.size, tt.n, m, .slice (some ⟨w.heap.size, 0, none⟩) m (grownCap w m 0 ti.elem), noSub⟩)) (V := updV V st.h.length ⟨w.heap.size, tt.n, m, .slice (some ⟨w.heap.size, 0, none⟩) m (grownCap w m 0 ti.elem), noSub⟩) (N := (st.h ++ [some (LB.arr ti.elem tt (List.replicate m z))]).length) st.h.length (by simp)
  simpa [updV, dropId] using this

/-! ### Nothing, in parts; its room -/
def evSliceN (e : Option TI) (lo hi : Option Int) (K : AV → Prop) : Prop :=
  match e, lo, hi with
  | some _, some l, some h => Ob (0 ≤ l ∧ l ≤ h ∧ h ≤ 0) ∧ K (.v (.slice none 0 0))
  | _, _, _ => False
/-- The whole of a laid array of texts, as a slice at rest. -/
def evSliceA (T : Nat → Option TI) (i : Option TI) (cs : List AV) (lo hi : Option AV) (K : AV → Prop) : Prop :=
  match i, lo, hi with
  | some i, none, none => match T i.arr.2, strsOf cs with
    | some e, some l => Nat.beq e.size 1 = true ∧ Nat.beq cs.length i.arr.1 = true ∧ Nat.beq i.arr.1 0 = false ∧ Nat.ble cs.length 1000 = true ∧ K (.tree .str l)
    | _, _ => False
  | _, _, _ => False
def evSlice2 (T : Nat → Option TI) (i : Option TI) (hp : List (Option LB)) (x : AV) (lo hi : Option AV) (K : AV → Prop) : Prop :=
  match x with
  | .bptr cs 0 => evSliceA T i cs lo hi K
  | .v (.slice none 0 0) => evSliceN (elemT T i) (bnd lo 0) (bnd hi 0) K
  | x => evSlice T i hp x lo hi K
theorem vdoes_slice2 {K : AV → Prop} (hT : TOk P T) (t : TypeId) (x : Operand) (lo hi : Option Operand) (ho : o.op = .slice t x lo hi none) (hk : evSlice2 T (T t) st.h (st.ev x) (lo.map st.ev) (hi.map st.ev) K) : VDoes P o st K := by
  unfold evSlice2 at hk
  split at hk
  · rename_i cs hx
    unfold evSliceA at hk
    split at hk
    · rename_i ti hT1 hlo hhi
      split at hk
      · rename_i e l he hl
        obtain ⟨hsz, hlen, hne, hle, hk⟩ := hk
        have hlen := Nat.eq_of_beq_eq_true hlen
        have hle := Nat.le_of_ble_eq_true hle
        have hcs := strsOf_eq hl
        have hll : l.length = cs.length := by rw [hcs, List.length_map]
        have hs := (hT _ e he).size
        rw [Nat.eq_of_beq_eq_true hsz] at hs
        have hpos : ti.arr.1 ≠ 0 := fun e0 => by rw [e0] at hne; cases hne
        intro C V a w h
        have hr' := (hx ▸ h.ev x).bptr_inv
        generalize hv : a.eval x = v at hr'
        cases hr' with
        | bptr _ _ b o' X ha hx2 hh2 =>
          have hcell : ∀ (k j : Nat) (c : AV), k < l.length → (rowT .str l k)[j]? = some c → j = 0 ∧ cs[k]? = some c := fun k j c hk' hj => by
            have hrow : rowT .str l k = [.v (.string l[k])] := by
              exact congrArg (fun s : ByteArray => [AV.v (Value.string s)]) (show l.getD k (⟨#[]⟩ : ByteArray) = l[k] by simp [List.getD_eq_getElem?_getD, List.getElem?_eq_getElem hk'])
            rw [hrow] at hj
            cases j with
            | zero =>
              refine ⟨rfl, ?_⟩
              rw [hcs, List.getElem?_map, List.getElem?_eq_getElem hk']
              exact hj
            | succ j => simp at hj
          refine ⟨_, .slice (some ⟨b, o', none⟩) l.length l.length, hk, .imm _ _ ?_, fun w' _ => ?_⟩
          · refine .tree .str l _ _ _ b o' (fun k _ => X k) rfl (by show @List.length ByteArray l ≤ 140737488355328; omega) (Nat.le_refl _) (by have := maxLen_eq'; omega) (fun _ => ⟨rfl, ha⟩) (fun k j c e1 e2 => ?_) (fun k j c e1 e2 => ?_)
            · obtain ⟨rfl, e3⟩ := hcell k j c e1 e2
              have := hx2 k c e3
              rw [show o' + k * Ty.str.n + 0 = o' + k from by rw [show Ty.str.n = 1 from rfl]; omega]
              exact this
            · obtain ⟨rfl, e3⟩ := hcell k j c e1 e2
              exact hh2 k c e3
          · cases lo with
            | some _ => simp at hlo
            | none =>
              cases hi with
              | some _ => simp at hhi
              | none =>
                have hb := run_sliceBounds (P := P) false ti.arr.1 ti.arr.1 none none 0 (ti.arr.1 : Int) w' a rfl rfl (by omega) (by omega) (by omega) (Nat.le_refl _)
                have hu := run_underlying (w := w') ((hT t ti hT1).arr hne)
                simp only [Option.map_none] at hb
                simp [execOp, ho, hv, Instr.sliceAt, hu, Instr.sureAddr, hb, hs, hpos, hll, hlen, Addr.add_lit]
      · exact hk.elim
    · exact hk.elim
  · rename_i hx
    unfold evSliceN at hk
    split at hk
    · rename_i te l h hte hl hh
      obtain ⟨ti, hi', hel, hte⟩ := elemT_sound hte
      obtain ⟨hob, hk⟩ := hk
      obtain ⟨h0, h1, h2⟩ := hob.out
      obtain rfl : l = 0 := by omega
      obtain rfl : h = 0 := by omega
      refine vdoes_plain _ (fun C V a w hs w' => ?_) hk
      have hbd := run_sliceBounds (P := P) true 0 0 lo hi 0 0 w' a (bnd_sound hs hl) (bnd_sound hs hh) (by omega) (by omega) (by omega) (by omega)
      have hsize := (hT ti.elem te hte).size
      simp [execOp, ho, hs.evv hx, Instr.sliceAt, Instr.slice, run_underlying ((hT t ti hi').elem hel), hbd, hsize]
    · exact hk.elim
  · exact vdoes_slice hT t x lo hi ho hk
def evCap (i : Option TI) (x : AV) (K : AV → Prop) : Prop :=
  match i with
  | some i => match x with
    | .v (.slice none 0 0) => (i.elem != 0) = true ∧ K (.v (.int .i64 0))
    | _ => False
  | none => False
theorem vdoes_cap {K : AV → Prop} (hT : TOk P T) (x : Operand) (t : TypeId) (ho : o.op = .call { callee := .builtin .cap, args := #[x], argTypes := #[t] }) (hk : evCap (T t) (st.ev x) K) : VDoes P o st K := by
  unfold evCap at hk
  split at hk
  · rename_i i hi
    split at hk
    · rename_i hx
      obtain ⟨hel, hk⟩ := hk
      exact vdoes_plain _ (fun C V a w h w' => by
        simp [execOp, ho, h.evv hx, resolve, invoke, builtin, Builtin.cap_, run_underlying ((hT t i hi).elem (by simpa using hel)), goInt]) hk
    · exact hk.elim
  · exact hk.elim
/-! ### Bytes as a text -/
def strOfN (xs : List Int) : ByteArray := ⟨(xs.map fun n => UInt8.ofNat n.toNat).toArray⟩
theorem foldl_pushN : ∀ (ns : List Int) (s : ByteArray), ns.foldl (fun r n => r.push (UInt8.ofNat n.toNat)) s = ⟨s.data ++ (ns.map fun n => UInt8.ofNat n.toNat).toArray⟩
  | [], s => by simp
  | n :: ns, s => by
    rw [List.foldl_cons, foldl_pushN ns]
    simp [ByteArray.push]
/-- Bytes that were a text, as numbers. -/
def byteNs : List (Int × Unit) → List Int
  | [] => []
  | z :: l => z.1 :: byteNs l
theorem byteNs_length : ∀ zs, (byteNs zs).length = zs.length
  | [] => rfl
  | _ :: l => congrArg (· + 1) (byteNs_length l)
theorem byteNs_get : ∀ (zs : List (Ty.den (.st [.int .u8]))) (j : Nat), (byteNs zs).getD j (0 : Int) = (zs.getD j ((0 : Int), ())).1
  | [], _ => rfl
  | _ :: _, 0 => rfl
  | _ :: l, j + 1 => byteNs_get l j
def evConvB (h : List (Option LB)) (x : AV) (K : AV → Prop) : Prop :=
  match srcA h x with
  | some ⟨.int .u8, xs⟩ => K (.v (.string (strOfN xs)))
  | some ⟨.st [.int .u8], xs⟩ => K (.v (.string (strOfN (byteNs xs))))
  | _ => False
def byteSl (T : Nat → Option TI) (s : Option TI) : Bool := match elemT T s with
  | some te => match te.kind with
    | some .u8 => true
    | _ => false
  | none => false
def isStrT (d : Option TI) : Bool := match d with
  | some i => i.str
  | none => false
def evConv2 (T : Nat → Option TI) (s d : Option TI) (h : List (Option LB)) (x : AV) (K : AV → Prop) : Prop :=
  match byteSl T s with
  | true => isStrT d = true ∧ evConvB h x K
  | false => evConv s d x K
theorem vdoes_convS {K : AV → Prop} (_hT : TOk P T) (src dst : TypeId) (x : Operand) (ho : o.op = .convert src dst x) (ti : TI) (hus : P.underlying src = some (.slice ti.elem)) (hue : P.underlying ti.elem = some (.int .u8)) (hud : P.underlying dst = some .string)
    (xs : List Int) (hsrc : srcA st.h (st.ev x) = some ⟨.int .u8, xs⟩) (hk : K (.v (.string (strOfN xs)))) : VDoes P o st K := by
  intro C V a w h
  obtain ⟨ad, c, news, ex, hl, hnews, h1, hcell⟩ := h.src (h.ev x) hsrc (by decide)
  have hgot : ∀ j, j < xs.length → news[j]? = some (.int .u8 (xs.getD j 0)) := fun j hj => by
    obtain ⟨u, hu, hr⟩ := hcell j 0 (.v (.int .u8 (xs.getD j 0))) hj rfl
    have hu0 : u = .int .u8 (xs.getD j 0) := by cases hr; rfl
    have e0 : j * (Ty.int .u8).n + 0 = j := by simp [Ty.n]
    rw [e0] at hu
    rw [hu, hu0]
  refine ⟨_, _, hk, .imm _ _ (.v _), fun w' hbl => ?_⟩
  have hrun : (convert src dst (.slice ad xs.length c)).run P w' = .ok (.string (strOfN xs)) w' := by
    rw [run_convert_bytes_string w' src dst ti.elem ad xs.length c hus hue hud]
    cases ad with
    | none =>
      have h0 : xs = [] := by
        rcases Nat.eq_zero_or_pos xs.length with e | e
        · exact List.length_eq_zero_iff.1 e
        · obtain ⟨a', ha', _⟩ := hnews e; cases ha'
      subst h0
      simp [Conv.bytesToString, strOfN]
      rfl
    | some a' =>
      have hload : (loadCells a' xs.length).run P w' = .ok (xs.map (Value.int .u8)).toArray w' := by
        have := run_loadCells_list (P := P) w' a' (xs.map (Value.int .u8)) (fun j v hj => by
          rw [List.getElem?_map] at hj
          obtain ⟨z, hz, rfl⟩ := Option.map_eq_some_iff.1 hj
          have hjl : j < xs.length := (List.getElem?_eq_some_iff.1 hz).1
          obtain ⟨a2, ha2, hn⟩ := hnews (show 0 < xs.length by omega)
          cases ha2
          have h3 := hn j _ (hgot j hjl)
          have hlt : (a'.add j).block < w.heap.size := by
            rcases Nat.lt_or_ge (a'.add j).block w.heap.size with h | h
            · exact h
            · exfalso
              unfold World.cell? at h3
              rw [Array.getElem?_eq_none h] at h3
              simp at h3
          rw [hbl.cell hlt, h3]
          simp [List.getD, hz])
        simpa using this
      rw [run_bytesToString w' a' xs.length c xs hload, foldl_pushN]
      simp [strOfN, ByteArray.empty, ByteArray.emptyWithCapacity]
      rfl
  simp only [execOp, ho]
  rw [show a.eval x = .slice ad xs.length c from ex]
  simp [hrun]
theorem vdoes_convM {K : AV → Prop} (_hT : TOk P T) (src dst : TypeId) (x : Operand) (ho : o.op = .convert src dst x) (ti : TI) (hus : P.underlying src = some (.slice ti.elem)) (hue : P.underlying ti.elem = some (.int .u8)) (hud : P.underlying dst = some .string)
    (zs : List (Ty.den (.st [.int .u8]))) (hsrc : srcA st.h (st.ev x) = some ⟨.st [.int .u8], zs⟩) (hk : K (.v (.string (strOfN (byteNs zs))))) : VDoes P o st K := by
  intro C V a w h
  obtain ⟨ad, c, news, ex, hl, hnews, h1, hcell⟩ := h.src (h.ev x) hsrc (by decide)
  have hlz : zs.length = (byteNs zs).length := (byteNs_length zs).symm
  have hgot : ∀ j, j < (byteNs zs).length → news[j]? = some (.int .u8 ((byteNs zs).getD j (0 : Int))) := fun j hj => by
    have hj : j < zs.length := by rw [hlz]; exact hj
    obtain ⟨u, hu, hr⟩ := hcell j 0 (.v (.int .u8 (zs.getD j ((0 : Int), ())).1)) hj rfl
    have hu0 : u = .int .u8 (zs.getD j ((0 : Int), ())).1 := by cases hr; rfl
    have e0 : j * (Ty.st [.int .u8]).n + 0 = j := by simp [Ty.n, Ty.ns]
    rw [e0] at hu
    rw [hu, hu0, byteNs_get]
  rw [hlz] at ex hnews
  generalize byteNs zs = xs at *
  refine ⟨_, _, hk, .imm _ _ (.v _), fun w' hbl => ?_⟩
  have hrun : (convert src dst (.slice ad xs.length c)).run P w' = .ok (.string (strOfN xs)) w' := by
    rw [run_convert_bytes_string w' src dst ti.elem ad xs.length c hus hue hud]
    cases ad with
    | none =>
      have h0 : xs = [] := by
        rcases Nat.eq_zero_or_pos xs.length with e | e
        · exact List.length_eq_zero_iff.1 e
        · obtain ⟨a', ha', _⟩ := hnews e; cases ha'
      subst h0
      simp [Conv.bytesToString, strOfN]
      rfl
    | some a' =>
      have hload : (loadCells a' xs.length).run P w' = .ok (xs.map (Value.int .u8)).toArray w' := by
        have := run_loadCells_list (P := P) w' a' (xs.map (Value.int .u8)) (fun j v hj => by
          rw [List.getElem?_map] at hj
          obtain ⟨z, hz, rfl⟩ := Option.map_eq_some_iff.1 hj
          have hjl : j < xs.length := (List.getElem?_eq_some_iff.1 hz).1
          obtain ⟨a2, ha2, hn⟩ := hnews (show 0 < xs.length by omega)
          cases ha2
          have h3 := hn j _ (hgot j hjl)
          have hlt : (a'.add j).block < w.heap.size := by
            rcases Nat.lt_or_ge (a'.add j).block w.heap.size with h | h
            · exact h
            · exfalso
              unfold World.cell? at h3
              rw [Array.getElem?_eq_none h] at h3
              simp at h3
          rw [hbl.cell hlt, h3]
          simp [List.getD, hz])
        simpa using this
      rw [run_bytesToString w' a' xs.length c xs hload, foldl_pushN]
      simp [strOfN, ByteArray.empty, ByteArray.emptyWithCapacity]
      rfl
  simp only [execOp, ho]
  rw [show a.eval x = .slice ad xs.length c from ex]
  simp [hrun]
theorem vdoes_conv2 {K : AV → Prop} (hT : TOk P T) (src dst : TypeId) (x : Operand) (ho : o.op = .convert src dst x) (hk : evConv2 T (T src) (T dst) st.h (st.ev x) K) : VDoes P o st K := by
  unfold evConv2 at hk
  split at hk
  case h_2 => exact vdoes_conv hT src dst x ho hk
  rename_i hb
  obtain ⟨hd, hk⟩ := hk
  obtain ⟨td, htd, hds⟩ : ∃ td, T dst = some td ∧ td.str = true := by
    unfold isStrT at hd
    split at hd
    · rename_i i e; exact ⟨i, e, hd⟩
    · cases hd
  obtain ⟨te, hte, hkind⟩ : ∃ te, elemT T (T src) = some te ∧ te.kind = some .u8 := by
    unfold byteSl at hb
    split at hb
    · rename_i te e
      split at hb
      · rename_i e2; exact ⟨te, e, e2⟩
      · cases hb
    · cases hb
  obtain ⟨ti, hti, hel, hte'⟩ := elemT_sound hte
  have hus := (hT src ti hti).elem hel
  have hue := (hT _ te hte').kind .u8 hkind
  have hud := (hT dst td htd).str hds
  unfold evConvB at hk
  split at hk
  case h_3 => exact hk.elim
  · rename_i xs hsrc
    exact vdoes_convS hT src dst x ho ti hus hue hud xs hsrc hk
  · rename_i xs hsrc
    exact vdoes_convM hT src dst x ho ti hus hue hud xs hsrc hk
/-! ### A text as bytes -/
abbrev mbyte : Type := Int × Unit
def ty_mbyte : Ty := .st [.int .u8]
def d_mbyte : mbyte := ((0 : Int), ())
def mkL : List UInt8 → List (Ty.den (.st [.int .u8]))
  | [] => []
  | b :: l => ((b.toNat : Int), ()) :: mkL l
theorem mkL_length : ∀ l, (mkL l).length = l.length
  | [] => rfl
  | _ :: l => congrArg (· + 1) (mkL_length l)
theorem mkL_get : ∀ (l : List UInt8) (k : Nat) (h : k < l.length), ((mkL l).getD k ((0 : Int), ())).1 = (l[k].toNat : Int)
  | _ :: _, 0, _ => rfl
  | _ :: l, k + 1, h => mkL_get l k (by simpa using h)
def mkRow (s : ByteArray) : List mbyte := mkL s.data.toList
def strSl (T : Nat → Option TI) (s d : Option TI) : Bool :=
  match byteSl T d with
  | true => isStrT s
  | false => false
def evBytes (_T : Nat → Option TI) (i : Option TI) (st : St) (x : AV) (K : AV → St → Prop) : Prop :=
  match i, x with
  | some ti, .v (.string s) => Ob (s.size ≤ 140737488355328) ∧ K (.own st.h.length) ⟨st.s, st.h ++ [some (.arr ti.elem (.st [.int .u8]) (mkRow s))]⟩
  | _, _ => False
theorem edoes_bytes {K : AV → St → Prop} (hT : TOk P T) (src dst : TypeId) (x : Operand) (ho : o.op = .convert src dst x) (hb : strSl T (T src) (T dst) = true) (hk : evBytes T (T dst) st (st.ev x) K) : EDoes P M o st K := by
  unfold strSl at hb
  split at hb
  case h_2 => cases hb
  rename_i hbs
  obtain ⟨tsr, htsr, hss⟩ : ∃ td, T src = some td ∧ td.str = true := by
    unfold isStrT at hb
    split at hb
    · rename_i i e; exact ⟨i, e, hb⟩
    · cases hb
  obtain ⟨te, hte, hkind⟩ : ∃ te, elemT T (T dst) = some te ∧ te.kind = some .u8 := by
    unfold byteSl at hbs
    split at hbs
    · rename_i te e
      split at hbs
      · rename_i e2; exact ⟨te, e, e2⟩
      · cases hbs
    · cases hbs
  obtain ⟨ti, hti, hel, hte'⟩ := elemT_sound hte
  have hud := (hT dst ti hti).elem hel
  have hue := (hT _ te hte').kind .u8 hkind
  have hus := (hT src tsr htsr).str hss
  unfold evBytes at hk
  rw [hti] at hk
  split at hk
  case h_2 => exact hk.elim
  rename_i ti' s hi hx
  cases hi
  obtain ⟨hob, hk⟩ := hk
  have hsz := hob.out
  intro C V a w h next Q hn
  have ex : a.eval x = .string s := h.evv hx
  have hr := Lib.run_convert_string_bytes (P := P) w src dst ti.elem s hus hud hue
  have hge := grownCap_ge w s.size 0 ti.elem
  have hcm : grownCap w s.size 0 ti.elem ≤ maxLen := grownCap_le_maxLen w s.size 0 ti.elem (by have := maxLen_eq'; omega)
  have hnew := Lib.bytesWorld_at_new w ti.elem s
  have hcs : (Lib.bytesCells w ti.elem s).size = grownCap w s.size 0 ti.elem := by
    have : s.data.size = s.size := rfl
    show ((s.data.map _) ++ Array.replicate _ _).size = _
    rw [Array.size_append, Array.size_map, Array.size_replicate, this]; omega
  have hlr : (mkRow s).length = s.size := (mkL_length _).trans Array.length_toList
  have hgr : w.grownBy (Lib.bytesWorld w ti.elem s) none := ⟨rfl, rfl, rfl, by rw [Lib.bytesWorld_size]; omega, fun k hk _ => Lib.bytesWorld_at_old w ti.elem s k hk⟩
  have hget : ∀ k, k < s.size → (Lib.bytesCells w ti.elem s)[k]? = some (.int .u8 (((mkRow s).getD k ((0 : Int), ())).1)) := fun k hk => by
    have hk' : k < s.data.size := hk
    have e := mkL_get s.data.toList k (by rw [Array.length_toList]; exact hk')
    have e : ((mkRow s).getD k ((0 : Int), ())).1 = _ := e
    rw [e]
    show ((s.data.map _) ++ Array.replicate _ _)[k]? = _
    rw [Array.getElem?_append_left (by rw [Array.size_map]; exact hk'), Array.getElem?_map, Array.getElem?_eq_getElem hk']
    rfl
  have hs := h.regrow (dead := none) (row := none) (I := ⟨w.heap.size, 1, s.size, .slice (some ⟨w.heap.size, 0, none⟩) s.size (grownCap w s.size 0 ti.elem), noSub⟩) (lb := .arr ti.elem (.st [.int .u8]) (mkRow s))
    (cur' := Lib.bytesCells w ti.elem s) (fun i hi => by cases hi) (fun k hk => by cases hk) hgr (.inr rfl) (by rw [Lib.bytesWorld_size]; simp) (fun hS => by
      refine ⟨rfl, hlr.symm, fun _ => ⟨_, hnew, .inr ⟨rfl, Nat.le_refl _⟩⟩, fun k j c' g1 g2 => ?_, fun _ k j c' y g1 g2 g3 => ?_, (fun e => by cases e), fun _ => ⟨grownCap w s.size 0 ti.elem, by show Value.slice _ _ _ = Value.slice _ (mkRow s).length _; rw [hlr], by show (mkRow s).length ≤ _; rw [hlr]; exact hge, hcm, by show (Lib.bytesCells w ti.elem s).size = _ * 1; rw [hcs, Nat.mul_one], by show (mkRow s).length ≤ _; rw [hlr]; exact hsz⟩, trivial⟩
      · have g1 : k < (mkRow s).length := g1
        have g2 : (rowT (.st [.int .u8]) (mkRow s) k)[j]? = some c' := g2
        have hj : j < 1 := by
          have h1 := (List.getElem?_eq_some_iff.1 g2).1
          have h2 : (rowT (.st [.int .u8]) (mkRow s) k).length = 1 := rowT_length (.st [.int .u8]) (mkRow s) k
          omega
        obtain rfl : j = 0 := by omega
        have hc : c' = .v (.int .u8 (((mkRow s).getD k ((0 : Int), ())).1)) := by
          have : some (AV.v (.int .u8 (((mkRow s).getD k ((0 : Int), ())).1))) = some c' := g2
          exact (Option.some.inj this).symm
        subst hc
        refine ⟨_, ?_, rfl, .imm _ _ (.v _)⟩
        show (Lib.bytesCells w ti.elem s)[k * 1 + 0]? = _
        rw [Nat.mul_one, Nat.add_zero]
        exact hget k (by rw [← hlr]; exact g1)
      · have g1 : k < (mkRow s).length := g1
        have g2 : (rowT (.st [.int .u8]) (mkRow s) k)[j]? = some c' := g2
        have hj : j < 1 := by
          have h1 := (List.getElem?_eq_some_iff.1 g2).1
          have h2 : (rowT (.st [.int .u8]) (mkRow s) k).length = 1 := rowT_length (.st [.int .u8]) (mkRow s) k
          omega
        obtain rfl : j = 0 := by omega
        have hc : c' = .v (.int .u8 (((mkRow s).getD k ((0 : Int), ())).1)) := by
          have : some (AV.v (.int .u8 (((mkRow s).getD k ((0 : Int), ())).1))) = some c' := g2
          exact (Option.some.inj this).symm
        subst hc
        have g3 : (Lib.bytesCells w ti.elem s)[k * 1 + 0]? = some y := g3
        rw [Nat.mul_one, Nat.add_zero, hget k (by rw [← hlr]; exact g1)] at g3
        cases g3
        exact .v _)
  have hrun : (execOp a.eval o).run P w = .ok (.value (.slice (some ⟨w.heap.size, 0, none⟩) s.size (grownCap w s.size 0 ti.elem))) (Lib.bytesWorld w ti.elem s) := by
    simp only [execOp, ho]
    rw [show a.eval x = .string s from ex]
    simp [hr]
  unfold Oper.wp
  rw [hrun]
  refine hn _ _ _ _ _ hk hs ?_ (fun _ => ⟨rfl, rfl, rfl, by rw [Lib.bytesWorld_size]; omega, fun k hk => Lib.bytesWorld_at_old w ti.elem s k hk⟩)
  have := R.own (w := Lib.bytesWorld w ti.elem s) (S := Stb C.A (Lib.bytesWorld w ti.elem s) (st.h ++ [some (.arr ti.elem (.st [.int .u8]) (mkRow s))]) (updV V st.h.length ⟨w.heap.size, 1, s.size, .slice (some ⟨w.heap.size, 0, none⟩) s.size (grownCap w s.size 0 ti.elem), noSub⟩)) (V := updV V st.h.length ⟨w.heap.size, 1, s.size, .slice (some ⟨w.heap.size, 0, none⟩) s.size (grownCap w s.size 0 ti.elem), noSub⟩) (N := (st.h ++ [some (LB.arr ti.elem (.st [.int .u8]) (mkRow s))]).length) st.h.length (by simp)
  simpa [updV, dropId] using this
def intT (i : Option TI) : Bool := match i with
  | some i => match i.kind with
    | some _ => true
    | none => false
  | none => false
theorem intT_out {i : Option TI} (h : intT i = true) : ∃ ti k, i = some ti ∧ ti.kind = some k := by
  cases i with
  | none => simp [intT] at h
  | some ti =>
    cases e : ti.kind with
    | none => simp [intT, e] at h
    | some k => exact ⟨ti, k, rfl, e⟩
end
end Go.Proofs.YtpmmaohaahbphaaDoor
