/-
  The abstract evaluator, part 8d: append of a make to nothing; parts of own slices in a literal of slices.
-/
import Derived.Test.YtppiaacfnoifkaaB8c
import Derived.Laws.BytesString
namespace Go.Proofs.Ytppiaacfnoifkaa
open Go.RowKit

section
variable {P : Program} {M : Nat → List Bool} {o : Oper} {st : St} {T : Nat → Option TI}

theorem zeroCells_size (z : Array Value) (n : Nat) : (Builtin.zeroCells z n).size = n * z.size := by simp [Builtin.zeroCells]
theorem zeroC_get (z : Array Value) (n k s j : Nat) (hz : z.size = s) (hj : j < s) (hk : k < n) : (Builtin.zeroCells z n)[k * s + j]? = z[j]? := by
  have hjz : j < z.size := by omega
  have e : (k * s + j) % z.size = j := by rw [hz, Nat.mul_add_mod_self_right, Nat.mod_eq_of_lt hj]
  have hlt : k * s + j < n * z.size := by
    have h2 : (k + 1) * s ≤ n * s := Nat.mul_le_mul_right _ hk
    rw [Nat.succ_mul] at h2; rw [hz]; omega
  simp [Builtin.zeroCells, hlt, e, hjz]
theorem run_append_nil_zeros (w : World) (t u ty e : TypeId) (i : TypeInfo) (z : Value) (k : IntKind) (ht : P.underlying t = some (.slice e)) (hu : P.underlying u = some (.int k)) (hi : P.info? e = some i) (hz : i.zero = some z)
    (n : Nat) (h0 : 0 < n) (h63 : (n : Int) ≤ 9223372036854775807) (h48 : n * i.bytes ≤ 281474976710656) (hsz : 0 < i.size) :
    (Builtin.append_ #[t, u] ty #[.slice none 0 0, .int .i64 n]).run P w =
      .ok (.slice (some ⟨w.heap.size, 0, none⟩) n (grownCap w n 0 e)) (w.drew.alloc (.cells (Builtin.zeroCells z.cells n ++ Builtin.zeroCells z.cells (grownCap w n 0 e - n)) e)) := by
  have hn : n ≠ 0 := by omega
  have h63' : ¬ (9223372036854775807 < (n : Int)) := by omega
  have h48' : ¬ (281474976710656 < Builtin.nextslicecap n 0 * i.bytes) := by rw [nextslicecap_zero h0]; omega
  have hw : IntKind.i64.wrap (n : Int) = n := by rw [IntKind.wrap_i64]; omega
  have hneg : ¬ ((n : Int) < 0) := by omega
  have h48'' : ¬ ((281474976710656 : Int) < (n : Int) * (i.bytes : Int)) := by
    have : ((n * i.bytes : Nat) : Int) ≤ 281474976710656 := by omega
    rw [Int.natCast_mul] at this; omega
  have hns : i.size ≠ 0 := by omega
  simp [Builtin.append_, run_underlying ht, run_underlying hu, sizeOf, typeInfo, zeroValue, hi, hz, hn, h63', h48', hw, hneg, h48'', hns, Question.forced, run_firstCells_none, newRow, grownCap, asInt, asIntOf]
  exact fun h => absurd h (Nat.mul_ne_zero hn hns)

/-- What is appended to nothing: so many zeros. -/
def evAppZ (T : Nat → Option TI) (i : Option TI) (st : St) (x y : AV) (K : AV → St → Prop) : Prop :=
  match i, elemT T i, x, y with
  | some ti, some te, .v (.slice none 0 0), .v (.int .i64 n) => match te.cod with
    | some t => (te.zero.cells.toList.all Value.oneCell' && Nat.beq t.n te.size && Nat.beq te.zero.cells.size te.size && Nat.blt 0 te.size) = true ∧ Ob (0 < n ∧ te.bytes * n ≤ 140737488355328 ∧ n ≤ 140737488355328) ∧
      evMakeT ti.elem t (t.dec (te.zero.cells.toList.map AV.v)) n st K
    | none => False
  | _, _, _, _ => False
theorem edoes_appZ {K : AV → St → Prop} (hT : TOk P T) (t u : TypeId) (tu : TI) (k : IntKind) (hu : T u = some tu) (hku : tu.kind = some k) (x y : Operand) (ho : o.op = .call { callee := .builtin .append, args := #[x, y], argTypes := #[t, u] }) (hk : evAppZ T (T t) st (st.ev x) (st.ev y) K) : EDoes P M o st K := by
  have hund := (hT u tu hu).kind k hku
  unfold evAppZ at hk
  split at hk
  case h_2 => exact hk.elim
  rename_i ti te n hti hte hx hy
  split at hk
  case h_2 => exact hk.elim
  rename_i tt hcod
  obtain ⟨hz, hb, hk⟩ := hk
  simp only [Bool.and_eq_true, Nat.blt_eq] at hz
  obtain ⟨⟨⟨hz1, hz0⟩, hz2⟩, hz3⟩ := hz
  have hz0 := Nat.eq_of_beq_eq_true hz0
  have hz2 := Nat.eq_of_beq_eq_true hz2
  unfold evMakeT at hk
  split at hk
  case h_2 => exact hk.elim
  rename_i z hdec
  obtain ⟨d1, d2⟩ := dec_sound tt _ z hdec
  obtain ⟨h0, hbytes, hm⟩ := hb.out
  obtain ⟨ti', hi, hel, hte'⟩ := elemT_sound hte
  rw [hti] at hi; cases hi
  have hu' := (hT t ti hti).elem hel
  obtain ⟨inf, hinf, hzero, hsize, hby⟩ := (hT _ te hte').info
  intro C V a w h next Q hn
  have ex : a.eval x = .slice none 0 0 := h.evv hx
  have ey : a.eval y = .int .i64 n := h.evv hy
  obtain ⟨m, rfl⟩ : ∃ m : Nat, n = m := ⟨n.toNat, by omega⟩
  have hm0 : 0 < m := by omega
  have hby2 : m * inf.bytes ≤ 281474976710656 := by
    rw [hby]
    have : ((m * te.bytes : Nat) : Int) ≤ 140737488355328 := by rw [Int.natCast_mul, Int.mul_comm]; exact hbytes
    omega
  have hr := run_append_nil_zeros (P := P) w t u o.type ti.elem inf te.zero k hu' hund hinf hzero m hm0 (by omega) hby2 (by omega)
  have hge := grownCap_ge w m 0 ti.elem
  have hcm : grownCap w m 0 ti.elem ≤ maxLen := grownCap_le_maxLen w m 0 ti.elem (by have := maxLen_eq'; omega)
  have hsz : (Builtin.zeroCells te.zero.cells m ++ Builtin.zeroCells te.zero.cells (grownCap w m 0 ti.elem - m)).size = grownCap w m 0 ti.elem * te.size := by
    rw [Array.size_append, zeroCells_size, zeroCells_size, hz2, ← Nat.add_mul]
    congr 1; omega
  have hgr : w.grownBy (w.drew.alloc (.cells (Builtin.zeroCells te.zero.cells m ++ Builtin.zeroCells te.zero.cells (grownCap w m 0 ti.elem - m)) ti.elem)) none :=
    ⟨rfl, rfl, rfl, by simp, fun k hk _ => heap_alloc_old w.drew _ hk⟩
  have hnew : (w.drew.alloc (.cells (Builtin.zeroCells te.zero.cells m ++ Builtin.zeroCells te.zero.cells (grownCap w m 0 ti.elem - m)) ti.elem)).heap[w.heap.size]? = some (.cells (Builtin.zeroCells te.zero.cells m ++ Builtin.zeroCells te.zero.cells (grownCap w m 0 ti.elem - m)) ti.elem (0, 0)) := heap_alloc_new w.drew _
  have hlr : (List.replicate m z).length = m := by simp
  have hs := h.regrow (dead := none) (row := none) (I := ⟨w.heap.size, tt.n, m, .slice (some ⟨w.heap.size, 0, none⟩) m (grownCap w m 0 ti.elem)⟩) (lb := .arr ti.elem tt (List.replicate m z))
    (cur' := Builtin.zeroCells te.zero.cells m ++ Builtin.zeroCells te.zero.cells (grownCap w m 0 ti.elem - m)) (fun i hi => by cases hi) (fun k hk => by cases hk) hgr (.inr rfl) (by simp) (fun hS => by
      refine BlkR.newArr (L := (Builtin.zeroCells te.zero.cells m).toList) hnew hlr (by rw [hlr]; exact hge) hcm (by rw [hz0]; exact hsz) (by rw [hlr]; simp only [bigLen]; omega) (by
        rw [hlr, hz0, Array.toList_append, List.take_left' (by rw [Array.length_toList, zeroCells_size, hz2])]) (fun k j c' g1 g2 => ?_)
      have hk : k < m := by simpa using g1
      have e3 : rowT tt (List.replicate m z) k = tt.enc z := by simp [rowT, List.getD, hk]
      rw [e3] at g2
      have hj : j < te.size := by rw [← hz0, ← enc_length tt z]; exact (List.getElem?_eq_some_iff.1 g2).1
      have hxx : te.zero.cells[j]? = some te.zero.cells[j] := Array.getElem?_eq_getElem (by omega)
      refine ⟨te.zero.cells[j], ?_, List.all_eq_true.1 hz1 _ (by simp), d2 j (.v te.zero.cells[j]) c' (by simp [hxx]) g2 _ _ _ (.v _)⟩
      rw [Array.getElem?_toList, hz0, zeroC_get _ _ _ _ _ hz2 hj hk, hxx])
  have hrun : (execOp a.eval o).run P w = .ok (.value (.slice (some ⟨w.heap.size, 0, none⟩) m (grownCap w m 0 ti.elem))) (w.drew.alloc (.cells (Builtin.zeroCells te.zero.cells m ++ Builtin.zeroCells te.zero.cells (grownCap w m 0 ti.elem - m)) ti.elem)) := by
    unfold execOp
    simp only [ho, resolve, invoke, builtin, Sem.run_bind, Sem.run_pure, Result.andThen_ok, List.map_toArray, List.map_cons, List.map_nil, ex, ey, hr]
  unfold Oper.wp
  rw [hrun]
  refine hn _ _ _ _ _ hk hs ?_ (fun _ => (Below.refl _ _).drew.alloc (Nat.le_refl _) _)
  have := R.own (w := w.drew.alloc (.cells (Builtin.zeroCells te.zero.cells m ++ Builtin.zeroCells te.zero.cells (grownCap w m 0 ti.elem - m)) ti.elem)) (S := Stb C.A (w.drew.alloc (.cells (Builtin.zeroCells te.zero.cells m ++ Builtin.zeroCells te.zero.cells (grownCap w m 0 ti.elem - m)) ti.elem)) (st.h ++ [some (.arr ti.elem tt (List.replicate m z))]) (updV V st.h.length ⟨w.heap.size, tt.n, m, .slice (some ⟨w.heap.size, 0, none⟩) m (grownCap w m 0 ti.elem)⟩)) (V := updV V st.h.length ⟨w.heap.size, tt.n, m, .slice (some ⟨w.heap.size, 0, none⟩) m (grownCap w m 0 ti.elem)⟩) (N := (st.h ++ [some (LB.arr ti.elem tt (List.replicate m z))]).length) st.h.length (by simp)
  simpa [updV, dropId] using this

/-! ### Nothing, in parts; its room -/
def evSliceN (e : Option TI) (lo hi : Option Int) (K : AV → Prop) : Prop :=
  match e, lo, hi with
  | some _, some l, some h => Ob (0 ≤ l ∧ l ≤ h ∧ h ≤ 0) ∧ K (.v (.slice none 0 0))
  | _, _, _ => False
/-- The whole of a laid array of texts, as a slice at rest. -/
def evSliceA (T : Nat → Option TI) (i : Option TI) (cs : List AV) (lo hi : Option AV) (K : AV → Prop) : Prop :=
  match i, lo, hi with
  | some i, none, none => match T i.arr.2, strsOf cs with
    | some e, some l => Nat.beq e.size 1 = true ∧ Nat.beq cs.length i.arr.1 = true ∧ Nat.beq i.arr.1 0 = false ∧ Nat.ble cs.length 1000 = true ∧ K (.tree .str l)
    | _, _ => False
  | _, _, _ => False
def evSlice2 (T : Nat → Option TI) (i : Option TI) (hp : List (Option LB)) (x : AV) (lo hi : Option AV) (K : AV → Prop) : Prop :=
  match x with
  | .bptr cs 0 => evSliceA T i cs lo hi K
  | .v (.slice none 0 0) => evSliceN (elemT T i) (bnd lo 0) (bnd hi 0) K
  | x => evSlice T i hp x lo hi K
theorem vdoes_slice2 {K : AV → Prop} (hT : TOk P T) (t : TypeId) (x : Operand) (lo hi : Option Operand) (ho : o.op = .slice t x lo hi none) (hk : evSlice2 T (T t) st.h (st.ev x) (lo.map st.ev) (hi.map st.ev) K) : VDoes P o st K := by
  unfold evSlice2 at hk
  split at hk
  · rename_i cs hx
    unfold evSliceA at hk
    split at hk
    · rename_i ti hT1 hlo hhi
      split at hk
      · rename_i e l he hl
        obtain ⟨hsz, hlen, hne, hle, hk⟩ := hk
        have hlen := Nat.eq_of_beq_eq_true hlen
        have hle := Nat.le_of_ble_eq_true hle
        have hcs := strsOf_eq hl
        have hll : l.length = cs.length := by rw [hcs, List.length_map]
        have hs := (hT _ e he).size
        rw [Nat.eq_of_beq_eq_true hsz] at hs
        have hpos : ti.arr.1 ≠ 0 := fun e0 => by rw [e0] at hne; cases hne
        intro C V a w h
        have hr' := (hx ▸ h.ev x).bptr_inv
        generalize hv : a.eval x = v at hr'
        cases hr' with
        | bptr _ _ b o' X ha hx2 hh2 =>
          have hcell : ∀ (k j : Nat) (c : AV), k < l.length → (rowT .str l k)[j]? = some c → j = 0 ∧ cs[k]? = some c := fun k j c hk' hj => by
            have hrow : rowT .str l k = [.v (.string l[k])] := by
              exact congrArg (fun s : ByteArray => [AV.v (Value.string s)]) (show l.getD k (⟨#[]⟩ : ByteArray) = l[k] by simp [List.getD_eq_getElem?_getD, List.getElem?_eq_getElem hk'])
            rw [hrow] at hj
            cases j with
            | zero =>
              refine ⟨rfl, ?_⟩
              rw [hcs, List.getElem?_map, List.getElem?_eq_getElem hk']
              exact hj
            | succ j => simp at hj
          refine ⟨_, .slice (some ⟨b, o', none⟩) l.length l.length, hk, .imm _ _ ?_, fun w' _ => ?_⟩
          · refine .tree .str l _ _ _ b o' (fun k _ => X k) rfl (by show @List.length ByteArray l ≤ 140737488355328; omega) (Nat.le_refl _) (by have := maxLen_eq'; omega) (fun _ => ⟨rfl, ha⟩) (fun k j c e1 e2 => ?_) (fun k j c e1 e2 => ?_)
            · obtain ⟨rfl, e3⟩ := hcell k j c e1 e2
              have := hx2 k c e3
              rw [show o' + k * Ty.str.n + 0 = o' + k from by rw [show Ty.str.n = 1 from rfl]; omega]
              exact this
            · obtain ⟨rfl, e3⟩ := hcell k j c e1 e2
              exact hh2 k c e3
          · cases lo with
            | some _ => simp at hlo
            | none =>
              cases hi with
              | some _ => simp at hhi
              | none =>
                have hb := run_sliceBounds (P := P) false ti.arr.1 ti.arr.1 none none 0 (ti.arr.1 : Int) w' a rfl rfl (by omega) (by omega) (by omega) (Nat.le_refl _)
                have hu := run_underlying (w := w') ((hT t ti hT1).arr hne)
                simp only [Option.map_none] at hb
                simp [execOp, ho, hv, Instr.sliceAt, hu, Instr.sureAddr, hb, hs, hpos, hll, hlen, Addr.add_lit]
      · exact hk.elim
    · exact hk.elim
  · rename_i hx
    unfold evSliceN at hk
    split at hk
    · rename_i te l h hte hl hh
      obtain ⟨ti, hi', hel, hte⟩ := elemT_sound hte
      obtain ⟨hob, hk⟩ := hk
      obtain ⟨h0, h1, h2⟩ := hob.out
      obtain rfl : l = 0 := by omega
      obtain rfl : h = 0 := by omega
      refine vdoes_plain _ (fun C V a w hs w' => ?_) hk
      have hbd := run_sliceBounds (P := P) true 0 0 lo hi 0 0 w' a (bnd_sound hs hl) (bnd_sound hs hh) (by omega) (by omega) (by omega) (by omega)
      have hsize := (hT ti.elem te hte).size
      simp [execOp, ho, hs.evv hx, Instr.sliceAt, Instr.slice, run_underlying ((hT t ti hi').elem hel), hbd, hsize]
    · exact hk.elim
  · exact vdoes_slice hT t x lo hi ho hk
def evCap (i : Option TI) (x : AV) (K : AV → Prop) : Prop :=
  match i with
  | some i => match x with
    | .v (.slice none 0 0) => (i.elem != 0) = true ∧ K (.v (.int .i64 0))
    | _ => False
  | none => False
theorem vdoes_cap {K : AV → Prop} (hT : TOk P T) (x : Operand) (t : TypeId) (ho : o.op = .call { callee := .builtin .cap, args := #[x], argTypes := #[t] }) (hk : evCap (T t) (st.ev x) K) : VDoes P o st K := by
  unfold evCap at hk
  split at hk
  · rename_i i hi
    split at hk
    · rename_i hx
      obtain ⟨hel, hk⟩ := hk
      exact vdoes_plain _ (fun C V a w h w' => by
        simp [execOp, ho, h.evv hx, resolve, invoke, builtin, Builtin.cap_, run_underlying ((hT t i hi).elem (by simpa using hel)), goInt]) hk
    · exact hk.elim
  · exact hk.elim
/-! ### Bytes as a text -/
def strOfN (xs : List Int) : ByteArray := ⟨(xs.map fun n => UInt8.ofNat n.toNat).toArray⟩
theorem foldl_pushN : ∀ (ns : List Int) (s : ByteArray), ns.foldl (fun r n => r.push (UInt8.ofNat n.toNat)) s = ⟨s.data ++ (ns.map fun n => UInt8.ofNat n.toNat).toArray⟩
  | [], s => by simp
  | n :: ns, s => by
    rw [List.foldl_cons, foldl_pushN ns]
    simp [ByteArray.push]
def evConvB (h : List (Option LB)) (x : AV) (K : AV → Prop) : Prop :=
  match srcA h x with
  | some ⟨.int .u8, xs⟩ => K (.v (.string (strOfN xs)))
  | _ => False
def byteSl (T : Nat → Option TI) (s : Option TI) : Bool := match elemT T s with
  | some te => match te.kind with
    | some .u8 => true
    | _ => false
  | none => false
def isStrT (d : Option TI) : Bool := match d with
  | some i => i.str
  | none => false
def evConv2 (T : Nat → Option TI) (s d : Option TI) (h : List (Option LB)) (x : AV) (K : AV → Prop) : Prop :=
  match byteSl T s with
  | true => isStrT d = true ∧ evConvB h x K
  | false => evConv s d x K
theorem vdoes_convS {K : AV → Prop} (_hT : TOk P T) (src dst : TypeId) (x : Operand) (ho : o.op = .convert src dst x) (ti : TI) (hus : P.underlying src = some (.slice ti.elem)) (hue : P.underlying ti.elem = some (.int .u8)) (hud : P.underlying dst = some .string)
    (xs : List Int) (hsrc : srcA st.h (st.ev x) = some ⟨.int .u8, xs⟩) (hk : K (.v (.string (strOfN xs)))) : VDoes P o st K := by
  intro C V a w h
  obtain ⟨ad, c, news, ex, hl, hnews, h1, hcell⟩ := h.src (h.ev x) hsrc (by decide)
  have hgot : ∀ j, j < xs.length → news[j]? = some (.int .u8 (xs.getD j 0)) := fun j hj => by
    obtain ⟨u, hu, hr⟩ := hcell j 0 (.v (.int .u8 (xs.getD j 0))) hj rfl
    have hu0 : u = .int .u8 (xs.getD j 0) := by cases hr; rfl
    have e0 : j * (Ty.int .u8).n + 0 = j := by simp [Ty.n]
    rw [e0] at hu
    rw [hu, hu0]
  refine ⟨_, _, hk, .imm _ _ (.v _), fun w' hbl => ?_⟩
  have hrun : (convert src dst (.slice ad xs.length c)).run P w' = .ok (.string (strOfN xs)) w' := by
    rw [run_convert_bytes_string w' src dst ti.elem ad xs.length c hus hue hud]
    cases ad with
    | none =>
      have h0 : xs = [] := by
        rcases Nat.eq_zero_or_pos xs.length with e | e
        · exact List.length_eq_zero_iff.1 e
        · obtain ⟨a', ha', _⟩ := hnews e; cases ha'
      subst h0
      simp [Conv.bytesToString, strOfN]
      rfl
    | some a' =>
      have hload : (loadCells a' xs.length).run P w' = .ok (xs.map (Value.int .u8)).toArray w' := by
        have := run_loadCells_list (P := P) w' a' (xs.map (Value.int .u8)) (fun j v hj => by
          rw [List.getElem?_map] at hj
          obtain ⟨z, hz, rfl⟩ := Option.map_eq_some_iff.1 hj
          have hjl : j < xs.length := (List.getElem?_eq_some_iff.1 hz).1
          obtain ⟨a2, ha2, hn⟩ := hnews (show 0 < xs.length by omega)
          cases ha2
          have h3 := hn j _ (hgot j hjl)
          have hlt : (a'.add j).block < w.heap.size := by
            rcases Nat.lt_or_ge (a'.add j).block w.heap.size with h | h
            · exact h
            · exfalso
              unfold World.cell? at h3
              rw [Array.getElem?_eq_none h] at h3
              simp at h3
          rw [hbl.cell hlt, h3]
          simp [List.getD, hz])
        simpa using this
      rw [run_bytesToString w' a' xs.length c xs hload, foldl_pushN]
      simp [strOfN, ByteArray.empty, ByteArray.emptyWithCapacity]
      rfl
  simp only [execOp, ho]
  rw [show a.eval x = .slice ad xs.length c from ex]
  simp [hrun]
theorem vdoes_conv2 {K : AV → Prop} (hT : TOk P T) (src dst : TypeId) (x : Operand) (ho : o.op = .convert src dst x) (hk : evConv2 T (T src) (T dst) st.h (st.ev x) K) : VDoes P o st K := by
  unfold evConv2 at hk
  split at hk
  case h_2 => exact vdoes_conv hT src dst x ho hk
  rename_i hb
  obtain ⟨hd, hk⟩ := hk
  obtain ⟨td, htd, hds⟩ : ∃ td, T dst = some td ∧ td.str = true := by
    unfold isStrT at hd
    split at hd
    · rename_i i e; exact ⟨i, e, hd⟩
    · cases hd
  obtain ⟨te, hte, hkind⟩ : ∃ te, elemT T (T src) = some te ∧ te.kind = some .u8 := by
    unfold byteSl at hb
    split at hb
    · rename_i te e
      split at hb
      · rename_i e2; exact ⟨te, e, e2⟩
      · cases hb
    · cases hb
  obtain ⟨ti, hti, hel, hte'⟩ := elemT_sound hte
  have hus := (hT src ti hti).elem hel
  have hue := (hT _ te hte').kind .u8 hkind
  have hud := (hT dst td htd).str hds
  unfold evConvB at hk
  split at hk
  case h_2 => exact hk.elim
  rename_i xs hsrc
  exact vdoes_convS hT src dst x ho ti hus hue hud xs hsrc hk
def intT (i : Option TI) : Bool := match i with
  | some i => match i.kind with
    | some _ => true
    | none => false
  | none => false
theorem intT_out {i : Option TI} (h : intT i = true) : ∃ ti k, i = some ti ∧ ti.kind = some k := by
  cases i with
  | none => simp [intT] at h
  | some ti =>
    cases e : ti.kind with
    | none => simp [intT, e] at h
    | some k => exact ⟨ti, k, rfl, e⟩
end
end Go.Proofs.Ytppiaacfnoifkaa
