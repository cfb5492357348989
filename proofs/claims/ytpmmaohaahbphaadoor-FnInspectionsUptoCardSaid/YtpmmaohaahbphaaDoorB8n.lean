/-
  The abstract evaluator, part 8n: slices of slices whose rows are the call's own too; sets (maps of truth values that are all true).
-/
import Derived.Test.YtpmmaohaahbphaaDoorB8d
namespace Go.Proofs.YtpmmaohaahbphaaDoor
open Go.RowKit

section
variable {P : Program} {M : Nat → List Bool} {o : Oper} {st : St} {T : Nat → Option TI}

/-! ### An element of an array of texts or numbers behind a pointer -/
def intsOf : List AV → Option (List Int)
  | [] => some []
  | .v (.int .i64 n) :: cs => match intsOf cs with
    | some l => some (n :: l)
    | none => none
  | _ => none
theorem intsOf_eq : ∀ {cs : List AV} {l : List Int}, intsOf cs = some l → cs = l.map fun n => .v (.int .i64 n)
  | [], l, h => by simp only [intsOf, Option.some.injEq] at h; subst h; rfl
  | c :: cs, l, h => by
    unfold intsOf at h
    split at h
    · rename_i e; cases e
    · rename_i n cs' e
      cases e
      split at h
      · rename_i l' e2
        simp only [Option.some.injEq] at h
        subst h
        rw [intsOf_eq e2]; rfl
      · cases h
    · cases h
def evIdxC (cs : List AV) (q : Int) (K : AV → Prop) : Prop :=
  match strsOf cs with
  | some l => K (.tptr .str l q.toNat 0)
  | none => match intsOf cs with
    | some l => K (.tptr (.int .i64) l q.toNat 0)
    | none => False
def evIdxB (T : Nat → Option TI) (i : Option TI) (cs : List AV) (y : AV) (K : AV → Prop) : Prop :=
  match i, y with
  | some i, .v (.int _ q) => match T i.arr.2 with
    | some e => (Nat.beq e.size 1 && Nat.beq cs.length i.arr.1 && !(Nat.beq i.arr.1 0)) = true ∧ Ob (0 ≤ q ∧ q < (i.arr.1 : Int)) ∧ evIdxC cs q K
    | none => False
  | _, _ => False
def evIndexAddr2 (T : Nat → Option TI) (i : Option TI) (h : List (Option LB)) (x y : AV) (K : AV → Prop) : Prop :=
  match x with
  | .bptr cs 0 => evIdxB T i cs y K
  | x => evIndexAddr (elemT T i) h x y K
theorem vdoes_indexAddr2 {K : AV → Prop} (hT : TOk P T) (t : TypeId) (x y : Operand) (ho : o.op = .indexAddr t x y) (hk : evIndexAddr2 T (T t) st.h (st.ev x) (st.ev y) K) : VDoes P o st K := by
  unfold evIndexAddr2 at hk
  split at hk
  case h_2 => exact vdoes_indexAddr hT t x y ho hk
  rename_i cs hx
  unfold evIdxB at hk
  split at hk
  case h_2 => exact hk.elim
  rename_i ti kk q hti hy
  split at hk
  case h_2 => exact hk.elim
  rename_i e he
  obtain ⟨hc, hob, hk⟩ := hk
  simp only [Bool.and_eq_true, Bool.not_eq_true'] at hc
  obtain ⟨⟨hsz, hlen⟩, hne⟩ := hc
  have hsz := Nat.eq_of_beq_eq_true hsz
  have hlen := Nat.eq_of_beq_eq_true hlen
  obtain ⟨h0, hm⟩ := hob.out
  have hu := (hT t ti hti).arr hne
  have hs := (hT _ e he).size
  rw [hsz] at hs
  intro C V a w h
  have ey := h.evv hy
  have hr' := (hx ▸ h.ev x).bptr_inv
  generalize hv : a.eval x = v at hr'
  cases hr' with
  | bptr _ _ b o' X ha hx2 hh =>
    have hq : q.toNat < cs.length := by omega
    have hrun : ∀ w', (execOp a.eval o).run P w' = .ok (.value (.pointer (some ⟨b, o' + q.toNat * 1 + 0, none⟩))) w' := fun w' => by
      simp [execOp, ho, hv, ey, Instr.indexAt, asIntOf, run_underlying hu, Instr.sureAddr, h0, hm, hs, Addr.add_lit]
    unfold evIdxC at hk
    split at hk
    · rename_i l hl
      have hcs := strsOf_eq hl
      have hll : l.length = cs.length := by rw [hcs]; simp
      have hrow : ∀ (k j : Nat) (c : AV), k < l.length → (rowT .str l k)[j]? = some c → j = 0 ∧ cs[k]? = some c := fun k j c g1 g2 => by
        cases j with
        | succ j => simp [rowT, Ty.enc] at g2
        | zero =>
          refine ⟨rfl, ?_⟩
          have g3 : some (AV.v (.string (l.getD k ⟨#[]⟩))) = some c := g2
          rw [hcs, List.getElem?_map, List.getElem?_eq_getElem g1, ← g3]
          simp [List.getD, g1]
      refine ⟨_, _, hk, .imm _ _ (.tptr .str l q.toNat 0 b o' (fun k _ => X k) ha (by show q.toNat < @List.length ByteArray l; omega) (fun k j c g1 g2 => ?_) (fun k j c g1 g2 => ?_)), fun w' _ => hrun w'⟩
      · obtain ⟨rfl, g3⟩ := hrow k j c g1 g2
        simpa [Ty.n] using hx2 k c g3
      · exact hh k c (hrow k j c g1 g2).2
    · split at hk
      case h_2 => exact hk.elim
      rename_i l hl
      have hcs := intsOf_eq hl
      have hll : l.length = cs.length := by rw [hcs]; simp
      have hrow : ∀ (k j : Nat) (c : AV), k < l.length → (rowT (.int .i64) l k)[j]? = some c → j = 0 ∧ cs[k]? = some c := fun k j c g1 g2 => by
        cases j with
        | succ j => simp [rowT, Ty.enc] at g2
        | zero =>
          refine ⟨rfl, ?_⟩
          have g3 : some (AV.v (.int .i64 (l.getD k 0))) = some c := g2
          rw [hcs, List.getElem?_map, List.getElem?_eq_getElem g1, ← g3]
          simp [List.getD, g1]
      refine ⟨_, _, hk, .imm _ _ (.tptr (.int .i64) l q.toNat 0 b o' (fun k _ => X k) ha (by show q.toNat < @List.length Int l; omega) (fun k j c g1 g2 => ?_) (fun k j c g1 g2 => ?_)), fun w' _ => hrun w'⟩
      · obtain ⟨rfl, g3⟩ := hrow k j c g1 g2
        simpa [Ty.n] using hx2 k c g3
      · exact hh k c (hrow k j c g1 g2).2

/-! ### [][]T{} and [][]T{row} -/
def zeroSl (z : Value) : Bool :=
  match z with
  | .slice none 0 0 => true
  | _ => false
theorem zeroSl_out {z : Value} (h : zeroSl z = true) : z = .slice none 0 0 := by
  unfold zeroSl at h
  split at h
  · rfl
  · cases h
def slOf (o : Option Ty) : Option Ty :=
  match o with
  | some (.sl t) => some t
  | _ => none
def evBuildN0 (ty tyI : Nat) (o : Option Ty) (st : St) (K : AV → St → Prop) : Prop :=
  match o with
  | some t => K (.own st.h.length) ⟨st.s, st.h ++ [some (.nst ty tyI t [])]⟩
  | none => False
def evBuildN1 (ty : Nat) (st : St) (x : AV) (K : AV → St → Prop) : Prop :=
  match x with
  | .own id => match st.h[id]? with
    | some (some (.arr tyI t xs)) => t.isMk = false ∧ K (.own st.h.length) ⟨st.s, st.h.set id none ++ [some (.nst ty tyI t [xs])]⟩
    | _ => False
  | _ => False
def evBuildNP (ty tyI : Nat) (o : Option Ty) (st : St) (len : Nat) (ps : List (Nat × Operand)) (K : AV → St → Prop) : Prop :=
  match len, ps with
  | 0, [] => evBuildN0 ty tyI o st K
  | 1, [(0, x)] => evBuildN1 ty st (st.ev x) K
  | _, _ => False
def evBuildN (T : Nat → Option TI) (i : Option TI) (st : St) (len : Nat) (ps : List (Nat × Operand)) (K : AV → St → Prop) : Prop :=
  match i, elemT T i with
  | some ti, some te => (Nat.beq te.size 1 && zeroSl te.zero) = true ∧ evBuildNP ti.elem te.elem (slOf te.cod) st len ps K
  | _, _ => False

theorem NstOk.nil {w : World} {S : Nat → Prop} {I : Info} {ty tyI : TypeId} {t : Ty} {cur : Array Value} (h : w.heap[I.blk]? = some (.cells cur ty (0, 0))) : NstOk w S I tyI t [] cur :=
  ⟨⟨ty, h⟩, fun _ h => absurd h (Nat.not_lt_zero _), fun _ h => absurd h (Nat.not_lt_zero _), fun _ h => absurd h (Nat.not_lt_zero _), fun _ h => absurd h (Nat.not_lt_zero _)⟩

theorem run_buildSl (w : World) (t e : TypeId) (inf : TypeInfo) (z : Value) (hu : P.underlying t = some (.slice e)) (hinf : P.info? e = some inf) (hz : inf.zero = some (.slice none 0 0)) (hs : inf.size = 1) :
    (Instr.buildSlice t 0 #[]).run P w = .ok (.slice (some ⟨w.heap.size, 0, none⟩) 0 0) (w.alloc (.cells #[] e)) ∧
    (z.oneCell' = true → (Instr.buildSlice t 1 #[(0, z)]).run P w = .ok (.slice (some ⟨w.heap.size, 0, none⟩) 1 1) (w.alloc (.cells #[z] e))) := by
  refine ⟨?_, fun hz1 => ?_⟩
  · simp [Instr.buildSlice, run_underlying hu, sizeOf, typeInfo, hinf, hs, newRow, Instr.fill, Array.range_zero']
  · obtain ⟨r, hr, hrel⟩ := fill_rel (place' := fun j => some (j * 1, 1)) (Rel := fun c y => c = .bl true → y = z) (place := fun j => some (j * 1, 1)) (fun j p hp => hp) [(0, some [.bl true])] [(0, z)] [.any] [.bl true] #[.slice none 0 0]
      ⟨rfl, fun i c y e1 e2 => by
        cases i with
        | zero => simp at e1 e2; subst e1 e2; exact ⟨rfl, fun e => by cases e⟩
        | succ i => simp at e1⟩ rfl (fun j i i' o v e1 e2 => by
        cases j with
        | zero =>
          simp at e1 e2
          obtain ⟨rfl, rfl⟩ := e1
          obtain ⟨rfl, rfl⟩ := e2
          refine ⟨rfl, fun cs hcs => ?_⟩
          cases hcs
          rw [cells_of_one hz1]
          refine ⟨rfl, fun i c y e1 e2 => ?_⟩
          cases i with
          | zero => simp at e1 e2; subst e1 e2; exact ⟨hz1, fun _ => rfl⟩
          | succ i => simp at e1
        | succ j => simp at e1) rfl
    have hr1 : r = #[z] := by
      have h1 : r.size = 1 := hrel.1
      have hx : r[0]? = some r[0] := Array.getElem?_eq_getElem (by omega)
      have := (hrel.2 0 (.bl true) _ rfl hx).2 rfl
      rw [this] at hx
      apply Array.ext_getElem?
      intro i
      cases i with
      | zero => rw [hx]; rfl
      | succ i => rw [Array.getElem?_eq_none (by omega), Array.getElem?_eq_none (by simp)]
    subst hr1
    have hm : madeCells (.slice none 0 0 : Value).cells 1 = #[.slice none 0 0] := by
      apply Array.ext'
      simp [madeCells, Value.cells]
    have hm' := hm
    unfold madeCells at hm'
    simp only [Nat.mul_one] at hr
    simp [Instr.buildSlice, run_underlying hu, sizeOf, typeInfo, hinf, hs, zeroValue, hz, newRow]
    simp only [hm', hr]
    simp
theorem edoes_buildN {K : AV → St → Prop} (hT : TOk P T) (t : TypeId) (len : Nat) (ps : Array (Nat × Operand)) (ho : o.op = .buildSlice t len ps) (hk : evBuildN T (T t) st len ps.toList K) : EDoes P M o st K := by
  unfold evBuildN at hk
  split at hk
  case h_2 => exact hk.elim
  rename_i ti te hti hte
  obtain ⟨hc, hk⟩ := hk
  simp only [Bool.and_eq_true] at hc
  have hsz := Nat.eq_of_beq_eq_true hc.1
  have hze := zeroSl_out hc.2
  obtain ⟨ti', hi, hel, hte'⟩ := elemT_sound hte
  rw [hti] at hi; cases hi
  have hu := (hT t ti hti).elem hel
  obtain ⟨inf, hinf, hzero, hsize, _⟩ := (hT _ te hte').info
  rw [hze] at hzero
  rw [hsz] at hsize
  unfold evBuildNP at hk
  split at hk
  case h_3 => exact hk.elim
  · rename_i hps
    unfold evBuildN0 at hk
    split at hk
    case h_2 => exact hk.elim
    rename_i tt hcod
    have hps : ps = #[] := Array.ext' hps
    intro C V a w h next Q hn
    have hs := h.alloc ⟨w.heap.size, 1, 0, .slice (some ⟨w.heap.size, 0, none⟩) 0 0, noSub⟩ (.nst ti.elem te.elem tt []) #[] rfl (fun S' V' N' hS hV hN => by
      refine ⟨rfl, rfl, fun _ => ⟨_, heap_alloc_new w _, .inl rfl⟩, fun k j c e1 => absurd e1 (Nat.not_lt_zero _), fun _ k j c x e1 => absurd e1 (Nat.not_lt_zero _), (fun e => by cases e), fun _ => ⟨0, rfl, Nat.le_refl _, Nat.zero_le _, rfl, Nat.zero_le _⟩, NstOk.nil (ty := ti.elem) (heap_alloc_new w _)⟩)
    have hrun : (execOp a.eval o).run P w = .ok (.value (.slice (some ⟨w.heap.size, 0, none⟩) 0 0)) (w.alloc (.cells #[] ti.elem)) := by
      have := (run_buildSl (P := P) w t ti.elem inf undef hu hinf hzero hsize).1
      simp [execOp, ho, hps, this]
    unfold Oper.wp
    rw [hrun]
    refine hn _ _ _ _ _ hk hs ?_ fun _ => (Below.refl _ _).alloc (Nat.le_refl _) _
    have := R.own (w := w.alloc (.cells #[] ti.elem)) (S := Stb C.A (w.alloc (.cells #[] ti.elem)) (st.h ++ [some (LB.nst ti.elem te.elem tt [])]) (updV V st.h.length ⟨w.heap.size, 1, 0, .slice (some ⟨w.heap.size, 0, none⟩) 0 0, noSub⟩)) (V := updV V st.h.length ⟨w.heap.size, 1, 0, .slice (some ⟨w.heap.size, 0, none⟩) 0 0, noSub⟩) (N := (st.h ++ [some (LB.nst ti.elem te.elem tt [])]).length) st.h.length (by simp)
    simpa [updV] using this
  · rename_i x hps
    unfold evBuildN1 at hk
    split at hk
    case h_2 => exact hk.elim
    rename_i id hx
    split at hk
    case h_2 => exact hk.elim
    rename_i tyI tt xs hlb
    obtain ⟨hmk, hk⟩ := hk
    have hps : ps = #[(0, x)] := Array.ext' hps
    intro C V a w h next Q hn
    have hid : id < st.h.length := (List.getElem?_eq_some_iff.1 hlb).1
    have hv := (hx ▸ h.ev x).own_inv
    obtain ⟨ck, hc⟩ := h.hr.blk id _ hlb
    obtain ⟨cap, e1, e2, e3, e4, e5⟩ := hc.own rfl
    obtain ⟨fr, hheap, hfr⟩ := hc.heap rfl
    have hfr : FrOk tt.isMk ck.size fr := hfr
    rw [hmk] at hfr
    obtain rfl := hfr.no
    have hex : a.eval x = .slice (some ⟨(V id).blk, 0, none⟩) xs.length cap := hv.trans e1
    have hlt := h.hr.lt hlb
    have hV : ∀ i, i < st.h.length → updV V st.h.length ⟨w.heap.size, 1, 1, .slice (some ⟨w.heap.size, 0, none⟩) 1 1, fun _ => ⟨(V id).blk, tt.n, xs.length, cap⟩⟩ i = V i := fun i hi => by simp [updV]; omega
    have hs := h.remake (hd := st.h.set id none) (w' := w.alloc (.cells #[a.eval x] ti.elem)) (I := ⟨w.heap.size, 1, 1, .slice (some ⟨w.heap.size, 0, none⟩) 1 1, fun _ => ⟨(V id).blk, tt.n, xs.length, cap⟩⟩) (lb := .nst ti.elem tyI tt [xs]) (cur' := #[a.eval x])
      (by simp) (fun i l e => (set_none_sub i l e).2) rfl rfl rfl (by simp) (fun k hk _ => heap_alloc_old w _ hk) (fun b hf => by
        rcases hf with rfl | ⟨k, hk, rfl⟩
        · exact .inr (Nat.le_refl _)
        · exact .inl ⟨id, _, hlb, by simp [hid], .inl rfl⟩) (fun hS => by
        refine ⟨rfl, rfl, fun _ => ⟨_, heap_alloc_new w _, .inl rfl⟩, fun k j c g1 g2 => ?_, fun _ k j c y g1 g2 g3 => ?_, (fun e => by cases e), fun _ => ⟨1, rfl, Nat.le_refl _, by decide, rfl, by show (1 : Nat) ≤ bigLen; decide⟩, ⟨ti.elem, heap_alloc_new w _⟩, fun k hk => ⟨by show (V id).blk ≠ w.heap.size; omega, fun k' hk' hne => ?_⟩, fun k hk => ?_, fun k hk => ?_, fun k hk => ?_⟩
        · have g1 : k < 1 := g1
          obtain rfl : k = 0 := by omega
          cases j with
          | zero => simp [LB.rows] at g2; subst g2; exact ⟨a.eval x, rfl, by rw [hex]; rfl, .imm _ _ (.any _)⟩
          | succ j => simp [LB.rows] at g2
        · cases j with
          | zero => simp [LB.rows] at g2; subst g2; exact .any _
          | succ j => simp [LB.rows] at g2
        · have hk : k < 1 := hk
          have hk' : k' < 1 := hk'
          omega
        · have hk : k < 1 := hk
          obtain rfl : k = 0 := by omega
          show some (a.eval x) = _
          rw [hex]; rfl
        · have hk : k < 1 := hk
          obtain rfl : k = 0 := by omega
          exact ⟨rfl, rfl, e2, e3, e5⟩
        · have hk : k < 1 := hk
          obtain rfl : k = 0 := by omega
          refine ⟨ck, (heap_alloc_old w _ hlt).trans hheap, e4, fun i j c g1 g2 => ?_⟩
          obtain ⟨y, f1, f2, _⟩ := hc.cell i j c g1 g2
          exact ⟨y, f1, f2, (hc.still rfl i j c y g1 g2 f1).mono hS⟩)
    have hrun : (execOp a.eval o).run P w = .ok (.value (.slice (some ⟨w.heap.size, 0, none⟩) 1 1)) (w.alloc (.cells #[a.eval x] ti.elem)) := by
      have := (run_buildSl (P := P) w t ti.elem inf (a.eval x) hu hinf hzero hsize).2 (by rw [hex]; rfl)
      simp [execOp, ho, hps, this]
    unfold Oper.wp
    rw [hrun]
    refine hn _ _ _ _ _ hk hs ?_ fun _ => (Below.refl _ _).alloc (Nat.le_refl _) _
    have := R.own (w := w.alloc (.cells #[a.eval x] ti.elem)) (S := Stb C.A (w.alloc (.cells #[a.eval x] ti.elem)) (st.h.set id none ++ [some (LB.nst ti.elem tyI tt [xs])]) (updV V st.h.length ⟨w.heap.size, 1, 1, .slice (some ⟨w.heap.size, 0, none⟩) 1 1, fun _ => ⟨(V id).blk, tt.n, xs.length, cap⟩⟩)) (V := updV V st.h.length ⟨w.heap.size, 1, 1, .slice (some ⟨w.heap.size, 0, none⟩) 1 1, fun _ => ⟨(V id).blk, tt.n, xs.length, cap⟩⟩) (N := (st.h.set id none ++ [some (LB.nst ti.elem tyI tt [xs])]).length) st.h.length (by simp)
    simpa [updV] using this

/-! ### append(rows, row..) -/
def evAppN2 (te : TI) (ty tyI tyI2 : Nat) (t t2 : Ty) (xss : List (List t.den)) (yss : List (List t2.den)) (id id2 : Nat) (st : St) (K : AV → St → Prop) : Prop :=
  (Nat.beq tyI tyI2 && !(Nat.beq id id2)) = true ∧ (if h : Ty.same t2 t = true then Ob (xss.length + yss.length ≤ 140737488355328 / te.bytes ∧ xss.length + yss.length ≤ 140737488355328) ∧
    K (.own st.h.length) ⟨st.s, (st.h.set id none).set id2 none ++ [some (.nst ty tyI t (xss ++ show List (List t.den) from castL (t := .sl t2) (u := .sl t) (congrArg Ty.sl (same_eq h)) yss))]⟩ else False)
def evAppNO (te : TI) (e : Nat) (o o2 : Option (Option LB)) (id id2 : Nat) (st : St) (K : AV → St → Prop) : Prop :=
  match o with
  | some (some (.nst ty tyI t xss)) => match o2 with
    | some (some (.nst _ tyI2 t2 yss)) => Nat.beq ty e = true ∧ evAppN2 te ty tyI tyI2 t t2 xss yss id id2 st K
    | _ => False
  | _ => False
def evAppN (T : Nat → Option TI) (i : Option TI) (st : St) (x y : AV) (K : AV → St → Prop) : Prop :=
  match i, elemT T i with
  | some ti, some te => match x, y with
    | .own id, .own id2 => (Nat.beq te.size 1 && zeroSl te.zero) = true ∧ evAppNO te ti.elem st.h[id]? st.h[id2]? id id2 st K
    | _, _ => False
  | _, _ => False
theorem set2_sub {h : List (Option LB)} {id id2 : Nat} (i : Nat) (lb : LB) (e : ((h.set id none).set id2 none)[i]? = some (some lb)) : i ≠ id ∧ i ≠ id2 ∧ h[i]? = some (some lb) := by
  obtain ⟨e1, e2⟩ := set_none_sub i lb e
  obtain ⟨e3, e4⟩ := set_none_sub i lb e2
  exact ⟨e3, e1, e4⟩
theorem edoes_appN {K : AV → St → Prop} (hT : TOk P T) (t : TypeId) (x y : Operand) (ho : o.op = .call { callee := .builtin .append, args := #[x, y], argTypes := #[t, t] }) (hk : evAppN T (T t) st (st.ev x) (st.ev y) K) : EDoes P M o st K := by
  unfold evAppN at hk
  split at hk
  case h_2 => exact hk.elim
  rename_i ti te hti hte
  split at hk
  case h_2 => exact hk.elim
  rename_i id id2 hx hy
  obtain ⟨hc, hk⟩ := hk
  simp only [Bool.and_eq_true] at hc
  have hsz := Nat.eq_of_beq_eq_true hc.1
  have hze := zeroSl_out hc.2
  obtain ⟨ti', hi, hel, hte'⟩ := elemT_sound hte
  rw [hti] at hi; cases hi
  have hu := (hT t ti hti).elem hel
  obtain ⟨inf, hinf, hzero, hsize, hby⟩ := (hT _ te hte').info
  unfold evAppNO at hk
  split at hk
  case h_2 => exact hk.elim
  rename_i ty tyI tt xss hlb
  split at hk
  case h_2 => exact hk.elim
  rename_i ty2 tyI2 t2 yss hlb2
  obtain ⟨c1, hk⟩ := hk
  obtain rfl := Nat.eq_of_beq_eq_true c1
  obtain ⟨c2, hk⟩ := hk
  simp only [Bool.and_eq_true] at c2
  obtain rfl := Nat.eq_of_beq_eq_true c2.1
  have hne : id ≠ id2 := fun e => by subst e; simp at c2
  split at hk
  case isFalse => exact hk.elim
  rename_i hsame
  have := same_eq hsame
  subst this
  obtain ⟨hob, hk⟩ := hk
  have hk : K (.own st.h.length) ⟨st.s, (st.h.set id none).set id2 none ++ [some (.nst ti.elem tyI t2 (xss ++ yss))]⟩ := hk
  obtain ⟨hbytes, hnm⟩ := hob.out
  have hbytes := mulOf hbytes
  intro C V a w h next Q hn
  have hid : id < st.h.length := (List.getElem?_eq_some_iff.1 hlb).1
  have hid2 : id2 < st.h.length := (List.getElem?_eq_some_iff.1 hlb2).1
  obtain ⟨cur, hcB⟩ := h.hr.blk id _ hlb
  obtain ⟨cap, eV, hlc, hcm, hcs, hbl⟩ := hcB.own rfl
  have hnk : NstOk w (Stb C.A w st.h V) (V id) tyI t2 xss cur := hcB.ex
  obtain ⟨fr, hheap, hfr⟩ := hcB.heap rfl
  obtain rfl := hfr.no
  have hcs : cur.size = cap * 1 := hcs
  have hlc : xss.length ≤ cap := hlc
  obtain ⟨cur2, cap2, hn2, eV2, hlc2, hcm2, hcs2, hbl2, _, _⟩ := h.nst hlb2
  have ex : a.eval x = .slice (some ⟨(V id).blk, 0, none⟩) xss.length cap := ((hx ▸ h.ev x).own_inv).trans eV
  have ey : a.eval y = .slice (some ⟨(V id2).blk, 0, none⟩) yss.length cap2 := ((hy ▸ h.ev y).own_inv).trans eV2
  let news : List Value := (List.range yss.length).map fun k => ((V id2).subs k).val
  have hnl : news.length = yss.length * 1 := by simp [news]
  have hng : ∀ k, k < yss.length → news[k]? = some ((V id2).subs k).val := fun k hk => by simp [news, hk]
  have hn1 : ∀ u ∈ news, u.oneCell' = true := fun u hu => by
    obtain ⟨k, _, rfl⟩ := List.mem_map.1 hu; rfl
  have key : ∃ (g' cap' : Nat) (cur' : Array Value) (w' : World), (Builtin.append_ #[t, t] o.type #[.slice (some ⟨(V id).blk, 0, none⟩) xss.length cap, .slice (some ⟨(V id2).blk, 0, none⟩) yss.length cap2]).run P w = .ok (.slice (some ⟨g', 0, none⟩) (xss.length + yss.length) cap') w' ∧ (g' = (V id).blk ∨ g' = w.heap.size) ∧
      w'.heap[g']? = some (.cells cur' ti.elem (0, 0)) ∧ xss.length + yss.length ≤ cap' ∧ cap' ≤ maxLen ∧ cur'.size = cap' * 1 ∧ cur'.toList.take ((xss.length + yss.length) * 1) = cur.toList.take (xss.length * 1) ++ news ∧ w.grownBy w' (some (V id).blk) ∧ (cap = 0 → Below w.heap.size w w') := by
    by_cases hm : 0 < yss.length
    · refine run_append_at (P := P) w t o.type ti.elem inf te.zero 1 hu hinf hzero (hsize.trans hsz) (by rw [hze]; rfl) Nat.zero_lt_one (V id).blk xss.length cap cur hheap hlc hcm hcs ⟨(V id2).blk, 0, none⟩ yss.length cap2 news hnl (fun j u hu => ?_) hn1 hm (by have := maxLen_eq'; omega) (by rw [hby]; omega)
      have hj : j < yss.length := by have := (List.getElem?_eq_some_iff.1 hu).1; omega
      rw [hng j hj] at hu
      cases hu
      rw [Addr.add_lit, Nat.zero_add, cell_of_row _ _ _ _ _ _ hn2.frh.choose_spec]
      exact hn2.at_ j hj
    · have hm0 : yss.length = 0 := by omega
      have hnil : news = [] := by simp [news, hm0]
      refine ⟨(V id).blk, cap, cur, w, ?_, .inl rfl, hheap, by omega, hcm, hcs, by simp [hm0, hnil], ⟨rfl, rfl, rfl, Nat.le_refl _, fun _ _ _ => rfl⟩, fun _ => Below.refl _ _⟩
      rw [hm0]
      exact run_append_zero w t o.type ti.elem inf hu hinf _ _ _ hlc _ _
  obtain ⟨g', cap', cur', w', hr, hgg, hh, k1, k2, k3, k4, hgr, hbz⟩ := key
  let I : Info := ⟨g', 1, xss.length + yss.length, .slice (some ⟨g', 0, none⟩) (xss.length + yss.length) cap', fun k => if k < xss.length then (V id).subs k else (V id2).subs (k - xss.length)⟩
  have hI1 : ∀ k, k < xss.length → I.subs k = (V id).subs k := fun k hk => by simp [I, hk]
  have hI2 : ∀ k, ¬ k < xss.length → I.subs k = (V id2).subs (k - xss.length) := fun k hk => by simp [I, hk]
  have hlen : (xss ++ yss).length = xss.length + yss.length := List.length_append
  have hf1 : ∀ k, k < xss.length → foot (V id) (.nst ti.elem tyI t2 xss) ((V id).subs k).blk := fun k hk => .inr ⟨k, hk, rfl⟩
  have hf2 : ∀ k, k < yss.length → foot (V id2) (.nst ty2 tyI t2 yss) ((V id2).subs k).blk := fun k hk => .inr ⟨k, hk, rfl⟩
  have happ : ∀ k, (xss ++ yss).getD k [] = if k < xss.length then xss.getD k [] else yss.getD (k - xss.length) [] := fun k => by
    split
    · rename_i hk; rw [List.getD_eq_getElem?_getD, List.getElem?_append_left hk, ← List.getD_eq_getElem?_getD]
    · rename_i hk; rw [List.getD_eq_getElem?_getD, List.getElem?_append_right (by omega), ← List.getD_eq_getElem?_getD]
  have hcur' : ∀ k, k < xss.length + yss.length → cur'[k]? = (cur.toList.take xss.length ++ news)[k]? := fun k hk => by
    rw [Nat.mul_one, Nat.mul_one] at k4
    rw [← k4, List.getElem?_take, if_pos hk, Array.getElem?_toList]
  have htl : (cur.toList.take xss.length).length = xss.length := by simp; omega
  have hrow : ∀ k, k < xss.length + yss.length → (I.subs k).blk ≠ (V id).blk ∧ (I.subs k).blk < w.heap.size := fun k hk => by
    by_cases hkx : k < xss.length
    · rw [hI1 k hkx]; exact ⟨(hnk.apart k hkx).1, h.hr.ltf hlb (hf1 k hkx)⟩
    · rw [hI2 k hkx]
      have hk2 : k - xss.length < yss.length := by omega
      exact ⟨fun e => h.hr.inj id id2 _ _ hlb hlb2 hne _ (.inl e.symm) (hf2 _ hk2), h.hr.ltf hlb2 (hf2 _ hk2)⟩
  have hs := h.remake (hd := (st.h.set id none).set id2 none) (w' := w') (I := I) (lb := .nst ti.elem tyI t2 (xss ++ yss)) (cur' := cur') (by simp) (fun i l e => (set2_sub i l e).2.2) hgr.os hgr.tape hgr.output hgr.size
    (fun k hk hno => hgr.block k hk fun e => hno id _ hlb (by rw [List.getElem?_set_ne (Ne.symm hne)]; simp [hid]) (.inl (by simpa using e.symm))) (fun b hf => by
      rcases hf with rfl | ⟨k, hk, rfl⟩
      · rcases hgg with e | e
        · exact .inl ⟨id, _, hlb, by rw [List.getElem?_set_ne (Ne.symm hne)]; simp [hid], .inl e.symm⟩
        · exact .inr (by show w.heap.size ≤ g'; omega)
      · have hk : k < (xss ++ yss).length := hk
        by_cases hkx : k < xss.length
        · rw [hI1 k hkx]
          exact .inl ⟨id, _, hlb, by rw [List.getElem?_set_ne (Ne.symm hne)]; simp [hid], hf1 k hkx⟩
        · rw [hI2 k hkx]
          exact .inl ⟨id2, _, hlb2, by simp [hid2], hf2 _ (by omega)⟩) (fun hS => by
      have hkeep : ∀ k, k < xss.length + yss.length → w'.heap[(I.subs k).blk]? = w.heap[(I.subs k).blk]? := fun k hk => hgr.block _ (hrow k hk).2 fun e => (hrow k hk).1 (by simpa using e)
      refine ⟨rfl, hlen.symm, fun _ => ⟨_, hh, .inl rfl⟩, fun k j c g1 g2 => ?_, fun _ k j c y g1 g2 g3 => ?_, (fun e => by cases e), fun _ => ⟨cap', ?_, ?_, k2, k3, ?_⟩, ⟨ti.elem, hh⟩, fun k hk => ⟨?_, fun k' hk' hkk => ?_⟩, fun k hk => ?_, fun k hk => ?_, fun k hk => ?_⟩
      · have g1 : k < xss.length + yss.length := by rw [← hlen]; exact g1
        cases j with
        | zero =>
          simp [LB.rows] at g2; subst g2
          show ∃ y, cur'[k * 1 + 0]? = some y ∧ _
          rw [Nat.mul_one, Nat.add_zero, hcur' k g1]
          by_cases hkx : k < xss.length
          · rw [List.getElem?_append_left (by omega), List.getElem?_take, if_pos hkx, Array.getElem?_toList, hnk.at_ k hkx]
            exact ⟨_, rfl, rfl, .imm _ _ (.any _)⟩
          · rw [List.getElem?_append_right (by omega), htl, hng _ (by omega)]
            exact ⟨_, rfl, rfl, .imm _ _ (.any _)⟩
        | succ j => simp [LB.rows] at g2
      · cases j with
        | zero => simp [LB.rows] at g2; subst g2; exact .any _
        | succ j => simp [LB.rows] at g2
      · show Value.slice _ _ _ = Value.slice _ (xss ++ yss).length _; rw [hlen]
      · show (xss ++ yss).length ≤ cap'; rw [hlen]; exact k1
      · show (xss ++ yss).length ≤ bigLen; rw [hlen]; exact hnm
      · rw [hlen] at hk
        rcases hgg with e | e
        · show _ ≠ g'; rw [e]; exact (hrow k hk).1
        · have := (hrow k hk).2
          show _ ≠ g'; omega
      · rw [hlen] at hk hk'
        by_cases hkx : k < xss.length
        · rw [hI1 k hkx]
          by_cases hkx' : k' < xss.length
          · rw [hI1 k' hkx']; exact (hnk.apart k hkx).2 k' hkx' hkk
          · rw [hI2 k' hkx']
            exact fun e => h.hr.inj id id2 _ _ hlb hlb2 hne _ (hf1 k hkx) (e ▸ hf2 _ (by omega))
        · rw [hI2 k hkx]
          by_cases hkx' : k' < xss.length
          · rw [hI1 k' hkx']
            exact fun e => h.hr.inj id id2 _ _ hlb hlb2 hne _ (hf1 k' hkx') (e ▸ hf2 _ (by omega))
          · rw [hI2 k' hkx']; exact (hn2.apart (k - xss.length) (by omega)).2 (k' - xss.length) (by omega) (by omega)
      · rw [hlen] at hk
        rw [hcur' k hk]
        by_cases hkx : k < xss.length
        · rw [List.getElem?_append_left (by omega), List.getElem?_take, if_pos hkx, Array.getElem?_toList, hnk.at_ k hkx, hI1 k hkx]
        · rw [List.getElem?_append_right (by omega), htl, hng _ (by omega), hI2 k hkx]
      · rw [hlen] at hk
        rw [happ]
        by_cases hkx : k < xss.length
        · rw [if_pos hkx, hI1 k hkx]; exact hnk.ok k hkx
        · rw [if_neg hkx, hI2 k hkx]; exact hn2.ok _ (by omega)
      · rw [hlen] at hk
        rw [happ, hkeep k hk]
        by_cases hkx : k < xss.length
        · rw [if_pos hkx, hI1 k hkx]
          obtain ⟨ck, f1, f2, f3⟩ := hnk.row k hkx
          exact ⟨ck, f1, f2, fun i j c g1 g2 => let ⟨y, m1, m2, m3⟩ := f3 i j c g1 g2; ⟨y, m1, m2, m3.mono hS⟩⟩
        · rw [if_neg hkx, hI2 k hkx]
          obtain ⟨ck, f1, f2, f3⟩ := hn2.row _ (show k - xss.length < yss.length by omega)
          exact ⟨ck, f1, f2, fun i j c g1 g2 => let ⟨y, m1, m2, m3⟩ := f3 i j c g1 g2; ⟨y, m1, m2, m3.mono hS⟩⟩)
  have hrun := run_appendOp ho ex ey hr
  unfold Oper.wp
  rw [hrun]
  refine hn _ _ _ _ _ hk hs ?_ (fun e => by
    obtain ⟨_, _, e⟩ := belA_cap ho e
    rw [ex] at e; cases e; exact hbz rfl)
  have := R.own (w := w') (S := Stb C.A w' ((st.h.set id none).set id2 none ++ [some (LB.nst ti.elem tyI t2 (xss ++ yss))]) (updV V st.h.length I)) (V := updV V st.h.length I) (N := ((st.h.set id none).set id2 none ++ [some (LB.nst ti.elem tyI t2 (xss ++ yss))]).length) st.h.length (by simp)
  simpa [updV, I] using this
end
end Go.Proofs.YtpmmaohaahbphaaDoor
