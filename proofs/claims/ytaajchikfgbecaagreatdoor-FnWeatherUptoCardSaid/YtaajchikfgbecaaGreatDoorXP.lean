/-
  The contracts of the library's function that splits texts, and of the program's that reads a number.
-/
import Derived.Test.YtaajchikfgbecaaGreatDoorX1
import Derived.Shelf.Strings.Split
import Derived.Shelf.Strconv.Atoi
import Derived.Shelf.Strconv.AtoiErr
import Derived.Lib.AtoiBound
import Derived.WalkKit
namespace Go.Proofs.YtaajchikfgbecaaGreatDoor
open Go.RowKit

/-- A text between its separators. -/
def splitB (s sep : ByteArray) : List ByteArray := Lib.splitB sep 0 (Lib.countB s sep) s
theorem splitB_pos (s sep : ByteArray) (h : 1 ≤ sep.size) : (splitB s sep).length = Lib.countB s sep + 1 := Lib.splitB_all sep h 0 _ s rfl
/-- A function of the library that gives back texts in a new row. -/
theorem spec_ext_strs {P : Program} {f : FuncId} {vs : List Value} {ty : TypeId} (xs : List ByteArray) (hl : xs.length ≤ bigLen)
    (hc : ∀ (w : World) (GB : Nat → Prop), Lw GB w → (∀ b, GB b → b < w.heap.size) → Calls P f vs.toArray w fun e w' => e = .returned (.slice (some ⟨w.heap.size, 0, none⟩) xs.length xs.length) ∧ w' = w.alloc (.cells (xs.map Value.string).toArray ty)) :
    Spec P f (vs.map AV.v) [] (.own 0) [some (.arr ty .str xs)] := by
  intro w GB V S0 args hLw hGB hHR hsz hargs
  have e : args = vs.toArray := by
    apply Array.ext'
    apply List.ext_getElem?
    intro i
    simp only [Array.getElem?_toList]
    rcases Nat.lt_or_ge i args.size with h | h
    · have e1 : args[i]? = some args[i] := Array.getElem?_eq_getElem h
      have h2 : i < vs.length := by rw [hsz, List.length_map] at h; exact h
      have e2 : (vs.map AV.v)[i]? = some (.v vs[i]) := by simp [h2]
      rw [e1, (hargs i _ _ e2 e1).v_inv]
      simp [h2]
    · rw [Array.getElem?_eq_none h]
      rw [hsz, List.length_map] at h
      simp [h]
  subst e
  refine (hc w GB hLw (fun b hb => (hGB b hb).1)).mono ?_
  rintro e w' ⟨rfl, rfl⟩
  have hbel : Below w.heap.size w (w.alloc (.cells (xs.map Value.string).toArray ty)) := (Below.refl _ _).alloc (Nat.le_refl _) _
  refine ⟨_, fun _ => ⟨w.heap.size, 1, xs.length, .slice (some ⟨w.heap.size, 0, none⟩) xs.length xs.length, noSub⟩, rfl, (Kept.refl _ w).below hbel, by simp, fun i hi => by simp at hi, ⟨?_, ?_, ?_⟩, ?_⟩
  · intro i j li lj h1 h2 hij
    match i, j with
    | 0, 0 => exact absurd rfl hij
    | 0, j + 1 => simp at h2
    | i + 1, _ => simp at h1
  · intro id lb h1
    match id with
    | id + 1 => simp at h1
    | 0 =>
      cases h1
      refine ⟨_, BlkR.newArr (cap := xs.length) (ty := ty) (t := .str) (xs := xs) (L := xs.map Value.string) (heap_alloc_new w _) rfl (Nat.le_refl _) (Nat.le_trans hl (by decide)) (by simp [Ty.n]) hl (by simp only [Ty.n, Nat.mul_one]; exact List.take_of_length_le (by simp only [List.length_map]; exact Nat.le_refl _)) fun k j c hk hj => ?_⟩
      have hj : ([AV.v (.string (List.getD xs k (Ty.dflt .str)))] : List AV)[j]? = some c := hj
      have hk : k < xs.length := hk
      match j, hj with
      | j + 1, hj => simp at hj
      | 0, hj =>
        have hj : AV.v (.string (List.getD xs k (Ty.dflt .str))) = c := Option.some.inj hj
        have e1 : List.getD xs k (Ty.dflt .str) = xs[k] := getD_eq xs k _ hk
        rw [e1] at hj
        subst hj
        refine ⟨.string xs[k], ?_, rfl, .v _⟩
        simp only [Ty.n, Nat.mul_one, Nat.add_zero]
        rw [List.getElem?_map, List.getElem?_eq_getElem hk]; rfl
  · intro id lb h1 b h2 h3
    match id with
    | id + 1 => simp at h1
    | 0 =>
      cases h1
      cases foot_plain rfl h2
      exact absurd h3 (Nat.lt_irrefl _)
  · exact R.own 0 (by simp)
theorem ext_strings_Split (a0 a1 : ByteArray) (h : a0.size < 4294967281 ∧ 1 ≤ a1.size) : Spec Tryz.prog 25 [.v (.string a0), .v (.string a1)] [] (.own 0) [some (.arr 9 .str (splitB a0 a1))] := by
  have hle := Lib.countB_le a1 h.2 a0.size a0 (Nat.le_refl _)
  have hlen := splitB_pos a0 a1 h.2
  refine spec_ext_strs (vs := [.string a0, .string a1]) (splitB a0 a1) (by rw [hlen]; show _ ≤ 140737488355328; omega) fun w GB hL hB => ?_
  obtain ⟨⟨_, m, hm⟩, _⟩ := hL
  rw [hlen]
  exact Any.strings_Split Tryz.lays146 (by kernel_rfl) a0 a1 m w h.1 hm h.2

/-- The number with a decimal form. -/
def parseI (s : ByteArray) : Int × Bool :=
  if s.size ≤ 7 then
    match Lib.atoi s.data.toList with
    | some n => if (-999999 ≤ n ∧ n ≤ 999999) ∧ itoaB n = s then (n, true) else (0, false)
    | none => (0, false)
  else (0, false)
theorem tab_of {w : World} {t : TypeId} {fr : Nat × Nat} (ht : w.heap[6]? = some (.cells (Lib.pow10Tab.map fun z => Value.int .u64 z).toArray t fr)) : Lib.TabIs Tryz.prog w "internal/strconv.uint64pow10" .u64 Lib.pow10Tab := by
  unfold Lib.TabIs World.var?
  rw [Tryz.laysM171.m17]
  rw [Option.bind_some]
  show (match w.heap[6]? with | some (Obj.cells cs _ _) => some cs | _ => none) = _
  rw [ht]
theorem tl (a : ByteArray) : a.toList = a.data.toList := by
  have key : ∀ (n i : Nat) (r : List UInt8), a.size - i = n → ByteArray.toList.loop a i r = r.reverse ++ a.data.toList.drop i := by
    intro n
    induction n with
    | zero =>
      intro i r h
      unfold ByteArray.toList.loop
      have hl : a.data.toList.length = a.size := Array.length_toList
      rw [if_neg (by omega), List.drop_of_length_le (by omega)]; simp
    | succ n ih =>
      intro i r h
      unfold ByteArray.toList.loop
      have hl : a.data.toList.length = a.size := Array.length_toList
      have hi : i < a.data.toList.length := by omega
      rw [if_pos (by omega), ih (i + 1) _ (by omega), List.drop_eq_getElem_cons hi]
      have hg : a.get! i = a.data.toList[i] := by
        show a.data[i]! = _
        rw [getElem!_pos a.data i (by simpa using hi), Array.getElem_toList]
      rw [hg]; simp
  unfold ByteArray.toList
  rw [key _ 0 [] rfl]; simp
theorem tab_bytes {w : World} (hT : Lib.TabIs Tryz.prog w "internal/strconv.uint64pow10" .u64 Lib.pow10Tab) (hg : 6 < w.heap.size) (t : TypeId) {s : ByteArray} : Lib.TabIs Tryz.prog (Lib.bytesWorld w t s) "internal/strconv.uint64pow10" .u64 Lib.pow10Tab := by
  unfold Lib.TabIs World.var? at hT ⊢
  rw [Tryz.laysM171.m17] at hT ⊢
  rw [Option.bind_some] at hT ⊢
  rw [← hT]
  exact congrArg (fun x => match x with | some (Obj.cells cs _ _) => some cs | _ => none) (Lib.bytesWorld_at_old w t s _ hg)
set_option maxHeartbeats 4000000 in
set_option maxRecDepth 100000 in
theorem calls_ParseInt (a0 : ByteArray) (w : World) (hT : Lib.TabIs Tryz.prog w "internal/strconv.uint64pow10" .u64 Lib.pow10Tab) (hg : 6 < w.heap.size) (ev : Value) (hev : w.cell? ⟨4, 0, none⟩ = some ev) (hei : ev = .nilIface ∨ ∃ te pe, ev = .iface te pe) :
    Calls Tryz.prog 29 #[.string a0] w fun e w' => e = .returned (.tuple #[.int .i64 (parseI a0).1, .bool (parseI a0).2]) ∧ Below w.heap.size w w' := by
  by_cases hs : a0.size ≤ 7
  · cases ha : Lib.atoi a0.data.toList with
    | none =>
      have hp : parseI a0 = (0, false) := by unfold parseI; rw [if_pos hs, ha]
      rw [hp]
      go_enter Tryz.func29, Tryz.ntmps29
      go_wp2_with (first | (go_at_call 58; refine (Any.strconv_Atoi_err Tryz.laysC172 a0 (by omega) ha ev _ hev hei).mono ?_; rintro e w1 ⟨N, rfl, h1, h2, h3⟩))
      all_goals (first | (go_ret2; exact ⟨rfl, h3⟩) | (go_ret2; exact ⟨rfl, Below.refl _ _⟩) | trace_state)
    | some n =>
      have hv : parseI a0 = if (-999999 ≤ n ∧ n ≤ 999999) ∧ itoaB n = a0 then (n, true) else (0, false) := by unfold parseI; rw [if_pos hs, ha]
      have hb := Lib.atoi_bound ha (by rw [Array.length_toList]; exact Nat.le_trans hs (by decide))
      go_enter Tryz.func29, Tryz.ntmps29
      go_wp2_with (first
        | (go_at_call 58; refine (Any.strconv_Atoi Tryz.lays172 a0 n (by omega) ha _).mono ?_; rintro e w1 ⟨rfl, tt, rfl⟩)
        | (go_at_call 46; fail)
        | (go_at_call 24; go_in))
      · refine (Any.strconv_Itoa Tryz.laysM171 n (by omega) (by omega) _ (tab_bytes hT hg _)).mono ?_
        rintro e w2 ⟨rfl, k, os, rfl⟩
        have hbel : ∀ z, Below w.heap.size w (Sort.grow ((Lib.bytesWorld w (Tryz.lays172_ren.t 5) z).drewN k) os) := fun z => (Lib.bytesWorld_below _ _ _).trans ((below_grow _ k os).mono (Lib.bytesWorld_below _ _ _).size)
        go_wp2
        · rename_i hr1 hr2 hne
          rw [tl] at hne
          rw [hv, if_neg (fun h => by rw [← h.2] at hne; simp [itoaB] at hne)]
          go_ret2
          exact ⟨rfl, hbel _⟩
        · rename_i hr1 hr2 hne
          rw [tl] at hne
          rw [hv, if_pos ⟨⟨hr1, hr2⟩, by
            have e : Lib.itoa n = a0.data.toList := by simpa using hne
            unfold itoaB
            rw [e]⟩]
          go_ret2
          exact ⟨rfl, hbel _⟩
      · rename_i hr1 hr2
        try rw [hv, if_neg (fun h => by omega)]
        go_ret2
        exact ⟨rfl, Lib.bytesWorld_below _ _ _⟩
      · rename_i hr1
        try rw [hv, if_neg (fun h => by omega)]
        go_ret2
        exact ⟨rfl, Lib.bytesWorld_below _ _ _⟩
  · have hp : parseI a0 = (0, false) := by unfold parseI; rw [if_neg hs]
    rw [hp]
    go_enter Tryz.func29, Tryz.ntmps29
    go_wp2_with (exfalso; omega)
    go_ret2
    exact ⟨rfl, Below.refl _ _⟩
theorem ext_impl_ParseInt (a0 : ByteArray) : Spec Tryz.prog 29 [.v (.string a0)] [] (.tup [.v (.int .i64 (parseI a0).1), .bl (parseI a0).2]) [] :=
  spec_ext (vs := [.string a0]) fun w GB hL hB => by
    obtain ⟨⟨⟨_, _, te, pe, hev⟩, _⟩, hg, t, fr, ht⟩ := hL
    refine (calls_ParseInt a0 w (tab_of ht) (hB _ hg) _ hev (.inr ⟨te, pe, rfl⟩)).mono ?_
    rintro e w' ⟨rfl, hb⟩
    refine ⟨_, rfl, fun w S => ?_, hb⟩
    refine rt_tup (vs := [.int .i64 (parseI a0).1, .bool (parseI a0).2]) rfl fun i c x e1 e2 => ?_
    match i with
    | 0 => cases e1; cases e2; exact .v _
    | 1 => cases e1; cases e2; exact .bl _
    | i + 2 => cases e1
end Go.Proofs.YtaajchikfgbecaaGreatDoor
