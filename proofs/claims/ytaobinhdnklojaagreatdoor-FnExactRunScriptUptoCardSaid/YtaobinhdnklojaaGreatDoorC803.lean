/-
  Contracts, printed by a program.
-/
import Derived.Test.YtaobinhdnklojaaGreatDoorXJ
import Derived.Shelf.Strings.Split
import Derived.Shelf.Strconv.Atoi
import Derived.Shelf.Strconv.AtoiErr
import Derived.Lib.AtoiBound
import Derived.WalkKit
namespace Go.Proofs.YtaobinhdnklojaaGreatDoor
open Go.RowKit

/-- A text between its separators. -/
def splitB (s sep : ByteArray) : List ByteArray := Lib.splitB sep 0 (Lib.countB s sep) s
theorem splitB_pos (s sep : ByteArray) (h : 1 ≤ sep.size) : (splitB s sep).length = Lib.countB s sep + 1 := Lib.splitB_all sep h 0 _ s rfl
/-- A function of the library that gives back texts in a new row. -/
theorem spec_ext_strs {P : Program} {f : FuncId} {vs : List Value} {ty : TypeId} (xs : List ByteArray) (hl : xs.length ≤ bigLen)
    (hc : ∀ (w : World) (GB : Nat → Prop), Lw GB w → (∀ b, GB b → b < w.heap.size) → Calls P f vs.toArray w fun e w' => e = .returned (.slice (some ⟨w.heap.size, 0, none⟩) xs.length xs.length) ∧ w' = w.alloc (.cells (xs.map Value.string).toArray ty)) :
    Spec P f (vs.map AV.v) [] (.own 0) [some (.arr ty .str xs)] := by
  intro w GB V S0 args hLw hGB hHR hsz hargs
  have e : args = vs.toArray := by
    apply Array.ext'
    apply List.ext_getElem?
    intro i
    simp only [Array.getElem?_toList]
    rcases Nat.lt_or_ge i args.size with h | h
    · have e1 : args[i]? = some args[i] := Array.getElem?_eq_getElem h
      have h2 : i < vs.length := by rw [hsz, List.length_map] at h; exact h
      have e2 : (vs.map AV.v)[i]? = some (.v vs[i]) := by simp [h2]
      rw [e1, (hargs i _ _ e2 e1).v_inv]
      simp [h2]
    · rw [Array.getElem?_eq_none h]
      rw [hsz, List.length_map] at h
      simp [h]
  subst e
  refine (hc w GB hLw (fun b hb => (hGB b hb).1)).mono ?_
  rintro e w' ⟨rfl, rfl⟩
  have hbel : Below w.heap.size w (w.alloc (.cells (xs.map Value.string).toArray ty)) := (Below.refl _ _).alloc (Nat.le_refl _) _
  refine ⟨_, fun _ => ⟨w.heap.size, 1, xs.length, .slice (some ⟨w.heap.size, 0, none⟩) xs.length xs.length⟩, rfl, (Kept.refl _ w).below hbel, by simp, fun i hi => by simp at hi, ⟨?_, ?_, ?_⟩, ?_⟩
  · intro i j li lj h1 h2 hij
    match i, j with
    | 0, 0 => exact absurd rfl hij
    | 0, j + 1 => simp at h2
    | i + 1, _ => simp at h1
  · intro id lb h1
    match id with
    | id + 1 => simp at h1
    | 0 =>
      cases h1
      refine ⟨_, BlkR.newArr (cap := xs.length) (ty := ty) (t := .str) (xs := xs) (L := xs.map Value.string) (heap_alloc_new w _) rfl (Nat.le_refl _) (Nat.le_trans hl (by decide)) (by simp [Ty.n]) hl (by simp only [Ty.n, Nat.mul_one]; exact List.take_of_length_le (by simp only [List.length_map]; exact Nat.le_refl _)) fun k j c hk hj => ?_⟩
      have hj : ([AV.v (.string (List.getD xs k (Ty.dflt .str)))] : List AV)[j]? = some c := hj
      have hk : k < xs.length := hk
      match j, hj with
      | j + 1, hj => simp at hj
      | 0, hj =>
        have hj : AV.v (.string (List.getD xs k (Ty.dflt .str))) = c := Option.some.inj hj
        have e1 : List.getD xs k (Ty.dflt .str) = xs[k] := getD_eq xs k _ hk
        rw [e1] at hj
        subst hj
        refine ⟨.string xs[k], ?_, rfl, .v _⟩
        simp only [Ty.n, Nat.mul_one, Nat.add_zero]
        rw [List.getElem?_map, List.getElem?_eq_getElem hk]; rfl
  · intro id lb h1 h2
    exact absurd h2 (Nat.lt_irrefl _)
  · exact R.own 0 (by simp)
theorem ext_strings_Split (a0 a1 : ByteArray) (h : a0.size < 4294967281 ∧ 1 ≤ a1.size) : Spec Tryz.prog 55 [.v (.string a0), .v (.string a1)] [] (.own 0) [some (.arr 9 .str (splitB a0 a1))] := by
  have hle := Lib.countB_le a1 h.2 a0.size a0 (Nat.le_refl _)
  have hlen := splitB_pos a0 a1 h.2
  refine spec_ext_strs (vs := [.string a0, .string a1]) (splitB a0 a1) (by rw [hlen]; show _ ≤ 140737488355328; omega) fun w GB hL hB => ?_
  obtain ⟨⟨_, m, hm⟩, _⟩ := hL
  rw [hlen]
  exact Any.strings_Split Tryz.lays146 (by kernel_rfl) a0 a1 m w h.1 hm h.2

/-- The number with a decimal form. -/
def parseI (s : ByteArray) : Int × Bool :=
  if s.size ≤ 7 then
    match Lib.atoi s.data.toList with
    | some n => if (-999999 ≤ n ∧ n ≤ 999999) ∧ itoaB n = s then (n, true) else (0, false)
    | none => (0, false)
  else (0, false)
theorem tab_of {w : World} {t : TypeId} {fr : Nat × Nat} (ht : w.heap[1]? = some (.cells (Lib.pow10Tab.map fun z => Value.int .u64 z).toArray t fr)) : Lib.TabIs Tryz.prog w "internal/strconv.uint64pow10" .u64 Lib.pow10Tab := by
  unfold Lib.TabIs World.var?
  rw [Tryz.laysM171.m17]
  rw [Option.bind_some]
  show (match w.heap[1]? with | some (Obj.cells cs _ _) => some cs | _ => none) = _
  rw [ht]
theorem tl (a : ByteArray) : a.toList = a.data.toList := by
  have key : ∀ (n i : Nat) (r : List UInt8), a.size - i = n → ByteArray.toList.loop a i r = r.reverse ++ a.data.toList.drop i := by
    intro n
    induction n with
    | zero =>
      intro i r h
      unfold ByteArray.toList.loop
      have hl : a.data.toList.length = a.size := Array.length_toList
      rw [if_neg (by omega), List.drop_of_length_le (by omega)]; simp
    | succ n ih =>
      intro i r h
      unfold ByteArray.toList.loop
      have hl : a.data.toList.length = a.size := Array.length_toList
      have hi : i < a.data.toList.length := by omega
      rw [if_pos (by omega), ih (i + 1) _ (by omega), List.drop_eq_getElem_cons hi]
      have hg : a.get! i = a.data.toList[i] := by
        show a.data[i]! = _
        rw [getElem!_pos a.data i (by simpa using hi), Array.getElem_toList]
      rw [hg]; simp
  unfold ByteArray.toList
  rw [key _ 0 [] rfl]; simp
theorem tab_bytes {w : World} (hT : Lib.TabIs Tryz.prog w "internal/strconv.uint64pow10" .u64 Lib.pow10Tab) (hg : 1 < w.heap.size) (t : TypeId) {s : ByteArray} : Lib.TabIs Tryz.prog (Lib.bytesWorld w t s) "internal/strconv.uint64pow10" .u64 Lib.pow10Tab := by
  unfold Lib.TabIs World.var? at hT ⊢
  rw [Tryz.laysM171.m17] at hT ⊢
  rw [Option.bind_some] at hT ⊢
  rw [← hT]
  exact congrArg (fun x => match x with | some (Obj.cells cs _ _) => some cs | _ => none) (Lib.bytesWorld_at_old w t s _ hg)
set_option maxHeartbeats 4000000 in
set_option maxRecDepth 100000 in
theorem calls_ParseInt (a0 : ByteArray) (w : World) (hT : Lib.TabIs Tryz.prog w "internal/strconv.uint64pow10" .u64 Lib.pow10Tab) (hg : 1 < w.heap.size) (ev : Value) (hev : w.cell? ⟨2, 0, none⟩ = some ev) (hei : ev = .nilIface ∨ ∃ te pe, ev = .iface te pe) :
    Calls Tryz.prog 87 #[.string a0] w fun e w' => e = .returned (.tuple #[.int .i64 (parseI a0).1, .bool (parseI a0).2]) ∧ Below w.heap.size w w' := by
  by_cases hs : a0.size ≤ 7
  · cases ha : Lib.atoi a0.data.toList with
    | none =>
      have hp : parseI a0 = (0, false) := by unfold parseI; rw [if_pos hs, ha]
      rw [hp]
      go_enter Tryz.func87, Tryz.ntmps87
      go_wp2_with (first | (go_at_call 128; refine (Any.strconv_Atoi_err Tryz.laysC172 a0 (by omega) ha ev _ hev hei).mono ?_; rintro e w1 ⟨N, rfl, h1, h2, h3⟩))
      all_goals (first | (go_ret2; exact ⟨rfl, h3⟩) | (go_ret2; exact ⟨rfl, Below.refl _ _⟩) | trace_state)
    | some n =>
      have hv : parseI a0 = if (-999999 ≤ n ∧ n ≤ 999999) ∧ itoaB n = a0 then (n, true) else (0, false) := by unfold parseI; rw [if_pos hs, ha]
      have hb := Lib.atoi_bound ha (by rw [Array.length_toList]; exact Nat.le_trans hs (by decide))
      go_enter Tryz.func87, Tryz.ntmps87
      go_wp2_with (first
        | (go_at_call 128; refine (Any.strconv_Atoi Tryz.lays172 a0 n (by omega) ha _).mono ?_; rintro e w1 ⟨rfl, tt, rfl⟩)
        | (go_at_call 61; fail)
        | (go_at_call 70; go_in))
      · refine (Any.strconv_Itoa Tryz.laysM171 n (by omega) (by omega) _ (tab_bytes hT hg _)).mono ?_
        rintro e w2 ⟨rfl, k, os, rfl⟩
        have hbel : ∀ z, Below w.heap.size w (Sort.grow ((Lib.bytesWorld w (Tryz.lays172_ren.t 5) z).drewN k) os) := fun z => (Lib.bytesWorld_below _ _ _).trans ((below_grow _ k os).mono (Lib.bytesWorld_below _ _ _).size)
        go_wp2
        · rename_i hr1 hr2 hne
          rw [tl] at hne
          rw [hv, if_neg (fun h => by rw [← h.2] at hne; simp [itoaB] at hne)]
          go_ret2
          exact ⟨rfl, hbel _⟩
        · rename_i hr1 hr2 hne
          rw [tl] at hne
          rw [hv, if_pos ⟨⟨hr1, hr2⟩, by
            have e : Lib.itoa n = a0.data.toList := by simpa using hne
            unfold itoaB
            rw [e]⟩]
          go_ret2
          exact ⟨rfl, hbel _⟩
      · rename_i hr1 hr2
        try rw [hv, if_neg (fun h => by omega)]
        go_ret2
        exact ⟨rfl, Lib.bytesWorld_below _ _ _⟩
      · rename_i hr1
        try rw [hv, if_neg (fun h => by omega)]
        go_ret2
        exact ⟨rfl, Lib.bytesWorld_below _ _ _⟩
  · have hp : parseI a0 = (0, false) := by unfold parseI; rw [if_neg hs]
    rw [hp]
    go_enter Tryz.func87, Tryz.ntmps87
    go_wp2_with (exfalso; omega)
    go_ret2
    exact ⟨rfl, Below.refl _ _⟩
theorem ext_impl_ParseInt (a0 : ByteArray) : Spec Tryz.prog 87 [.v (.string a0)] [] (.tup [.v (.int .i64 (parseI a0).1), .bl (parseI a0).2]) [] :=
  spec_ext (vs := [.string a0]) fun w GB hL hB => by
    obtain ⟨⟨⟨_, _, te, pe, hev⟩, _⟩, hg, t, fr, ht⟩ := hL
    refine (calls_ParseInt a0 w (tab_of ht) (hB _ hg) _ hev (.inr ⟨te, pe, rfl⟩)).mono ?_
    rintro e w' ⟨rfl, hb⟩
    refine ⟨_, rfl, fun w S => ?_, hb⟩
    refine rt_tup (vs := [.int .i64 (parseI a0).1, .bool (parseI a0).2]) rfl fun i c x e1 e2 => ?_
    match i with
    | 0 => cases e1; cases e2; exact .v _
    | 1 => cases e1; cases e2; exact .bl _
    | i + 2 => cases e1
end Go.Proofs.YtaobinhdnklojaaGreatDoor

namespace Go.Proofs.YtaobinhdnklojaaGreatDoor
open Go.RowKit
set_option maxHeartbeats 100000000
set_option maxRecDepth 100000
attribute [local irreducible] Ob loopwp Sub Spec Fin Again CallW CutC KOb iter

noncomputable def laws_szSlotS (a0 : (List Slot)) (a1 : Int) : Option (Int) :=
  (cond (decide ((w64 (a1 - (a0.length : Int))) < (0 : Int))) ((some ((-1) : Int))) ((some (w64 (a1 - (a0.length : Int))))))
def laws_szSlotS.res (_ : (List Slot)) (_ : Int) (y : Int) : AV := (.v (.int .i64 y))
def laws_szSlotS.out (_ : (List Slot)) (_ : Int) (_ : Int) : List (Option LB) := []
def laws_szSlotS.S (ar : List AV) (h : List (Option LB)) (r : AV) (h1 : List (Option LB)) : Prop := ∃ a0 a1 y, laws_szSlotS a0 a1 = some y ∧ leL ar [(.tree ty_Slot a0), (.v (.int .i64 a1))] ∧ leH h [] ∧ r = laws_szSlotS.res a0 a1 y ∧ h1 = laws_szSlotS.out a0 a1 y
theorem laws_szSlotS.call {ar : List AV} {h : List (Option LB)} {a0 : (List Slot)} {a1 : Int} {y : Int} (H : laws_szSlotS a0 a1 = some y) (h0 : leLk ar [(.tree ty_Slot a0), (.v (.int .i64 a1))] (leHk h [])) : laws_szSlotS.S ar h (laws_szSlotS.res a0 a1 y) (laws_szSlotS.out a0 a1 y) := ⟨a0, a1, y, H, (args_ok h0).1, (args_ok h0).2, rfl, rfl⟩
theorem laws_szSlotS.spec (a0 : (List Slot)) (a1 : Int) (y : Int) (H : laws_szSlotS a0 a1 = some y) : Spec Tryz.prog 74 [(.tree ty_Slot a0), (.v (.int .i64 a1))] [] (laws_szSlotS.res a0 a1 y) (laws_szSlotS.out a0 a1 y) := by
  refine spec_intro (G0_ok.at tok []) (ct := []) Tryz.func74 rfl (by kernel_rfl) (by kernel_rfl) rfl ?_
  repeat' first
    | ((with_reducible refine eqg ?_); exact rfl)
    | ((with_reducible refine KOb.mk ?_); kernel_rfl)
    | ((with_reducible intro h); (repeat first | replace H := grd_k H | replace H := out_step H ‹_›); first | replace H := cond_t h H | replace H := cond_f h H | exact absurd h (by decide) | skip)
    | ((with_reducible refine Ob.mk ?_); first | (with_reducible rfl) | (first | ((repeat (first | (with_reducible exact grd_p H) | replace H := grd_k H | replace H := out_step H ‹_›)); done) | rfl | ((repeat (first | exact grd_p H | (have hp := grd_p H; exact hp) | replace H := grd_k H | replace H := out_step H ‹_› | (replace H := bind_some H; obtain ⟨_, _, H⟩ := H))); done) | (repeat (first | exact grd_p H | replace H := grd_k H | replace H := out_step H ‹_›))))
    | (with_reducible exact True.intro)
    | ((conv => whnf); first
        | (with_reducible refine And.intro ?_ ?_)
        | (with_reducible exact True.intro)
        | (with_reducible refine (?_ : Ob _))
        | ((with_reducible refine fin_mk ?_); (repeat first | replace H := grd_k H | replace H := out_step H ‹_›); have H := Option.some.inj H; subst H))
    | constructor
def G1 : Env := G0.add 74 [] laws_szSlotS.S
theorem G1_ok : EnvOk Tryz.prog G1 := G0_ok.add ent_74 fun ar h r h1 ⟨a0, a1, y, hy, e1, e2, e3, e4⟩ => by
  subst e3 e4; exact (laws_szSlotS.spec a0 a1 y hy).le e1 e2
attribute [local irreducible] laws_szSlotS

noncomputable def laws_szRopeway (a0 : Ropeway) (a1 : Int) : Option (Int) :=
  ((laws_szSlotS a0.2.1 a1).bind fun y1 => (cond (decide (y1 < (0 : Int))) ((some ((-1) : Int))) ((some y1))))
def laws_szRopeway.res (_ : Ropeway) (_ : Int) (y : Int) : AV := (.v (.int .i64 y))
def laws_szRopeway.out (_ : Ropeway) (_ : Int) (_ : Int) : List (Option LB) := []
def laws_szRopeway.S (ar : List AV) (h : List (Option LB)) (r : AV) (h1 : List (Option LB)) : Prop := ∃ a0 a1 y, laws_szRopeway a0 a1 = some y ∧ leL ar [(.agg [(.v (.int .i64 a0.1)), (.tree ty_Slot a0.2.1), (.v (.int .i64 a0.2.2.1)), (.v (.int .i64 a0.2.2.2.1)), (.v (.int .i64 a0.2.2.2.2.1))]), (.v (.int .i64 a1))] ∧ leH h [] ∧ r = laws_szRopeway.res a0 a1 y ∧ h1 = laws_szRopeway.out a0 a1 y
theorem laws_szRopeway.call {ar : List AV} {h : List (Option LB)} {a0 : Ropeway} {a1 : Int} {y : Int} (H : laws_szRopeway a0 a1 = some y) (h0 : leLk ar [(.agg [(.v (.int .i64 a0.1)), (.tree ty_Slot a0.2.1), (.v (.int .i64 a0.2.2.1)), (.v (.int .i64 a0.2.2.2.1)), (.v (.int .i64 a0.2.2.2.2.1))]), (.v (.int .i64 a1))] (leHk h [])) : laws_szRopeway.S ar h (laws_szRopeway.res a0 a1 y) (laws_szRopeway.out a0 a1 y) := ⟨a0, a1, y, H, (args_ok h0).1, (args_ok h0).2, rfl, rfl⟩
theorem laws_szRopeway.spec (a0 : Ropeway) (a1 : Int) (y : Int) (H : laws_szRopeway a0 a1 = some y) : Spec Tryz.prog 38 [(.agg [(.v (.int .i64 a0.1)), (.tree ty_Slot a0.2.1), (.v (.int .i64 a0.2.2.1)), (.v (.int .i64 a0.2.2.2.1)), (.v (.int .i64 a0.2.2.2.2.1))]), (.v (.int .i64 a1))] [] (laws_szRopeway.res a0 a1 y) (laws_szRopeway.out a0 a1 y) := by
  refine spec_intro (G1_ok.at tok []) (ct := []) Tryz.func38 rfl (by kernel_rfl) (by kernel_rfl) rfl ?_
  repeat' first
    | ((with_reducible refine eqg ?_); exact rfl)
    | ((with_reducible refine KOb.mk ?_); kernel_rfl)
    | ((with_reducible intro h); (repeat first | replace H := grd_k H | replace H := out_step H ‹_›); first | replace H := cond_t h H | replace H := cond_f h H | exact absurd h (by decide) | skip)
    | ((with_reducible refine Ob.mk ?_); first | (with_reducible rfl) | (first | ((repeat (first | (with_reducible exact grd_p H) | replace H := grd_k H | replace H := out_step H ‹_›)); done) | rfl | ((repeat (first | exact grd_p H | (have hp := grd_p H; exact hp) | replace H := grd_k H | replace H := out_step H ‹_› | (replace H := bind_some H; obtain ⟨_, _, H⟩ := H))); done) | (repeat (first | exact grd_p H | replace H := grd_k H | replace H := out_step H ‹_›))))
    | (with_reducible exact True.intro)
    | ((conv => whnf); first
        | (with_reducible refine And.intro ?_ ?_)
        | (with_reducible exact True.intro)
        | (with_reducible refine (?_ : Ob _))
        | ((with_reducible refine CallW.mk ?_); (repeat first | replace H := grd_k H | replace H := out_step H ‹_›); replace H := bind_some H; obtain ⟨y, hy, H⟩ := H; first | ((with_reducible have hz : laws_szSlotS _ _ = some y := hy); clear hz; refine ⟨_, _, laws_szSlotS.call hy ?_, rfl, rfl, ?_⟩))
        | ((with_reducible refine fin_mk ?_); (repeat first | replace H := grd_k H | replace H := out_step H ‹_›); have H := Option.some.inj H; subst H))
    | constructor
def G2 : Env := G1.add 38 [] laws_szRopeway.S
theorem G2_ok : EnvOk Tryz.prog G2 := G1_ok.add ent_38 fun ar h r h1 ⟨a0, a1, y, hy, e1, e2, e3, e4⟩ => by
  subst e3 e4; exact (laws_szRopeway.spec a0 a1 y hy).le e1 e2
attribute [local irreducible] laws_szRopeway

noncomputable def laws_szLog (a0 : Log) (a1 : Int) : Option (Int) :=
  (cond (decide ((w64 (a1 - (a0.1.size : Int))) < (0 : Int))) ((some ((-1) : Int))) (cond (decide ((w64 ((w64 (a1 - (a0.1.size : Int))) - (a0.2.1.size : Int))) < (0 : Int))) ((some ((-1) : Int))) ((some (w64 ((w64 (a1 - (a0.1.size : Int))) - (a0.2.1.size : Int)))))))
def laws_szLog.res (_ : Log) (_ : Int) (y : Int) : AV := (.v (.int .i64 y))
def laws_szLog.out (_ : Log) (_ : Int) (_ : Int) : List (Option LB) := []
def laws_szLog.S (ar : List AV) (h : List (Option LB)) (r : AV) (h1 : List (Option LB)) : Prop := ∃ a0 a1 y, laws_szLog a0 a1 = some y ∧ leL ar [(.agg [(.v (.string a0.1)), (.v (.string a0.2.1)), (.v (.int .i64 a0.2.2.1))]), (.v (.int .i64 a1))] ∧ leH h [] ∧ r = laws_szLog.res a0 a1 y ∧ h1 = laws_szLog.out a0 a1 y
theorem laws_szLog.call {ar : List AV} {h : List (Option LB)} {a0 : Log} {a1 : Int} {y : Int} (H : laws_szLog a0 a1 = some y) (h0 : leLk ar [(.agg [(.v (.string a0.1)), (.v (.string a0.2.1)), (.v (.int .i64 a0.2.2.1))]), (.v (.int .i64 a1))] (leHk h [])) : laws_szLog.S ar h (laws_szLog.res a0 a1 y) (laws_szLog.out a0 a1 y) := ⟨a0, a1, y, H, (args_ok h0).1, (args_ok h0).2, rfl, rfl⟩
theorem laws_szLog.spec (a0 : Log) (a1 : Int) (y : Int) (H : laws_szLog a0 a1 = some y) : Spec Tryz.prog 8 [(.agg [(.v (.string a0.1)), (.v (.string a0.2.1)), (.v (.int .i64 a0.2.2.1))]), (.v (.int .i64 a1))] [] (laws_szLog.res a0 a1 y) (laws_szLog.out a0 a1 y) := by
  refine spec_intro (G2_ok.at tok []) (ct := [(5, some [1])]) Tryz.func8 rfl (by kernel_rfl) (by kernel_rfl) rfl ?_
  repeat' first
    | ((with_reducible refine eqg ?_); exact rfl)
    | ((with_reducible refine KOb.mk ?_); kernel_rfl)
    | ((with_reducible intro h); (repeat first | replace H := grd_k H | replace H := out_step H ‹_›); first | replace H := cond_t h H | replace H := cond_f h H | exact absurd h (by decide) | skip)
    | ((with_reducible refine Ob.mk ?_); first | (with_reducible rfl) | (first | ((repeat (first | (with_reducible exact grd_p H) | replace H := grd_k H | replace H := out_step H ‹_›)); done) | rfl | ((repeat (first | exact grd_p H | (have hp := grd_p H; exact hp) | replace H := grd_k H | replace H := out_step H ‹_› | (replace H := bind_some H; obtain ⟨_, _, H⟩ := H))); done) | (repeat (first | exact grd_p H | replace H := grd_k H | replace H := out_step H ‹_›))))
    | (with_reducible exact True.intro)
    | ((conv => whnf); first
        | (with_reducible refine And.intro ?_ ?_)
        | (with_reducible exact True.intro)
        | (with_reducible refine (?_ : Ob _))
        | ((with_reducible refine fin_mk ?_); (repeat first | replace H := grd_k H | replace H := out_step H ‹_›); have H := Option.some.inj H; subst H))
    | constructor
def G3 : Env := G2.add 8 [] laws_szLog.S
theorem G3_ok : EnvOk Tryz.prog G3 := G2_ok.add ent_8 fun ar h r h1 ⟨a0, a1, y, hy, e1, e2, e3, e4⟩ => by
  subst e3 e4; exact (laws_szLog.spec a0 a1 y hy).le e1 e2
attribute [local irreducible] laws_szLog

noncomputable def laws_szConsole (a0 : Console) (a1 : Int) : Option (Int) :=
  ((laws_szRopeway (a0.1.1, a0.1.2.1, a0.1.2.2.1, a0.1.2.2.2.1, a0.1.2.2.2.2.1, ()) a1).bind fun y1 => (cond (decide (y1 < (0 : Int))) ((some ((-1) : Int))) ((laws_szLog (a0.2.1.1, a0.2.1.2.1, a0.2.1.2.2.1, ()) y1).bind fun y2 => (cond (decide (y2 < (0 : Int))) ((some ((-1) : Int))) ((some y2))))))
def laws_szConsole.res (_ : Console) (_ : Int) (y : Int) : AV := (.v (.int .i64 y))
def laws_szConsole.out (_ : Console) (_ : Int) (_ : Int) : List (Option LB) := []
def laws_szConsole.S (ar : List AV) (h : List (Option LB)) (r : AV) (h1 : List (Option LB)) : Prop := ∃ a0 a1 y, laws_szConsole a0 a1 = some y ∧ leL ar [(.agg [(.v (.int .i64 a0.1.1)), (.tree ty_Slot a0.1.2.1), (.v (.int .i64 a0.1.2.2.1)), (.v (.int .i64 a0.1.2.2.2.1)), (.v (.int .i64 a0.1.2.2.2.2.1)), (.v (.string a0.2.1.1)), (.v (.string a0.2.1.2.1)), (.v (.int .i64 a0.2.1.2.2.1))]), (.v (.int .i64 a1))] ∧ leH h [] ∧ r = laws_szConsole.res a0 a1 y ∧ h1 = laws_szConsole.out a0 a1 y
theorem laws_szConsole.call {ar : List AV} {h : List (Option LB)} {a0 : Console} {a1 : Int} {y : Int} (H : laws_szConsole a0 a1 = some y) (h0 : leLk ar [(.agg [(.v (.int .i64 a0.1.1)), (.tree ty_Slot a0.1.2.1), (.v (.int .i64 a0.1.2.2.1)), (.v (.int .i64 a0.1.2.2.2.1)), (.v (.int .i64 a0.1.2.2.2.2.1)), (.v (.string a0.2.1.1)), (.v (.string a0.2.1.2.1)), (.v (.int .i64 a0.2.1.2.2.1))]), (.v (.int .i64 a1))] (leHk h [])) : laws_szConsole.S ar h (laws_szConsole.res a0 a1 y) (laws_szConsole.out a0 a1 y) := ⟨a0, a1, y, H, (args_ok h0).1, (args_ok h0).2, rfl, rfl⟩
theorem laws_szConsole.spec (a0 : Console) (a1 : Int) (y : Int) (H : laws_szConsole a0 a1 = some y) : Spec Tryz.prog 12 [(.agg [(.v (.int .i64 a0.1.1)), (.tree ty_Slot a0.1.2.1), (.v (.int .i64 a0.1.2.2.1)), (.v (.int .i64 a0.1.2.2.2.1)), (.v (.int .i64 a0.1.2.2.2.2.1)), (.v (.string a0.2.1.1)), (.v (.string a0.2.1.2.1)), (.v (.int .i64 a0.2.1.2.2.1))]), (.v (.int .i64 a1))] [] (laws_szConsole.res a0 a1 y) (laws_szConsole.out a0 a1 y) := by
  refine spec_intro (G3_ok.at tok []) (ct := [(5, some [1])]) Tryz.func12 rfl (by kernel_rfl) (by kernel_rfl) rfl ?_
  repeat' first
    | ((with_reducible refine eqg ?_); exact rfl)
    | ((with_reducible refine KOb.mk ?_); kernel_rfl)
    | ((with_reducible intro h); (repeat first | replace H := grd_k H | replace H := out_step H ‹_›); first | replace H := cond_t h H | replace H := cond_f h H | exact absurd h (by decide) | skip)
    | ((with_reducible refine Ob.mk ?_); first | (with_reducible rfl) | (first | ((repeat (first | (with_reducible exact grd_p H) | replace H := grd_k H | replace H := out_step H ‹_›)); done) | rfl | ((repeat (first | exact grd_p H | (have hp := grd_p H; exact hp) | replace H := grd_k H | replace H := out_step H ‹_› | (replace H := bind_some H; obtain ⟨_, _, H⟩ := H))); done) | (repeat (first | exact grd_p H | replace H := grd_k H | replace H := out_step H ‹_›))))
    | (with_reducible exact True.intro)
    | ((conv => whnf); first
        | (with_reducible refine And.intro ?_ ?_)
        | (with_reducible exact True.intro)
        | (with_reducible refine (?_ : Ob _))
        | ((with_reducible refine CallW.mk ?_); (repeat first | replace H := grd_k H | replace H := out_step H ‹_›); replace H := bind_some H; obtain ⟨y, hy, H⟩ := H; first | ((with_reducible have hz : laws_szRopeway _ _ = some y := hy); clear hz; refine ⟨_, _, laws_szRopeway.call hy ?_, rfl, rfl, ?_⟩) | ((with_reducible have hz : laws_szLog _ _ = some y := hy); clear hz; refine ⟨_, _, laws_szLog.call hy ?_, rfl, rfl, ?_⟩))
        | ((with_reducible refine fin_mk ?_); (repeat first | replace H := grd_k H | replace H := out_step H ‹_›); have H := Option.some.inj H; subst H))
    | constructor
def G4 : Env := G3.add 12 [] laws_szConsole.S
theorem G4_ok : EnvOk Tryz.prog G4 := G3_ok.add ent_12 fun ar h r h1 ⟨a0, a1, y, hy, e1, e2, e3, e4⟩ => by
  subst e3 e4; exact (laws_szConsole.spec a0 a1 y hy).le e1 e2
attribute [local irreducible] laws_szConsole

noncomputable def laws_toSlot (a0 : Slot) : Option (Slot) :=
  (some (a0.1, a0.2.1, a0.2.2.1, ()))
def laws_toSlot.res (_ : Slot) (y : Slot) : AV := (.agg [(.v (.int .i64 y.1)), (.bl y.2.1), (.v (.int .i64 y.2.2.1))])
def laws_toSlot.out (_ : Slot) (_ : Slot) : List (Option LB) := []
def laws_toSlot.S (ar : List AV) (h : List (Option LB)) (r : AV) (h1 : List (Option LB)) : Prop := ∃ a0 y, laws_toSlot a0 = some y ∧ leL ar [(.agg [(.v (.int .i64 a0.1)), (.bl a0.2.1), (.v (.int .i64 a0.2.2.1))])] ∧ leH h [] ∧ r = laws_toSlot.res a0 y ∧ h1 = laws_toSlot.out a0 y
theorem laws_toSlot.call {ar : List AV} {h : List (Option LB)} {a0 : Slot} {y : Slot} (H : laws_toSlot a0 = some y) (h0 : leLk ar [(.agg [(.v (.int .i64 a0.1)), (.bl a0.2.1), (.v (.int .i64 a0.2.2.1))])] (leHk h [])) : laws_toSlot.S ar h (laws_toSlot.res a0 y) (laws_toSlot.out a0 y) := ⟨a0, y, H, (args_ok h0).1, (args_ok h0).2, rfl, rfl⟩
theorem laws_toSlot.spec (a0 : Slot) (y : Slot) (H : laws_toSlot a0 = some y) : Spec Tryz.prog 123 [(.agg [(.v (.int .i64 a0.1)), (.bl a0.2.1), (.v (.int .i64 a0.2.2.1))])] [] (laws_toSlot.res a0 y) (laws_toSlot.out a0 y) := by
  refine spec_intro (G4_ok.at tok []) (ct := []) Tryz.func123 rfl (by kernel_rfl) (by kernel_rfl) rfl ?_
  repeat' first
    | ((with_reducible refine eqg ?_); exact rfl)
    | ((with_reducible refine KOb.mk ?_); kernel_rfl)
    | ((with_reducible intro h); (repeat first | replace H := grd_k H | replace H := out_step H ‹_›); first | replace H := cond_t h H | replace H := cond_f h H | exact absurd h (by decide) | skip)
    | ((with_reducible refine Ob.mk ?_); first | (with_reducible rfl) | (first | ((repeat (first | (with_reducible exact grd_p H) | replace H := grd_k H | replace H := out_step H ‹_›)); done) | rfl | ((repeat (first | exact grd_p H | (have hp := grd_p H; exact hp) | replace H := grd_k H | replace H := out_step H ‹_› | (replace H := bind_some H; obtain ⟨_, _, H⟩ := H))); done) | (repeat (first | exact grd_p H | replace H := grd_k H | replace H := out_step H ‹_›))))
    | (with_reducible exact True.intro)
    | ((conv => whnf); first
        | (with_reducible refine And.intro ?_ ?_)
        | (with_reducible exact True.intro)
        | (with_reducible refine (?_ : Ob _))
        | ((with_reducible refine fin_mk ?_); (repeat first | replace H := grd_k H | replace H := out_step H ‹_›); have H := Option.some.inj H; subst H))
    | constructor
def G5 : Env := G4.add 123 [] laws_toSlot.S
theorem G5_ok : EnvOk Tryz.prog G5 := G4_ok.add ent_123 fun ar h r h1 ⟨a0, y, hy, e1, e2, e3, e4⟩ => by
  subst e3 e4; exact (laws_toSlot.spec a0 y hy).le e1 e2
attribute [local irreducible] laws_toSlot

noncomputable def laws_toSlotS_loop1 (a0 : (List Slot)) (v5 : Int) (v6 : (List Slot)) : Option (Lp (Int × (List Slot)) (((List Slot)))) :=
  (cond (decide (v5 < (a0.length : Int))) (grd (0 ≤ v5 ∧ v5 < (a0.length : Int)) ((laws_toSlot ((a0.getD v5.toNat d_Slot).1, (a0.getD v5.toNat d_Slot).2.1, (a0.getD v5.toNat d_Slot).2.2.1, ())).bind fun y7 => (grd (0 ≤ v5 ∧ v5 < (v6.length : Int)) (some (.go ((w64 (v5 + (1 : Int))), (v6.set v5.toNat (y7.1, y7.2.1, y7.2.2.1, ())))))))) ((some (.out v6))))
noncomputable def laws_toSlotS (a0 : (List Slot)) : Option ((List Slot)) :=
  (grd (0 ≤ (a0.length : Int) ∧ (a0.length : Int) ≤ (a0.length : Int) ∧ (24 : Int) * (a0.length : Int) ≤ 140737488355328 ∧ (a0.length : Int) ≤ 140737488355328) ((iter (fun s => laws_toSlotS_loop1 a0 s.1 s.2) ((0 : Int), (List.replicate (a0.length : Int).toNat ((0 : Int), false, (0 : Int), ())))).bind (fun r8 => (some r8))))
def laws_toSlotS.res (_ : (List Slot)) (_ : (List Slot)) : AV := (.own 0)
def laws_toSlotS.out (_ : (List Slot)) (y : (List Slot)) : List (Option LB) := [some (.arr 96 ty_Slot y)]
def laws_toSlotS.S (ar : List AV) (h : List (Option LB)) (r : AV) (h1 : List (Option LB)) : Prop := ∃ a0 y, laws_toSlotS a0 = some y ∧ leL ar [(.tree ty_Slot a0)] ∧ leH h [] ∧ r = laws_toSlotS.res a0 y ∧ h1 = laws_toSlotS.out a0 y
theorem laws_toSlotS.call {ar : List AV} {h : List (Option LB)} {a0 : (List Slot)} {y : (List Slot)} (H : laws_toSlotS a0 = some y) (h0 : leLk ar [(.tree ty_Slot a0)] (leHk h [])) : laws_toSlotS.S ar h (laws_toSlotS.res a0 y) (laws_toSlotS.out a0 y) := ⟨a0, y, H, (args_ok h0).1, (args_ok h0).2, rfl, rfl⟩
theorem laws_toSlotS.spec (a0 : (List Slot)) (y : (List Slot)) (H : laws_toSlotS a0 = some y) : Spec Tryz.prog 83 [(.tree ty_Slot a0)] [] (laws_toSlotS.res a0 y) (laws_toSlotS.out a0 y) := by
  refine spec_intro (G5_ok.at tok []) (ct := []) Tryz.func83 rfl (by kernel_rfl) (by kernel_rfl) rfl ?_
  repeat' first
    | ((with_reducible refine eqg ?_); exact rfl)
    | ((with_reducible refine KOb.mk ?_); kernel_rfl)
    | ((with_reducible intro h); (repeat first | replace H := grd_k H | replace H := out_step H ‹_›); first | replace H := cond_t h H | replace H := cond_f h H | exact absurd h (by decide) | skip)
    | ((with_reducible refine Ob.mk ?_); first | (with_reducible rfl) | (first | ((repeat (first | (with_reducible exact grd_p H) | replace H := grd_k H | replace H := out_step H ‹_›)); done) | rfl | ((repeat (first | exact grd_p H | (have hp := grd_p H; exact hp) | replace H := grd_k H | replace H := out_step H ‹_› | (replace H := bind_some H; obtain ⟨_, _, H⟩ := H))); done) | (repeat (first | exact grd_p H | replace H := grd_k H | replace H := out_step H ‹_›))))
    | (with_reducible exact True.intro)
    | ((conv => whnf); first
        | (with_reducible refine And.intro ?_ ?_)
        | (with_reducible exact True.intro)
        | (with_reducible refine (?_ : Ob _))
        | ((with_reducible refine CallW.mk ?_); (repeat first | replace H := grd_k H | replace H := out_step H ‹_›); replace H := bind_some H; obtain ⟨y, hy, H⟩ := H; first | ((with_reducible have hz : laws_toSlot _ = some y := hy); clear hz; refine ⟨_, _, laws_toSlot.call hy ?_, rfl, rfl, ?_⟩))
        | ((repeat first | replace H := grd_k H | replace H := out_step H ‹_›); refine loop_iter (G5_ok.at tok []) (ct := []) (F := (fun s1 : Int × (List Slot) => ⟨sl [(0, (.tree ty_Slot a0)), (3, (.own 0)), (4, (.v (.int .i64 s1.1)))], [some (.arr 96 ty_Slot s1.2)]⟩)) (step := (fun s : Int × (List Slot) => laws_toSlotS_loop1 _ s.1 s.2)) _ H (by kernel_rfl) (sub_auto ?_) ?_; rotate_left; (intro s1 r v hr H); rotate_right)
        | ((repeat first | replace H := grd_k H | replace H := out_step H ‹_›); refine again_step H (by assumption) (sub_auto ?_))
        | ((with_reducible refine fin_mk ?_); (repeat first | replace H := grd_k H | replace H := out_step H ‹_›); have H := Option.some.inj H; subst H))
    | constructor
def G6 : Env := G5.add 83 [] laws_toSlotS.S
theorem G6_ok : EnvOk Tryz.prog G6 := G5_ok.add ent_83 fun ar h r h1 ⟨a0, y, hy, e1, e2, e3, e4⟩ => by
  subst e3 e4; exact (laws_toSlotS.spec a0 y hy).le e1 e2
attribute [local irreducible] laws_toSlotS

end Go.Proofs.YtaobinhdnklojaaGreatDoor
namespace Go.Proofs.YtaobinhdnklojaaGreatDoor
open Go.RowKit
set_option maxHeartbeats 100000000
set_option maxRecDepth 100000
attribute [local irreducible] Ob loopwp Sub Spec Fin Again CallW CutC KOb iter

attribute [local irreducible] laws_toSlotS

noncomputable def laws_toRopeway (a0 : Ropeway) : Option (Ropeway) :=
  ((laws_toSlotS a0.2.1).bind fun y1 => (some (a0.1, y1, a0.2.2.1, a0.2.2.2.1, a0.2.2.2.2.1, ())))
def laws_toRopeway.res (_ : Ropeway) (y : Ropeway) : AV := (.agg [(.v (.int .i64 y.1)), (.own 0), (.v (.int .i64 y.2.2.1)), (.v (.int .i64 y.2.2.2.1)), (.v (.int .i64 y.2.2.2.2.1))])
def laws_toRopeway.out (_ : Ropeway) (y : Ropeway) : List (Option LB) := [some (.arr 96 ty_Slot y.2.1)]
def laws_toRopeway.S (ar : List AV) (h : List (Option LB)) (r : AV) (h1 : List (Option LB)) : Prop := ∃ a0 y, laws_toRopeway a0 = some y ∧ leL ar [(.agg [(.v (.int .i64 a0.1)), (.tree ty_Slot a0.2.1), (.v (.int .i64 a0.2.2.1)), (.v (.int .i64 a0.2.2.2.1)), (.v (.int .i64 a0.2.2.2.2.1))])] ∧ leH h [] ∧ r = laws_toRopeway.res a0 y ∧ h1 = laws_toRopeway.out a0 y
theorem laws_toRopeway.call {ar : List AV} {h : List (Option LB)} {a0 : Ropeway} {y : Ropeway} (H : laws_toRopeway a0 = some y) (h0 : leLk ar [(.agg [(.v (.int .i64 a0.1)), (.tree ty_Slot a0.2.1), (.v (.int .i64 a0.2.2.1)), (.v (.int .i64 a0.2.2.2.1)), (.v (.int .i64 a0.2.2.2.2.1))])] (leHk h [])) : laws_toRopeway.S ar h (laws_toRopeway.res a0 y) (laws_toRopeway.out a0 y) := ⟨a0, y, H, (args_ok h0).1, (args_ok h0).2, rfl, rfl⟩
theorem laws_toRopeway.spec (a0 : Ropeway) (y : Ropeway) (H : laws_toRopeway a0 = some y) : Spec Tryz.prog 44 [(.agg [(.v (.int .i64 a0.1)), (.tree ty_Slot a0.2.1), (.v (.int .i64 a0.2.2.1)), (.v (.int .i64 a0.2.2.2.1)), (.v (.int .i64 a0.2.2.2.2.1))])] [] (laws_toRopeway.res a0 y) (laws_toRopeway.out a0 y) := by
  refine spec_intro (G6_ok.at tok []) (ct := [(6, some [1, 2, 3])]) Tryz.func44 rfl (by kernel_rfl) (by kernel_rfl) rfl ?_
  repeat' first
    | ((with_reducible refine eqg ?_); exact rfl)
    | ((with_reducible refine KOb.mk ?_); kernel_rfl)
    | ((with_reducible intro h); (repeat first | replace H := grd_k H | replace H := out_step H ‹_›); first | replace H := cond_t h H | replace H := cond_f h H | exact absurd h (by decide) | skip)
    | ((with_reducible refine Ob.mk ?_); first | (with_reducible rfl) | (first | ((repeat (first | (with_reducible exact grd_p H) | replace H := grd_k H | replace H := out_step H ‹_›)); done) | rfl | ((repeat (first | exact grd_p H | (have hp := grd_p H; exact hp) | replace H := grd_k H | replace H := out_step H ‹_› | (replace H := bind_some H; obtain ⟨_, _, H⟩ := H))); done) | (repeat (first | exact grd_p H | replace H := grd_k H | replace H := out_step H ‹_›))))
    | (with_reducible exact True.intro)
    | ((conv => whnf); first
        | (with_reducible refine And.intro ?_ ?_)
        | (with_reducible exact True.intro)
        | (with_reducible refine (?_ : Ob _))
        | ((with_reducible refine CallW.mk ?_); (repeat first | replace H := grd_k H | replace H := out_step H ‹_›); replace H := bind_some H; obtain ⟨y, hy, H⟩ := H; first | ((with_reducible have hz : laws_toSlotS _ = some y := hy); clear hz; refine ⟨_, _, laws_toSlotS.call hy ?_, rfl, rfl, ?_⟩))
        | ((with_reducible refine fin_mk ?_); (repeat first | replace H := grd_k H | replace H := out_step H ‹_›); have H := Option.some.inj H; subst H))
    | constructor
def G7 : Env := G6.add 44 [] laws_toRopeway.S
theorem G7_ok : EnvOk Tryz.prog G7 := G6_ok.add ent_44 fun ar h r h1 ⟨a0, y, hy, e1, e2, e3, e4⟩ => by
  subst e3 e4; exact (laws_toRopeway.spec a0 y hy).le e1 e2
attribute [local irreducible] laws_toRopeway

noncomputable def laws_toLog (a0 : Log) : Option (Log) :=
  (some (a0.1, a0.2.1, a0.2.2.1, ()))
def laws_toLog.res (_ : Log) (y : Log) : AV := (.agg [(.v (.string y.1)), (.v (.string y.2.1)), (.v (.int .i64 y.2.2.1))])
def laws_toLog.out (_ : Log) (_ : Log) : List (Option LB) := []
def laws_toLog.S (ar : List AV) (h : List (Option LB)) (r : AV) (h1 : List (Option LB)) : Prop := ∃ a0 y, laws_toLog a0 = some y ∧ leL ar [(.agg [(.v (.string a0.1)), (.v (.string a0.2.1)), (.v (.int .i64 a0.2.2.1))])] ∧ leH h [] ∧ r = laws_toLog.res a0 y ∧ h1 = laws_toLog.out a0 y
theorem laws_toLog.call {ar : List AV} {h : List (Option LB)} {a0 : Log} {y : Log} (H : laws_toLog a0 = some y) (h0 : leLk ar [(.agg [(.v (.string a0.1)), (.v (.string a0.2.1)), (.v (.int .i64 a0.2.2.1))])] (leHk h [])) : laws_toLog.S ar h (laws_toLog.res a0 y) (laws_toLog.out a0 y) := ⟨a0, y, H, (args_ok h0).1, (args_ok h0).2, rfl, rfl⟩
theorem laws_toLog.spec (a0 : Log) (y : Log) (H : laws_toLog a0 = some y) : Spec Tryz.prog 10 [(.agg [(.v (.string a0.1)), (.v (.string a0.2.1)), (.v (.int .i64 a0.2.2.1))])] [] (laws_toLog.res a0 y) (laws_toLog.out a0 y) := by
  refine spec_intro (G7_ok.at tok []) (ct := []) Tryz.func10 rfl (by kernel_rfl) (by kernel_rfl) rfl ?_
  repeat' first
    | ((with_reducible refine eqg ?_); exact rfl)
    | ((with_reducible refine KOb.mk ?_); kernel_rfl)
    | ((with_reducible intro h); (repeat first | replace H := grd_k H | replace H := out_step H ‹_›); first | replace H := cond_t h H | replace H := cond_f h H | exact absurd h (by decide) | skip)
    | ((with_reducible refine Ob.mk ?_); first | (with_reducible rfl) | (first | ((repeat (first | (with_reducible exact grd_p H) | replace H := grd_k H | replace H := out_step H ‹_›)); done) | rfl | ((repeat (first | exact grd_p H | (have hp := grd_p H; exact hp) | replace H := grd_k H | replace H := out_step H ‹_› | (replace H := bind_some H; obtain ⟨_, _, H⟩ := H))); done) | (repeat (first | exact grd_p H | replace H := grd_k H | replace H := out_step H ‹_›))))
    | (with_reducible exact True.intro)
    | ((conv => whnf); first
        | (with_reducible refine And.intro ?_ ?_)
        | (with_reducible exact True.intro)
        | (with_reducible refine (?_ : Ob _))
        | ((with_reducible refine fin_mk ?_); (repeat first | replace H := grd_k H | replace H := out_step H ‹_›); have H := Option.some.inj H; subst H))
    | constructor
def G8 : Env := G7.add 10 [] laws_toLog.S
theorem G8_ok : EnvOk Tryz.prog G8 := G7_ok.add ent_10 fun ar h r h1 ⟨a0, y, hy, e1, e2, e3, e4⟩ => by
  subst e3 e4; exact (laws_toLog.spec a0 y hy).le e1 e2
attribute [local irreducible] laws_toLog

noncomputable def laws_toConsole (a0 : Console) : Option (Console) :=
  ((laws_toRopeway (a0.1.1, a0.1.2.1, a0.1.2.2.1, a0.1.2.2.2.1, a0.1.2.2.2.2.1, ())).bind fun y1 => ((laws_toLog (a0.2.1.1, a0.2.1.2.1, a0.2.1.2.2.1, ())).bind fun y2 => (some ((y1.1, y1.2.1, y1.2.2.1, y1.2.2.2.1, y1.2.2.2.2.1, ()), (y2.1, y2.2.1, y2.2.2.1, ()), ()))))
def laws_toConsole.res (_ : Console) (y : Console) : AV := (.agg [(.v (.int .i64 y.1.1)), (.own 0), (.v (.int .i64 y.1.2.2.1)), (.v (.int .i64 y.1.2.2.2.1)), (.v (.int .i64 y.1.2.2.2.2.1)), (.v (.string y.2.1.1)), (.v (.string y.2.1.2.1)), (.v (.int .i64 y.2.1.2.2.1))])
def laws_toConsole.out (_ : Console) (y : Console) : List (Option LB) := [some (.arr 96 ty_Slot y.1.2.1)]
def laws_toConsole.S (ar : List AV) (h : List (Option LB)) (r : AV) (h1 : List (Option LB)) : Prop := ∃ a0 y, laws_toConsole a0 = some y ∧ leL ar [(.agg [(.v (.int .i64 a0.1.1)), (.tree ty_Slot a0.1.2.1), (.v (.int .i64 a0.1.2.2.1)), (.v (.int .i64 a0.1.2.2.2.1)), (.v (.int .i64 a0.1.2.2.2.2.1)), (.v (.string a0.2.1.1)), (.v (.string a0.2.1.2.1)), (.v (.int .i64 a0.2.1.2.2.1))])] ∧ leH h [] ∧ r = laws_toConsole.res a0 y ∧ h1 = laws_toConsole.out a0 y
theorem laws_toConsole.call {ar : List AV} {h : List (Option LB)} {a0 : Console} {y : Console} (H : laws_toConsole a0 = some y) (h0 : leLk ar [(.agg [(.v (.int .i64 a0.1.1)), (.tree ty_Slot a0.1.2.1), (.v (.int .i64 a0.1.2.2.1)), (.v (.int .i64 a0.1.2.2.2.1)), (.v (.int .i64 a0.1.2.2.2.2.1)), (.v (.string a0.2.1.1)), (.v (.string a0.2.1.2.1)), (.v (.int .i64 a0.2.1.2.2.1))])] (leHk h [])) : laws_toConsole.S ar h (laws_toConsole.res a0 y) (laws_toConsole.out a0 y) := ⟨a0, y, H, (args_ok h0).1, (args_ok h0).2, rfl, rfl⟩
theorem laws_toConsole.spec (a0 : Console) (y : Console) (H : laws_toConsole a0 = some y) : Spec Tryz.prog 14 [(.agg [(.v (.int .i64 a0.1.1)), (.tree ty_Slot a0.1.2.1), (.v (.int .i64 a0.1.2.2.1)), (.v (.int .i64 a0.1.2.2.2.1)), (.v (.int .i64 a0.1.2.2.2.2.1)), (.v (.string a0.2.1.1)), (.v (.string a0.2.1.2.1)), (.v (.int .i64 a0.2.1.2.2.1))])] [] (laws_toConsole.res a0 y) (laws_toConsole.out a0 y) := by
  refine spec_intro (G8_ok.at tok []) (ct := []) Tryz.func14 rfl (by kernel_rfl) (by kernel_rfl) rfl ?_
  repeat' first
    | ((with_reducible refine eqg ?_); exact rfl)
    | ((with_reducible refine KOb.mk ?_); kernel_rfl)
    | ((with_reducible intro h); (repeat first | replace H := grd_k H | replace H := out_step H ‹_›); first | replace H := cond_t h H | replace H := cond_f h H | exact absurd h (by decide) | skip)
    | ((with_reducible refine Ob.mk ?_); first | (with_reducible rfl) | (first | ((repeat (first | (with_reducible exact grd_p H) | replace H := grd_k H | replace H := out_step H ‹_›)); done) | rfl | ((repeat (first | exact grd_p H | (have hp := grd_p H; exact hp) | replace H := grd_k H | replace H := out_step H ‹_› | (replace H := bind_some H; obtain ⟨_, _, H⟩ := H))); done) | (repeat (first | exact grd_p H | replace H := grd_k H | replace H := out_step H ‹_›))))
    | (with_reducible exact True.intro)
    | ((conv => whnf); first
        | (with_reducible refine And.intro ?_ ?_)
        | (with_reducible exact True.intro)
        | (with_reducible refine (?_ : Ob _))
        | ((with_reducible refine CallW.mk ?_); (repeat first | replace H := grd_k H | replace H := out_step H ‹_›); replace H := bind_some H; obtain ⟨y, hy, H⟩ := H; first | ((with_reducible have hz : laws_toRopeway _ = some y := hy); clear hz; refine ⟨_, _, laws_toRopeway.call hy ?_, rfl, rfl, ?_⟩) | ((with_reducible have hz : laws_toLog _ = some y := hy); clear hz; refine ⟨_, _, laws_toLog.call hy ?_, rfl, rfl, ?_⟩))
        | ((with_reducible refine fin_mk ?_); (repeat first | replace H := grd_k H | replace H := out_step H ‹_›); have H := Option.some.inj H; subst H))
    | constructor
def G9 : Env := G8.add 14 [] laws_toConsole.S
theorem G9_ok : EnvOk Tryz.prog G9 := G8_ok.add ent_14 fun ar h r h1 ⟨a0, y, hy, e1, e2, e3, e4⟩ => by
  subst e3 e4; exact (laws_toConsole.spec a0 y hy).le e1 e2
attribute [local irreducible] laws_toConsole

noncomputable def spec_l25Own (a0 : Ropeway) : Option (Ropeway) :=
  (grd (([] : List Slot).length + a0.2.1.length ≤ 140737488355328 / 24 ∧ ([] : List Slot).length + a0.2.1.length ≤ 140737488355328) ((some (a0.1, (([] : List Slot) ++ a0.2.1), a0.2.2.1, a0.2.2.2.1, a0.2.2.2.2.1, ()))))
def spec_l25Own.res (_ : Ropeway) (y : Ropeway) : AV := (.agg [(.v (.int .i64 y.1)), (.own 0), (.v (.int .i64 y.2.2.1)), (.v (.int .i64 y.2.2.2.1)), (.v (.int .i64 y.2.2.2.2.1))])
def spec_l25Own.out (_ : Ropeway) (y : Ropeway) : List (Option LB) := [some (.arr 96 ty_Slot y.2.1)]
def spec_l25Own.S (ar : List AV) (h : List (Option LB)) (r : AV) (h1 : List (Option LB)) : Prop := ∃ a0 y, spec_l25Own a0 = some y ∧ leL ar [(.agg [(.v (.int .i64 a0.1)), (.tree ty_Slot a0.2.1), (.v (.int .i64 a0.2.2.1)), (.v (.int .i64 a0.2.2.2.1)), (.v (.int .i64 a0.2.2.2.2.1))])] ∧ leH h [] ∧ r = spec_l25Own.res a0 y ∧ h1 = spec_l25Own.out a0 y
theorem spec_l25Own.call {ar : List AV} {h : List (Option LB)} {a0 : Ropeway} {y : Ropeway} (H : spec_l25Own a0 = some y) (h0 : leLk ar [(.agg [(.v (.int .i64 a0.1)), (.tree ty_Slot a0.2.1), (.v (.int .i64 a0.2.2.1)), (.v (.int .i64 a0.2.2.2.1)), (.v (.int .i64 a0.2.2.2.2.1))])] (leHk h [])) : spec_l25Own.S ar h (spec_l25Own.res a0 y) (spec_l25Own.out a0 y) := ⟨a0, y, H, (args_ok h0).1, (args_ok h0).2, rfl, rfl⟩
theorem spec_l25Own.spec (a0 : Ropeway) (y : Ropeway) (H : spec_l25Own a0 = some y) : Spec Tryz.prog 75 [(.agg [(.v (.int .i64 a0.1)), (.tree ty_Slot a0.2.1), (.v (.int .i64 a0.2.2.1)), (.v (.int .i64 a0.2.2.2.1)), (.v (.int .i64 a0.2.2.2.2.1))])] [] (spec_l25Own.res a0 y) (spec_l25Own.out a0 y) := by
  refine spec_intro (G9_ok.at tok []) (ct := []) Tryz.func75 rfl (by kernel_rfl) (by kernel_rfl) rfl ?_
  repeat' first
    | ((with_reducible refine eqg ?_); exact rfl)
    | ((with_reducible refine KOb.mk ?_); kernel_rfl)
    | ((with_reducible intro h); (repeat first | replace H := grd_k H | replace H := out_step H ‹_›); first | replace H := cond_t h H | replace H := cond_f h H | exact absurd h (by decide) | skip)
    | ((with_reducible refine Ob.mk ?_); first | (with_reducible rfl) | (first | ((repeat (first | (with_reducible exact grd_p H) | replace H := grd_k H | replace H := out_step H ‹_›)); done) | rfl | ((repeat (first | exact grd_p H | (have hp := grd_p H; exact hp) | replace H := grd_k H | replace H := out_step H ‹_› | (replace H := bind_some H; obtain ⟨_, _, H⟩ := H))); done) | (repeat (first | exact grd_p H | replace H := grd_k H | replace H := out_step H ‹_›))))
    | (with_reducible exact True.intro)
    | ((conv => whnf); first
        | (with_reducible refine And.intro ?_ ?_)
        | (with_reducible exact True.intro)
        | (with_reducible refine (?_ : Ob _))
        | ((with_reducible refine fin_mk ?_); (repeat first | replace H := grd_k H | replace H := out_step H ‹_›); have H := Option.some.inj H; subst H))
    | constructor
def G10 : Env := G9.add 75 [] spec_l25Own.S
theorem G10_ok : EnvOk Tryz.prog G10 := G9_ok.add ent_75 fun ar h r h1 ⟨a0, y, hy, e1, e2, e3, e4⟩ => by
  subst e3 e4; exact (spec_l25Own.spec a0 y hy).le e1 e2
attribute [local irreducible] spec_l25Own

noncomputable def spec_l28Own (a0 : Console) : Option (Console) :=
  ((spec_l25Own (a0.1.1, a0.1.2.1, a0.1.2.2.1, a0.1.2.2.2.1, a0.1.2.2.2.2.1, ())).bind fun y1 => (some ((y1.1, y1.2.1, y1.2.2.1, y1.2.2.2.1, y1.2.2.2.2.1, ()), (a0.2.1.1, a0.2.1.2.1, a0.2.1.2.2.1, ()), ())))
def spec_l28Own.res (_ : Console) (y : Console) : AV := (.agg [(.v (.int .i64 y.1.1)), (.own 0), (.v (.int .i64 y.1.2.2.1)), (.v (.int .i64 y.1.2.2.2.1)), (.v (.int .i64 y.1.2.2.2.2.1)), (.v (.string y.2.1.1)), (.v (.string y.2.1.2.1)), (.v (.int .i64 y.2.1.2.2.1))])
def spec_l28Own.out (_ : Console) (y : Console) : List (Option LB) := [some (.arr 96 ty_Slot y.1.2.1)]
def spec_l28Own.S (ar : List AV) (h : List (Option LB)) (r : AV) (h1 : List (Option LB)) : Prop := ∃ a0 y, spec_l28Own a0 = some y ∧ leL ar [(.agg [(.v (.int .i64 a0.1.1)), (.tree ty_Slot a0.1.2.1), (.v (.int .i64 a0.1.2.2.1)), (.v (.int .i64 a0.1.2.2.2.1)), (.v (.int .i64 a0.1.2.2.2.2.1)), (.v (.string a0.2.1.1)), (.v (.string a0.2.1.2.1)), (.v (.int .i64 a0.2.1.2.2.1))])] ∧ leH h [] ∧ r = spec_l28Own.res a0 y ∧ h1 = spec_l28Own.out a0 y
theorem spec_l28Own.call {ar : List AV} {h : List (Option LB)} {a0 : Console} {y : Console} (H : spec_l28Own a0 = some y) (h0 : leLk ar [(.agg [(.v (.int .i64 a0.1.1)), (.tree ty_Slot a0.1.2.1), (.v (.int .i64 a0.1.2.2.1)), (.v (.int .i64 a0.1.2.2.2.1)), (.v (.int .i64 a0.1.2.2.2.2.1)), (.v (.string a0.2.1.1)), (.v (.string a0.2.1.2.1)), (.v (.int .i64 a0.2.1.2.2.1))])] (leHk h [])) : spec_l28Own.S ar h (spec_l28Own.res a0 y) (spec_l28Own.out a0 y) := ⟨a0, y, H, (args_ok h0).1, (args_ok h0).2, rfl, rfl⟩
theorem spec_l28Own.spec (a0 : Console) (y : Console) (H : spec_l28Own a0 = some y) : Spec Tryz.prog 39 [(.agg [(.v (.int .i64 a0.1.1)), (.tree ty_Slot a0.1.2.1), (.v (.int .i64 a0.1.2.2.1)), (.v (.int .i64 a0.1.2.2.2.1)), (.v (.int .i64 a0.1.2.2.2.2.1)), (.v (.string a0.2.1.1)), (.v (.string a0.2.1.2.1)), (.v (.int .i64 a0.2.1.2.2.1))])] [] (spec_l28Own.res a0 y) (spec_l28Own.out a0 y) := by
  refine spec_intro (G10_ok.at tok []) (ct := []) Tryz.func39 rfl (by kernel_rfl) (by kernel_rfl) rfl ?_
  repeat' first
    | ((with_reducible refine eqg ?_); exact rfl)
    | ((with_reducible refine KOb.mk ?_); kernel_rfl)
    | ((with_reducible intro h); (repeat first | replace H := grd_k H | replace H := out_step H ‹_›); first | replace H := cond_t h H | replace H := cond_f h H | exact absurd h (by decide) | skip)
    | ((with_reducible refine Ob.mk ?_); first | (with_reducible rfl) | (first | ((repeat (first | (with_reducible exact grd_p H) | replace H := grd_k H | replace H := out_step H ‹_›)); done) | rfl | ((repeat (first | exact grd_p H | (have hp := grd_p H; exact hp) | replace H := grd_k H | replace H := out_step H ‹_› | (replace H := bind_some H; obtain ⟨_, _, H⟩ := H))); done) | (repeat (first | exact grd_p H | replace H := grd_k H | replace H := out_step H ‹_›))))
    | (with_reducible exact True.intro)
    | ((conv => whnf); first
        | (with_reducible refine And.intro ?_ ?_)
        | (with_reducible exact True.intro)
        | (with_reducible refine (?_ : Ob _))
        | ((with_reducible refine CallW.mk ?_); (repeat first | replace H := grd_k H | replace H := out_step H ‹_›); replace H := bind_some H; obtain ⟨y, hy, H⟩ := H; first | ((with_reducible have hz : spec_l25Own _ = some y := hy); clear hz; refine ⟨_, _, spec_l25Own.call hy ?_, rfl, rfl, ?_⟩))
        | ((with_reducible refine fin_mk ?_); (repeat first | replace H := grd_k H | replace H := out_step H ‹_›); have H := Option.some.inj H; subst H))
    | constructor
def G11 : Env := G10.add 39 [] spec_l28Own.S
theorem G11_ok : EnvOk Tryz.prog G11 := G10_ok.add ent_39 fun ar h r h1 ⟨a0, y, hy, e1, e2, e3, e4⟩ => by
  subst e3 e4; exact (spec_l28Own.spec a0 y hy).le e1 e2
attribute [local irreducible] spec_l28Own

noncomputable def spec_l1In (a0 : Int) (a1 : Int) (a2 : Int) : Option (Bool) :=
  (cond (decide (a1 ≤ a0)) ((some (decide (a0 ≤ a2)))) ((some false)))
def spec_l1In.res (_ : Int) (_ : Int) (_ : Int) (y : Bool) : AV := (.bl y)
def spec_l1In.out (_ : Int) (_ : Int) (_ : Int) (_ : Bool) : List (Option LB) := []
def spec_l1In.S (ar : List AV) (h : List (Option LB)) (r : AV) (h1 : List (Option LB)) : Prop := ∃ a0 a1 a2 y, spec_l1In a0 a1 a2 = some y ∧ leL ar [(.v (.int .i64 a0)), (.v (.int .i64 a1)), (.v (.int .i64 a2))] ∧ leH h [] ∧ r = spec_l1In.res a0 a1 a2 y ∧ h1 = spec_l1In.out a0 a1 a2 y
theorem spec_l1In.call {ar : List AV} {h : List (Option LB)} {a0 : Int} {a1 : Int} {a2 : Int} {y : Bool} (H : spec_l1In a0 a1 a2 = some y) (h0 : leLk ar [(.v (.int .i64 a0)), (.v (.int .i64 a1)), (.v (.int .i64 a2))] (leHk h [])) : spec_l1In.S ar h (spec_l1In.res a0 a1 a2 y) (spec_l1In.out a0 a1 a2 y) := ⟨a0, a1, a2, y, H, (args_ok h0).1, (args_ok h0).2, rfl, rfl⟩
theorem spec_l1In.spec (a0 : Int) (a1 : Int) (a2 : Int) (y : Bool) (H : spec_l1In a0 a1 a2 = some y) : Spec Tryz.prog 108 [(.v (.int .i64 a0)), (.v (.int .i64 a1)), (.v (.int .i64 a2))] [] (spec_l1In.res a0 a1 a2 y) (spec_l1In.out a0 a1 a2 y) := by
  refine spec_intro (G11_ok.at tok []) (ct := []) Tryz.func108 rfl (by kernel_rfl) (by kernel_rfl) rfl ?_
  repeat' first
    | ((with_reducible refine eqg ?_); exact rfl)
    | ((with_reducible refine KOb.mk ?_); kernel_rfl)
    | ((with_reducible intro h); (repeat first | replace H := grd_k H | replace H := out_step H ‹_›); first | replace H := cond_t h H | replace H := cond_f h H | exact absurd h (by decide) | skip)
    | ((with_reducible refine Ob.mk ?_); first | (with_reducible rfl) | (first | ((repeat (first | (with_reducible exact grd_p H) | replace H := grd_k H | replace H := out_step H ‹_›)); done) | rfl | ((repeat (first | exact grd_p H | (have hp := grd_p H; exact hp) | replace H := grd_k H | replace H := out_step H ‹_› | (replace H := bind_some H; obtain ⟨_, _, H⟩ := H))); done) | (repeat (first | exact grd_p H | replace H := grd_k H | replace H := out_step H ‹_›))))
    | (with_reducible exact True.intro)
    | ((conv => whnf); first
        | (with_reducible refine And.intro ?_ ?_)
        | (with_reducible exact True.intro)
        | (with_reducible refine (?_ : Ob _))
        | ((with_reducible refine fin_mk ?_); (repeat first | replace H := grd_k H | replace H := out_step H ‹_›); have H := Option.some.inj H; subst H))
    | constructor
def G12 : Env := G11.add 108 [] spec_l1In.S
theorem G12_ok : EnvOk Tryz.prog G12 := G11_ok.add ent_108 fun ar h r h1 ⟨a0, a1, a2, y, hy, e1, e2, e3, e4⟩ => by
  subst e3 e4; exact (spec_l1In.spec a0 a1 a2 y hy).le e1 e2
attribute [local irreducible] spec_l1In

end Go.Proofs.YtaobinhdnklojaaGreatDoor
namespace Go.Proofs.YtaobinhdnklojaaGreatDoor
open Go.RowKit
set_option maxHeartbeats 100000000
set_option maxRecDepth 100000
attribute [local irreducible] Ob loopwp Sub Spec Fin Again CallW CutC KOb iter

attribute [local irreducible] spec_l1In

noncomputable def spec_l25Slot_loop1 (a0 : Ropeway) (a1 : Int) (v4 : Int) : Option (Lp (Int) ((Unit) ⊕ (Unit))) :=
  (cond (decide (v4 < a1)) (grd (0 ≤ v4 ∧ v4 < (a0.2.1.length : Int)) (cond (decide (((a0.2.1.getD v4.toNat d_Slot).1) = ((a0.2.1.getD a1.toNat d_Slot).1))) ((some (.out (Sum.inl ())))) (some (.go (w64 (v4 + (1 : Int))))))) ((some (.out (Sum.inr ())))))
noncomputable def spec_l25Slot (a0 : Ropeway) (a1 : Int) : Option (Bool) :=
  (grd (0 ≤ a1 ∧ a1 < (a0.2.1.length : Int)) ((spec_l1In ((a0.2.1.getD a1.toNat d_Slot).1) (0 : Int) (20 : Int)).bind fun y1 => (cond (!y1) ((some false)) ((spec_l1In ((a0.2.1.getD a1.toNat d_Slot).2.2.1) (0 : Int) (8 : Int)).bind fun y2 => (cond (!y2) ((some false)) (cond (decide (((a0.2.1.getD a1.toNat d_Slot).1) = (0 : Int))) (cond (!((a0.2.1.getD a1.toNat d_Slot).2.1)) ((some (decide (((a0.2.1.getD a1.toNat d_Slot).2.2.1) = (0 : Int))))) ((some false))) ((iter (fun s => spec_l25Slot_loop1 a0 a1 s) (0 : Int)).bind (Sum.elim (fun _ => (some false)) (fun _ => (grd ((a0.2.1.length : Int) ≠ 0) (grd (0 ≤ (Int.tmod (w64 (a1 + (1 : Int))) (a0.2.1.length : Int)) ∧ (Int.tmod (w64 (a1 + (1 : Int))) (a0.2.1.length : Int)) < (a0.2.1.length : Int)) (cond (!decide (((a0.2.1.getD ((Int.tmod (w64 (a1 + (1 : Int))) (a0.2.1.length : Int)).toNat) d_Slot).1) = (0 : Int))) ((some false)) (cond (!((a0.2.1.getD a1.toNat d_Slot).2.1)) ((some true)) (cond (decide (a1 = (0 : Int))) ((some true)) (grd ((2 : Int) ≠ 0) ((some (decide (a1 = (w64 (Int.tdiv (a0.2.1.length : Int) (2 : Int))))))))))))))))))))))
def spec_l25Slot.res (_ : Ropeway) (_ : Int) (y : Bool) : AV := (.bl y)
def spec_l25Slot.out (_ : Ropeway) (_ : Int) (_ : Bool) : List (Option LB) := []
def spec_l25Slot.S (ar : List AV) (h : List (Option LB)) (r : AV) (h1 : List (Option LB)) : Prop := ∃ a0 a1 y, spec_l25Slot a0 a1 = some y ∧ leL ar [(.agg [(.v (.int .i64 a0.1)), (.tree ty_Slot a0.2.1), (.v (.int .i64 a0.2.2.1)), (.v (.int .i64 a0.2.2.2.1)), (.v (.int .i64 a0.2.2.2.2.1))]), (.v (.int .i64 a1))] ∧ leH h [] ∧ r = spec_l25Slot.res a0 a1 y ∧ h1 = spec_l25Slot.out a0 a1 y
theorem spec_l25Slot.call {ar : List AV} {h : List (Option LB)} {a0 : Ropeway} {a1 : Int} {y : Bool} (H : spec_l25Slot a0 a1 = some y) (h0 : leLk ar [(.agg [(.v (.int .i64 a0.1)), (.tree ty_Slot a0.2.1), (.v (.int .i64 a0.2.2.1)), (.v (.int .i64 a0.2.2.2.1)), (.v (.int .i64 a0.2.2.2.2.1))]), (.v (.int .i64 a1))] (leHk h [])) : spec_l25Slot.S ar h (spec_l25Slot.res a0 a1 y) (spec_l25Slot.out a0 a1 y) := ⟨a0, a1, y, H, (args_ok h0).1, (args_ok h0).2, rfl, rfl⟩
theorem spec_l25Slot.spec (a0 : Ropeway) (a1 : Int) (y : Bool) (H : spec_l25Slot a0 a1 = some y) : Spec Tryz.prog 113 [(.agg [(.v (.int .i64 a0.1)), (.tree ty_Slot a0.2.1), (.v (.int .i64 a0.2.2.1)), (.v (.int .i64 a0.2.2.2.1)), (.v (.int .i64 a0.2.2.2.2.1))]), (.v (.int .i64 a1))] [] (spec_l25Slot.res a0 a1 y) (spec_l25Slot.out a0 a1 y) := by
  refine spec_intro (G12_ok.at tok []) (ct := [(3, some [1, 2, 5, 21, 29, 30, 31, 63, 64, 67, 68, 69, 70, 71, 72]), (7, some [1, 2, 5, 6, 63, 64, 67, 68, 69, 70, 71, 72]), (12, some [1, 2, 5, 58, 63, 64, 67, 68, 69, 70, 71, 72])]) Tryz.func113 rfl (by kernel_rfl) (by kernel_rfl) rfl ?_
  repeat' first
    | ((with_reducible refine eqg ?_); exact rfl)
    | ((with_reducible refine KOb.mk ?_); kernel_rfl)
    | ((with_reducible intro h); (repeat first | replace H := grd_k H | replace H := out_step H ‹_›); first | replace H := cond_t h H | replace H := cond_f h H | exact absurd h (by decide) | skip)
    | ((with_reducible refine Ob.mk ?_); first | (with_reducible rfl) | (first | ((repeat (first | (with_reducible exact grd_p H) | replace H := grd_k H | replace H := out_step H ‹_›)); done) | rfl | ((repeat (first | exact grd_p H | (have hp := grd_p H; exact hp) | replace H := grd_k H | replace H := out_step H ‹_› | (replace H := bind_some H; obtain ⟨_, _, H⟩ := H))); done) | (repeat (first | exact grd_p H | replace H := grd_k H | replace H := out_step H ‹_›))))
    | (with_reducible exact True.intro)
    | ((conv => whnf); first
        | (with_reducible refine And.intro ?_ ?_)
        | (with_reducible exact True.intro)
        | (with_reducible refine (?_ : Ob _))
        | ((with_reducible refine CallW.mk ?_); (repeat first | replace H := grd_k H | replace H := out_step H ‹_›); replace H := bind_some H; obtain ⟨y, hy, H⟩ := H; first | ((with_reducible have hz : spec_l1In _ _ _ = some y := hy); clear hz; refine ⟨_, _, spec_l1In.call hy ?_, rfl, rfl, ?_⟩))
        | ((repeat first | replace H := grd_k H | replace H := out_step H ‹_›); refine loop_iter (G12_ok.at tok []) (ct := [(3, some [1, 2, 5, 21, 29, 30, 31, 63, 64, 67, 68, 69, 70, 71, 72]), (7, some [1, 2, 5, 6, 63, 64, 67, 68, 69, 70, 71, 72]), (12, some [1, 2, 5, 58, 63, 64, 67, 68, 69, 70, 71, 72])]) (F := (fun s1 : Int => ⟨sl [(1, (.v (.int .i64 a1))), (2, (.loc 0 0 0)), (5, (.loc 1 0 0)), (6, (.v (.int .i64 s1)))], [some (.box 38 [(.v (.int .i64 a0.1)), (.tree ty_Slot a0.2.1), (.v (.int .i64 a0.2.2.1)), (.v (.int .i64 a0.2.2.2.1)), (.v (.int .i64 a0.2.2.2.2.1))]), some (.box 96 [(.v (.int .i64 ((a0.2.1.getD a1.toNat d_Slot).1))), (.bl ((a0.2.1.getD a1.toNat d_Slot).2.1)), (.v (.int .i64 ((a0.2.1.getD a1.toNat d_Slot).2.2.1)))])]⟩)) (step := (fun s : Int => spec_l25Slot_loop1 _ _ s)) _ H (by kernel_rfl) (sub_auto ?_) ?_; rotate_left; (intro s1 r v hr H); rotate_right)
        | ((repeat first | replace H := grd_k H | replace H := out_step H ‹_›); refine again_step H (by assumption) (sub_auto ?_))
        | ((with_reducible refine fin_mk ?_); (repeat first | replace H := grd_k H | replace H := out_step H ‹_›); have H := Option.some.inj H; subst H))
    | constructor
def G13 : Env := G12.add 113 [] spec_l25Slot.S
theorem G13_ok : EnvOk Tryz.prog G13 := G12_ok.add ent_113 fun ar h r h1 ⟨a0, a1, y, hy, e1, e2, e3, e4⟩ => by
  subst e3 e4; exact (spec_l25Slot.spec a0 a1 y hy).le e1 e2
attribute [local irreducible] spec_l25Slot

noncomputable def spec_l25Good_loop1 (a0 : Ropeway) (v9 : Int) : Option (Lp (Int) ((Unit) ⊕ (Unit))) :=
  (cond (decide (v9 < (a0.2.1.length : Int))) ((spec_l25Slot (a0.1, a0.2.1, a0.2.2.1, a0.2.2.2.1, a0.2.2.2.2.1, ()) v9).bind fun y10 => (cond (!y10) ((some (.out (Sum.inl ())))) (some (.go (w64 (v9 + (1 : Int))))))) ((some (.out (Sum.inr ())))))
noncomputable def spec_l25Good (a0 : Ropeway) : Option (Bool) :=
  ((spec_l1In a0.1 (0 : Int) (3 : Int)).bind fun y1 => (cond (!y1) ((some false)) ((spec_l1In (a0.2.1.length : Int) (4 : Int) (10 : Int)).bind fun y2 => (cond (!y2) ((some false)) (grd ((2 : Int) ≠ 0) (cond (!decide ((Int.tmod (a0.2.1.length : Int) (2 : Int)) = (0 : Int))) ((some false)) ((spec_l1In a0.2.2.1 (0 : Int) (500 : Int)).bind fun y3 => (cond (!y3) ((some false)) ((spec_l1In a0.2.2.2.1 (0 : Int) (500 : Int)).bind fun y4 => (cond (!y4) ((some false)) ((spec_l1In a0.2.2.2.2.1 (0 : Int) (500 : Int)).bind fun y5 => (cond (!y5) ((some false)) ((iter (fun s => spec_l25Good_loop1 a0 s) (0 : Int)).bind (Sum.elim (fun _ => (some false)) (fun _ => (some true))))))))))))))))
def spec_l25Good.res (_ : Ropeway) (y : Bool) : AV := (.bl y)
def spec_l25Good.out (_ : Ropeway) (_ : Bool) : List (Option LB) := []
def spec_l25Good.S (ar : List AV) (h : List (Option LB)) (r : AV) (h1 : List (Option LB)) : Prop := ∃ a0 y, spec_l25Good a0 = some y ∧ leL ar [(.agg [(.v (.int .i64 a0.1)), (.tree ty_Slot a0.2.1), (.v (.int .i64 a0.2.2.1)), (.v (.int .i64 a0.2.2.2.1)), (.v (.int .i64 a0.2.2.2.2.1))])] ∧ leH h [] ∧ r = spec_l25Good.res a0 y ∧ h1 = spec_l25Good.out a0 y
theorem spec_l25Good.call {ar : List AV} {h : List (Option LB)} {a0 : Ropeway} {y : Bool} (H : spec_l25Good a0 = some y) (h0 : leLk ar [(.agg [(.v (.int .i64 a0.1)), (.tree ty_Slot a0.2.1), (.v (.int .i64 a0.2.2.1)), (.v (.int .i64 a0.2.2.2.1)), (.v (.int .i64 a0.2.2.2.2.1))])] (leHk h [])) : spec_l25Good.S ar h (spec_l25Good.res a0 y) (spec_l25Good.out a0 y) := ⟨a0, y, H, (args_ok h0).1, (args_ok h0).2, rfl, rfl⟩
theorem spec_l25Good.spec (a0 : Ropeway) (y : Bool) (H : spec_l25Good a0 = some y) : Spec Tryz.prog 76 [(.agg [(.v (.int .i64 a0.1)), (.tree ty_Slot a0.2.1), (.v (.int .i64 a0.2.2.1)), (.v (.int .i64 a0.2.2.2.1)), (.v (.int .i64 a0.2.2.2.2.1))])] [] (spec_l25Good.res a0 y) (spec_l25Good.out a0 y) := by
  refine spec_intro (G13_ok.at tok []) (ct := [(3, some [1, 3, 39])]) Tryz.func76 rfl (by kernel_rfl) (by kernel_rfl) rfl ?_
  repeat' first
    | ((with_reducible refine eqg ?_); exact rfl)
    | ((with_reducible refine KOb.mk ?_); kernel_rfl)
    | ((with_reducible intro h); (repeat first | replace H := grd_k H | replace H := out_step H ‹_›); first | replace H := cond_t h H | replace H := cond_f h H | exact absurd h (by decide) | skip)
    | ((with_reducible refine Ob.mk ?_); first | (with_reducible rfl) | (first | ((repeat (first | (with_reducible exact grd_p H) | replace H := grd_k H | replace H := out_step H ‹_›)); done) | rfl | ((repeat (first | exact grd_p H | (have hp := grd_p H; exact hp) | replace H := grd_k H | replace H := out_step H ‹_› | (replace H := bind_some H; obtain ⟨_, _, H⟩ := H))); done) | (repeat (first | exact grd_p H | replace H := grd_k H | replace H := out_step H ‹_›))))
    | (with_reducible exact True.intro)
    | ((conv => whnf); first
        | (with_reducible refine And.intro ?_ ?_)
        | (with_reducible exact True.intro)
        | (with_reducible refine (?_ : Ob _))
        | ((with_reducible refine CallW.mk ?_); (repeat first | replace H := grd_k H | replace H := out_step H ‹_›); replace H := bind_some H; obtain ⟨y, hy, H⟩ := H; first | ((with_reducible have hz : spec_l1In _ _ _ = some y := hy); clear hz; refine ⟨_, _, spec_l1In.call hy ?_, rfl, rfl, ?_⟩) | ((with_reducible have hz : spec_l25Slot _ _ = some y := hy); clear hz; refine ⟨_, _, spec_l25Slot.call hy ?_, rfl, rfl, ?_⟩))
        | ((repeat first | replace H := grd_k H | replace H := out_step H ‹_›); refine loop_iter (G13_ok.at tok []) (ct := [(3, some [1, 3, 39])]) (F := (fun s1 : Int => ⟨sl [(1, (.loc 0 0 0)), (3, (.v (.int .i64 (a0.2.1.length : Int)))), (4, (.v (.int .i64 s1)))], [some (.box 38 [(.v (.int .i64 a0.1)), (.tree ty_Slot a0.2.1), (.v (.int .i64 a0.2.2.1)), (.v (.int .i64 a0.2.2.2.1)), (.v (.int .i64 a0.2.2.2.2.1))])]⟩)) (step := (fun s : Int => spec_l25Good_loop1 _ s)) _ H (by kernel_rfl) (sub_auto ?_) ?_; rotate_left; (intro s1 r v hr H); rotate_right)
        | ((repeat first | replace H := grd_k H | replace H := out_step H ‹_›); refine again_step H (by assumption) (sub_auto ?_))
        | ((with_reducible refine fin_mk ?_); (repeat first | replace H := grd_k H | replace H := out_step H ‹_›); have H := Option.some.inj H; subst H))
    | constructor
def G14 : Env := G13.add 76 [] spec_l25Good.S
theorem G14_ok : EnvOk Tryz.prog G14 := G13_ok.add ent_76 fun ar h r h1 ⟨a0, y, hy, e1, e2, e3, e4⟩ => by
  subst e3 e4; exact (spec_l25Good.spec a0 y hy).le e1 e2
attribute [local irreducible] spec_l25Good

noncomputable def spec_l1Split_loop1 (a0 : ByteArray) (a1 : Int) (v4 : Int) (v5 : Int) (v6 : (List ByteArray)) : Option (Lp (Int × Int × (List ByteArray)) ((Int × (List ByteArray)))) :=
  (cond (decide (v5 < (a0.size : Int))) (grd (0 ≤ v5 ∧ v5 < (a0.size : Int)) (cond (decide ((bAt a0 v5) = a1)) (grd (0 ≤ v4 ∧ v4 ≤ v5 ∧ v5 ≤ (a0.size : Int)) (grd (v6.length + [(bsub a0 v4 v5)].length ≤ 140737488355328 / 16 ∧ v6.length + [(bsub a0 v4 v5)].length ≤ 140737488355328) (some (.go ((w64 (v5 + (1 : Int))), (w64 (v5 + (1 : Int))), (v6 ++ [(bsub a0 v4 v5)])))))) (some (.go (v4, (w64 (v5 + (1 : Int))), v6))))) ((some (.out (v4, v6)))))
noncomputable def spec_l1Split (a0 : ByteArray) (a1 : Int) : Option ((List ByteArray)) :=
  ((iter (fun s => spec_l1Split_loop1 a0 a1 s.1 s.2.1 s.2.2) ((0 : Int), (0 : Int), ([] : List ByteArray))).bind (fun r7 => (grd (0 ≤ r7.1 ∧ r7.1 ≤ (a0.size : Int) ∧ (a0.size : Int) ≤ (a0.size : Int)) (grd (r7.2.length + [(bsub a0 r7.1 (a0.size : Int))].length ≤ 140737488355328 / 16 ∧ r7.2.length + [(bsub a0 r7.1 (a0.size : Int))].length ≤ 140737488355328) ((some (r7.2 ++ [(bsub a0 r7.1 (a0.size : Int))])))))))
def spec_l1Split.res (_ : ByteArray) (_ : Int) (_ : (List ByteArray)) : AV := (.own 0)
def spec_l1Split.out (_ : ByteArray) (_ : Int) (y : (List ByteArray)) : List (Option LB) := [some (.arr 9 .str y)]
def spec_l1Split.S (ar : List AV) (h : List (Option LB)) (r : AV) (h1 : List (Option LB)) : Prop := ∃ a0 a1 y, spec_l1Split a0 a1 = some y ∧ leL ar [(.v (.string a0)), (.v (.int .u8 a1))] ∧ leH h [] ∧ r = spec_l1Split.res a0 a1 y ∧ h1 = spec_l1Split.out a0 a1 y
theorem spec_l1Split.call {ar : List AV} {h : List (Option LB)} {a0 : ByteArray} {a1 : Int} {y : (List ByteArray)} (H : spec_l1Split a0 a1 = some y) (h0 : leLk ar [(.v (.string a0)), (.v (.int .u8 a1))] (leHk h [])) : spec_l1Split.S ar h (spec_l1Split.res a0 a1 y) (spec_l1Split.out a0 a1 y) := ⟨a0, a1, y, H, (args_ok h0).1, (args_ok h0).2, rfl, rfl⟩
theorem spec_l1Split.spec (a0 : ByteArray) (a1 : Int) (y : (List ByteArray)) (H : spec_l1Split a0 a1 = some y) : Spec Tryz.prog 54 [(.v (.string a0)), (.v (.int .u8 a1))] [] (spec_l1Split.res a0 a1 y) (spec_l1Split.out a0 a1 y) := by
  refine spec_intro (G14_ok.at tok []) (ct := [(8, some [0, 1, 5, 7])]) Tryz.func54 rfl (by kernel_rfl) (by kernel_rfl) rfl ?_
  repeat' first
    | ((with_reducible refine eqg ?_); exact rfl)
    | ((with_reducible refine KOb.mk ?_); kernel_rfl)
    | ((with_reducible intro h); (repeat first | replace H := grd_k H | replace H := out_step H ‹_›); first | replace H := cond_t h H | replace H := cond_f h H | exact absurd h (by decide) | skip)
    | ((with_reducible refine Ob.mk ?_); first | (with_reducible rfl) | (first | ((repeat (first | (with_reducible exact grd_p H) | replace H := grd_k H | replace H := out_step H ‹_›)); done) | rfl | ((repeat (first | exact grd_p H | (have hp := grd_p H; exact hp) | replace H := grd_k H | replace H := out_step H ‹_› | (replace H := bind_some H; obtain ⟨_, _, H⟩ := H))); done) | (repeat (first | exact grd_p H | replace H := grd_k H | replace H := out_step H ‹_›))))
    | (with_reducible exact True.intro)
    | ((conv => whnf); first
        | (with_reducible refine And.intro ?_ ?_)
        | (with_reducible exact True.intro)
        | (with_reducible refine (?_ : Ob _))
        | ((repeat first | replace H := grd_k H | replace H := out_step H ‹_›); refine loop_iter (G14_ok.at tok []) (ct := [(8, some [0, 1, 5, 7])]) (F := (fun s1 : Int × Int × (List ByteArray) => ⟨sl [(0, (.v (.string a0))), (1, (.v (.int .u8 a1))), (5, (.own 0)), (6, (.v (.int .i64 s1.1))), (7, (.v (.int .i64 s1.2.1)))], [some (.arr 9 .str s1.2.2)]⟩)) (step := (fun s : Int × Int × (List ByteArray) => spec_l1Split_loop1 _ _ s.1 s.2.1 s.2.2)) _ H (by kernel_rfl) (sub_auto ?_) ?_; rotate_left; (intro s1 r v hr H); rotate_right)
        | ((repeat first | replace H := grd_k H | replace H := out_step H ‹_›); refine again_step H (by assumption) (sub_auto ?_))
        | ((with_reducible refine fin_mk ?_); (repeat first | replace H := grd_k H | replace H := out_step H ‹_›); have H := Option.some.inj H; subst H))
    | constructor
def G15 : Env := G14.add 54 [] spec_l1Split.S
theorem G15_ok : EnvOk Tryz.prog G15 := G14_ok.add ent_54 fun ar h r h1 ⟨a0, a1, y, hy, e1, e2, e3, e4⟩ => by
  subst e3 e4; exact (spec_l1Split.spec a0 a1 y hy).le e1 e2
attribute [local irreducible] spec_l1Split

noncomputable def spec_l1Num_f : Nat → Int → Option (ByteArray)
  | 0, _ => none
  | k + 1, a0 => (cond (decide (a0 < (0 : Int))) ((spec_l1Num_f k (w64 (0 - a0))).bind fun y1 => (grd ((ByteArray.mk #[45]).size + y1.size ≤ 9223372036854775807) ((some ((ByteArray.mk #[45]) ++ y1))))) (cond (decide (a0 < (10 : Int))) (grd (0 ≤ a0 ∧ a0 ≤ (w64 (a0 + (1 : Int))) ∧ (w64 (a0 + (1 : Int))) ≤ ((ByteArray.mk #[48, 49, 50, 51, 52, 53, 54, 55, 56, 57]).size : Int)) ((some (bsub (ByteArray.mk #[48, 49, 50, 51, 52, 53, 54, 55, 56, 57]) a0 (w64 (a0 + (1 : Int))))))) (grd ((10 : Int) ≠ 0) ((spec_l1Num_f k (w64 (Int.tdiv a0 (10 : Int)))).bind fun y2 => (grd ((10 : Int) ≠ 0) (grd ((10 : Int) ≠ 0) (grd (0 ≤ (Int.tmod a0 (10 : Int)) ∧ (Int.tmod a0 (10 : Int)) ≤ (w64 ((Int.tmod a0 (10 : Int)) + (1 : Int))) ∧ (w64 ((Int.tmod a0 (10 : Int)) + (1 : Int))) ≤ ((ByteArray.mk #[48, 49, 50, 51, 52, 53, 54, 55, 56, 57]).size : Int)) (grd (y2.size + (bsub (ByteArray.mk #[48, 49, 50, 51, 52, 53, 54, 55, 56, 57]) (Int.tmod a0 (10 : Int)) (w64 ((Int.tmod a0 (10 : Int)) + (1 : Int)))).size ≤ 9223372036854775807) ((some (y2 ++ (bsub (ByteArray.mk #[48, 49, 50, 51, 52, 53, 54, 55, 56, 57]) (Int.tmod a0 (10 : Int)) (w64 ((Int.tmod a0 (10 : Int)) + (1 : Int)))))))))))))))
theorem spec_l1Num_f_succ (k : Nat) (a0 : Int) : spec_l1Num_f (k + 1) a0 = (cond (decide (a0 < (0 : Int))) ((spec_l1Num_f k (w64 (0 - a0))).bind fun y1 => (grd ((ByteArray.mk #[45]).size + y1.size ≤ 9223372036854775807) ((some ((ByteArray.mk #[45]) ++ y1))))) (cond (decide (a0 < (10 : Int))) (grd (0 ≤ a0 ∧ a0 ≤ (w64 (a0 + (1 : Int))) ∧ (w64 (a0 + (1 : Int))) ≤ ((ByteArray.mk #[48, 49, 50, 51, 52, 53, 54, 55, 56, 57]).size : Int)) ((some (bsub (ByteArray.mk #[48, 49, 50, 51, 52, 53, 54, 55, 56, 57]) a0 (w64 (a0 + (1 : Int))))))) (grd ((10 : Int) ≠ 0) ((spec_l1Num_f k (w64 (Int.tdiv a0 (10 : Int)))).bind fun y2 => (grd ((10 : Int) ≠ 0) (grd ((10 : Int) ≠ 0) (grd (0 ≤ (Int.tmod a0 (10 : Int)) ∧ (Int.tmod a0 (10 : Int)) ≤ (w64 ((Int.tmod a0 (10 : Int)) + (1 : Int))) ∧ (w64 ((Int.tmod a0 (10 : Int)) + (1 : Int))) ≤ ((ByteArray.mk #[48, 49, 50, 51, 52, 53, 54, 55, 56, 57]).size : Int)) (grd (y2.size + (bsub (ByteArray.mk #[48, 49, 50, 51, 52, 53, 54, 55, 56, 57]) (Int.tmod a0 (10 : Int)) (w64 ((Int.tmod a0 (10 : Int)) + (1 : Int)))).size ≤ 9223372036854775807) ((some (y2 ++ (bsub (ByteArray.mk #[48, 49, 50, 51, 52, 53, 54, 55, 56, 57]) (Int.tmod a0 (10 : Int)) (w64 ((Int.tmod a0 (10 : Int)) + (1 : Int))))))))))))))) := rfl
attribute [local irreducible] spec_l1Num_f
noncomputable def spec_l1Num (a0 : Int) : Option (ByteArray) := spec_l1Num_f 64 a0
def spec_l1Num.res (_ : Int) (y : ByteArray) : AV := (.v (.string y))
def spec_l1Num.out (_ : Int) (_ : ByteArray) : List (Option LB) := []
def spec_l1Num.S (ar : List AV) (h : List (Option LB)) (r : AV) (h1 : List (Option LB)) : Prop := ∃ a0 y, spec_l1Num a0 = some y ∧ leL ar [(.v (.int .i64 a0))] ∧ leH h [] ∧ r = spec_l1Num.res a0 y ∧ h1 = spec_l1Num.out a0 y
theorem spec_l1Num.call {ar : List AV} {h : List (Option LB)} {a0 : Int} {y : ByteArray} (H : spec_l1Num a0 = some y) (h0 : leLk ar [(.v (.int .i64 a0))] (leHk h [])) : spec_l1Num.S ar h (spec_l1Num.res a0 y) (spec_l1Num.out a0 y) := ⟨a0, y, H, (args_ok h0).1, (args_ok h0).2, rfl, rfl⟩
def spec_l1Num_f.S (k : Nat) (ar : List AV) (h : List (Option LB)) (r : AV) (h1 : List (Option LB)) : Prop := ∃ a0 y, spec_l1Num_f k a0 = some y ∧ leL ar [(.v (.int .i64 a0))] ∧ leH h [] ∧ r = spec_l1Num.res a0 y ∧ h1 = spec_l1Num.out a0 y
theorem spec_l1Num_f.call {k : Nat} {ar : List AV} {h : List (Option LB)} {a0 : Int} {y : ByteArray} (H : spec_l1Num_f k a0 = some y) (h0 : leLk ar [(.v (.int .i64 a0))] (leHk h [])) : spec_l1Num_f.S k ar h (spec_l1Num.res a0 y) (spec_l1Num.out a0 y) := ⟨a0, y, H, (args_ok h0).1, (args_ok h0).2, rfl, rfl⟩
theorem spec_l1Num_f.spec (k : Nat) : ∀ (a0 : Int) (y : ByteArray) (_ : spec_l1Num_f k a0 = some y), Spec Tryz.prog 63 [(.v (.int .i64 a0))] [] (spec_l1Num.res a0 y) (spec_l1Num.out a0 y) := by
  induction k with
  | zero => intro a0 y H; unfold spec_l1Num_f at H; cases H
  | succ k IH =>
  intro a0 y H
  have H := (spec_l1Num_f_succ k a0).symm.trans H
  have hG : EnvOk Tryz.prog (G15.add 63 [] (spec_l1Num_f.S k)) := G15_ok.add ent_63 fun ar h r h1 ⟨a0, y, hy, e1, e2, e3, e4⟩ => by
    subst e3 e4; exact (IH a0 y hy).le e1 e2
  clear IH
  refine spec_intro (hG.at tok []) (ct := [(5, some [0])]) Tryz.func63 rfl (by kernel_rfl) (by kernel_rfl) rfl ?_
  repeat' first
    | ((with_reducible refine eqg ?_); exact rfl)
    | ((with_reducible refine KOb.mk ?_); kernel_rfl)
    | ((with_reducible intro h); (repeat first | replace H := grd_k H | replace H := out_step H ‹_›); first | replace H := cond_t h H | replace H := cond_f h H | exact absurd h (by decide) | skip)
    | ((with_reducible refine Ob.mk ?_); first | (with_reducible rfl) | (first | ((repeat (first | (with_reducible exact grd_p H) | replace H := grd_k H | replace H := out_step H ‹_›)); done) | rfl | ((repeat (first | exact grd_p H | (have hp := grd_p H; exact hp) | replace H := grd_k H | replace H := out_step H ‹_› | (replace H := bind_some H; obtain ⟨_, _, H⟩ := H))); done) | (repeat (first | exact grd_p H | replace H := grd_k H | replace H := out_step H ‹_›))))
    | (with_reducible exact True.intro)
    | ((conv => whnf); first
        | (with_reducible refine And.intro ?_ ?_)
        | (with_reducible exact True.intro)
        | (with_reducible refine (?_ : Ob _))
        | ((with_reducible refine CallW.mk ?_); (repeat first | replace H := grd_k H | replace H := out_step H ‹_›); replace H := bind_some H; obtain ⟨y, hy, H⟩ := H; first | ((with_reducible have hz : spec_l1Num_f k _ = some y := hy); clear hz; refine ⟨_, _, spec_l1Num_f.call hy ?_, rfl, rfl, ?_⟩))
        | ((with_reducible refine fin_mk ?_); (repeat first | replace H := grd_k H | replace H := out_step H ‹_›); have H := Option.some.inj H; subst H))
    | constructor
theorem spec_l1Num.spec (a0 : Int) (y : ByteArray) (H : spec_l1Num a0 = some y) : Spec Tryz.prog 63 [(.v (.int .i64 a0))] [] (spec_l1Num.res a0 y) (spec_l1Num.out a0 y) := spec_l1Num_f.spec 64 a0 y H
def G16 : Env := G15.add 63 [] spec_l1Num.S
theorem G16_ok : EnvOk Tryz.prog G16 := G15_ok.add ent_63 fun ar h r h1 ⟨a0, y, hy, e1, e2, e3, e4⟩ => by
  subst e3 e4; exact (spec_l1Num.spec a0 y hy).le e1 e2
attribute [local irreducible] spec_l1Num

noncomputable def spec_l27Plain_loop1 (a0 : ByteArray) (v5 : Int) : Option (Lp (Int) ((Unit) ⊕ (Unit))) :=
  (cond (decide (v5 < (a0.size : Int))) (grd (0 ≤ v5 ∧ v5 < (a0.size : Int)) ((spec_l1In (w64 (bAt a0 v5)) (32 : Int) (126 : Int)).bind fun y6 => (cond (!y6) ((some (.out (Sum.inl ())))) (grd (0 ≤ v5 ∧ v5 < (a0.size : Int)) (cond (decide ((bAt a0 v5) = (35 : Int))) ((some (.out (Sum.inl ())))) (some (.go (w64 (v5 + (1 : Int)))))))))) ((some (.out (Sum.inr ())))))
noncomputable def spec_l27Plain (a0 : ByteArray) (a1 : Int) : Option (Bool) :=
  ((iter (fun s => spec_l27Plain_loop1 a0 s) (0 : Int)).bind (Sum.elim (fun _ => (some false)) (fun _ => (some (decide ((a0.size : Int) ≤ a1))))))
def spec_l27Plain.res (_ : ByteArray) (_ : Int) (y : Bool) : AV := (.bl y)
def spec_l27Plain.out (_ : ByteArray) (_ : Int) (_ : Bool) : List (Option LB) := []
def spec_l27Plain.S (ar : List AV) (h : List (Option LB)) (r : AV) (h1 : List (Option LB)) : Prop := ∃ a0 a1 y, spec_l27Plain a0 a1 = some y ∧ leL ar [(.v (.string a0)), (.v (.int .i64 a1))] ∧ leH h [] ∧ r = spec_l27Plain.res a0 a1 y ∧ h1 = spec_l27Plain.out a0 a1 y
theorem spec_l27Plain.call {ar : List AV} {h : List (Option LB)} {a0 : ByteArray} {a1 : Int} {y : Bool} (H : spec_l27Plain a0 a1 = some y) (h0 : leLk ar [(.v (.string a0)), (.v (.int .i64 a1))] (leHk h [])) : spec_l27Plain.S ar h (spec_l27Plain.res a0 a1 y) (spec_l27Plain.out a0 a1 y) := ⟨a0, a1, y, H, (args_ok h0).1, (args_ok h0).2, rfl, rfl⟩
theorem spec_l27Plain.spec (a0 : ByteArray) (a1 : Int) (y : Bool) (H : spec_l27Plain a0 a1 = some y) : Spec Tryz.prog 77 [(.v (.string a0)), (.v (.int .i64 a1))] [] (spec_l27Plain.res a0 a1 y) (spec_l27Plain.out a0 a1 y) := by
  refine spec_intro (G16_ok.at tok []) (ct := [(5, some [0, 1, 5, 19, 20, 21, 22, 23])]) Tryz.func77 rfl (by kernel_rfl) (by kernel_rfl) rfl ?_
  repeat' first
    | ((with_reducible refine eqg ?_); exact rfl)
    | ((with_reducible refine KOb.mk ?_); kernel_rfl)
    | ((with_reducible intro h); (repeat first | replace H := grd_k H | replace H := out_step H ‹_›); first | replace H := cond_t h H | replace H := cond_f h H | exact absurd h (by decide) | skip)
    | ((with_reducible refine Ob.mk ?_); first | (with_reducible rfl) | (first | ((repeat (first | (with_reducible exact grd_p H) | replace H := grd_k H | replace H := out_step H ‹_›)); done) | rfl | ((repeat (first | exact grd_p H | (have hp := grd_p H; exact hp) | replace H := grd_k H | replace H := out_step H ‹_› | (replace H := bind_some H; obtain ⟨_, _, H⟩ := H))); done) | (repeat (first | exact grd_p H | replace H := grd_k H | replace H := out_step H ‹_›))))
    | (with_reducible exact True.intro)
    | ((conv => whnf); first
        | (with_reducible refine And.intro ?_ ?_)
        | (with_reducible exact True.intro)
        | (with_reducible refine (?_ : Ob _))
        | ((with_reducible refine CallW.mk ?_); (repeat first | replace H := grd_k H | replace H := out_step H ‹_›); replace H := bind_some H; obtain ⟨y, hy, H⟩ := H; first | ((with_reducible have hz : spec_l1In _ _ _ = some y := hy); clear hz; refine ⟨_, _, spec_l1In.call hy ?_, rfl, rfl, ?_⟩))
        | ((repeat first | replace H := grd_k H | replace H := out_step H ‹_›); refine loop_iter (G16_ok.at tok []) (ct := [(5, some [0, 1, 5, 19, 20, 21, 22, 23])]) (F := (fun s1 : Int => ⟨sl [(0, (.v (.string a0))), (1, (.v (.int .i64 a1))), (5, (.v (.int .i64 s1)))], []⟩)) (step := (fun s : Int => spec_l27Plain_loop1 _ s)) _ H (by kernel_rfl) (sub_auto ?_) ?_; rotate_left; (intro s1 r v hr H); rotate_right)
        | ((repeat first | replace H := grd_k H | replace H := out_step H ‹_›); refine again_step H (by assumption) (sub_auto ?_))
        | ((with_reducible refine fin_mk ?_); (repeat first | replace H := grd_k H | replace H := out_step H ‹_›); have H := Option.some.inj H; subst H))
    | constructor
def G17 : Env := G16.add 77 [] spec_l27Plain.S
theorem G17_ok : EnvOk Tryz.prog G17 := G16_ok.add ent_77 fun ar h r h1 ⟨a0, a1, y, hy, e1, e2, e3, e4⟩ => by
  subst e3 e4; exact (spec_l27Plain.spec a0 a1 y hy).le e1 e2
attribute [local irreducible] spec_l27Plain

noncomputable def spec_l1Stands_loop1 (a0 : ByteArray) (a1 : Int) (v2 : Int) : Option (Lp (Int) ((Unit) ⊕ (Unit))) :=
  (cond (decide (v2 < (a0.size : Int))) (grd (0 ≤ v2 ∧ v2 < (a0.size : Int)) (cond (decide ((bAt a0 v2) = a1)) ((some (.out (Sum.inl ())))) (some (.go (w64 (v2 + (1 : Int))))))) ((some (.out (Sum.inr ())))))
noncomputable def spec_l1Stands (a0 : ByteArray) (a1 : Int) : Option (Bool) :=
  ((iter (fun s => spec_l1Stands_loop1 a0 a1 s) (0 : Int)).bind (Sum.elim (fun _ => (some true)) (fun _ => (some false))))
def spec_l1Stands.res (_ : ByteArray) (_ : Int) (y : Bool) : AV := (.bl y)
def spec_l1Stands.out (_ : ByteArray) (_ : Int) (_ : Bool) : List (Option LB) := []
def spec_l1Stands.S (ar : List AV) (h : List (Option LB)) (r : AV) (h1 : List (Option LB)) : Prop := ∃ a0 a1 y, spec_l1Stands a0 a1 = some y ∧ leL ar [(.v (.string a0)), (.v (.int .u8 a1))] ∧ leH h [] ∧ r = spec_l1Stands.res a0 a1 y ∧ h1 = spec_l1Stands.out a0 a1 y
theorem spec_l1Stands.call {ar : List AV} {h : List (Option LB)} {a0 : ByteArray} {a1 : Int} {y : Bool} (H : spec_l1Stands a0 a1 = some y) (h0 : leLk ar [(.v (.string a0)), (.v (.int .u8 a1))] (leHk h [])) : spec_l1Stands.S ar h (spec_l1Stands.res a0 a1 y) (spec_l1Stands.out a0 a1 y) := ⟨a0, a1, y, H, (args_ok h0).1, (args_ok h0).2, rfl, rfl⟩
theorem spec_l1Stands.spec (a0 : ByteArray) (a1 : Int) (y : Bool) (H : spec_l1Stands a0 a1 = some y) : Spec Tryz.prog 78 [(.v (.string a0)), (.v (.int .u8 a1))] [] (spec_l1Stands.res a0 a1 y) (spec_l1Stands.out a0 a1 y) := by
  refine spec_intro (G17_ok.at tok []) (ct := []) Tryz.func78 rfl (by kernel_rfl) (by kernel_rfl) rfl ?_
  repeat' first
    | ((with_reducible refine eqg ?_); exact rfl)
    | ((with_reducible refine KOb.mk ?_); kernel_rfl)
    | ((with_reducible intro h); (repeat first | replace H := grd_k H | replace H := out_step H ‹_›); first | replace H := cond_t h H | replace H := cond_f h H | exact absurd h (by decide) | skip)
    | ((with_reducible refine Ob.mk ?_); first | (with_reducible rfl) | (first | ((repeat (first | (with_reducible exact grd_p H) | replace H := grd_k H | replace H := out_step H ‹_›)); done) | rfl | ((repeat (first | exact grd_p H | (have hp := grd_p H; exact hp) | replace H := grd_k H | replace H := out_step H ‹_› | (replace H := bind_some H; obtain ⟨_, _, H⟩ := H))); done) | (repeat (first | exact grd_p H | replace H := grd_k H | replace H := out_step H ‹_›))))
    | (with_reducible exact True.intro)
    | ((conv => whnf); first
        | (with_reducible refine And.intro ?_ ?_)
        | (with_reducible exact True.intro)
        | (with_reducible refine (?_ : Ob _))
        | ((repeat first | replace H := grd_k H | replace H := out_step H ‹_›); refine loop_iter (G17_ok.at tok []) (ct := []) (F := (fun s1 : Int => ⟨sl [(0, (.v (.string a0))), (1, (.v (.int .u8 a1))), (5, (.v (.int .i64 s1)))], []⟩)) (step := (fun s : Int => spec_l1Stands_loop1 _ _ s)) _ H (by kernel_rfl) (sub_auto ?_) ?_; rotate_left; (intro s1 r v hr H); rotate_right)
        | ((repeat first | replace H := grd_k H | replace H := out_step H ‹_›); refine again_step H (by assumption) (sub_auto ?_))
        | ((with_reducible refine fin_mk ?_); (repeat first | replace H := grd_k H | replace H := out_step H ‹_›); have H := Option.some.inj H; subst H))
    | constructor
def G18 : Env := G17.add 78 [] spec_l1Stands.S
theorem G18_ok : EnvOk Tryz.prog G18 := G17_ok.add ent_78 fun ar h r h1 ⟨a0, a1, y, hy, e1, e2, e3, e4⟩ => by
  subst e3 e4; exact (spec_l1Stands.spec a0 a1 y hy).le e1 e2
attribute [local irreducible] spec_l1Stands

end Go.Proofs.YtaobinhdnklojaaGreatDoor
