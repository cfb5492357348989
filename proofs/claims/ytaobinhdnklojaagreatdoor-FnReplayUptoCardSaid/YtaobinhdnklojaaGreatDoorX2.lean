/-
  What a row's listed variables and the shape of its first world give.
-/
import Derived.Test.YtaobinhdnklojaaGreatDoorVJ
import Derived.Test.YtaobinhdnklojaaGreatDoorC803
import Derived.Test.YtaobinhdnklojaaGreatDoorRows
import Derived.LaidLaws
namespace Go.Proofs.YtaobinhdnklojaaGreatDoor
open Go.RowKit

def ConB (s : C1) : Prop := s.1.2.1.length ≤ 11 ∧ s.2.1.1.size ≤ 30000 ∧ s.2.1.2.1.size ≤ 30000
theorem bs_nil : ByteArray.mk #[] = bs [] := rfl
theorem wp1 (v : Nat) (h : v < 1000000) : w64 (((v + 1 : Nat) : Int) - 1) = (v : Int) := by rw [wi (by omega) (by omega)]; omega
theorem vl {x : Int} {l : List Slot} {w t d : Int} {D P : List UInt8} {n : Int} (h : (gd (x, l, w, t, d, ()) && okLog D P n) = true) : l.length ≤ 10 ∧ D.length + P.length ≤ 24000 := by
 obtain ⟨h1, h2⟩ := vS h
 obtain ⟨_, hl, _⟩ := go1 h1
 exact ⟨by omega, oLl h2⟩
theorem ev1 (x : Int) (l : List Slot) (w t d : Int) (D P z : List UInt8) (n : Int) (hz : z.length ≤ 1048576) (h : (gd (x, l, w, t, d, ()) && okLog D P n) = true) :
  ∃ x' l' w' t' d' P' m R, Exec (x, l, w, t, d, ()) D P n z (x', l', w', t', d', ()) P' m R ∧ (gd (x', l', w', t', d', ()) && okLog D P' m) = true ∧
    sEC ((x, l, w, t, d, ()), (bs D, bs P, n, ()), ()) (bs z) = some (((x', l', w', t', d', ()), (bs D, bs P', m, ()), ()), bs R) ∧
    iECi x l w t d (bs D) (bs P) n (bs z) = some (((x', l', w', t', d', ()), (bs D, bs P', m, ()), ()), bs R) := by
 obtain ⟨h1, h2⟩ := vl h
 obtain ⟨⟨x', l', w', t', d', ⟨⟩⟩, P', m, R, hex, e1, _, e3⟩ := exec_both (x, l, w, t, d, ()) D P z n (by show l.length ≤ 1048576; omega) (by omega) (by omega) hz
 exact ⟨x', l', w', t', d', P', m, R, hex, hex.valid h, e1, e3 (gd_pos (vS h).1)⟩
theorem cl : ∀ (v : Nat) (code : List Int) (at' seed x : Int) (l : List Slot) (w t d : Int) (P : List UInt8) (q n : Int), v ≤ 10 → CG (code, at', seed, ()) n → n + 50 * v ≤ 100000000 → l.length ≤ 11 → P.length ≤ 24000 →
  ∃ code' at2 seed' x' l' w' t' d' P' q', iter (fun s => slCc2 s.1 s.2.1 s.2.2.1 s.2.2.2.1 s.2.2.2.2.1 s.2.2.2.2.2.1 s.2.2.2.2.2.2.1 s.2.2.2.2.2.2.2.1 s.2.2.2.2.2.2.2.2.1 s.2.2.2.2.2.2.2.2.2.1 s.2.2.2.2.2.2.2.2.2.2.1 s.2.2.2.2.2.2.2.2.2.2.2) ((v : Int), code, at', seed, x, l, w, t, d, bs [], bs P, q) = some (code', at2, seed', x', l', w', t', d', bs [], bs P', q') ∧ CG (code', at2, seed', ()) (n + 50 * v) ∧ l'.length ≤ 11 ∧ P'.length ≤ 24000
 | 0, code, at', seed, x, l, w, t, d, P, q, n, _, hc, _, hl, hP => by
   refine ⟨code, at', seed, x, l, w, t, d, P, q, io ?_, hc.up (by omega), hl, hP⟩
   show slCc2 ((0 : Nat) : Int) code at' seed x l w t d (bs []) (bs P) q = _
   unfold slCc2
   rw [cd (by omega)]
 | v + 1, code, at', seed, x, l, w, t, d, P, q, n, hv, hc, hn, hl, hP => by
   have g := validS (x, l, w, t, d, ()) [] P q (by show l.length ≤ 1048576; omega) (by simp) (by omega)
   cases hb : (gd (x, l, w, t, d, ()) && okLog [] P q) with
   | false =>
     refine ⟨code, at', seed, x, l, w, t, d, P, q, io ?_, hc.up (by omega), hl, hP⟩
     show slCc2 ((v + 1 : Nat) : Int) code at' seed x l w t d (bs []) (bs P) q = _
     unfold slCc2
     rw [cd1 (by omega), g, Option.bind_some, hb]; rfl
   | true =>
     obtain ⟨z, ⟨code1, at1, seed1, u⟩, e1, hc1, hz⟩ := co (code, at', seed, ()) x l w t d (bs []) (bs P) q n (by omega) hc (by omega)
     obtain ⟨z, rfl⟩ := bs_ex z
     have hz : (bs z).size ≤ 30 := hz
     rw [bs1] at hz
     obtain ⟨x', l', w', t', d', P', m, R, _, hv', e2, _⟩ := ev1 x l w t d [] P z q (by omega) hb
     obtain ⟨hl', hP'⟩ := vl hv'
     obtain ⟨code', at2, seed', x2, l2, w2, t2, d2, P2, q2, e3, hc2, hl2, hP2⟩ := cl v code1 at1 seed1 x' l' w' t' d' P' m (n + 40) (by omega) hc1 (by omega) (by omega) (by simp at hP'; omega)
     refine ⟨code', at2, seed', x2, l2, w2, t2, d2, P2, q2, (ig ?_).trans e3, hc2.up (by omega), hl2, hP2⟩
     show slCc2 ((v + 1 : Nat) : Int) code at' seed x l w t d (bs []) (bs P) q = _
     unfold slCc2
     rw [cd1 (by omega), g, Option.bind_some, hb, cond_true, e1, Option.bind_some]
     dsimp only
     rw [e2, Option.bind_some, wp1 v (by omega)]
theorem console_ok (c : l1Cur) (n : Int) (h : CG c n) (hn : n ≤ 1000000) : Gives (slCc1 c) (n + 3000) ConB := by
 obtain ⟨code, at', seed, u⟩ := c
 obtain ⟨⟨x, l, w, t, d, u1⟩, ⟨code1, at1, seed1, u2⟩, e1, hc, hl⟩ := ropeway_ok (code, at', seed, ()) n h (by omega)
 have hl : l.length ≤ 11 := hl
 unfold slCc1
 dsimp only
 rw [e1, Option.bind_some, Sum.elim_inr, Option.bind_some]
 dsimp only
 refine gb (po _ (n + 1000) _ hc (by omega)) fun a code2 at2 seed2 ha hc => ?_
 dsimp only
 obtain ⟨v, rfl⟩ : ∃ v : Nat, a = (v : Int) := ⟨a.toNat, by omega⟩
 obtain ⟨code3, at3, seed3, x3, l3, w3, t3, d3, P3, q3, e3, hc3, hl3, hP3⟩ := cl v code2 at2 seed2 x l w t d [] 0 (n + 1000 + 2) (by omega) hc (by omega) hl (by simp)
 rw [bs_nil, e3, Option.bind_some]
 dsimp only
 refine gb (oo _ (n + 2000) 24 (hc3.up (by omega)) (by omega)) fun b code4 at4 seed4 _ hc => ?_
 dsimp only
 refine gc (fun _ => ?_) (fun _ => ?_)
 ·refine gb (anyLog_ok _ (n + 2000 + 2) hc (by omega)) fun g code5 at5 seed5 hg hc => ?_
  obtain ⟨d1, p1, m1, u1⟩ := g
  have hg : d1.size ≤ 3000 ∧ p1.size ≤ 3000 := hg
  exact Gives.ret (hc.up (by omega)) ⟨hl3, by show d1.size ≤ 30000; omega, by show p1.size ≤ 30000; omega⟩
 ·exact Gives.ret (hc.up (by omega)) ⟨hl3, by show (bs []).size ≤ 30000; rw [bs1]; simp, by show (bs P3).size ≤ 30000; rw [bs1]; omega⟩
theorem sl4 : ∀ (v : Nat) (T : ByteArray) (code : List Int) (at' seed x : Int) (l : List Slot) (w t d : Int) (g1 g2 : ByteArray) (g3 n : Int), v ≤ 10 → CG (code, at', seed, ()) n → n + 50 * v ≤ 100000000 → l.length ≤ 1048576 → T.size + 31 * v ≤ 1000 →
  ∃ T' code' at2 seed', iter (fun s => sDRS2 s.1 s.2.1 s.2.2.1 s.2.2.2.1 s.2.2.2.2.1 s.2.2.2.2.2.1 s.2.2.2.2.2.2.1 s.2.2.2.2.2.2.2.1 s.2.2.2.2.2.2.2.2.1 s.2.2.2.2.2.2.2.2.2.1 s.2.2.2.2.2.2.2.2.2.2.1 s.2.2.2.2.2.2.2.2.2.2.2.1 s.2.2.2.2.2.2.2.2.2.2.2.2) (T, (v : Int), code, at', seed, x, l, w, t, d, g1, g2, g3) = some (T', code', at2, seed', x, l, w, t, d, g1, g2, g3) ∧ CG (code', at2, seed', ()) (n + 50 * v) ∧ T'.size ≤ T.size + 31 * v
 | 0, T, code, at', seed, x, l, w, t, d, g1, g2, g3, n, _, hc, _, hl, hT => by
   refine ⟨T, code, at', seed, io ?_, hc.up (by omega), by omega⟩
   show sDRS2 T ((0 : Nat) : Int) code at' seed x l w t d g1 g2 g3 = _
   unfold sDRS2
   rw [cd (by omega)]
 | v + 1, T, code, at', seed, x, l, w, t, d, g1, g2, g3, n, hv, hc, hn, hl, hT => by
   obtain ⟨z, ⟨code1, at1, seed1, u⟩, e1, hc1, hz⟩ := co (code, at', seed, ()) x l w t d g1 g2 g3 n hl hc (by omega)
   have hz : z.size ≤ 30 := hz
   have h1 : (ByteArray.mk #[10]).size = 1 := rfl
   have h2 : (T ++ ByteArray.mk #[10]).size = T.size + 1 := by rw [ByteArray.size_append, h1]
   have h3 : (T ++ ByteArray.mk #[10] ++ z).size = T.size + 1 + z.size := by rw [ByteArray.size_append, h2]
   obtain ⟨T', code', at2, seed', e2, hc2, hT'⟩ := sl4 v (T ++ ByteArray.mk #[10] ++ z) code1 at1 seed1 x l w t d g1 g2 g3 (n + 40) (by omega) hc1 (by omega) hl (by omega)
   refine ⟨T', code', at2, seed', (ig ?_).trans e2, hc2.up (by omega), by omega⟩
   show sDRS2 T ((v + 1 : Nat) : Int) code at' seed x l w t d g1 g2 g3 = _
   unfold sDRS2
   rw [cd1 (by omega), gp1 (by omega), e1, Option.bind_some]
   dsimp only
   rw [gp1 (by omega), wp1 v (by omega)]
theorem sl3 : ∀ (v : Nat) (T : ByteArray) (x : Int) (l : List Slot) (w t d : Int) (g1 g2 : ByteArray) (g3 : Int), T.size + v ≤ 1000 →
  ∃ T', iter (fun s => sDRS1 s.1 s.2.1 s.2.2.1 s.2.2.2.1 s.2.2.2.2.1 s.2.2.2.2.2.1 s.2.2.2.2.2.2.1 s.2.2.2.2.2.2.2.1 s.2.2.2.2.2.2.2.2.1 s.2.2.2.2.2.2.2.2.2) (T, (v : Int), x, l, w, t, d, g1, g2, g3) = some (T', x, l, w, t, d, g1, g2, g3) ∧ T'.size ≤ T.size + v
 | 0, T, x, l, w, t, d, g1, g2, g3, hT => by
   refine ⟨T, io ?_, by omega⟩
   show sDRS1 T ((0 : Nat) : Int) x l w t d g1 g2 g3 = _
   unfold sDRS1
   rw [cd (by omega)]
 | v + 1, T, x, l, w, t, d, g1, g2, g3, hT => by
   have h1 : (ByteArray.mk #[10]).size = 1 := rfl
   have h2 : (T ++ ByteArray.mk #[10]).size = T.size + 1 := by rw [ByteArray.size_append, h1]
   obtain ⟨T', e2, hT'⟩ := sl3 v (T ++ ByteArray.mk #[10]) x l w t d g1 g2 g3 (by omega)
   refine ⟨T', (ig ?_).trans e2, by omega⟩
   show sDRS1 T ((v + 1 : Nat) : Int) x l w t d g1 g2 g3 = _
   unfold sDRS1
   rw [cd1 (by omega), gp1 (by omega), wp1 v (by omega)]
theorem drawScript_ok {code : List Int} (hb : ∀ x ∈ code, 0 ≤ x ∧ x ≤ 255) (hl : code.length ≤ 1048576) : ∃ s t, sDRS code = some (s, t) ∧ ConB s ∧ t.size ≤ 1000 := by
 obtain ⟨⟨⟨x, l, w, t, d, u1⟩, ⟨g1, g2, g3, u2⟩, u3⟩, ⟨code1, at1, seed1, u⟩, e1, hc1, hs⟩ := console_ok (code, 0, 0, ()) 0 (start_ok hb hl) (by omega)
 have hs1 : l.length ≤ 11 := hs.1
 obtain ⟨z, ⟨code2, at2, seed2, u4⟩, e2, hc2, hz⟩ := co (code1, at1, seed1, ()) x l w t d g1 g2 g3 _ (by omega) hc1 (by omega)
 have hz : z.size ≤ 30 := hz
 obtain ⟨a, ⟨code3, at3, seed3, u5⟩, e3, hc3, ha⟩ := po (code2, at2, seed2, ()) _ 5 hc2 (by omega)
 obtain ⟨v, rfl⟩ : ∃ v : Nat, a = (v : Int) := ⟨a.toNat, by omega⟩
 obtain ⟨T', code4, at4, seed4, e4, hc4, hT⟩ := sl4 v z code3 at3 seed3 x l w t d g1 g2 g3 _ (by omega) hc3 (by omega) (by omega) (by omega)
 obtain ⟨b, ⟨code5, at5, seed5, u6⟩, e5, hc5, _⟩ := oo (code4, at4, seed4, ()) _ 20 hc4 (by omega)
 unfold sDRS
 rw [e1, Option.bind_some]
 dsimp only
 rw [e2, Option.bind_some]
 dsimp only
 rw [e3, Option.bind_some]
 dsimp only
 rw [e4, Option.bind_some]
 dsimp only
 rw [e5, Option.bind_some]
 dsimp only
 cases b with
 | false => exact ⟨_, _, rfl, hs, by omega⟩
 | true =>
   obtain ⟨a, ⟨code6, at6, seed6, u7⟩, e6, hc6, ha⟩ := po (code5, at5, seed5, ()) _ 2 hc5 (by omega)
   obtain ⟨k, rfl⟩ : ∃ k : Nat, a = (k : Int) := ⟨a.toNat, by omega⟩
   have hw : w64 ((29 : Int) + (k : Int)) = ((29 + k : Nat) : Int) := by rw [wi (by omega) (by omega)]; omega
   obtain ⟨T2, e7, hT2⟩ := sl3 (29 + k) (ByteArray.mk #[]) x l w t d g1 g2 g3 (by show 0 + (29 + k) ≤ 1000; omega)
   have h0 : (ByteArray.mk #[]).size = 0 := rfl
   rw [cond_true, e6, Option.bind_some]
   dsimp only
   rw [hw, e7, Option.bind_some]
   exact ⟨_, _, rfl, hs, by show T2.size ≤ 1000; omega⟩
theorem rd : ∀ (v : Nat) (s0 w0 : Int) (code : List Int) (at' seed x : Int) (l : List Slot) (w t d : Int) (P : List UInt8) (q n : Int), v ≤ 20 → CG (code, at', seed, ()) n → n + 50 * v ≤ 100000000 → (gd (x, l, w, t, d, ()) && okLog [] P q) = true →
  ∃ code' at2 seed' x' l' w' t' d' P' q', iter (fun s => sDRL1 s.1 s.2.1 s.2.2.1 s.2.2.2.1 s.2.2.2.2.1 s.2.2.2.2.2.1 s.2.2.2.2.2.2.1 s.2.2.2.2.2.2.2.1 s.2.2.2.2.2.2.2.2.1 s.2.2.2.2.2.2.2.2.2.1 s.2.2.2.2.2.2.2.2.2.2.1 s.2.2.2.2.2.2.2.2.2.2.2.1 s.2.2.2.2.2.2.2.2.2.2.2.2.1 s.2.2.2.2.2.2.2.2.2.2.2.2.2) (s0, w0, (v : Int), code, at', seed, x, l, w, t, d, bs [], bs P, q) = some (s0, w0, code', at2, seed', x', l', w', t', d', bs [], bs P', q') ∧ CG (code', at2, seed', ()) (n + 50 * v) ∧ P'.length ≤ 24000
 | 0, s0, w0, code, at', seed, x, l, w, t, d, P, q, n, _, hc, _, hv => by
   refine ⟨code, at', seed, x, l, w, t, d, P, q, io ?_, hc.up (by omega), by have := (vl hv).2; omega⟩
   show sDRL1 s0 w0 ((0 : Nat) : Int) code at' seed x l w t d (bs []) (bs P) q = _
   unfold sDRL1
   rw [cd (by omega)]
 | v + 1, s0, w0, code, at', seed, x, l, w, t, d, P, q, n, hk, hc, hn, hv => by
   have hl := (vl hv).1
   obtain ⟨z, ⟨code1, at1, seed1, u⟩, e1, hc1, hz⟩ := co (code, at', seed, ()) x l w t d (bs []) (bs P) q n (by omega) hc (by omega)
   obtain ⟨z, rfl⟩ := bs_ex z
   have hz : (bs z).size ≤ 30 := hz
   rw [bs1] at hz
   obtain ⟨x', l', w', t', d', P', m, R, _, hv', e2, _⟩ := ev1 x l w t d [] P z q (by omega) hv
   obtain ⟨code', at2, seed', x2, l2, w2, t2, d2, P2, q2, e3, hc2, hP2⟩ := rd v s0 w0 code1 at1 seed1 x' l' w' t' d' P' m (n + 40) (by omega) hc1 (by omega) hv'
   refine ⟨code', at2, seed', x2, l2, w2, t2, d2, P2, q2, (ig ?_).trans e3, hc2.up (by omega), hP2⟩
   show sDRL1 s0 w0 ((v + 1 : Nat) : Int) code at' seed x l w t d (bs []) (bs P) q = _
   unfold sDRL1
   rw [cd1 (by omega), e1, Option.bind_some]
   dsimp only
   rw [e2, Option.bind_some, wp1 v (by omega)]
theorem specC_ok (n w : Int) : sNC n w = some (Sum.inl ((0, [], 0, 0, 0, ()), (bs [], bs [], 0, ()), ())) ∧ iNC n w = some (Sum.inl ((0, [], 0, 0, 0, ()), (bs [], bs [], 0, ()), ())) ∨
  ∃ l, iNR n w = some (Sum.inr (0, l, w, 0, 0, ())) ∧ sNC n w = some (Sum.inr ((0, l, w, 0, 0, ()), (bs [], bs [], 0, ()), ())) ∧ iNC n w = some (Sum.inr ((0, l, w, 0, 0, ()), (bs [], bs [], 0, ()), ())) ∧ gd (0, l, w, 0, 0, ()) = true := by
 unfold sNC iNC
 rcases newR_ok n w with ⟨e1, e2⟩ | ⟨l, e1, e2, hg⟩
 ·rw [e1, e2]; exact .inl ⟨rfl, rfl⟩
 ·rw [e1, e2]; exact .inr ⟨l, rfl, rfl, rfl, hg⟩
theorem drawReplay_ok {code : List Int} (hb : ∀ x ∈ code, 0 ≤ x ∧ x ≤ 255) (hl : code.length ≤ 1048576) : ∃ s w d p m, sDRL code = some (s, w, d, p, m, ()) ∧ d.size ≤ 30000 ∧ p.size ≤ 30000 := by
 obtain ⟨s, ⟨code1, at1, seed1, u1⟩, e1, hc1, _⟩ := ao1 (code, 0, 0, ()) 0 [(4 : Int), (6 : Int), (10 : Int), (5 : Int)] (by simp) (start_ok hb hl) (by omega)
 obtain ⟨w, ⟨code2, at2, seed2, u2⟩, e2, hc2, _⟩ := ao1 (code1, at1, seed1, ()) _ [(0 : Int), (5 : Int), (500 : Int)] (by simp) hc1 (by omega)
 unfold sDRL
 rw [e1, Option.bind_some]
 dsimp only
 rw [e2, Option.bind_some]
 dsimp only
 rcases specC_ok s w with ⟨n1, _⟩ | ⟨l, _, n1, _, hg⟩
 ·rw [n1, Option.bind_some]
  exact ⟨s, w, _, _, _, rfl, by decide, by decide⟩
 ·rw [n1, Option.bind_some, Sum.elim_inr, Option.bind_some]
  dsimp only
  rw [Bool.not_true, cond_false]
  obtain ⟨a, ⟨code3, at3, seed3, u3⟩, e3, hc3, ha⟩ := po (code2, at2, seed2, ()) _ 12 hc2 (by omega)
  obtain ⟨v, rfl⟩ : ∃ v : Nat, a = (v : Int) := ⟨a.toNat, by omega⟩
  obtain ⟨code4, at4, seed4, x4, l4, w4, t4, d4, P4, q4, e4, hc4, hP4⟩ := rd v s w code3 at3 seed3 0 l w 0 0 [] 0 _ (by omega) hc3 (by omega) (by rw [hg, oLe]; rfl)
  rw [e3, Option.bind_some]
  dsimp only
  rw [e4, Option.bind_some]
  dsimp only
  obtain ⟨b, ⟨code5, at5, seed5, u5⟩, e5, hc5, _⟩ := oo (code4, at4, seed4, ()) _ 3 hc4 (by omega)
  rw [e5, Option.bind_some]
  dsimp only
  have h0 : (bs []).size = 0 := rfl
  cases b with
  | false => exact ⟨s, w, _, _, _, rfl, by omega, by rw [bs1]; omega⟩
  | true =>
    obtain ⟨r, ⟨code6, at6, seed6, u6⟩, e6, hc6, hr⟩ := lRo (code5, at5, seed5, ()) _ hc5 (by omega)
    obtain ⟨d', p', m', k, e7, h7⟩ := app_step (bs []) (bs P4) q4 r 24000 (by rw [h0, bs1]; omega) (by omega) hr
    rw [cond_true, e6, Option.bind_some]
    dsimp only
    rw [e7, Option.bind_some]
    exact ⟨s, w, _, _, _, rfl, by show d'.size ≤ 30000; omega, by show p'.size ≤ 30000; omega⟩
end Go.Proofs.YtaobinhdnklojaaGreatDoor
namespace Go.Proofs.YtaobinhdnklojaaGreatDoor
open Go.RowKit

theorem RI_inj {a y y' : R1} {c c' : Bool} {R R' : List UInt8} (h : RI a y c R = RI a y' c' R') : y = y' ∧ R = R' := by
 cases c <;> cases c'
 ·have h := Sum.inl.inj h
  exact ⟨congrArg (·.1) h, bi.1 (congrArg (·.2.1) h)⟩
 ·cases h
 ·cases h
 ·have h := Sum.inr.inj h
  exact ⟨congrArg (·.1) h, bi.1 (congrArg (·.2.1) h)⟩
def Rep : R1 → List Rc → R1 → Prop
 | a, [], b => a = b
 | a, x :: xs, b => ∃ y c, ir a (bs x.1) = some (RI a y c x.2.1) ∧ Rep y xs b
theorem Rep.snoc : ∀ {xs : List Rc} {a b : R1} {x : Rc} {y : R1} {c : Bool}, Rep a xs b → ir b (bs x.1) = some (RI b y c x.2.1) → Rep a (xs ++ [x]) y
 | [], _, _, _, y, c, h, hr => by cases h; exact ⟨y, c, hr, rfl⟩
 | _ :: _, _, _, _, _, _, ⟨y1, c1, e, h⟩, hr => ⟨y1, c1, e, Rep.snoc h hr⟩
theorem Rep.pre : ∀ {xs ys : List Rc} {a b : R1}, Rep a (xs ++ ys) b → ∃ m, Rep a xs m
 | [], _, a, _, _ => ⟨a, rfl⟩
 | _ :: _, _, _, _, ⟨y1, c1, e, h⟩ => by
   obtain ⟨m, hm⟩ := Rep.pre h
   exact ⟨m, y1, c1, e, hm⟩
theorem good_reply {l R : List UInt8} (h : goodB l [] = true) (hR : Fine R) : goodB l R = true := by
 unfold goodB at h ⊢
 simp only [Bool.and_eq_true, decide_eq_true_eq] at h ⊢
 exact ⟨h.1, by have := hR.1; omega, h.2.2.1, hR.2⟩
theorem good_cmd {l R : List UInt8} (h : goodB l R = true) : goodB l [] = true := by
 unfold goodB at h ⊢
 simp only [Bool.and_eq_true, decide_eq_true_eq] at h ⊢
 exact ⟨h.1, by simp, h.2.2.1, rfl⟩
theorem spl_count (c : UInt8) : ∀ l : List UInt8, (spl c l).length ≤ l.length + 1 := by
 intro l
 induction l with
 | nil => simp [spl]
 | cons b l ih =>
   unfold spl
   split
   ·simp; omega
   ·cases hq : spl c l with
    | nil => exact absurd hq (sn c l)
    | cons q qs => rw [hq] at ih; simp at ih ⊢; omega
theorem append_yes (D P c r : List UInt8) (n : Int) (hv : okLog D P n = true) (h60 : n ≠ 60) (hg : goodB c r = true) :
  ∃ P' m, iAR (bs D, bs P, n, ()) (bs c, bs r, ()) = some ((bs D, bs P', m, ()), 0) := by
 have hlen := oLl hv
 have hgo := gBo hg
 have e2 := ve D P n (by omega) (by omega)
 unfold iAR
 simp only [e2, Option.bind_some, iVe c r (by omega) (by omega), hv, hg, Bool.not_true, cond_false]
 have hn := oLc hv
 obtain ⟨k, rfl⟩ : ∃ k : Nat, n = k := ⟨n.toNat, by omega⟩
 have h1 := tLl k c r (by omega)
 have h2 := sLl1 (textL k c r)
 have h3 : (lineL k c r).length = (sealL (textL k c r)).length + 1 := by simp [lineL]
 rw [cd h60, encode_eq k c r (by omega) hg]
 simp only [Option.bind_some, bs1, ba]
 rw [gp1 (by omega), wn (by omega)]
 exact ⟨P ++ lineL k c r, _, rfl⟩
theorem exec_kept {a y : R1} {D P P' l R : List UInt8} {n m : Int} (h : Exec a D P n l y P' m R) (hv : (gd a && okLog D P n) = true) (h60 : n ≠ 60) (hb : goodB l [] = true) :
  ∃ (b : Bool) (q : Nat), ir a (bs l) = some (RI a y b R) ∧ n = (q : Int) ∧ okLog D P n = true ∧ q ≠ 60 ∧ goodB l R = true ∧ P' = P ++ lineL q l R ∧ m = ((q + 1 : Nat) : Int) := by
 cases h with
 | no h => rw [hv] at h; cases h
 | bad h hb' => rw [hb] at hb'; cases hb'
 | full h hb' h' => exact absurd h' h60
 | run h hb h60 y b R P' m hr hg hR hy k ha h0 h1 =>
   obtain ⟨P2, m2, e⟩ := append_yes D P l R n (vS hv).2 h60 (good_reply hb hR)
   rw [e] at ha
   have hk : k = 0 := (congrArg (·.2) (Option.some.inj ha)).symm
   obtain ⟨q, e1, e2, e3, e4, e5, e6⟩ := h1 hk
   exact ⟨b, q, hr, e1, e2, e3, e4, e5, e6⟩
theorem exec_own {a0 a y : R1} {P P' l R : List UInt8} {n m : Int} (h : Exec a [] P n l y P' m R) (hv : (gd a && okLog [] P n) = true) (hr : Rep a0 (rsOf P) a) : Rep a0 (rsOf P') y := by
 by_cases hb : goodB l [] = true
 ·by_cases h60 : n = 60
  ·cases h with
   | no h => exact hr
   | bad h hb' => exact hr
   | full h hb' h' => exact hr
   | run h hb h60' y b R P' m hr hg hR hy k ha h0 h1 => exact absurd h60 h60'
  ·obtain ⟨b, q, e1, rfl, e2, e3, e4, rfl, rfl⟩ := exec_kept h hv h60 hb
   have := (more_ok e2 e3 e4).1
   simp only [List.nil_append] at this
   rw [this]
   exact hr.snoc e1
 ·cases h with
  | no h => exact hr
  | bad h hb' => exact hr
  | full h hb' h' => exact hr
  | run h hb' h60' y b R P' m hr hg hR hy k ha h0 h1 => exact absurd hb' hb
theorem own_loop (s0 w0 : Int) (lines : List ByteArray) (hn : lines.length ≤ 1000000000) (hs : ∀ z ∈ lines, z.size ≤ 1048576) (a0 : R1) (x : Int) (l : List Slot) (w t d : Int) (hv : (gd (x, l, w, t, d, ()) && okLog [] [] 0) = true) (hr : Rep a0 (rsOf []) (x, l, w, t, d, ())) :
  ∃ r, iter (fun s => lFRl s.1 s.2.1 s.2.2.1 s.2.2.2.1 s.2.2.2.2.1 s.2.2.2.2.2.1 s.2.2.2.2.2.2.1 s.2.2.2.2.2.2.2.1 s.2.2.2.2.2.2.2.2.1 s.2.2.2.2.2.2.2.2.2.1 s.2.2.2.2.2.2.2.2.2.2.1 s.2.2.2.2.2.2.2.2.2.2.2) (s0, w0, (0 : Int), x, l, w, t, d, bs [], bs [], (0 : Int), lines) = some r ∧
    ∃ (x : Int) (l : List Slot) (w t d : Int) (P : List UInt8) (q : Int), (gd (x, l, w, t, d, ()) && okLog [] P q) = true ∧ Rep a0 (rsOf P) (x, l, w, t, d, ()) ∧ r = (s0, w0, x, l, w, t, d, bs [], bs P, q) :=
 iter_tot (fun (k : Nat) s => ∃ (x : Int) (l : List Slot) (w t d : Int) (P : List UInt8) (q : Int), (gd (x, l, w, t, d, ()) && okLog [] P q) = true ∧ Rep a0 (rsOf P) (x, l, w, t, d, ()) ∧ s = (s0, w0, (k : Int), x, l, w, t, d, bs [], bs P, q, lines)) _ lines.length
  (by
   rintro k _ hk ⟨x, l, w, t, d, P, q, hv, hr, rfl⟩
   refine .inl ?_
   have hz := hs _ (List.getElem_mem hk)
   obtain ⟨z, ez⟩ := bs_ex lines[k]
   rw [ez, bs1] at hz
   obtain ⟨x', l', w', t', d', P', m, R, hex, hv', _, e⟩ := ev1 x l w t d [] P z q hz hv
   refine ⟨_, ?_, x', l', w', t', d', P', m, hv', exec_own hex hv hr, rfl⟩
   show lFRl s0 w0 (k : Int) x l w t d (bs []) (bs P) q lines = _
   unfold lFRl
   rw [cd1 (by omega), gp1 (by omega), Int.toNat_natCast, gDe _ _ _ hk, ez, e, Option.bind_some, wn (by omega)])
  (by
   rintro _ ⟨x, l, w, t, d, P, q, hv, hr, rfl⟩
   refine ⟨_, ?_, x, l, w, t, d, P, q, hv, hr, rfl⟩
   show lFRl s0 w0 (lines.length : Int) x l w t d (bs []) (bs P) q lines = _
   unfold lFRl
   rw [cd (by omega)])
  ⟨x, l, w, t, d, [], 0, hv, hr, rfl⟩
theorem replay_all (recs : List Rc) (hn : recs.length ≤ 60) (hs : ∀ x ∈ recs, goodB x.1 x.2.1 = true) (b : R1) (x : Int) (l : List Slot) (w t d : Int) (hv : (gd (x, l, w, t, d, ()) && okLog [] [] 0) = true) (hr : Rep (x, l, w, t, d, ()) recs b) :
  iter (fun s => iRLl s.1 s.2.1 s.2.2.1 s.2.2.2.1 s.2.2.2.2.1 s.2.2.2.2.2.1 s.2.2.2.2.2.2.1 s.2.2.2.2.2.2.2.1 s.2.2.2.2.2.2.2.2.1 s.2.2.2.2.2.2.2.2.2.1 s.2.2.2.2.2.2.2.2.2.2.1 s.2.2.2.2.2.2.2.2.2.2.2) (recs.map recOf, recs.map recOf, ((recs.map recOf).length : Int), (0 : Int), x, l, w, t, d, bs [], bs [], (0 : Int)) = some (.inr (recs.map recOf)) := by
 have hm : (recs.map recOf).length = recs.length := List.length_map ..
 obtain ⟨r, e, rfl⟩ := iter_tot (f := (fun s => iRLl s.1 s.2.1 s.2.2.1 s.2.2.2.1 s.2.2.2.2.1 s.2.2.2.2.2.1 s.2.2.2.2.2.2.1 s.2.2.2.2.2.2.2.1 s.2.2.2.2.2.2.2.2.1 s.2.2.2.2.2.2.2.2.2.1 s.2.2.2.2.2.2.2.2.2.2.1 s.2.2.2.2.2.2.2.2.2.2.2)) (fun (k : Nat) s => ∃ (x : Int) (l : List Slot) (w t d : Int) (P : List UInt8), (gd (x, l, w, t, d, ()) && okLog [] P (k : Int)) = true ∧ Rep (x, l, w, t, d, ()) (recs.drop k) b ∧ s = (recs.map recOf, recs.map recOf, ((recs.map recOf).length : Int), (k : Int), x, l, w, t, d, bs [], bs P, (k : Int))) (fun r => r = .inr (recs.map recOf)) recs.length
  (by
   rintro k _ hk ⟨x, l, w, t, d, P, hv, hr, rfl⟩
   refine .inl ?_
   rw [List.drop_eq_getElem_cons hk] at hr
   obtain ⟨y, c, hrun, hrest⟩ := hr
   have hg := hs _ (List.getElem_mem hk)
   have hgo := gBo hg
   have hb : goodB recs[k].1 [] = true := good_cmd hg
   obtain ⟨x', l', w', t', d', P', m, R, hex, hv', _, e⟩ := ev1 x l w t d [] P recs[k].1 k (by omega) hv
   obtain ⟨c', q, hrun', hq, _, _, _, _, rfl⟩ := exec_kept hex hv (by omega) hb
   obtain ⟨rfl, rfl⟩ := RI_inj (Option.some.inj (hrun.symm.trans hrun'))
   obtain rfl : k = q := by omega
   refine ⟨_, ?_, x', l', w', t', d', P', hv', hrest, rfl⟩
   have hgd : (recs.map recOf).getD k dLR = recOf recs[k] := by
    rw [gDe _ _ _ (by simpa using hk), List.getElem_map]
   show iRLl (recs.map recOf) (recs.map recOf) ((recs.map recOf).length : Int) (k : Int) x l w t d (bs []) (bs P) (k : Int) = _
   unfold iRLl
   rw [cd1 (by omega), gp1 (by omega), Int.toNat_natCast, hgd]
   show (Option.bind (iECi x l w t d (bs []) (bs P) (k : Int) (bs recs[k].1)) _) = _
   rw [e, Option.bind_some, wn (by omega)]
   show (cond (!decide (bs recs[k].2.1 = bs recs[k].2.1)) _ _) = _
   rw [cn rfl])
  (by
   rintro _ ⟨x, l, w, t, d, P, hv, hr, rfl⟩
   refine ⟨_, ?_, rfl⟩
   show iRLl (recs.map recOf) (recs.map recOf) ((recs.map recOf).length : Int) (recs.length : Int) x l w t d (bs []) (bs P) (recs.length : Int) = _
   unfold iRLl
   rw [cd (by omega)])
  (s := (recs.map recOf, recs.map recOf, ((recs.map recOf).length : Int), (0 : Int), x, l, w, t, d, bs [], bs [], (0 : Int))) ⟨x, l, w, t, d, [], hv, hr, rfl⟩
 exact e
theorem replay_own (s w : Int) (l : List Slot) (D P : List UInt8) (c : Int) (hv : okLog D P c = true) (e2 : iNC s w = some (Sum.inr ((0, l, w, 0, 0, ()), (bs [], bs [], 0, ()), ()))) (hg : gd (0, l, w, 0, 0, ()) = true) (b : R1) (hr : Rep (0, l, w, 0, 0, ()) (rsOf (D ++ P)) b) : iRL s w (bs D, bs P, c, ()) = some (c, true) := by
 have hlen := oLl hv
 obtain ⟨_, hc, _⟩ := oLo hv
 have l3 : iLR (bs D, bs P, c, ()) = some (Sum.inr ((rsOf (D ++ P)).map recOf)) := records_val D P c (by omega) (by omega) hv
 have k2 := replay_all (rsOf (D ++ P)) (pl 60 0 _) (fun x hx => par_good 60 0 _ x hx) b 0 l w 0 0 (by rw [hg, oLe]; rfl) hr
 unfold iRL
 dsimp only
 rw [e2, Option.bind_some, Sum.elim_inr, Option.bind_some]
 dsimp only
 rw [l3, Option.bind_some, Sum.elim_inr, Option.bind_some]
 dsimp only
 rw [Bool.not_true, cond_false, cond_false, k2, Option.bind_some, Sum.elim_inr, List.length_map, ← hc]
theorem vC_eq (x : Int) (l : List Slot) (w t d : Int) (g1 g2 : ByteArray) (g3 : Int) (h : l.length ≤ 1048576) : lvC ((x, l, w, t, d, ()), (g1, g2, g3, ()), ()) ((x, l, w, t, d, ()), (g1, g2, g3, ()), ()) = some true := by
 unfold lvC
 dsimp only
 rw [vRopeway_eq x l w t d h, Option.bind_some, cond_true]
 simp
theorem law_FnReplay (code : List Int) (hc : Ty.fit (.sl (.int .u8)) code) : lFR code = some true := by
 have hl : code.length ≤ 1048576 := hc.1
 have hb : ∀ x ∈ code, 0 ≤ x ∧ x ≤ 255 := fun x hx => hc.2 x hx
 obtain ⟨s, w, d, p, m, d1, hd, hp⟩ := drawReplay_ok hb hl
 obtain ⟨g, T, d2, hg1, hT⟩ := drawScript_ok hb hl
 obtain ⟨D, rfl⟩ := bs_ex d
 obtain ⟨P, rfl⟩ := bs_ex p
 obtain ⟨T, rfl⟩ := bs_ex T
 rw [bs1] at hd hp hT
 obtain ⟨z, r1, r2⟩ := replay_both s w D P m (by omega) (by omega)
 have sp : sSS (bs T) (ByteArray.mk #[10]) = some ((spl 10 T).map bs, true) := by
  unfold sSS
  have h1 : (ByteArray.mk #[10]).size = 1 := rfl
  rw [cn (by omega), cd (by rw [bs1]; omega), gp1 (by omega)]
  show ((slS (bs T) (10 : Int)).bind _) = _
  rw [show slS (bs T) (10 : Int) = some ((spl 10 T).map bs) from se T 10 (by omega)]
  rfl
 unfold lFR lvB
 rw [Option.bind_some]
 by_cases h0 : (65536 : Int) < (code.length : Int)
 ·rw [cd1 h0]
 rw [cd h0, d1, Option.bind_some]
 dsimp only
 rw [r2, r1, Option.bind_some, Option.bind_some, cn rfl]
 simp only [beq_self_eq_true, Bool.not_true, cond_false]
 rw [d2, Option.bind_some]
 rcases specC_ok s w with ⟨n1, n2⟩ | ⟨l, n0, n1, n2, hgd⟩
 ·rw [n2, Option.bind_some, Sum.elim_inl, Option.bind_some]
  dsimp only
  rw [n1, Option.bind_some, Sum.elim_inl, Option.bind_some]
  dsimp only
  rw [vC_eq 0 [] 0 0 0 (bs []) (bs []) 0 (by simp)]
  rfl
 ·have hll := (vl (D := []) (P := []) (n := 0) (x := 0) (l := l) (w := w) (t := 0) (d := 0) (by rw [hgd, oLe]; rfl)).1
  rw [n2, Option.bind_some, Sum.elim_inr, Option.bind_some]
  dsimp only
  rw [n1, Option.bind_some, Sum.elim_inr, Option.bind_some]
  dsimp only
  rw [vC_eq 0 l w 0 0 (bs []) (bs []) 0 (by omega), Option.bind_some]
  simp only [beq_self_eq_true, Bool.not_true, cond_false]
  rw [sp, Option.bind_some]
  dsimp only
  have hparts : ∀ q ∈ (spl 10 T).map bs, q.size ≤ 1048576 := fun q hq => by
   obtain ⟨u, hu, rfl⟩ := List.mem_map.1 hq
   have := sp1 10 T u hu
   rw [bs1]; omega
  have hcount := spl_count 10 T
  obtain ⟨_, e, x, l2, w2, t2, d2, P2, q2, hv, hr, rfl⟩ := own_loop s w ((spl 10 T).map bs) (by rw [List.length_map]; omega) hparts (0, l, w, 0, 0, ()) 0 l w 0 0 (by rw [hgd, oLe]; rfl) rfl
  rw [e, Option.bind_some]
  dsimp only
  obtain ⟨_, ho⟩ := vS hv
  have hlen := oLl ho
  have hlen : P2.length ≤ 24000 := by simp at hlen; omega
  rw [replay_own s w l [] P2 q2 ho n2 hgd _ hr, Option.bind_some, gp1 (by decide)]
  have hk : w64 (((bs P2).size : Int) - Int.tmod ((bs P2).size : Int) 7) = ((P2.length - P2.length % 7 : Nat) : Int) := by
   rw [bs1]
   have : Int.tmod (P2.length : Int) 7 = ((P2.length % 7 : Nat) : Int) := rfl
   rw [this, wi (by omega) (by omega)]
   omega
  rw [hk, crash_impl [] P2 q2 _ (by simp) (by omega) ho (by omega), Option.bind_some]
  dsimp only
  generalize P2.length - P2.length % 7 = k
  have hs2 : ([] ++ P2.take k).length ≤ 30000 := by simp; omega
  generalize hs : [] ++ P2.take k = S at *
  rw [recover_val S (by omega), if_pos hs2, Option.bind_some]
  dsimp only
  have hpre : rsOf S <+: rsOf P2 := by
   rw [← hs]; exact par_pre 60 0 P2 k
  obtain ⟨ys, hys⟩ := hpre
  obtain ⟨b, hb2⟩ := Rep.pre (xs := rsOf S) (ys := ys) (by rw [hys]; exact hr)
  rw [replay_own s w l (S.take (tot (rsOf S))) [] _ (recov_ok S) n2 hgd b (by rw [List.append_nil, show rsOf (S.take (tot (rsOf S))) = rsOf S from par_take 60 0 S]; exact hb2)]
  simp
end Go.Proofs.YtaobinhdnklojaaGreatDoor
namespace Go.Proofs.YtaobinhdnklojaaGreatDoor
open Go.RowKit

theorem lVg {P : Program} {w : World} : ∀ {l : List (String × DataW Unit)} {ps : List MemPlace}, DataW.LaidVars P w l ps → ∀ {n : String} {d : DataW Unit}, (n, d) ∈ l →
  ∃ g t cs fuel p, P.globalNamed n = some g ∧ (P.globals[g]?).map (·.type) = some t ∧ w.var? P n = some cs ∧ DataW.trod (fun _ => ()) P w 0 (fun _ => true) false fuel t cs.toList = some (d, p)
 | [], _, _, _, _, hm => by simp at hm
 | (n', d') :: r, ps, h, n, d, hm => by
   obtain ⟨g, t, cs, fuel, p, q, h1, h2, h3, h4, h5, _⟩ := h
   rcases List.mem_cons.1 hm with e | e
   ·cases e; exact ⟨g, t, cs, fuel, p, h1, h2, h3, h4⟩
   ·exact lVg h5 e
theorem var_heap {P : Program} {w : World} {n : String} {g : Nat} {cs : Array Value} (hg : P.globalNamed n = some g) (h : w.var? P n = some cs) : ∃ t fr, w.heap[g]? = some (.cells cs t fr) := by
 unfold World.var? at h
 rw [hg, Option.bind_some] at h
 split at h
 ·rename_i cs' t fr e
  cases h
  exact ⟨t, fr, e⟩
 ·cases h
def GBx (b : Nat) : Prop := b = 0 ∨ b = 1 ∨ b = 2
theorem facts {l : List (String × DataW Unit)} {W : World} (hL : laidMet Tryz.prog l W) (hsh : W.ShapedOpen Tryz.prog) {n : String} (hm : (n, Rows.laid_internal_strconv_uint64pow10) ∈ l) {n2 : String} (hm2 : (n2, Rows.laid_strconv_ErrSyntax) ∈ l)
  (hn : Tryz.prog.globalNamed n = some 1 := by kernel_rfl) (hn2 : Tryz.prog.globalNamed n2 = some 2 := by kernel_rfl) : Lw GBx W := by
 obtain ⟨ps, hv, _⟩ := hL
 obtain ⟨g, t, cs, fuel, p, h1, h2, h3, h4⟩ := lVg hv hm
 obtain rfl := Option.some.inj (hn.symm.trans h1)
 have ht : (Tryz.prog.globals[1]?).map (·.type) = some 216 := by kernel_rfl
 obtain rfl := Option.some.inj (ht.symm.trans h2)
 have hc := Lib.cells_of_tab (k := .u64) (zs := Lib.pow10Tab) (n := 20) Tryz.underlying216 Tryz.underlying88 (by kernel_rfl) (by kernel_rfl) h4
 obtain ⟨t, fr, hh⟩ := var_heap hn h3
 obtain ⟨m, hm⟩ := Tryz.laysM145.s1_3 W hsh
 obtain ⟨g2, t2, cs2, fuel2, p2, k1, k2, k3, k4⟩ := lVg hv hm2
 obtain rfl := Option.some.inj (hn2.symm.trans k1)
 have ht2 : (Tryz.prog.globals[2]?).map (·.type) = some 140 := by kernel_rfl
 obtain rfl := Option.some.inj (ht2.symm.trans k2)
 obtain ⟨_, u, v, hcs, _⟩ := iface_of_trod Tryz.underlying140 k4
 obtain ⟨t3, fr3, hh3⟩ := var_heap hn2 k3
 have hcell : W.cell? ⟨2, 0, none⟩ = some (.iface u v) := by
  have e : cs2 = #[.iface u v] := by rw [← Array.toArray_toList (xs := cs2), hcs]
  subst e
  simp [World.cell?, hh3]
 refine ⟨⟨⟨.inl rfl, .inr (.inr rfl), u, v, hcell⟩, m, hm⟩, .inr (.inl rfl), t, fr, ?_⟩
 rw [hh, ← hc]
theorem facts_lt {W : World} (h : Lw GBx W) : ∀ b, GBx b → b < W.heap.size := by
 obtain ⟨⟨⟨_, _, te, pe, h6⟩, m, h1⟩, _, t, fr, h2⟩ := h
 have key : ∀ (b : Nat) (x : Value), W.cell? ⟨b, 0, none⟩ = some x → b < W.heap.size := fun b x h1 => by
  rcases Nat.lt_or_ge b W.heap.size with h | h
  ·exact h
  ·exfalso
   unfold World.cell? at h1
   rw [Array.getElem?_eq_none h] at h1
   simp at h1
 rintro b (rfl | rfl | rfl)
 ·exact key _ _ h1
 ·exact (Array.getElem?_eq_some_iff.1 h2).1
 ·exact key _ _ h6
end Go.Proofs.YtaobinhdnklojaaGreatDoor
