/-
  What is drawn for the platform's laws.
-/
import Derived.Test.YteckiilljhdkpaaDoorM33b
namespace Go.Proofs.YteckiilljhdkpaaDoor
open Go.RowKit

def Ex {γ : Type} (x : Option γ) (Q : γ → Prop) : Prop := ∃ z, x = some z ∧ Q z
theorem Ex.ret {γ : Type} {z : γ} {Q : γ → Prop} (h : Q z) : Ex (some z) Q := ⟨z, rfl, h⟩
theorem ex_cond {γ : Type} {b : Bool} {x y : Option γ} {Q : γ → Prop} (h1 : Ex x Q) (h2 : Ex y Q) : Ex (cond b x y) Q := by
  cases b
  · exact h2
  · exact h1
theorem ex_bind {γ δ : Type} {x : Option γ} {f : γ → Option δ} {P : γ → Prop} {Q : δ → Prop} (h : Ex x P) (hf : ∀ z, P z → Ex (f z) Q) : Ex (x.bind f) Q := by
  obtain ⟨z, e, hz⟩ := h
  rw [e]; exact hf z hz
theorem ex_gives {α γ : Type} {x : Option (α × l1Cur)} {f : α × l1Cur → Option γ} {n : Int} {P : α → Prop} {Q : γ → Prop} (h : Gives x n P)
    (hf : ∀ a code at' seed, P a → CG (code, at', seed, ()) n → Ex (f (a, (code, at', seed, ()))) Q) : Ex (x.bind f) Q := by
  obtain ⟨a, ⟨code, at', seed, u⟩, e, h1, h2⟩ := h
  rw [e]; exact hf a code at' seed h2 h1
theorem gives_join {α γ : Type} {x : Option γ} {f : γ → Option (α × l1Cur)} {m : Int} {P : γ → Prop} {Q : α → Prop} (h : Ex x P) (hf : ∀ z, P z → Gives (f z) m Q) : Gives (x.bind f) m Q := by
  obtain ⟨z, e, hz⟩ := h
  rw [e]; exact hf z hz
theorem of_ok (c : l1Cur) (n : Int) (l : List ByteArray) (hl : l ≠ []) (h : CG c n) (hn : n ≤ 100000000000) : Gives (spec_l1Cur_of c l) (n + 2) (fun _ => True) := by
  obtain ⟨code, at', seed, u⟩ := c
  unfold spec_l1Cur_of
  refine gives_bind (pick_ok _ n _ h hn) fun a code1 at1 seed1 ha hc => ?_
  dsimp only
  have hpos : 0 < l.length := List.length_pos_iff.2 hl
  exact gives_grd ⟨ha.1, by omega⟩ (Gives.ret hc trivial)
theorem platform_ok (c : l1Cur) (n : Int) (h : CG c n) (hn : n ≤ 1000000000) : Gives (spec_l1Cur_platform c) (n + 20) (fun _ => True) := by
  obtain ⟨code, at', seed, u⟩ := c
  unfold spec_l1Cur_platform
  refine gives_bind (among_ok _ n _ (by simp) h (by omega)) fun a1 _ _ _ _ hc => ?_
  dsimp only
  refine gives_bind (one_ok _ _ _ hc (by omega)) fun a2 _ _ _ _ hc => ?_
  dsimp only
  refine gives_bind (among_ok _ _ _ (by simp) hc (by omega)) fun a3 _ _ _ _ hc => ?_
  dsimp only
  refine gives_join (P := fun z => CG (z.1, z.2.1, z.2.2.1, ()) (n + 16)) ?_ fun z hz => ?_
  · refine ex_gives (one_ok _ _ _ hc (by omega)) fun a4 _ _ _ _ hc => ?_
    dsimp only
    refine ex_cond ?_ (Ex.ret (hc.up (by omega)))
    refine ex_gives (among_ok _ _ _ (by simp) hc (by omega)) fun a5 _ _ _ _ hc => ?_
    dsimp only
    refine ex_gives (pick_ok _ _ _ hc (by omega)) fun a6 _ _ _ _ hc => ?_
    dsimp only
    refine ex_gives (pick_ok _ _ _ hc (by omega)) fun a7 _ _ _ _ hc => ?_
    exact Ex.ret (hc.up (by omega))
  · refine gives_bind (pick_ok _ _ _ hz (by omega)) fun a9 _ _ _ _ hc => ?_
    dsimp only
    refine gives_cond (fun _ => ?_) (fun _ => gives_cond (fun _ => ?_) (fun _ => gives_cond (fun _ => ?_) (fun _ => gives_cond (fun _ => ?_) (fun _ => gives_cond (fun _ => ?_) (fun _ => Gives.ret (hc.up (by omega)) trivial)))))
    all_goals
      refine gives_bind (among_ok _ _ _ (by simp) hc (by omega)) fun a10 _ _ _ _ hc => ?_
      exact Gives.ret (hc.up (by omega)) trivial
theorem most_ex (k : ByteArray) : Ex (spec_l14Most k) (fun _ => True) := by
  unfold spec_l14Most
  exact ex_cond (Ex.ret trivial) (ex_cond (Ex.ret trivial) (ex_cond (Ex.ret trivial) (ex_cond (Ex.ret trivial) (ex_cond (Ex.ret trivial) (ex_cond (Ex.ret trivial) (ex_cond (Ex.ret trivial) (ex_cond (Ex.ret trivial) (Ex.ret trivial))))))))
theorem event_ok (c : l1Cur) (n : Int) (h : CG c n) (hn : n ≤ 1000000000) : Gives (spec_l1Cur_boardEvent c) (n + 20) (fun _ => True) := by
  obtain ⟨code, at', seed, u⟩ := c
  unfold spec_l1Cur_boardEvent
  refine gives_bind (of_ok _ n _ (by simp) h (by omega)) fun a1 _ _ _ _ hc => ?_
  dsimp only
  refine gives_join (P := fun z => CG (z.1, z.2.1, z.2.2.1, ()) (n + 10)) ?_ fun z hz => ?_
  · refine ex_bind (most_ex _) fun a2 _ => ?_
    refine ex_cond ?_ (Ex.ret (hc.up (by omega)))
    refine ex_gives (among_ok _ _ _ (by simp) hc (by omega)) fun a3 _ _ _ _ hc => ?_
    dsimp only
    refine ex_cond ?_ (Ex.ret (hc.up (by omega)))
    refine ex_gives (among_ok _ _ _ (by simp) hc (by omega)) fun a4 _ _ _ _ hc => ?_
    exact Ex.ret (hc.up (by omega))
  · refine gives_bind (pick_ok _ _ _ hz (by omega)) fun a6 _ _ _ _ hc => ?_
    dsimp only
    refine gives_cond (fun _ => ?_) (fun _ => gives_cond (fun _ => ?_) (fun _ => Gives.ret (hc.up (by omega)) trivial))
    · refine gives_bind (of_ok _ _ _ (by simp) hc (by omega)) fun a7 _ _ _ _ hc => ?_
      exact Gives.ret (hc.up (by omega)) trivial
    · refine gives_bind (among_ok _ _ _ (by simp) hc (by omega)) fun a8 _ _ _ _ hc => ?_
      exact Gives.ret (hc.up (by omega)) trivial
theorem events_loop1 : ∀ (v : Nat) (code : List Int) (at' seed : Int) (out : List BoardEvent) (n : Int), v ≤ 100 → CG (code, at', seed, ()) n → n + 20 * v ≤ 100000000 → out.length + v ≤ 1000 →
    Ex (iter (fun s => spec_l1Cur_boardEvents_loop1 s.1 s.2.1 s.2.2.1 s.2.2.2.1 s.2.2.2.2) ((v : Int), code, at', seed, out)) (fun r => CG (r.1, r.2.1, r.2.2.1, ()) (n + 20 * v) ∧ r.2.2.2.length ≤ out.length + v)
  | 0, code, at', seed, out, n, _, hc, _, _ => by
    refine ⟨(code, at', seed, out), iter_out ?_, hc.up (by omega), by dsimp only; omega⟩
    show spec_l1Cur_boardEvents_loop1 ((0 : Nat) : Int) code at' seed out = _
    unfold spec_l1Cur_boardEvents_loop1
    rw [cond_df (by omega)]
  | v + 1, code, at', seed, out, n, hv, hc, hn, hl => by
    obtain ⟨e, ⟨code1, at1, seed1, u⟩, e1, hc1, _⟩ := event_ok (code, at', seed, ()) n hc (by omega)
    obtain ⟨r, e2, h2, h3⟩ := events_loop1 v code1 at1 seed1 (out ++ [(e.1, e.2.1, ())]) (n + 20) (by omega) hc1 (by omega) (by simp only [List.length_append, List.length_cons, List.length_nil]; omega)
    refine ⟨r, (iter_go ?_).trans e2, h2.up (by omega), by simp only [List.length_append, List.length_cons, List.length_nil] at h3; omega⟩
    show spec_l1Cur_boardEvents_loop1 ((v + 1 : Nat) : Int) code at' seed out = _
    unfold spec_l1Cur_boardEvents_loop1
    rw [cond_dt (by omega), e1, Option.bind_some, grd_pos (by simp only [List.length_cons, List.length_nil]; omega), w64_id (by omega) (by omega)]
    refine congrArg (fun x => some (Lp.go (x, _))) ?_
    omega
theorem events_loop2 : ∀ (m : Nat) (code : List Int) (at' seed : Int) (out : List BoardEvent) (n : Int), m ≤ 100 → 22 ≤ out.length + m → CG (code, at', seed, ()) n → n + 2 * m ≤ 100000000 → out.length ≤ 1000 →
    Ex (iter (fun s => spec_l1Cur_boardEvents_loop2 s.1 s.2.1 s.2.2.1 s.2.2.2) (code, at', seed, out)) (fun r => CG (r.1, r.2.1, r.2.2.1, ()) (n + 2 * m + 2) ∧ r.2.2.2.length ≤ out.length + m)
  | m, code, at', seed, out, n, hm0, hm, hc, hn, hl => by
    obtain ⟨k, ⟨code1, at1, seed1, u⟩, e1, hc1, hk⟩ := pick_ok (code, at', seed, ()) n 2 hc (by omega)
    have hw : w64 (20 + k) = 20 + k := w64_id (by omega) (by omega)
    by_cases hlt : (out.length : Int) < 20 + k
    · cases m with
      | zero => omega
      | succ m =>
        obtain ⟨r, e2, h2, h3⟩ := events_loop2 m code1 at1 seed1 (out ++ [((ByteArray.mk #[97, 114, 114, 105, 118, 101]), (1 : Int), ())]) (n + 2) (by omega) (by simp only [List.length_append, List.length_cons, List.length_nil]; omega) hc1 (by omega) (by simp only [List.length_append, List.length_cons, List.length_nil]; omega)
        refine ⟨r, (iter_go ?_).trans e2, h2.up (by omega), by simp only [List.length_append, List.length_cons, List.length_nil] at h3; omega⟩
        show spec_l1Cur_boardEvents_loop2 code at' seed out = _
        unfold spec_l1Cur_boardEvents_loop2
        rw [e1, Option.bind_some]
        dsimp only
        rw [hw, cond_dt hlt, grd_pos (by simp only [List.length_cons, List.length_nil]; omega)]
    · refine ⟨(code1, at1, seed1, out), iter_out ?_, hc1.up (by omega), by dsimp only; omega⟩
      show spec_l1Cur_boardEvents_loop2 code at' seed out = _
      unfold spec_l1Cur_boardEvents_loop2
      rw [e1, Option.bind_some]
      dsimp only
      rw [hw, cond_df hlt]
theorem events_ok (c : l1Cur) (n : Int) (h : CG c n) (hn : n ≤ 1000000) : Gives (spec_l1Cur_boardEvents c) (n + 400) (fun l => l.length ≤ 200) := by
  obtain ⟨code, at', seed, u⟩ := c
  unfold spec_l1Cur_boardEvents
  refine gives_bind (pick_ok _ n _ h (by omega)) fun a1 code1 at1 seed1 ha hc => ?_
  dsimp only
  obtain ⟨v, rfl⟩ := Int.eq_ofNat_of_zero_le ha.1
  refine gives_join (events_loop1 v code1 at1 seed1 [] (n + 2) (by omega) hc (by omega) (by simp; omega)) fun r hr => ?_
  obtain ⟨hc, hl⟩ := hr
  simp only [List.length_nil] at hl
  refine gives_bind (one_ok _ _ _ hc (by omega)) fun a2 code2 at2 seed2 _ hc => ?_
  dsimp only
  refine gives_cond (fun _ => ?_) (fun _ => Gives.ret (hc.up (by omega)) (by omega))
  refine gives_join (events_loop2 22 code2 at2 seed2 r.2.2.2 _ (by omega) (by omega) hc (by omega) (by omega)) fun q hq => ?_
  exact Gives.ret (hq.1.up (by omega)) (by omega)
/-! ### The quickest events -/
theorem quick_loop : ∀ (N : Nat) (p : Platform) (out : List BoardEvent), goodB p = true → p.2.2.2.1 ≤ N → out.length + N ≤ 100000 →
    Ex (iter (fun s => spec_QuickestGo_loop1 s.1 s.2.1 s.2.2.1 s.2.2.2.1 s.2.2.2.2.1 s.2.2.2.2.2.1 s.2.2.2.2.2.2) (p.1, p.2.1, p.2.2.1, p.2.2.2.1, p.2.2.2.2.1, p.2.2.2.2.2.1, out)) (fun r => r.2.2.2.2.2.2.length ≤ out.length + N)
  | N, p, out, hg, hN, hl => by
    obtain ⟨d, s, n, w, l, g, u⟩ := p
    have hg' := (goodB_iff d s n w g l).1 hg
    have hN : w ≤ N := hN
    by_cases h0 : 0 < ent d s n w l
    · have hs1 : w64 (s - n) = s - n := w64_id (by omega) (by omega)
      have hle : ent d s n w l ≤ w ∧ ent d s n w l ≤ 16 := by
        unfold ent
        rw [hs1]
        split
        · split
          · split <;> split <;> omega
          · split <;> omega
        · omega
      cases N with
      | zero => omega
      | succ N =>
        obtain ⟨_, e2, e3⟩ := step_enter d s n w g l (ent d s n w l) hg
        have hb : (decide (1 ≤ ent d s n w l ∧ ent d s n w l ≤ 16) && decide (ent d s n w l ≤ ent d s n w l)) = true := by
          rw [decide_eq_true (by omega), decide_eq_true (by omega)]; rfl
        rw [hb] at e2 e3
        have hq := e3 rfl
        have hw : w64 (w - ent d s n w l) = w - ent d s n w l := w64_id (by omega) (by omega)
        obtain ⟨r, e4, h4⟩ := quick_loop N _ (out ++ [((ByteArray.mk #[101, 110, 116, 101, 114]), ent d s n w l, ())]) hq (by show w64 (w - ent d s n w l) ≤ N; rw [hw]; omega) (by simp only [List.length_append, List.length_cons, List.length_nil]; omega)
        refine ⟨r, (iter_go ?_).trans e4, by simp only [List.length_append, List.length_cons, List.length_nil] at h4; omega⟩
        show spec_QuickestGo_loop1 d s n w l g out = _
        unfold spec_QuickestGo_loop1
        rw [entering_eq, Option.bind_some, cond_dt h0, Option.bind_some, grd_pos (by simp only [List.length_cons, List.length_nil]; omega), e2, Option.bind_some]
        rfl
    · refine ⟨(d, s, n, w, l, g, out), iter_out ?_, by dsimp only; omega⟩
      show spec_QuickestGo_loop1 d s n w l g out = _
      unfold spec_QuickestGo_loop1
      rw [entering_eq, Option.bind_some, cond_df h0]
theorem quick_ok (p : Platform) : Ex (spec_QuickestGo p) (fun r => r.1.length ≤ 2000) := by
  obtain ⟨d, s, n, w, l, g, u⟩ := p
  unfold spec_QuickestGo
  rw [show spec_l14Good _ = some (goodB (d, s, n, w, l, g, ())) from good_eq _, Option.bind_some]
  cases hg : goodB (d, s, n, w, l, g, ()) with
  | false => exact Ex.ret (by simp)
  | true =>
    rw [Bool.not_true, cond_false]
    have hg' := (goodB_iff d s n w g l).1 hg
    dsimp only
    by_cases hs : s = 0
    · rw [cond_dt hs]; exact Ex.ret (by simp)
    rw [cond_df hs]
    refine ex_cond (Ex.ret (by simp)) ?_
    refine ex_bind (P := fun z => goodB (z.1, s, n, w, l, g, ()) = true ∧ z.2.length ≤ 1) ?_ fun z hz => ?_
    · by_cases hd : d = 0
      · rw [cond_dt hd]
        have hop : goodB ((1 : Int), s, n, w, l, g, ()) = true := (goodB_iff 1 s n w g l).2 (by omega)
        refine ex_cond (ex_cond ?_ (Ex.ret ⟨hg, by simp⟩)) (Ex.ret ⟨hg, by simp⟩)
        rw [grd_pos (by simp)]
        exact Ex.ret ⟨hop, by simp⟩
      · rw [cond_df hd]
        exact Ex.ret ⟨hg, by simp⟩
    · obtain ⟨z1, z2⟩ := z
      obtain ⟨hg2, hz2⟩ := hz
      have hz2 : z2.length ≤ 1 := hz2
      have hgz := (goodB_iff z1 s n w g l).1 hg2
      refine ex_bind (quick_loop 500 (z1, s, n, w, l, g, ()) z2 hg2 (by show w ≤ 500; omega) (by omega)) fun r hr => ?_
      refine ex_cond ?_ ?_
      · rw [grd_pos (by simp only [List.length_cons, List.length_nil]; omega), grd_pos (by simp only [List.length_append, List.length_cons, List.length_nil]; omega)]
        exact Ex.ret (by simp only [List.length_append, List.length_cons, List.length_nil]; omega)
      · rw [grd_pos (by simp only [List.length_cons, List.length_nil]; omega)]
        exact Ex.ret (by simp only [List.length_append, List.length_cons, List.length_nil]; omega)
theorem cg0 {code : List Int} (hc : Ty.fit (.sl (.int .u8)) code) : CG (code, 0, 0, ()) 0 := by
  refine ⟨fun x hx => ?_, hc.1, by show (0 : Int) ≤ 0; omega, by show (0 : Int) ≤ 0; omega⟩
  have := hc.2 x hx
  exact ⟨this.1, this.2⟩
theorem draw_run (code : List Int) (hc : Ty.fit (.sl (.int .u8)) code) : Ex (spec_DrawRunPlatform code) (fun r => r.2.length ≤ 10000) := by
  unfold spec_DrawRunPlatform
  refine ex_gives (platform_ok _ 0 (cg0 hc) (by omega)) fun p _ _ _ _ hc => ?_
  dsimp only
  refine ex_gives (events_ok _ _ hc (by omega)) fun l _ _ _ hl hc => ?_
  dsimp only
  refine ex_gives (one_ok _ _ _ hc (by omega)) fun b _ _ _ _ hc => ?_
  dsimp only
  refine ex_cond ?_ (Ex.ret (by dsimp only; omega))
  refine ex_bind (quick_ok _) fun q hq => ?_
  refine ex_cond ?_ (Ex.ret (by dsimp only; omega))
  rw [grd_pos (by omega)]
  by_cases h20 : (20 : Int) < ((q.1 ++ l).length : Int)
  · rw [cond_dt h20, grd_pos (by omega)]
    exact Ex.ret (by simp only [List.length_take]; omega)
  · rw [cond_df h20]
    exact Ex.ret (by simp only [List.length_append]; omega)
theorem draw_step (code : List Int) (hc : Ty.fit (.sl (.int .u8)) code) : Ex (spec_DrawStepPlatform code) (fun _ => True) := by
  unfold spec_DrawStepPlatform
  refine ex_gives (platform_ok _ 0 (cg0 hc) (by omega)) fun p _ _ _ _ hc => ?_
  dsimp only
  refine ex_gives (event_ok _ _ hc (by omega)) fun l _ _ _ hl hc => ?_
  exact Ex.ret trivial
theorem draw_count (code : List Int) (hc : Ty.fit (.sl (.int .u8)) code) : Ex (spec_DrawCountEvents code) (fun r => r.1.length ≤ 200) := by
  unfold spec_DrawCountEvents
  refine ex_gives (events_ok _ 0 (cg0 hc) (by omega)) fun l _ _ _ hl hc => ?_
  dsimp only
  refine ex_gives (of_ok _ _ _ (by simp) hc (by omega)) fun k _ _ _ _ hc => ?_
  exact Ex.ret hl
end Go.Proofs.YteckiilljhdkpaaDoor
