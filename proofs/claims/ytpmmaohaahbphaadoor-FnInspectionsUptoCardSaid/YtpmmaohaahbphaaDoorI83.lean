/-
  The program's order of two rows of two numbers, walked.
-/
import Derived.WalkKit
import Derived.WalkSpells
import Derived.Lib.Walk
import Derived.Test.YtpmmaohaahbphaaDoorI82
namespace Go.Proofs.YtpmmaohaahbphaaDoor
open Go.RowKit Go.Lib

def cmpI (x y : Int) : Int := if x < y then -1 else if y < x then 1 else 0
abbrev fCmp : Nat := 49
abbrev fCmpR : Nat := 28
abbrev fClo : Nat := 27
set_option maxHeartbeats 4000000 in
set_option maxRecDepth 100000 in
theorem calls_cmp (x y : Int) (w : World) : Calls Tryd.prog fCmp #[.int .i64 x, .int .i64 y] w fun e w' => e = .returned (.int .i64 (cmpI x y)) ∧ w' = w := by
  go_enter Tryd.func49, Tryd.ntmps49
  go_wp2_with (go_at_call 66; go_in)
  all_goals (go_ret; refine ⟨?_, rfl⟩; simp_all [cmpI]; try omega)

set_option maxHeartbeats 4000000 in
set_option maxRecDepth 100000 in
theorem calls_cmpR (b1 o1 c1 b2 o2 c2 : Nat) (x1 x2 y1 y2 : Int) (w : World)
    (h1 : w.cell? ⟨b1, o1, none⟩ = some (.int .i64 x1)) (h2 : w.cell? ⟨b1, o1 + 1, none⟩ = some (.int .i64 x2))
    (g1 : w.cell? ⟨b2, o2, none⟩ = some (.int .i64 y1)) (g2 : w.cell? ⟨b2, o2 + 1, none⟩ = some (.int .i64 y2)) :
    Calls Tryd.prog fCmpR #[.slice (some ⟨b1, o1, none⟩) 2 c1, .slice (some ⟨b2, o2, none⟩) 2 c2] w fun e w' => e = .returned (.int .i64 (cmpR [x1, x2] [y1, y2])) ∧ w' = w := by
  have c1 := calls_cmp x1 y1 w
  have c2 := calls_cmp x2 y2 w
  have hr : cmpR [x1, x2] [y1, y2] = if cmpI x1 y1 = 0 then cmpI x2 y2 else cmpI x1 y1 := by
    simp only [cmpR_cons, cmpI]
    split <;> split <;> simp_all [cmpR]
  rw [hr]
  generalize cmpI x1 y1 = r1 at c1 ⊢
  generalize cmpI x2 y2 = r2 at c2 ⊢
  clear hr
  go_enter Tryd.func28, Tryd.ntmps28
  go_wp2
  refine wp_loop_rounds 3 ?_
  rw [rounds_succ]
  go_wp2_with (first | (go_at_call 49; refine c1.mono ?_; rintro e w' ⟨rfl, rfl⟩))
  all_goals (first | (go_ret; refine ⟨?_, rfl⟩; simp_all; done) | skip)
  all_goals (rw [rounds_succ]; go_wp2_with (first | (go_at_call 49; refine c2.mono ?_; rintro e w' ⟨rfl, rfl⟩)))
  all_goals (first | (go_ret; refine ⟨?_, rfl⟩; simp_all; done) | skip)
  all_goals (rw [rounds_succ]; go_wp2)
  all_goals (first | (go_ret; refine ⟨?_, rfl⟩; simp_all; done) | skip)

theorem calls_clo (b1 o1 c1 b2 o2 c2 : Nat) (x1 x2 y1 y2 : Int) (w : World)
    (h1 : w.cell? ⟨b1, o1, none⟩ = some (.int .i64 x1)) (h2 : w.cell? ⟨b1, o1 + 1, none⟩ = some (.int .i64 x2))
    (g1 : w.cell? ⟨b2, o2, none⟩ = some (.int .i64 y1)) (g2 : w.cell? ⟨b2, o2 + 1, none⟩ = some (.int .i64 y2)) :
    Calls Tryd.prog fClo #[.slice (some ⟨b1, o1, none⟩) 2 c1, .slice (some ⟨b2, o2, none⟩) 2 c2] w fun e w' => e = .returned (.int .i64 (cmpR [x1, x2] [y1, y2])) ∧ w' = w := by
  have c1 := calls_cmpR b1 o1 c1 b2 o2 c2 x1 x2 y1 y2 w h1 h2 g1 g2
  generalize cmpR [x1, x2] [y1, y2] = r at c1 ⊢
  clear h1 h2 g1 g2
  go_enter Tryd.func27, Tryd.ntmps27
  go_wp2_with (first | (go_at_call 28; refine c1.mono ?_; rintro e w' ⟨rfl, rfl⟩))
  go_ret
  exact ⟨rfl, rfl⟩
end Go.Proofs.YtpmmaohaahbphaaDoor
