/-
  OPENING, part 3: lists of decoded elements; the row's plain part.
-/
import Derived.Test.YthjboaallleomaaAo2
namespace Go.Proofs.Ythjboaallleomaa
open Go.ChangeShapes Go.WideShapes Go.ChangeAt Go.RowKit

theorem tree_le {sz len : Nat} {rows rows' : Nat → List AV} (h : ∀ k, k < len → rows k = rows' k) : (AV.tree sz len rows).le (.tree sz len rows') := fun w S V N x hr => by
  cases hr.tree_inv with
  | tree _ _ _ a cap b o X hb hc hm ha hz hx hh =>
    exact .imm _ _ (.tree _ _ _ a cap b o X hb hc hm ha (fun k hk => by rw [← h k hk]; exact hz k hk) (fun k j c hk hj => hx k j c hk (by rw [h k hk]; exact hj)) (fun k j c hk hj => hh k j c hk (by rw [h k hk]; exact hj)))
theorem asElems {α : Type} {e : Sh} {enc : α → List AV} {d : α} {ok : α → Prop} (h : ∀ x, Has e x → ∃ a, x.cells = enc a ∧ ok a) : ∀ {l : List Dat}, HasA e l →
    ∃ xs : List α, xs.length = l.length ∧ (∀ i, i < l.length → (Dat.rows l).getD i [] = enc (xs.getD i d)) ∧ ∀ x ∈ xs, ok x
  | [], _ => ⟨[], rfl, fun i hi => absurd hi (Nat.not_lt_zero _), fun x hx => absurd hx (List.not_mem_nil)⟩
  | y :: l, hl => by
    cases hl with
    | cons _ _ _ h1 h2 =>
      obtain ⟨a, e1, e2⟩ := h y h1
      obtain ⟨xs, f1, f2, f3⟩ := asElems (d := d) h h2
      refine ⟨a :: xs, by simp [f1], fun i hi => ?_, fun x hx => ?_⟩
      · cases i with
        | zero => simpa [Dat.rows] using e1
        | succ i => simpa [Dat.rows] using f2 i (by simpa using hi)
      · rcases List.mem_cons.1 hx with rfl | hx
        · exact e2
        · exact f3 x hx
theorem asList {α : Type} {e : Sh} {enc : α → List AV} (d : α) {ok : α → Prop} (h : ∀ x, Has e x → ∃ a, x.cells = enc a ∧ ok a) {x : Dat} (hx : Has (.sl e) x) :
    ∃ xs : List α, x.av.le (listAV e.n enc d xs) ∧ xs.length ≤ 1048576 ∧ ∀ a ∈ xs, ok a := by
  cases hx with
  | sl _ l h1 hl =>
    obtain ⟨xs, f1, f2, f3⟩ := asElems (d := d) h h1
    refine ⟨xs, ?_, by omega, f3⟩
    simp only [Dat.av, listAV]
    rw [f1]
    exact tree_le f2
theorem asInt {k : IntKind} {x : Dat} (h : Has (.int k) x) : ∃ n, x.av = .v (.int k n) ∧ k.min ≤ n ∧ n ≤ k.max := by
  cases h with | int _ n h => exact ⟨n, rfl, h.1, h.2⟩
theorem asBool {x : Dat} (h : Has .bool x) : ∃ n, x.av = .v (.bool n) := by
  cases h with | bool n => exact ⟨n, rfl⟩
theorem asStr {x : Dat} (h : Has .str x) : ∃ s, x.av = .v (.string s) ∧ s.size ≤ 1048576 := by
  cases h with | str s h => exact ⟨s, rfl, h⟩
theorem has1 {s : Sh} {l : List Dat} (h : Hass [s] l) : ∃ x, l = [x] ∧ Has s x := by
  cases h with | cons _ _ x _ h1 h => cases h; exact ⟨x, rfl, h1⟩
theorem has2 {s t : Sh} {l : List Dat} (h : Hass [s, t] l) : ∃ x y, l = [x, y] ∧ Has s x ∧ Has t y := by
  cases h with | cons _ _ x _ h1 h => obtain ⟨y, rfl, h2⟩ := has1 h; exact ⟨x, y, rfl, h1, h2⟩
theorem has3 {s t u : Sh} {l : List Dat} (h : Hass [s, t, u] l) : ∃ x y z, l = [x, y, z] ∧ Has s x ∧ Has t y ∧ Has u z := by
  cases h with | cons _ _ x _ h1 h => obtain ⟨y, z, rfl, h2, h3⟩ := has2 h; exact ⟨x, y, z, rfl, h1, h2, h3⟩
theorem has4 {s t u v : Sh} {l : List Dat} (h : Hass [s, t, u, v] l) : ∃ x y z a, l = [x, y, z, a] ∧ Has s x ∧ Has t y ∧ Has u z ∧ Has v a := by
  cases h with | cons _ _ x _ h1 h => obtain ⟨y, z, a, rfl, h2, h3, h4⟩ := has3 h; exact ⟨x, y, z, a, rfl, h1, h2, h3, h4⟩
theorem Tryown : ownKnob Try.prog.godebug = none := by kernel_rfl
theorem Trylaid : laidOutB Try.prog = true := by kernel_rfl
end Go.Proofs.Ythjboaallleomaa
