/-
  Plain laws of marking and looking again: what is written into a slice in steps is found there in the same steps.
-/
import Derived.Test.YtpmmaohaahbphaaDoorL1
namespace Go.Proofs.YtpmmaohaahbphaaDoor
open Go.RowKit

def advN (adv : Int → Int) : Nat → Int → Int
  | 0, k => k
  | n + 1, k => advN adv n (adv k)
def marksL {α : Type} (adv : Int → Int) (mk : Int → α) : Nat → Int → List α
  | 0, _ => []
  | n + 1, k => mk k :: marksL adv mk n (adv k)
theorem marksL_length {α : Type} (adv : Int → Int) (mk : Int → α) : ∀ (n : Nat) (k : Int), (marksL adv mk n k).length = n
  | 0, _ => rfl
  | n + 1, k => by simp [marksL, marksL_length adv mk n]
theorem advN_add (adv : Int → Int) (c : Nat) (b : Int) (h : ∀ k, 0 ≤ k → k ≤ b → adv k = k + c) : ∀ (n : Nat) (k : Int), 0 ≤ k → k + c * n ≤ b → advN adv n k = k + c * n
  | 0, k, _, _ => by simp [advN]
  | n + 1, k, h1, h2 => by
    have e0 : (c : Int) * ((n + 1 : Nat) : Int) = c * n + c := by rw [Int.natCast_add, Int.mul_add]; simp
    have hcn : (0 : Int) ≤ (c : Int) * (n : Int) := Int.mul_nonneg (by omega) (by omega)
    have e := h k h1 (by omega)
    simp only [advN]
    rw [e, advN_add adv c b h n (k + c) (by omega) (by omega)]
    omega
theorem set_mid {α : Type} : ∀ (pre : List α) (x y : α) (post : List α), (pre ++ x :: post).set pre.length y = pre ++ y :: post
  | [], x, y, post => rfl
  | a :: pre, x, y, post => by simp
theorem getD_mid {α : Type} (pre : List α) (x d : α) (post : List α) : (pre ++ x :: post).getD pre.length d = x := by
  simp [List.getD_eq_getElem?_getD]
theorem iter_mark {α : Type} {f : Int × Int × List α → Option (Lp (Int × Int × List α) (Int × List α))} (adv : Int → Int) (mk : Int → α) (l0 : List α) (k0 : Int)
    (h : ∀ (k : Int) (i : Nat) (l : List α), i < l.length → l.length = l0.length → f (k, (i : Int), l) = some (.go (adv k, ((i + 1 : Nat) : Int), l.set i (mk k))))
    (h' : ∀ (k : Int) (l : List α), l.length = l0.length → f (k, (l.length : Int), l) = some (.out (k, l))) :
    iter f (k0, (0 : Int), l0) = some (advN adv l0.length k0, marksL adv mk l0.length k0) := by
  have key : ∀ (post pre : List α) (k : Int), (pre ++ post).length = l0.length → iter f (k, (pre.length : Int), pre ++ post) = some (advN adv post.length k, pre ++ marksL adv mk post.length k) := by
    intro post
    induction post with
    | nil =>
      intro pre k hl
      have := h' k (pre ++ []) hl
      simp only [List.append_nil] at this ⊢
      rw [iter_out this]
      simp [advN, marksL]
    | cons x post ih =>
      intro pre k hl
      have hs := h k pre.length (pre ++ x :: post) (by simp) hl
      rw [iter_go hs, set_mid]
      have := ih (pre ++ [mk k]) (adv k) (by simpa using hl)
      simp only [List.length_append, List.length_cons, List.length_nil, List.append_assoc, List.cons_append, List.nil_append] at this
      simpa [advN, marksL] using this
  simpa using key l0 [] k0 (by simp)
theorem iter_held {α R : Type} {g : Int × Int → Option (Lp (Int × Int) (R ⊕ Int))} (adv : Int → Int) (mk : Int → α) (d : α) (n : Nat) (k0 : Int)
    (h : ∀ (k : Int) (i : Nat), i < n → (marksL adv mk n k0).getD i d = mk k → g (k, (i : Int)) = some (.go (adv k, ((i + 1 : Nat) : Int))))
    (h' : ∀ (k : Int), g (k, (n : Int)) = some (.out (Sum.inr k))) : iter g (k0, (0 : Int)) = some (Sum.inr (advN adv n k0)) := by
  have key : ∀ (m : Nat) (pre : List α) (k : Int), pre.length + m = n → marksL adv mk n k0 = pre ++ marksL adv mk m k → iter g (k, (pre.length : Int)) = some (Sum.inr (advN adv m k)) := by
    intro m
    induction m with
    | zero =>
      intro pre k hl he
      obtain rfl : pre.length = n := by omega
      rw [iter_out (h' k)]; rfl
    | succ m ih =>
      intro pre k hl he
      have hs := h k pre.length (by omega) (by rw [he]; simp only [marksL]; exact getD_mid ..)
      rw [iter_go hs]
      have := ih (pre ++ [mk k]) (adv k) (by simp; omega) (by rw [he]; simp [marksL])
      simpa [advN] using this
  simpa using key n [] k0 (by simp) rfl
end Go.Proofs.YtpmmaohaahbphaaDoor
