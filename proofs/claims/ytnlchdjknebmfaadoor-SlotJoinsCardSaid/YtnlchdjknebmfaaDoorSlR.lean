/- Runs of rising numbers, in plain words: what slot.Ranges lays number by number, and what the reference lays run by run, are the same. -/
import Derived.WalkKit
namespace Go.Proofs.YtnlchdjknebmfaaDoor
/-- one number more: the last run grows, or a new one begins (the last run stands first) -/
def addR : List (Nat × Nat) → Nat → List (Nat × Nat)
  | (a, b) :: r, n => if b + 1 = n then (a, n) :: r else (n, n) :: (a, b) :: r
  | [], n => [(n, n)]
def rangesV (l : List Nat) : List (Nat × Nat) := (l.foldl addR []).reverse
theorem rangesV_nil : rangesV [] = [] := rfl
theorem foldl_snoc (l : List Nat) (n : Nat) : (l ++ [n]).foldl addR [] = addR (l.foldl addR []) n := by rw [List.foldl_append]; rfl
def flatR (l : List (Nat × Nat)) : List Value := l.flatMap fun p => [.int .i64 (p.1 : Int), .int .i64 (p.2 : Int)]
theorem flatR_len (l : List (Nat × Nat)) : (flatR l).length = l.length * 2 := by
  induction l with
  | nil => rfl
  | cons p r ih => simp [flatR] at ih ⊢; omega
theorem flatR_append (l r : List (Nat × Nat)) : flatR (l ++ r) = flatR l ++ flatR r := by simp [flatR]
/-- what a number more does to the runs -/
theorem rangesV_snoc (l : List Nat) (n : Nat) :
    (rangesV l = [] ∧ rangesV (l ++ [n]) = [(n, n)]) ∨
    ∃ q a b, rangesV l = q ++ [(a, b)] ∧ rangesV (l ++ [n]) = if b + 1 = n then q ++ [(a, n)] else q ++ [(a, b)] ++ [(n, n)] := by
  unfold rangesV
  rw [foldl_snoc]
  cases h : l.foldl addR [] with
  | nil => exact Or.inl ⟨rfl, rfl⟩
  | cons p r =>
    obtain ⟨a, b⟩ := p
    refine Or.inr ⟨r.reverse, a, b, by simp, ?_⟩
    show (if b + 1 = n then (a, n) :: r else (n, n) :: (a, b) :: r).reverse = _
    by_cases hb : b + 1 = n
    · rw [if_pos hb, if_pos hb]; simp
    · rw [if_neg hb, if_neg hb]; simp
theorem flatR_set (q : List (Nat × Nat)) (a b n : Nat) : (flatR (q ++ [(a, b)])).set (q.length * 2 + 1) (.int .i64 (n : Int)) = flatR (q ++ [(a, n)]) := by
  rw [flatR_append, flatR_append, List.set_append_right _ _ (by rw [flatR_len]; omega), flatR_len]
  have : q.length * 2 + 1 - q.length * 2 = 1 := by omega
  rw [this]; rfl
theorem flatR_last (q : List (Nat × Nat)) (a b : Nat) : (flatR (q ++ [(a, b)]))[q.length * 2 + 1]? = some (.int .i64 (b : Int)) := by
  rw [flatR_append, List.getElem?_append_right (by rw [flatR_len]; omega), flatR_len]
  have : q.length * 2 + 1 - q.length * 2 = 1 := by omega
  rw [this]; rfl
theorem rangesV_le (l : List Nat) : (rangesV l).length ≤ l.length := by
  have key : ∀ (l : List Nat) (acc : List (Nat × Nat)), (l.foldl addR acc).length ≤ acc.length + l.length := by
    intro l
    induction l with
    | nil => intro acc; exact Nat.le_refl _
    | cons n l ih =>
      intro acc
      have := ih (addR acc n)
      have h2 : (addR acc n).length ≤ acc.length + 1 := by
        unfold addR
        split
        · split <;> simp
        · simp
      simp only [List.foldl_cons, List.length_cons]
      omega
  have := key l []
  unfold rangesV
  simpa using this
end Go.Proofs.YtnlchdjknebmfaaDoor
