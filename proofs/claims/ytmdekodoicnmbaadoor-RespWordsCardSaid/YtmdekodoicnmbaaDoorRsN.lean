/- What is written is read back: numbers, lines. Conditions: in the statements. -/
import Derived.Test.YtmdekodoicnmbaaDoorRsL
import Derived.Test.YtmdekodoicnmbaaDoorDec
set_option linter.unusedVariables false
set_option linter.unusedSimpArgs false
namespace Go.Proofs.YtmdekodoicnmbaaDoor
open Go.RowKit Go.Proofs.YtmdekodoicnmbaaDoorW.PrintWords
theorem parse_snoc : ∀ (l : List UInt8) (acc u : Nat) (c : UInt8), Lib.parseUint10 acc l = .ok u → 48 ≤ c.toNat → c.toNat ≤ 57 → u < 1844674407370955161 → Lib.parseUint10 acc (l ++ [c]) = .ok (u * 10 + (c.toNat - 48))
  | [], acc, u, c, h, h1, h2, h3 => by
    simp only [Lib.parseUint10] at h
    injection h with h
    subst h
    simp only [List.nil_append, Lib.parseUint10]
    rw [if_pos ⟨h1, h2⟩, if_neg (by omega), if_neg (by omega)]
  | d :: r, acc, u, c, h, h1, h2, h3 => by
    rw [List.cons_append]
    simp only [Lib.parseUint10] at h ⊢
    split at h
    · rename_i hd
      split at h
      · cases h
      · rename_i ha
        split at h
        · cases h
        · rename_i hb
          rw [if_pos hd, if_neg ha, if_neg hb]
          exact parse_snoc r _ u c h h1 h2 h3
    · cases h
theorem dig_toNat {k : Nat} (h : k < 10) : (UInt8.ofNat (48 + k)).toNat = 48 + k := by
  rw [UInt8.toNat_ofNat']; omega
theorem parse_dec : ∀ n : Nat, n < 1844674407370955161 → Lib.parseUint10 0 (Lib.decDigits n) = .ok n := by
  intro n
  induction n using Nat.strongRecOn with
  | _ n ih =>
    intro h
    rw [Lib.decDigits]
    split
    · rename_i h10
      simp only [Lib.parseUint10]
      have e : UInt8.ofNat (48 + n) = UInt8.ofNat (48 + n) := rfl
      rw [dig_toNat h10, if_pos (by omega), if_neg (by omega), if_neg (by omega)]
      congr 1
      omega
    · rename_i h10
      have hq := ih (n / 10) (by omega) (by omega)
      have := parse_snoc (Lib.decDigits (n / 10)) 0 (n / 10) (UInt8.ofNat (48 + n % 10)) hq (by rw [dig_toNat (by omega)]; omega) (by rw [dig_toNat (by omega)]; omega) (by omega)
      rw [this, dig_toNat (by omega)]
      congr 1
      omega
theorem dec_mem : ∀ (n : Nat) (x : UInt8), x ∈ Lib.decDigits n → 48 ≤ x.toNat ∧ x.toNat ≤ 57 := by
  intro n
  induction n using Nat.strongRecOn with
  | _ n ih =>
    intro x hx
    rw [Lib.decDigits] at hx
    split at hx
    · rename_i h10
      obtain rfl : x = UInt8.ofNat (48 + n) := by simpa using hx
      rw [dig_toNat h10]; omega
    · rename_i h10
      rw [List.mem_append] at hx
      rcases hx with hx | hx
      · exact ih (n / 10) (by omega) x hx
      · obtain rfl : x = UInt8.ofNat (48 + n % 10) := by simpa using hx
        rw [dig_toNat (by omega)]; omega
theorem atoi_dec (n : Nat) (h : n < 1844674407370955161) : Lib.atoiAll (Lib.decDigits n) = .ok (n : Int) := by
  have hp := parse_dec n h
  have hm := dec_mem n
  cases hd : Lib.decDigits n with
  | nil => exact absurd hd (Dec.decDigits_ne_nil n)
  | cons c r =>
    rw [hd] at hp
    have hc := hm c (by rw [hd]; simp)
    unfold Lib.atoiAll Lib.parseMag
    have e1 : ¬ (c.toNat = 43 ∨ c.toNat = 45) := by omega
    simp only [if_neg e1, List.cons_ne_nil, if_false, hp]
    rw [if_neg (by omega), if_neg (by omega), if_neg (by omega)]
theorem suffix_app (a p : List UInt8) : Lib.hasSuffix (a ++ p) p = true := by
  unfold Lib.hasSuffix
  rw [List.isSuffixOf_iff_suffix]
  exact ⟨a, rfl⟩
theorem cutS_app (a p : List UInt8) : cutS (a ++ p) p = a := by
  unfold cutS
  rw [if_pos (suffix_app a p)]
  simp
theorem numV_dec (x : UInt8) (n : Nat) (most : Int) (h : n < 1844674407370955161) (hm : (n : Int) ≤ most) : numV (x :: (Lib.decDigits n ++ [13, 10])) most = n := by
  unfold numV crlf
  simp only [List.drop_succ_cons, List.drop_zero]
  rw [cutS_app, atoi_dec n h]
  simp only
  rw [suffix_app, itoa_dec]
  simp [hm]
theorem index_first : ∀ (a b : List UInt8) (c : UInt8), c ∉ a → Lib.indexByte (a ++ c :: b) c = a.length
  | [], b, c, h => by simp [Lib.indexByte]
  | d :: a, b, c, h => by
    rw [List.cons_append]
    have hd : (d == c) = false := by
      rw [beq_eq_false_iff_ne]
      intro e
      exact h (by rw [e]; simp)
    have ih := index_first a b c (fun hc => h (List.mem_cons_of_mem _ hc))
    unfold Lib.indexByte
    rw [hd, ih]
    simp
theorem lkV_first (a b : List UInt8) (h : (10 : UInt8) ∉ a) (hl : a.length < 512) : lkV (a ++ 10 :: b) = a.length := by
  unfold lkV
  rw [List.take_append]
  obtain ⟨k, hk⟩ : ∃ k, 512 - a.length = k + 1 := ⟨511 - a.length, by omega⟩
  rw [hk, List.take_succ_cons, List.take_of_length_le (by omega)]
  exact index_first a _ 10 h
/-- a line of a sign and a number, then what follows -/
def numL (x : UInt8) (n : Nat) : List UInt8 := x :: (Lib.decDigits n ++ [13, 10])
theorem numL_len (x : UInt8) (n : Nat) : (numL x n).length = (Lib.decDigits n).length + 3 := by simp [numL]
theorem numL_lk (x : UInt8) (n : Nat) (rest : List UInt8) (hx : x ≠ 10) (hn : n < 10 ^ 19) : lkV (numL x n ++ rest) = ((Lib.decDigits n).length + 2 : Nat) := by
  have e : numL x n ++ rest = (x :: (Lib.decDigits n ++ [13])) ++ 10 :: rest := by simp [numL]
  have hl := dec_len 18 n hn
  rw [e, lkV_first]
  · simp
    omega
  · intro hm
    rcases List.mem_cons.1 hm with h | h
    · exact hx h.symm
    · rcases List.mem_append.1 h with h | h
      · have := dec_mem n _ h
        simp at this
      · simp at h
  · simp; omega
theorem numL_take (x : UInt8) (n : Nat) (rest : List UInt8) (hx : x ≠ 10) (hn : n < 10 ^ 19) : (numL x n ++ rest).take ((lkV (numL x n ++ rest)).toNat + 1) = numL x n ∧ (numL x n ++ rest).drop ((lkV (numL x n ++ rest)).toNat + 1) = rest := by
  rw [numL_lk x n rest hx hn]
  have e : ((((Lib.decDigits n).length + 2 : Nat) : Int).toNat + 1) = (numL x n).length := by rw [numL_len]; omega
  rw [e, List.take_left, List.drop_left]
  exact ⟨rfl, rfl⟩
theorem argV_eq (s rest : List UInt8) : argV s ++ rest = numL 36 s.length ++ (s ++ ([13, 10] ++ rest)) := by simp [argV, numL]
theorem bulkV_arg (s rest : List UInt8) (h : s.length ≤ 1024) : bulkV (argV s ++ rest) = (s, (argV s).length, 0) := by
  have hn : s.length < 10 ^ 19 := by have : (1024 : Nat) < 10 ^ 19 := by decide
                                     omega
  obtain ⟨ht, hd⟩ := numL_take 36 s.length (s ++ ([13, 10] ++ rest)) (by decide) hn
  have hk := numL_lk 36 s.length (s ++ ([13, 10] ++ rest)) (by decide) hn
  have hv := numV_dec 36 s.length 1024 (by omega) (by omega)
  have hal : (argV s).length = (Lib.decDigits s.length).length + s.length + 5 := by simp [argV]; omega
  rw [argV_eq, hal]
  unfold bulkV
  rw [if_neg (by simp [numL]), if_neg (by rw [hk]; omega), ht]
  have hv' : numV (numL 36 s.length) 1024 = s.length := hv
  rw [hv', if_neg (by omega), hd, hk]
  have e0 : ((s.length : Int)).toNat = s.length := by omega
  have g0 : (s ++ ([13, 10] ++ rest)).getD s.length 0 = 13 := by rw [List.getD_eq_getElem?_getD, List.getElem?_append_right (Nat.le_refl _)]; simp
  have g1 : (s ++ ([13, 10] ++ rest)).getD (s.length + 1) 0 = 10 := by rw [List.getD_eq_getElem?_getD, List.getElem?_append_right (by omega)]; simp
  simp only [e0, g0, g1]
  rw [if_neg (by simp), if_neg (by simp), List.take_left]
  congr 2
  omega
theorem argsV_back : ∀ (xs : List ByteArray) (m : Nat) (b pre rest : List UInt8) (acc : List ByteArray), m = xs.length → b = pre ++ (argsB xs ++ rest) → (∀ x ∈ xs, x.size ≤ 1024) → argsV m b pre.length acc = .ok (acc ++ xs, pre.length + (argsB xs).length)
  | [], m, b, pre, rest, acc, hm, hb, hx => by
    subst hm
    simp [argsV, argsB]
  | x :: xs, m, b, pre, rest, acc, hm, hb, hx => by
    subst hm
    have hd : argsB (x :: xs) = argV x.data.toList ++ argsB xs := rfl
    have hbu := bulkV_arg x.data.toList (argsB xs ++ rest) (by have := hx x (by simp); have e : x.data.toList.length = x.size := Array.length_toList; omega)
    have hdrop : b.drop pre.length = argV x.data.toList ++ (argsB xs ++ rest) := by rw [hb, hd, List.drop_left]; simp
    have hal : (argV x.data.toList).length ≠ 0 := by simp [argV]
    rw [List.length_cons]
    unfold argsV
    rw [hdrop, hbu]
    simp only
    rw [if_neg (by omega)]
    have hr := argsV_back xs xs.length b (pre ++ argV x.data.toList) rest (acc ++ [x]) rfl (by rw [hb, hd]; simp) (fun y hy => hx y (by simp [hy]))
    rw [List.length_append] at hr
    have hxx : (⟨x.data.toList.toArray⟩ : ByteArray) = x := rfl
    rw [hxx, hr, hd, List.length_append]
    simp
    omega
theorem oneV_back (xs : List ByteArray) (rest : List UInt8) (h1 : xs.length ≤ 32) (hx : ∀ x ∈ xs, x.size ≤ 1024) : oneV (cmdV xs ++ rest) = .read xs (cmdV xs).length := by
  have hc : cmdV xs ++ rest = numL 42 xs.length ++ (argsB xs ++ rest) := by simp [cmdV, numL]
  have hcl : (cmdV xs).length = (numL 42 xs.length).length + (argsB xs).length := by simp [cmdV, numL]; omega
  have hn : xs.length < 10 ^ 19 := by have : (32 : Nat) < 10 ^ 19 := by decide
                                      omega
  obtain ⟨ht, hd⟩ := numL_take 42 xs.length (argsB xs ++ rest) (by decide) hn
  have hk := numL_lk 42 xs.length (argsB xs ++ rest) (by decide) hn
  have hv : numV (numL 42 xs.length) 32 = xs.length := numV_dec 42 xs.length 32 (by omega) (by omega)
  have hl := numL_len 42 xs.length
  rw [hc, hcl]
  unfold oneV
  rw [if_neg (by simp [numL]), if_neg (by rw [hk]; omega), if_neg (by simp [numL]), ht, hv, if_neg (by omega)]
  have e : ((lkV (numL 42 xs.length ++ (argsB xs ++ rest))).toNat + 1) = (numL 42 xs.length).length := by rw [hk, hl]; omega
  rw [e]
  have e0 : ((xs.length : Int)).toNat = xs.length := by omega
  rw [e0, argsV_back xs xs.length (numL 42 xs.length ++ (argsB xs ++ rest)) (numL 42 xs.length) rest [] rfl rfl hx]
  rfl
end Go.Proofs.YtmdekodoicnmbaaDoor
