/- The printed functions of the reference 04 (Digits, Whole) in plain words. Conditions: texts within the form's reach, whole numbers of 64 bits. -/
import Derived.Test.YtpbiohnmmngccaaDoorRR04x1
import Derived.Test.YtpbiohnmmngccaaDoorDec
import Derived.Lib.ItoaLen
import Derived.Lib.ItoaMem
set_option linter.unusedVariables false
set_option linter.unusedSimpArgs false
namespace Go.Proofs.YtpbiohnmmngccaaDoor.R04P
open Go.RowKit Go.Proofs.YtpbiohnmmngccaaDoor Go.Proofs.YtpbiohnmmngccaaDoor.RR04 Go.Proofs.YtpbiohnmmngccaaDoorW.PrintWords

theorem w64 {x : Int} (h1 : -9223372036854775808 ≤ x) (h2 : x ≤ 9223372036854775807) : wrap64 x = x := by
  unfold wrap64; omega
theorem len_data (s : ByteArray) : s.data.toList.length = s.size := Array.length_toList
theorem bt_nat (s : ByteArray) (i : Nat) (h : i < s.size) : bt s (i : Int) = ((s.data.toList[i]'(by rw [len_data]; exact h)).toNat : Int) := by
  unfold bt
  rw [dif_pos (by simpa using h)]
  simp [ByteArray.getElem_eq_getElem_data]
theorem toList_data (s : ByteArray) : s.toList = s.data.toList := ByteArray.toList_eq s
theorem drop_cons (s : ByteArray) (i : Nat) (h : i < s.size) : s.data.toList.drop i = s.data.toList[i]'(by rw [len_data]; exact h) :: s.data.toList.drop (i + 1) :=
  List.drop_eq_getElem_cons (by rw [len_data]; exact h)

theorem head45 (s : ByteArray) (h : 0 < s.size) : s.data.toList.head? = some 45 ↔ bt s 0 = 45 := by
  have hb := bt_nat s 0 h
  rw [show ((0 : Nat) : Int) = 0 from rfl] at hb
  rw [hb, List.head?_eq_getElem?, List.getElem?_eq_getElem (by rw [len_data]; exact h)]
  generalize s.data.toList[0]'(by rw [len_data]; exact h) = c
  simp only [Option.some.injEq]
  constructor
  · intro e; rw [e]; rfl
  · intro e; exact UInt8.toNat_inj.mp (by show c.toNat = 45; omega)

theorem le_pow_len (l : List UInt8) : ∀ a, a * 10 ^ l.length ≤ Dec.dv a l := by
  induction l with
  | nil => intro a; simp [Dec.dv]
  | cons c r ih =>
    intro a
    rw [Dec.dv_cons, List.length_cons, Nat.pow_succ]
    refine Nat.le_trans ?_ (ih _)
    rw [Nat.mul_comm (10 ^ r.length) 10, ← Nat.mul_assoc]
    exact Nat.mul_le_mul_right _ (by omega)

/-- so many digits without a leading zero are a great number -/
theorem big_of_len {l : List UInt8} (h : Dec.canon l = true) (hl : 20 ≤ l.length) : 9223372036854775808 < Dec.decVal l := by
  obtain ⟨h1, h2, h3⟩ := Dec.canon_parts h
  cases l with
  | nil => exact absurd rfl h1
  | cons c r =>
    have hc : c ≠ 48 := by
      rcases h3 with h3 | h3
      · simpa using h3
      · rw [h3] at hl; simp at hl
    simp only [List.all_cons, Bool.and_eq_true, Dec.isDig, decide_eq_true_eq] at h2
    have hv : Dec.decVal (c :: r) = Dec.dv (0 * 10 + (c.toNat - 48)) r := Dec.dv_cons 0 c r
    have hne : c.toNat ≠ 48 := fun e => hc (UInt8.toNat_inj.mp e)
    rw [hv]
    have hp := le_pow_len r (0 * 10 + (c.toNat - 48))
    have hp2 : 1 * 10 ^ r.length ≤ (0 * 10 + (c.toNat - 48)) * 10 ^ r.length := Nat.mul_le_mul_right _ (by omega)
    simp only [List.length_cons] at hl
    have : (10 : Nat) ^ 19 ≤ 10 ^ r.length := Nat.pow_le_pow_right (by omega) (by omega)
    have e : (10 : Nat) ^ 19 = 10000000000000000000 := by decide
    omega

theorem ba_ext {a b : ByteArray} (h : a.data.toList = b.data.toList) : a = b := ByteArray.ext (Array.toList_inj.1 h)
theorem ba_append (a b : List UInt8) : (⟨a.toArray⟩ : ByteArray) ++ ⟨b.toArray⟩ = ⟨(a ++ b).toArray⟩ := by
  apply ba_ext
  rw [ByteArray.data_append]
  simp
theorem size_mk (l : List UInt8) : (⟨l.toArray⟩ : ByteArray).size = l.length := List.size_toArray
theorem decDigits_len {m : Nat} (h : m ≤ 9223372036854775808) : (Lib.decDigits m).length ≤ 20 := by
  rcases Nat.eq_zero_or_pos m with h0 | h0
  · rw [h0, Lib.decDigits_one (by omega)]; simp
  · have := Lib.itoa_length_le (-(m : Int)) (by omega) (by omega)
    rw [Lib.itoa_neg m h0] at this
    simpa using this

theorem below_eq : ∀ (d m k : Nat), m < 10 ^ (d + 1) → d < k → m ≤ 9223372036854775808 → marshalyardref04_below.f k (-(m : Int)) = some ⟨(Lib.decDigits m).toArray⟩ := by
  intro d
  induction d with
  | zero =>
    intro m k hm hk hb
    obtain ⟨k, rfl⟩ : ∃ q, k = q + 1 := ⟨k - 1, by omega⟩
    have hm' : m < 10 := by simpa using hm
    simp only [marshalyardref04_below.f, Option.bind_some]
    have ht : Int.tmod (-(m : Int)) 10 = -((m % 10 : Nat) : Int) := by rw [Int.neg_tmod]; norm_cast
    rw [ht, w64 (x := 48 - -((m % 10 : Nat) : Int)) (by omega) (by omega)]
    have hs : strOfNums [(48 - -((m % 10 : Nat) : Int)) % 256] = ⟨#[UInt8.ofNat (48 + m % 10)]⟩ := by
      have e : (48 - -((m % 10 : Nat) : Int)) % 256 = ((48 + m % 10 : Nat) : Int) := by omega
      rw [e]
      simp only [strOfNums, List.map_cons, List.map_nil, Int.toNat_natCast]
    rw [hs, if_neg (by omega), Lib.decDigits, dif_pos hm', Nat.mod_eq_of_lt hm']
  | succ d ih =>
    intro m k hm hk hb
    obtain ⟨k, rfl⟩ : ∃ q, k = q + 1 := ⟨k - 1, by omega⟩
    rw [Nat.pow_succ] at hm
    simp only [marshalyardref04_below.f, Option.bind_some]
    have ht : Int.tmod (-(m : Int)) 10 = -((m % 10 : Nat) : Int) := by rw [Int.neg_tmod]; norm_cast
    have hq : Int.tdiv (-(m : Int)) 10 = -((m / 10 : Nat) : Int) := by rw [Int.neg_tdiv]; norm_cast
    rw [ht, hq, w64 (x := 48 - -((m % 10 : Nat) : Int)) (by omega) (by omega)]
    have hs : strOfNums [(48 - -((m % 10 : Nat) : Int)) % 256] = ⟨#[UInt8.ofNat (48 + m % 10)]⟩ := by
      have e : (48 - -((m % 10 : Nat) : Int)) % 256 = ((48 + m % 10 : Nat) : Int) := by omega
      rw [e]
      simp only [strOfNums, List.map_cons, List.map_nil, Int.toNat_natCast]
    rw [hs]
    by_cases h10 : m < 10
    · rw [if_neg (by omega), Lib.decDigits, dif_pos h10, Nat.mod_eq_of_lt h10]
    · rw [if_pos (by omega), w64 (by omega) (by omega), ih (m / 10) k (by omega) (by omega) (by omega)]
      simp only [Option.bind_some]
      have hl := decDigits_len (m := m / 10) (by omega)
      rw [if_pos (by rw [size_mk, show (⟨#[UInt8.ofNat (48 + m % 10)]⟩ : ByteArray).size = 1 from rfl]; omega)]
      rw [Lib.decDigits.eq_1 m, dif_neg h10]
      exact congrArg some (ba_append (Lib.decDigits (m / 10)) [UInt8.ofNat (48 + m % 10)])


theorem below_any (m k : Nat) (hm : m ≤ 9223372036854775808) (hk : 18 < k) : marshalyardref04_below.f k (-(m : Int)) = some ⟨(Lib.decDigits m).toArray⟩ :=
  below_eq 18 m k (by have e : (10 : Nat) ^ (18 + 1) = 10000000000000000000 := by decide
                      omega) hk hm

/-- Digits: a number in decimal. -/
theorem digits_eq (n : Int) (k : Nat) (h0 : -9223372036854775808 ≤ n) (h1 : n ≤ 9223372036854775807) (hk : 18 < k) : marshalyardref04_Digits.f k n = some ⟨(Lib.itoa n).toArray⟩ := by
  unfold marshalyardref04_Digits.f
  by_cases hn : n < 0
  · rw [if_pos hn]
    obtain ⟨m, hm⟩ : ∃ m : Nat, n = -(m : Int) := ⟨n.natAbs, by omega⟩
    subst hm
    rw [below_any m k (by omega) hk]
    have hl := decDigits_len (m := m) (by omega)
    simp only [Option.bind_some]
    rw [if_pos (by rw [size_mk]; omega), Lib.itoa_neg m (by omega)]
    exact congrArg some (ba_append [45] (Lib.decDigits m))
  · rw [if_neg hn]
    obtain ⟨m, hm⟩ : ∃ m : Nat, n = (m : Int) := ⟨n.natAbs, by omega⟩
    subst hm
    rw [w64 (by omega) (by omega), below_any m k (by omega) hk]
    simp only [Option.bind_some]
    rw [Lib.itoa_nonneg]

/-! ### whole -/
/-- the number of the digits so far -/
theorem dv_append (a : Nat) (l r : List UInt8) : Dec.dv a (l ++ r) = Dec.dv (Dec.dv a l) r := by
  simp [Dec.dv, List.foldl_append]

/-- is the number in the range of an int? -/
def inRange (v : Int) : Bool := decide (-9223372036854775808 ≤ v ∧ v ≤ 9223372036854775807)
/-- is a text a number that an int holds? -/
def isNum (l : List UInt8) : Bool := Dec.form l && inRange (Dec.numVal l)

theorem isNum_of_itoa {n : Int} {l : List UInt8} (h0 : -9223372036854775808 ≤ n) (h1 : n ≤ 9223372036854775807) (h : Lib.itoa n = l) : isNum l = true ∧ Dec.numVal l = n := by
  obtain ⟨h2, h3⟩ := Dec.form_itoa n
  rw [← h]
  refine ⟨?_, h3⟩
  unfold isNum inRange
  rw [h2, h3, decide_eq_true ⟨h0, h1⟩]
  rfl
theorem not_isNum_of_itoa {n : Int} {l : List UInt8} (hv : Dec.numVal l = n) (h : Lib.itoa n ≠ l) : isNum l = false := by
  rw [← Bool.not_eq_true]
  intro hi
  unfold isNum at hi
  rw [Bool.and_eq_true] at hi
  exact h (hv ▸ Dec.itoa_numVal hi.1)
theorem not_isNum_form {l : List UInt8} (h : Dec.form l = false) : isNum l = false := by unfold isNum; rw [h]; rfl
theorem not_isNum_range {l : List UInt8} (h : Dec.form l = true → ¬ (-9223372036854775808 ≤ Dec.numVal l ∧ Dec.numVal l ≤ 9223372036854775807)) : isNum l = false := by
  unfold isNum
  by_cases hf : Dec.form l = true
  · rw [hf]
    unfold inRange
    rw [decide_eq_false (h hf)]
    rfl
  · rw [Bool.not_eq_true] at hf
    rw [hf]; rfl

end Go.Proofs.YtpbiohnmmngccaaDoor.R04P
