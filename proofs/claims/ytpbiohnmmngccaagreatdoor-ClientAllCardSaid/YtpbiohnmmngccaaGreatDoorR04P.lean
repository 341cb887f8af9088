/- The printed functions of the reference 04 (Digits, Whole) in plain words. Conditions: texts within the form's reach, whole numbers of 64 bits. -/
import Derived.Test.YtpbiohnmmngccaaGreatDoorRR04x1
import Derived.Test.YtpbiohnmmngccaaGreatDoorDec
import Derived.Lib.ItoaLen
import Derived.Lib.ItoaMem
set_option linter.unusedVariables false
set_option linter.unusedSimpArgs false
namespace Go.Proofs.YtpbiohnmmngccaaGreatDoor.R04P
open Go.RowKit Go.Proofs.YtpbiohnmmngccaaGreatDoor Go.Proofs.YtpbiohnmmngccaaGreatDoor.RR04 Go.Proofs.YtpbiohnmmngccaaGreatDoorW.PrintWords

theorem w64 {x : Int} (h1 : -9223372036854775808 ≤ x) (h2 : x ≤ 9223372036854775807) : wrap64 x = x := by
  unfold wrap64; omega
theorem len_data (s : ByteArray) : s.data.toList.length = s.size := Array.length_toList
theorem bt_nat (s : ByteArray) (i : Nat) (h : i < s.size) : bt s (i : Int) = ((s.data.toList[i]'(by rw [len_data]; exact h)).toNat : Int) := by
  unfold bt
  rw [dif_pos (by simpa using h)]
  simp [ByteArray.getElem_eq_getElem_data]
theorem toList_data (s : ByteArray) : s.toList = s.data.toList := ByteArray.toList_eq s
theorem drop_cons (s : ByteArray) (i : Nat) (h : i < s.size) : s.data.toList.drop i = s.data.toList[i]'(by rw [len_data]; exact h) :: s.data.toList.drop (i + 1) :=
  List.drop_eq_getElem_cons (by rw [len_data]; exact h)

theorem head45 (s : ByteArray) (h : 0 < s.size) : s.data.toList.head? = some 45 ↔ bt s 0 = 45 := by
  have hb := bt_nat s 0 h
  rw [show ((0 : Nat) : Int) = 0 from rfl] at hb
  rw [hb, List.head?_eq_getElem?, List.getElem?_eq_getElem (by rw [len_data]; exact h)]
  generalize s.data.toList[0]'(by rw [len_data]; exact h) = c
  simp only [Option.some.injEq]
  constructor
  · intro e; rw [e]; rfl
  · intro e; exact UInt8.toNat_inj.mp (by show c.toNat = 45; omega)

theorem le_pow_len (l : List UInt8) : ∀ a, a * 10 ^ l.length ≤ Dec.dv a l := by
  induction l with
  | nil => intro a; simp [Dec.dv]
  | cons c r ih =>
    intro a
    rw [Dec.dv_cons, List.length_cons, Nat.pow_succ]
    refine Nat.le_trans ?_ (ih _)
    rw [Nat.mul_comm (10 ^ r.length) 10, ← Nat.mul_assoc]
    exact Nat.mul_le_mul_right _ (by omega)

/-- so many digits without a leading zero are a great number -/
theorem big_of_len {l : List UInt8} (h : Dec.canon l = true) (hl : 20 ≤ l.length) : 9223372036854775808 < Dec.decVal l := by
  obtain ⟨h1, h2, h3⟩ := Dec.canon_parts h
  cases l with
  | nil => exact absurd rfl h1
  | cons c r =>
    have hc : c ≠ 48 := by
      rcases h3 with h3 | h3
      · simpa using h3
      · rw [h3] at hl; simp at hl
    simp only [List.all_cons, Bool.and_eq_true, Dec.isDig, decide_eq_true_eq] at h2
    have hv : Dec.decVal (c :: r) = Dec.dv (0 * 10 + (c.toNat - 48)) r := Dec.dv_cons 0 c r
    have hne : c.toNat ≠ 48 := fun e => hc (UInt8.toNat_inj.mp e)
    rw [hv]
    have hp := le_pow_len r (0 * 10 + (c.toNat - 48))
    have hp2 : 1 * 10 ^ r.length ≤ (0 * 10 + (c.toNat - 48)) * 10 ^ r.length := Nat.mul_le_mul_right _ (by omega)
    simp only [List.length_cons] at hl
    have : (10 : Nat) ^ 19 ≤ 10 ^ r.length := Nat.pow_le_pow_right (by omega) (by omega)
    have e : (10 : Nat) ^ 19 = 10000000000000000000 := by decide
    omega

theorem ba_ext {a b : ByteArray} (h : a.data.toList = b.data.toList) : a = b := ByteArray.ext (Array.toList_inj.1 h)
theorem ba_append (a b : List UInt8) : (⟨a.toArray⟩ : ByteArray) ++ ⟨b.toArray⟩ = ⟨(a ++ b).toArray⟩ := by
  apply ba_ext
  rw [ByteArray.data_append]
  simp
theorem size_mk (l : List UInt8) : (⟨l.toArray⟩ : ByteArray).size = l.length := List.size_toArray
theorem decDigits_len {m : Nat} (h : m ≤ 9223372036854775808) : (Lib.decDigits m).length ≤ 20 := by
  rcases Nat.eq_zero_or_pos m with h0 | h0
  · rw [h0, Lib.decDigits_one (by omega)]; simp
  · have := Lib.itoa_length_le (-(m : Int)) (by omega) (by omega)
    rw [Lib.itoa_neg m h0] at this
    simpa using this

theorem below_eq : ∀ (d m k : Nat), m < 10 ^ (d + 1) → d < k → m ≤ 9223372036854775808 → marshalyardref04_below.f k (-(m : Int)) = some ⟨(Lib.decDigits m).toArray⟩ := by
  intro d
  induction d with
  | zero =>
    intro m k hm hk hb
    obtain ⟨k, rfl⟩ : ∃ q, k = q + 1 := ⟨k - 1, by omega⟩
    have hm' : m < 10 := by simpa using hm
    simp only [marshalyardref04_below.f, Option.bind_some]
    have ht : Int.tmod (-(m : Int)) 10 = -((m % 10 : Nat) : Int) := by rw [Int.neg_tmod]; norm_cast
    rw [ht, w64 (x := 48 - -((m % 10 : Nat) : Int)) (by omega) (by omega)]
    have hs : strOfNums [(48 - -((m % 10 : Nat) : Int)) % 256] = ⟨#[UInt8.ofNat (48 + m % 10)]⟩ := by
      have e : (48 - -((m % 10 : Nat) : Int)) % 256 = ((48 + m % 10 : Nat) : Int) := by omega
      rw [e]
      simp only [strOfNums, List.map_cons, List.map_nil, Int.toNat_natCast]
    rw [hs, if_neg (by omega), Lib.decDigits, dif_pos hm', Nat.mod_eq_of_lt hm']
  | succ d ih =>
    intro m k hm hk hb
    obtain ⟨k, rfl⟩ : ∃ q, k = q + 1 := ⟨k - 1, by omega⟩
    rw [Nat.pow_succ] at hm
    simp only [marshalyardref04_below.f, Option.bind_some]
    have ht : Int.tmod (-(m : Int)) 10 = -((m % 10 : Nat) : Int) := by rw [Int.neg_tmod]; norm_cast
    have hq : Int.tdiv (-(m : Int)) 10 = -((m / 10 : Nat) : Int) := by rw [Int.neg_tdiv]; norm_cast
    rw [ht, hq, w64 (x := 48 - -((m % 10 : Nat) : Int)) (by omega) (by omega)]
    have hs : strOfNums [(48 - -((m % 10 : Nat) : Int)) % 256] = ⟨#[UInt8.ofNat (48 + m % 10)]⟩ := by
      have e : (48 - -((m % 10 : Nat) : Int)) % 256 = ((48 + m % 10 : Nat) : Int) := by omega
      rw [e]
      simp only [strOfNums, List.map_cons, List.map_nil, Int.toNat_natCast]
    rw [hs]
    by_cases h10 : m < 10
    · rw [if_neg (by omega), Lib.decDigits, dif_pos h10, Nat.mod_eq_of_lt h10]
    · rw [if_pos (by omega), w64 (by omega) (by omega), ih (m / 10) k (by omega) (by omega) (by omega)]
      simp only [Option.bind_some]
      have hl := decDigits_len (m := m / 10) (by omega)
      rw [if_pos (by rw [size_mk, show (⟨#[UInt8.ofNat (48 + m % 10)]⟩ : ByteArray).size = 1 from rfl]; omega)]
      rw [Lib.decDigits.eq_1 m, dif_neg h10]
      exact congrArg some (ba_append (Lib.decDigits (m / 10)) [UInt8.ofNat (48 + m % 10)])


theorem below_any (m k : Nat) (hm : m ≤ 9223372036854775808) (hk : 18 < k) : marshalyardref04_below.f k (-(m : Int)) = some ⟨(Lib.decDigits m).toArray⟩ :=
  below_eq 18 m k (by have e : (10 : Nat) ^ (18 + 1) = 10000000000000000000 := by decide
                      omega) hk hm

/-- Digits: a number in decimal. -/
theorem digits_eq (n : Int) (k : Nat) (h0 : -9223372036854775808 ≤ n) (h1 : n ≤ 9223372036854775807) (hk : 18 < k) : marshalyardref04_Digits.f k n = some ⟨(Lib.itoa n).toArray⟩ := by
  unfold marshalyardref04_Digits.f
  by_cases hn : n < 0
  · rw [if_pos hn]
    obtain ⟨m, hm⟩ : ∃ m : Nat, n = -(m : Int) := ⟨n.natAbs, by omega⟩
    subst hm
    rw [below_any m k (by omega) hk]
    have hl := decDigits_len (m := m) (by omega)
    simp only [Option.bind_some]
    rw [if_pos (by rw [size_mk]; omega), Lib.itoa_neg m (by omega)]
    exact congrArg some (ba_append [45] (Lib.decDigits m))
  · rw [if_neg hn]
    obtain ⟨m, hm⟩ : ∃ m : Nat, n = (m : Int) := ⟨n.natAbs, by omega⟩
    subst hm
    rw [w64 (by omega) (by omega), below_any m k (by omega) hk]
    simp only [Option.bind_some]
    rw [Lib.itoa_nonneg]

/-! ### whole -/
/-- the number of the digits so far -/
theorem dv_append (a : Nat) (l r : List UInt8) : Dec.dv a (l ++ r) = Dec.dv (Dec.dv a l) r := by
  simp [Dec.dv, List.foldl_append]

/-- what the loop over the digits from place i on comes to: 'acc' is what stands before. -/
theorem whole_l0 (s : ByteArray) (hs : s.size ≤ 140737488351232) (x5 : Int) (h5 : x5 = 0 ∨ x5 = 1) : ∀ (d i acc k : Nat), s.size - i = d → 2 * d + 20 < k → i ≤ s.size → acc ≤ 9223372036854775808 →
    (((s.data.toList.drop i).all Dec.isDig = false ∨ 9223372036854775808 < Dec.dv acc (s.data.toList.drop i)) ∧ marshalyardref04_whole.l0 k s (-(acc : Int)) x5 (i : Int) = some (0, false)) ∨
    ((s.data.toList.drop i).all Dec.isDig = true ∧ Dec.dv acc (s.data.toList.drop i) ≤ 9223372036854775808 ∧
      marshalyardref04_whole.l0 k s (-(acc : Int)) x5 (i : Int) =
        (if x5 = 0 then (if Dec.dv acc (s.data.toList.drop i) = 9223372036854775808 then some (0, false) else some ((Dec.dv acc (s.data.toList.drop i) : Int), Lib.itoa (Dec.dv acc (s.data.toList.drop i) : Int) == s.data.toList))
         else some (-(Dec.dv acc (s.data.toList.drop i) : Int), Lib.itoa (-(Dec.dv acc (s.data.toList.drop i) : Int)) == s.data.toList))) := by
  intro d
  induction d with
  | zero =>
    intro i acc k hd hk hi ha
    obtain ⟨k, rfl⟩ : ∃ m, k = m + 1 := ⟨k - 1, by omega⟩
    right
    have hn : s.data.toList.drop i = [] := List.drop_of_length_le (by rw [len_data]; omega)
    rw [hn]
    refine ⟨rfl, ha, ?_⟩
    have e : Dec.dv acc [] = acc := rfl
    rw [e]
    simp only [marshalyardref04_whole.l0]
    rw [if_neg (by omega)]
    by_cases hx : x5 = 0
    · rw [if_pos hx, if_pos hx]
      by_cases hm : acc = 9223372036854775808
      · rw [if_pos (by omega), if_pos hm]
      · rw [if_neg (by omega), if_neg hm, w64 (by omega) (by omega), digits_eq _ k (by omega) (by omega) (by omega)]
        simp only [Option.bind_some, toList_data, Int.neg_neg]
    · rw [if_neg hx, if_neg hx, digits_eq _ k (by omega) (by omega) (by omega)]
      simp only [Option.bind_some, toList_data]
  | succ d ih =>
    intro i acc k hd hk hi ha
    obtain ⟨k, rfl⟩ : ∃ m, k = m + 1 + 1 := ⟨k - 2, by omega⟩
    have hlt : i < s.size := by omega
    simp only [marshalyardref04_whole.l0]
    rw [if_pos (by omega), if_pos (by omega), bt_nat s i hlt, drop_cons s i hlt]
    have hbt := bt_nat s i hlt
    generalize s.data.toList[i]'(by rw [len_data]; exact hlt) = c at *
    by_cases h1 : (c.toNat : Int) < 48
    · left
      have : Dec.isDig c = false := by unfold Dec.isDig; rw [decide_eq_false]; omega
      rw [if_pos h1]
      refine ⟨Or.inl (by simp [this]), ?_⟩
      simp only [marshalyardref04_whole.j4, if_true]
    · rw [if_neg h1]
      by_cases h2 : (c.toNat : Int) > 57
      · left
        have : Dec.isDig c = false := by unfold Dec.isDig; rw [decide_eq_false]; omega
        refine ⟨Or.inl (by simp [this]), ?_⟩
        rw [decide_eq_true h2]
        simp only [marshalyardref04_whole.j4, if_true]
      · have hdig : Dec.isDig c = true := by unfold Dec.isDig; rw [decide_eq_true]; omega
        rw [decide_eq_false h2]
        simp only [marshalyardref04_whole.j4, Bool.false_eq_true, if_false]
        rw [if_pos (by omega), if_pos (by omega), hbt]
        rw [w64 (x := (c.toNat : Int)) (by omega) (by omega), w64 (x := (c.toNat : Int) - 48) (by omega) (by omega)]
        have hdv : Dec.dv acc (c :: s.data.toList.drop (i + 1)) = Dec.dv (acc * 10 + (c.toNat - 48)) (s.data.toList.drop (i + 1)) := Dec.dv_cons _ _ _
        have hup := Dec.dv_up (s.data.toList.drop (i + 1)) (acc * 10 + (c.toNat - 48))
        rw [hdv]
        by_cases ho : 922337203685477580 < acc ∨ (acc = 922337203685477580 ∧ 8 < c.toNat - 48)
        · left
          refine ⟨Or.inr (by omega), ?_⟩
          rcases ho with ho | ⟨ho, ho2⟩
          · rw [if_pos (by omega)]
          · rw [if_neg (by omega), if_pos (by omega), if_pos (by omega)]
        · have hnext : marshalyardref04_whole.l0 k s (wrap64 ((wrap64 (-(acc : Int) * 10)) - ((c.toNat : Int) - 48))) x5 (wrap64 ((i : Int) + 1)) = marshalyardref04_whole.l0 k s (-((acc * 10 + (c.toNat - 48) : Nat) : Int)) x5 ((i + 1 : Nat) : Int) := by
            rw [w64 (x := -(acc : Int) * 10) (by omega) (by omega), w64 (by omega) (by omega), w64 (by omega) (by omega)]
            congr 1
            omega
          have hres := ih (i + 1) (acc * 10 + (c.toNat - 48)) k (by omega) (by omega) (by omega) (by omega)
          rw [← hnext] at hres
          have hall : (c :: s.data.toList.drop (i + 1)).all Dec.isDig = (s.data.toList.drop (i + 1)).all Dec.isDig := by simp [hdig]
          rw [hall]
          rw [if_neg (by omega)]
          by_cases he : -(acc : Int) = -922337203685477580
          · rw [if_pos he, if_neg (by omega)]
            exact hres
          · rw [if_neg he]
            exact hres

/-- is the number in the range of an int? -/
def inRange (v : Int) : Bool := decide (-9223372036854775808 ≤ v ∧ v ≤ 9223372036854775807)
/-- is a text a number that an int holds? -/
def isNum (l : List UInt8) : Bool := Dec.form l && inRange (Dec.numVal l)

theorem isNum_of_itoa {n : Int} {l : List UInt8} (h0 : -9223372036854775808 ≤ n) (h1 : n ≤ 9223372036854775807) (h : Lib.itoa n = l) : isNum l = true ∧ Dec.numVal l = n := by
  obtain ⟨h2, h3⟩ := Dec.form_itoa n
  rw [← h]
  refine ⟨?_, h3⟩
  unfold isNum inRange
  rw [h2, h3, decide_eq_true ⟨h0, h1⟩]
  rfl
theorem not_isNum_of_itoa {n : Int} {l : List UInt8} (hv : Dec.numVal l = n) (h : Lib.itoa n ≠ l) : isNum l = false := by
  rw [← Bool.not_eq_true]
  intro hi
  unfold isNum at hi
  rw [Bool.and_eq_true] at hi
  exact h (hv ▸ Dec.itoa_numVal hi.1)
theorem not_isNum_form {l : List UInt8} (h : Dec.form l = false) : isNum l = false := by unfold isNum; rw [h]; rfl
theorem not_isNum_range {l : List UInt8} (h : Dec.form l = true → ¬ (-9223372036854775808 ≤ Dec.numVal l ∧ Dec.numVal l ≤ 9223372036854775807)) : isNum l = false := by
  unfold isNum
  by_cases hf : Dec.form l = true
  · rw [hf]
    unfold inRange
    rw [decide_eq_false (h hf)]
    rfl
  · rw [Bool.not_eq_true] at hf
    rw [hf]; rfl

/-- the part that holds whatever the sign is: 'm' are the digits -/
theorem whole_body (s : ByteArray) (hs : s.size ≤ 140737488351232) (x5 : Nat) (k : Nat) (hk : 2 * s.size + 30 < k)
    (hx : (x5 = 0 ∧ s.data.toList.head? ≠ some 45) ∨ (x5 = 1 ∧ s.data.toList.head? = some 45)) :
    ∃ v, marshalyardref04_whole.j1 k s 0 (x5 : Int) = some (v, isNum s.data.toList) ∧ (isNum s.data.toList = true → v = Dec.numVal s.data.toList) := by
  have hle : x5 ≤ s.size := by
    rcases hx with ⟨h, _⟩ | ⟨h, h2⟩
    · omega
    · have : s.data.toList ≠ [] := by intro e; rw [e] at h2; simp at h2
      have := List.length_pos_iff.2 this
      rw [len_data] at this
      omega
  obtain ⟨k, rfl⟩ : ∃ m, k = m + 1 + 1 := ⟨k - 2, by omega⟩
  -- the form and the value in terms of the digits
  have hform : Dec.form s.data.toList = true → Dec.canon (s.data.toList.drop x5) = true ∧ Dec.numVal s.data.toList = if x5 = 0 then (Dec.decVal (s.data.toList.drop x5) : Int) else -(Dec.decVal (s.data.toList.drop x5) : Int) := by
    intro hf
    rcases Dec.form_cases hf with ⟨r, hr, hc, -, hv⟩ | ⟨hc, hh, hv⟩
    · rcases hx with ⟨h, h2⟩ | ⟨h, h2⟩
      · rw [hr] at h2; simp at h2
      · subst h
        rw [hv, hr]
        exact ⟨by simpa using hc, by simp⟩
    · rcases hx with ⟨h, h2⟩ | ⟨h, h2⟩
      · subst h
        rw [hv]
        exact ⟨by simpa using hc, by simp⟩
      · exact absurd h2 hh
  have hval : Dec.numVal s.data.toList = if x5 = 0 then (Dec.decVal (s.data.toList.drop x5) : Int) else -(Dec.decVal (s.data.toList.drop x5) : Int) := by
    unfold Dec.numVal
    rcases hx with ⟨h, h2⟩ | ⟨h, h2⟩
    · subst h; rw [if_neg h2]; simp
    · subst h; rw [if_pos h2]; simp [List.drop_one]
  simp only [marshalyardref04_whole.j1]
  by_cases he : (x5 : Int) = (s.size : Int)
  · rw [if_pos he]
    simp only [marshalyardref04_whole.j2, if_true]
    have : isNum s.data.toList = false := by
      apply not_isNum_form
      rw [← Bool.not_eq_true]
      intro hf
      have h1 := (hform hf).1
      rw [List.drop_of_length_le (by rw [len_data]; omega)] at h1
      exact absurd h1 (by decide)
    rw [this]
    exact ⟨0, rfl, fun h => by cases h⟩
  · rw [if_neg he]
    by_cases h20 : (s.size : Int) > 20
    · rw [decide_eq_true h20]
      simp only [marshalyardref04_whole.j2, if_true]
      have : isNum s.data.toList = false := by
        apply not_isNum_range
        intro hf
        obtain ⟨h1, h2⟩ := hform hf
        have hb := big_of_len h1 (by rw [List.length_drop, len_data]; rcases hx with ⟨h, _⟩ | ⟨h, _⟩ <;> omega)
        rw [h2]
        split <;> omega
      rw [this]
      exact ⟨0, rfl, fun h => by cases h⟩
    · rw [decide_eq_false h20]
      simp only [marshalyardref04_whole.j2, Bool.false_eq_true, if_false]
      have hl := whole_l0 s hs (x5 : Int) (by rcases hx with ⟨h, _⟩ | ⟨h, _⟩ <;> omega) (s.size - x5) x5 0 k rfl (by omega) hle (by omega)
      rw [show (-((0 : Nat) : Int)) = 0 from rfl] at hl
      have hdv : Dec.dv 0 (s.data.toList.drop x5) = Dec.decVal (s.data.toList.drop x5) := rfl
      rw [hdv] at hl
      rcases hl with ⟨hbad, hr⟩ | ⟨hall, hle2, hr⟩
      · have : isNum s.data.toList = false := by
          apply not_isNum_range
          intro hf
          obtain ⟨h1, h2⟩ := hform hf
          rw [(Dec.canon_parts h1).2.1] at hbad
          rcases hbad with hbad | hbad
          · cases hbad
          · rw [h2]
            split <;> omega
        rw [hr, this]
        exact ⟨0, rfl, fun h => by cases h⟩
      · rw [hr]
        rcases hx with ⟨h, h2⟩ | ⟨h, h2⟩
        · subst h
          rw [if_pos (by rfl)]
          simp only [if_true] at hval
          by_cases hm : Dec.decVal (s.data.toList.drop 0) = 9223372036854775808
          · rw [if_pos hm]
            have : isNum s.data.toList = false := not_isNum_range (fun _ => by rw [hval]; omega)
            rw [this]
            exact ⟨0, rfl, fun h => by cases h⟩
          · rw [if_neg hm]
            refine ⟨_, ?_, fun _ => hval.symm⟩
            congr 2
            by_cases hi : Lib.itoa (Dec.decVal (s.data.toList.drop 0) : Int) = s.data.toList
            · rw [(isNum_of_itoa (by omega) (by omega) hi).1, hi]
              exact beq_self_eq_true _
            · rw [not_isNum_of_itoa hval hi]
              exact beq_eq_false_iff_ne.2 hi
        · subst h
          rw [if_neg (by omega)]
          simp only [Nat.succ_ne_self, if_false, Nat.one_ne_zero] at hval
          refine ⟨_, ?_, fun _ => hval.symm⟩
          congr 2
          by_cases hi : Lib.itoa (-(Dec.decVal (s.data.toList.drop 1) : Int)) = s.data.toList
          · rw [(isNum_of_itoa (by omega) (by omega) hi).1, hi]
            exact beq_self_eq_true _
          · rw [not_isNum_of_itoa hval hi]
            exact beq_eq_false_iff_ne.2 hi

/-- whole: the number that a text is; false: it is none that is written so. -/
theorem whole_eq (s : ByteArray) (hs : s.size ≤ 140737488351232) (k : Nat) (hk : 2 * s.size + 40 < k) :
    ∃ v, marshalyardref04_Whole.f k s = some (v, isNum s.data.toList) ∧ (isNum s.data.toList = true → v = Dec.numVal s.data.toList) := by
  obtain ⟨k, rfl⟩ : ∃ m, k = m + 1 := ⟨k - 1, by omega⟩
  have key : ∃ v, marshalyardref04_whole.f (k + 1) s = some (v, isNum s.data.toList) ∧ (isNum s.data.toList = true → v = Dec.numVal s.data.toList) := by
    unfold marshalyardref04_whole.f
    by_cases h0 : 0 < s.size
    · rw [if_pos (by omega)]
      have hh := head45 s h0
      simp only [marshalyardref04_whole.j0]
      by_cases h45 : bt s 0 = 45
      · rw [if_pos (by simpa using h45)]
        exact whole_body s hs 1 k (by omega) (Or.inr ⟨rfl, hh.2 h45⟩)
      · rw [if_neg (by simpa using h45)]
        exact whole_body s hs 0 k (by omega) (Or.inl ⟨rfl, fun e => h45 (hh.1 e)⟩)
    · rw [if_neg (by omega)]
      have hn : s.data.toList = [] := List.eq_nil_of_length_eq_zero (by rw [len_data]; omega)
      simp only [marshalyardref04_whole.j0, Bool.false_eq_true, if_false]
      exact whole_body s hs 0 k (by omega) (Or.inl ⟨rfl, by rw [hn]; simp⟩)
  obtain ⟨v, h1, h2⟩ := key
  refine ⟨v, ?_, h2⟩
  unfold marshalyardref04_Whole.f
  rw [h1]
  rfl

end Go.Proofs.YtpbiohnmmngccaaGreatDoor.R04P
