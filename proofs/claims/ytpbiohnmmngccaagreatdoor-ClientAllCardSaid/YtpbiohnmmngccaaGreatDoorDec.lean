/- Plain facts on decimal numerals: what is of the canonical form is what Itoa writes, and Atoi reads it back. No program stands in this text. -/
import Derived.Lib.ItoaNum
import Derived.Lib.AtoiAll
import Derived.Lib.AtoiAllCases
namespace Go.Proofs.YtpbiohnmmngccaaGreatDoor.Dec
open Go

def isDig (c : UInt8) : Bool := decide (48 ≤ c.toNat ∧ c.toNat ≤ 57)
def decVal (l : List UInt8) : Nat := l.foldl (fun a c => a * 10 + (c.toNat - 48)) 0
/-- digits without a leading zero -/
def canon (l : List UInt8) : Bool := !l.isEmpty && l.all isDig && (decide (l.head? ≠ some 48) || decide (l = [48]))
/-- a number's text: a sign, digits without a leading zero, and not -0 -/
def form (l : List UInt8) : Bool := if l.head? = some 45 then canon l.tail && decide (l.tail ≠ [48]) else canon l
def numVal (l : List UInt8) : Int := if l.head? = some 45 then -(decVal l.tail : Int) else decVal l

/-- what Parse answers -/
def parseV (l : List UInt8) : Int × Int := if form l then (if -9223372036854775808 ≤ numVal l ∧ numVal l ≤ 9223372036854775807 then (numVal l, 0) else (0, 51)) else (0, 50)

theorem decVal_snoc (l : List UInt8) (c : UInt8) : decVal (l ++ [c]) = decVal l * 10 + (c.toNat - 48) := by
  simp [decVal, List.foldl_append]

theorem dig_ofNat {d : Nat} (h : d < 10) : (UInt8.ofNat (48 + d)).toNat = 48 + d := by
  simp [UInt8.toNat_ofNat]; omega

theorem decVal_decDigits (u : Nat) : decVal (Lib.decDigits u) = u := by
  induction u using Nat.strongRecOn with
  | _ u ih =>
    rw [Lib.decDigits]
    split
    · rename_i h
      simp only [decVal, List.foldl_cons, List.foldl_nil]
      rw [dig_ofNat h]; omega
    · rw [decVal_snoc, ih (u / 10) (by omega), dig_ofNat (by omega)]
      omega

theorem all_decDigits (u : Nat) : (Lib.decDigits u).all isDig = true := by
  induction u using Nat.strongRecOn with
  | _ u ih =>
    rw [Lib.decDigits]
    split
    · rename_i h
      simp only [List.all_cons, List.all_nil, Bool.and_true, isDig, decide_eq_true_eq]
      rw [dig_ofNat h]; omega
    · rw [List.all_append, ih (u / 10) (by omega)]
      simp only [List.all_cons, List.all_nil, Bool.and_true, Bool.true_and, isDig, decide_eq_true_eq]
      rw [dig_ofNat (by omega)]; omega

theorem decDigits_ne_nil (u : Nat) : Lib.decDigits u ≠ [] := by
  rw [Lib.decDigits]; split <;> simp

theorem head_decDigits (u : Nat) (h : u ≠ 0) : (Lib.decDigits u).head? ≠ some 48 := by
  induction u using Nat.strongRecOn with
  | _ u ih =>
    rw [Lib.decDigits]
    split
    · rename_i hlt
      simp only [List.head?_cons, ne_eq, Option.some.injEq]
      intro e
      have := congrArg UInt8.toNat e
      rw [dig_ofNat hlt] at this
      simp at this
      omega
    · rw [List.head?_append]
      have hn := decDigits_ne_nil (u / 10)
      obtain ⟨a, r, e⟩ : ∃ a r, Lib.decDigits (u / 10) = a :: r := by
        cases e : Lib.decDigits (u / 10) with
        | nil => exact absurd e hn
        | cons a r => exact ⟨a, r, rfl⟩
      have := ih (u / 10) (by omega) (by omega)
      rw [e] at this ⊢
      simpa using this

theorem canon_decDigits (u : Nat) : canon (Lib.decDigits u) = true := by
  unfold canon
  rw [all_decDigits]
  by_cases h : u = 0
  · subst h
    rw [Lib.decDigits_one (by omega)]
    decide
  · have h1 := head_decDigits u h
    have h2 := decDigits_ne_nil u
    simp [h1, h2]

theorem decVal_pos {l : List UInt8} (h : l.all isDig = true) (hh : l.head? ≠ some 48) (hne : l ≠ []) : 0 < decVal l := by
  have key : ∀ (l : List UInt8) (a : Nat), 0 < a → 0 < l.foldl (fun a c => a * 10 + (c.toNat - 48)) a := by
    intro l
    induction l with
    | nil => intro a ha; simpa using ha
    | cons c r ih => intro a ha; simp only [List.foldl_cons]; exact ih _ (by omega)
  cases l with
  | nil => exact absurd rfl hne
  | cons c r =>
    simp only [List.all_cons, Bool.and_eq_true, isDig, decide_eq_true_eq] at h
    simp only [decVal, List.foldl_cons]
    apply key
    have : c.toNat ≠ 48 := by
      intro e
      apply hh
      simp only [List.head?_cons, Option.some.injEq]
      exact UInt8.toNat_inj.mp (by simpa using e)
    omega

theorem snoc_of {l : List UInt8} (h : l ≠ []) : ∃ r c, l = r ++ [c] := ⟨l.dropLast, l.getLast h, (List.dropLast_concat_getLast h).symm⟩

/-- What is of the form is what is written for its number. -/
theorem decDigits_decVal (l : List UInt8) (h : canon l = true) : Lib.decDigits (decVal l) = l := by
  have key : ∀ (n : Nat) (l : List UInt8), l.length = n → l ≠ [] → l.all isDig = true → (l.head? ≠ some 48 ∨ l = [48]) → Lib.decDigits (decVal l) = l := by
    intro n
    induction n using Nat.strongRecOn with
    | _ n ih =>
      intro l hl hne hall hz
      obtain ⟨r, c, rfl⟩ := snoc_of hne
      rw [decVal_snoc]
      have hc : 48 ≤ c.toNat ∧ c.toNat ≤ 57 := by
        have := hall
        simp only [List.all_append, List.all_cons, List.all_nil, Bool.and_true, Bool.and_eq_true, isDig, decide_eq_true_eq] at this
        exact this.2
      have hcc : UInt8.ofNat (48 + (c.toNat - 48)) = c := by
        apply UInt8.toNat_inj.mp
        rw [dig_ofNat (by omega)]; omega
      by_cases hr : r = []
      · subst hr
        have e0 : decVal [] * 10 + (c.toNat - 48) = c.toNat - 48 := by simp [decVal]
        rw [e0, Lib.decDigits, dif_pos (by omega), hcc, List.nil_append]
      · have hrall : r.all isDig = true := by
          have := hall
          rw [List.all_append, Bool.and_eq_true] at this
          exact this.1
        have hrh : r.head? ≠ some 48 := by
          rcases hz with hz | hz
          · obtain ⟨a, r', rfl⟩ : ∃ a r', r = a :: r' := by
              cases r with
              | nil => exact absurd rfl hr
              | cons a r' => exact ⟨a, r', rfl⟩
            simpa using hz
          · have := congrArg List.length hz
            simp at this
            exact absurd this hr
        have hp := decVal_pos hrall hrh hr
        have hi := ih r.length (by rw [← hl]; simp) r rfl hr hrall (Or.inl hrh)
        rw [Lib.decDigits, dif_neg (by omega)]
        rw [show (decVal r * 10 + (c.toNat - 48)) / 10 = decVal r from by omega, show (decVal r * 10 + (c.toNat - 48)) % 10 = c.toNat - 48 from by omega, hi, hcc]
  unfold canon at h
  simp only [Bool.and_eq_true, Bool.or_eq_true, Bool.not_eq_true', List.isEmpty_eq_false_iff, decide_eq_true_eq] at h
  exact key l.length l rfl h.1.1 h.1.2 h.2

def dv (acc : Nat) (l : List UInt8) : Nat := l.foldl (fun a c => a * 10 + (c.toNat - 48)) acc
theorem dv_cons (acc : Nat) (c : UInt8) (r : List UInt8) : dv acc (c :: r) = dv (acc * 10 + (c.toNat - 48)) r := by
  simp only [dv, List.foldl_cons]
theorem dv_up : ∀ (l : List UInt8) (a : Nat), a ≤ dv a l := by
  intro l
  induction l with
  | nil => intro a; simp [dv]
  | cons c r ih => intro a; rw [dv_cons]; exact Nat.le_trans (by omega) (ih _)
theorem parse_ok (l : List UInt8) : ∀ (acc : Nat), l.all isDig = true → dv acc l < 18446744073709551616 → Lib.parseUint10 acc l = .ok (dv acc l) := by
  induction l with
  | nil => intro acc _ _; rfl
  | cons c r ih =>
    intro acc hall hlt
    simp only [List.all_cons, Bool.and_eq_true, isDig, decide_eq_true_eq] at hall
    rw [dv_cons] at hlt ⊢
    have hu := dv_up r (acc * 10 + (c.toNat - 48))
    simp only [Lib.parseUint10]
    split
    · split
      · omega
      · split
        · omega
        · exact ih _ hall.2 hlt
    · rename_i h; exact absurd hall.1 h
theorem parse_range' {M : Nat} (hM : M = 18446744073709551616) (l : List UInt8) : ∀ (acc : Nat), acc < M → l.all isDig = true → M ≤ dv acc l → Lib.parseUint10 acc l = .range := by
  induction l with
  | nil =>
    intro acc h _ h2
    have e : dv acc [] = acc := rfl
    rw [e] at h2
    omega
  | cons c r ih =>
    intro acc h hall hge
    simp only [List.all_cons, Bool.and_eq_true, isDig, decide_eq_true_eq] at hall
    rw [dv_cons] at hge
    have step : Lib.parseUint10 acc (c :: r) = if 1844674407370955162 ≤ acc then .range else if 18446744073709551616 ≤ acc * 10 + (c.toNat - 48) then .range else Lib.parseUint10 (acc * 10 + (c.toNat - 48)) r := by
      rw [Lib.parseUint10, if_pos hall.1]
    rw [step, ← hM]
    by_cases h1 : 1844674407370955162 ≤ acc
    · rw [if_pos h1]
    · rw [if_neg h1]
      by_cases h2 : M ≤ acc * 10 + (c.toNat - 48)
      · rw [if_pos h2]
      · rw [if_neg h2]
        exact ih _ (Nat.not_le.1 h2) hall.2 hge
theorem parse_range (l : List UInt8) (hall : l.all isDig = true) (h : 18446744073709551616 ≤ dv 0 l) : Lib.parseUint10 0 l = .range :=
  parse_range' rfl l 0 (by decide) hall h

theorem canon_parts {l : List UInt8} (h : canon l = true) : l ≠ [] ∧ l.all isDig = true ∧ (l.head? ≠ some 48 ∨ l = [48]) := by
  unfold canon at h
  simp only [Bool.and_eq_true, Bool.or_eq_true, Bool.not_eq_true', List.isEmpty_eq_false_iff, decide_eq_true_eq] at h
  exact ⟨h.1.1, h.1.2, h.2⟩
theorem parseMag_ok {l : List UInt8} (h : canon l = true) (hlt : decVal l < 18446744073709551616) : Lib.parseMag l = .ok (decVal l) := by
  obtain ⟨h1, h2, -⟩ := canon_parts h
  unfold Lib.parseMag
  rw [if_neg h1]
  exact parse_ok l 0 h2 hlt
theorem parseMag_range {l : List UInt8} (h : canon l = true) (hge : 18446744073709551616 ≤ decVal l) : Lib.parseMag l = .range := by
  obtain ⟨h1, h2, -⟩ := canon_parts h
  unfold Lib.parseMag
  rw [if_neg h1]
  exact parse_range l h2 hge

theorem canon_head {l : List UInt8} (h : canon l = true) : ∃ c r, l = c :: r ∧ 48 ≤ c.toNat ∧ c.toNat ≤ 57 := by
  obtain ⟨h1, h2, -⟩ := canon_parts h
  cases l with
  | nil => exact absurd rfl h1
  | cons c r =>
    simp only [List.all_cons, Bool.and_eq_true, isDig, decide_eq_true_eq] at h2
    exact ⟨c, r, rfl, h2.1⟩

theorem toNat45 : (45 : UInt8).toNat = 45 := rfl

theorem form_cases {l : List UInt8} (h : form l = true) : (∃ r, l = 45 :: r ∧ canon r = true ∧ r ≠ [48] ∧ numVal l = -(decVal r : Int)) ∨ (canon l = true ∧ l.head? ≠ some 45 ∧ numVal l = decVal l) := by
  unfold form at h
  unfold numVal
  by_cases hm : l.head? = some 45
  · left
    rw [if_pos hm] at h
    cases l with
    | nil => simp at hm
    | cons c r =>
      simp only [List.head?_cons, Option.some.injEq] at hm
      subst hm
      simp only [List.tail_cons, Bool.and_eq_true] at h
      exact ⟨r, rfl, h.1, of_decide_eq_true h.2, by simp⟩
  · right
    rw [if_neg hm] at h
    exact ⟨h, hm, by rw [if_neg hm]⟩

theorem minus_ok {r : List UInt8} {u : Nat} (h : Lib.parseMag r = .ok u) (hu : u ≤ 9223372036854775808) : Lib.atoiAll (45 :: r) = .ok (-(u : Int)) := by
  rw [Lib.atoiAll_minus, h]
  unfold Lib.signed
  simp only
  split
  · omega
  · rfl
theorem minus_range {r : List UInt8} {u : Nat} (h : Lib.parseMag r = .ok u) (hu : 9223372036854775808 < u) : Lib.atoiAll (45 :: r) = .range := by
  rw [Lib.atoiAll_minus, h]
  unfold Lib.signed
  simp only
  split
  · rfl
  · omega
theorem minus_range' {r : List UInt8} (h : Lib.parseMag r = .range) : Lib.atoiAll (45 :: r) = .range := by
  rw [Lib.atoiAll_minus, h]
  rfl
theorem plain_ok {c : UInt8} {r : List UInt8} {u : Nat} (hc : 48 ≤ c.toNat) (h : Lib.parseMag (c :: r) = .ok u) (hu : u < 9223372036854775808) : Lib.atoiAll (c :: r) = .ok (u : Int) := by
  rw [Lib.atoiAll_plain c r (by omega) (by omega), h]
  unfold Lib.signless
  simp only
  split
  · omega
  · rfl
theorem plain_range {c : UInt8} {r : List UInt8} {u : Nat} (hc : 48 ≤ c.toNat) (h : Lib.parseMag (c :: r) = .ok u) (hu : 9223372036854775808 ≤ u) : Lib.atoiAll (c :: r) = .range := by
  rw [Lib.atoiAll_plain c r (by omega) (by omega), h]
  unfold Lib.signless
  simp only
  split
  · rfl
  · omega
theorem plain_range' {c : UInt8} {r : List UInt8} (hc : 48 ≤ c.toNat) (h : Lib.parseMag (c :: r) = .range) : Lib.atoiAll (c :: r) = .range := by
  rw [Lib.atoiAll_plain c r (by omega) (by omega), h]
  rfl

/-- Atoi of what is of the form: its number .. -/
theorem atoiAll_ok {l : List UInt8} (h : form l = true) (h1 : -9223372036854775808 ≤ numVal l) (h2 : numVal l ≤ 9223372036854775807) : Lib.atoiAll l = .ok (numVal l) := by
  rcases form_cases h with ⟨r, rfl, hc, -, hv⟩ | ⟨hc, -, hv⟩
  · rw [hv] at h1 h2 ⊢
    exact minus_ok (parseMag_ok hc (by omega)) (by omega)
  · rw [hv] at h1 h2 ⊢
    obtain ⟨c, r, e, hc1, hc2⟩ := canon_head hc
    have hp := parseMag_ok hc (by omega)
    generalize decVal l = v at *
    subst e
    exact plain_ok hc1 hp (by omega)
/-- .. or too far out. -/
theorem atoiAll_range {l : List UInt8} (h : form l = true) (h1 : numVal l < -9223372036854775808 ∨ 9223372036854775807 < numVal l) : Lib.atoiAll l = .range := by
  rcases form_cases h with ⟨r, rfl, hc, -, hv⟩ | ⟨hc, -, hv⟩
  · rw [hv] at h1
    by_cases hb : decVal r < 18446744073709551616
    · exact minus_range (parseMag_ok hc hb) (by omega)
    · exact minus_range' (parseMag_range hc (by omega))
  · rw [hv] at h1
    obtain ⟨c, r, e, hc1, hc2⟩ := canon_head hc
    by_cases hb : decVal l < 18446744073709551616
    · have hp := parseMag_ok hc hb
      generalize decVal l = v at *
      subst e
      exact plain_range hc1 hp (by omega)
    · have hp := parseMag_range hc (by omega)
      subst e
      exact plain_range' hc1 hp

/-- Itoa of its number is the text. -/
theorem itoa_numVal {l : List UInt8} (h : form l = true) : Lib.itoa (numVal l) = l := by
  rcases form_cases h with ⟨r, rfl, hc, h48, hv⟩ | ⟨hc, -, hv⟩
  · rw [hv]
    obtain ⟨h1, h2, h3⟩ := canon_parts hc
    have hpos : 0 < decVal r := decVal_pos h2 (h3.resolve_right h48) h1
    unfold Lib.itoa
    rw [if_pos (by omega), show (-(decVal r : Int)).natAbs = decVal r from by omega, decDigits_decVal r hc]
  · rw [hv]
    unfold Lib.itoa
    rw [if_neg (by omega), Int.toNat_natCast, decDigits_decVal l hc]

/-- What Itoa writes is of the form, and its number is the one that was written. -/
theorem form_itoa (n : Int) : form (Lib.itoa n) = true ∧ numVal (Lib.itoa n) = n := by
  unfold Lib.itoa form numVal
  by_cases h : n < 0
  · rw [if_pos h]
    simp only [List.head?_cons, if_true, List.tail_cons, Bool.and_eq_true]
    refine ⟨⟨canon_decDigits _, ?_⟩, ?_⟩
    · refine decide_eq_true ?_
      intro e
      have := decVal_decDigits n.natAbs
      rw [e] at this
      simp [decVal] at this
      omega
    · rw [decVal_decDigits]; omega
  · rw [if_neg h]
    obtain ⟨c, r, e, hc1, hc2⟩ := canon_head (canon_decDigits n.toNat)
    have hh : ¬ (Lib.decDigits n.toNat).head? = some 45 := by
      rw [e]
      simp only [List.head?_cons, Option.some.injEq]
      intro ec
      rw [ec, toNat45] at hc1
      omega
    rw [if_neg hh, if_neg hh, decVal_decDigits]
    exact ⟨canon_decDigits _, by omega⟩
end Go.Proofs.YtpbiohnmmngccaaGreatDoor.Dec
