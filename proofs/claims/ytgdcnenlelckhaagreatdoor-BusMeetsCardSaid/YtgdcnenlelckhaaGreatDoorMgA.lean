/- Plain facts on decimal numerals: what is of the canonical form is what Itoa writes, and Atoi reads it back. No program stands in this text. What the listed package-level variables give: the power table, the two sentinels of strconv; and how these facts last. Slots as words of 64 bits: one bit put in or out; slot.Has and slot.With. The reference's power and Has over words of 64 bits. The reference's With over words of 64 bits: the same slots. How many slots there are: slot.Count comes to the number of those that are there. The reference's All: the slots that are there, rising. Runs of rising numbers, in plain words: what slot.Ranges lays number by number, and what the reference lays run by run, are the same. slot.Ranges: the runs of the slots that are there. What a node knows of the others, plain: by slots, and by the document's words; they agree. What a node does with what it hears, plain: by slots, and by the document's words; they agree. The reference's Ranges: the same runs. Slots as texts, in plain words: runs cover just the slots that are there; how they are written; what is written is read as it was. No program stands in this text. Slots as texts, in plain words: whoever reads the runs that were written finds them; a text says one set of slots at most. No program stands in this text. slot.Make: of ranges that are in order the slots that they cover; else none. The reference's Make: the same. Conditions: the row's list is met by the world. -/
import Derived.Lib.ItoaNum
import Derived.Lib.AtoiAll
import Derived.Lib.AtoiAllCases
import Derived.Test.YtgdcnenlelckhaaGreatDoorRows
import Derived.Test.YtgdcnenlelckhaaGreatDoorShelf
import Derived.WalkKit
import Derived.Below
import Derived.Lib.LaidTab
import Derived.Lib.Hide
import Derived.Stop.LaidErr
import Derived.LaidLaws
import Derived.WalkSmall
import Derived.Deep.DeepHandedRow
import Derived.Lib.LaidU8
import Derived.Test.YtgdcnenlelckhaaGreatDoorProg
import Derived.Test.YtgdcnenlelckhaaGreatDoorMgW
import Derived.BigQuiet
import Derived.Deep.QuietTactic
import Derived.Deep.WholeRow
import Derived.WalkMore
import Derived.WalkSpells
import Derived.Laws.BitsLemmas
import Derived.Laws.CopyOwn
import Derived.Outline
import Derived.Deep.RegionHeld3
import Derived.StillTailTactics
import Derived.OwnWalk
import Derived.Laws.AppendOwn
import Derived.Laws.OwnMore
import Derived.Deep.AppendLies
import Derived.StillTactics
import Derived.Lib.Join
import Derived.Shelf.Strings.FieldsAny
set_option linter.unusedVariables false
set_option linter.unusedSimpArgs false
namespace Go.Proofs.YtgdcnenlelckhaaGreatDoor.Dec
open Go

def isDig (c : UInt8) : Bool := decide (48 ≤ c.toNat ∧ c.toNat ≤ 57)
def decVal (l : List UInt8) : Nat := l.foldl (fun a c => a * 10 + (c.toNat - 48)) 0
/-- digits without a leading zero -/
def canon (l : List UInt8) : Bool := !l.isEmpty && l.all isDig && (decide (l.head? ≠ some 48) || decide (l = [48]))
/-- a number's text: a sign, digits without a leading zero, and not -0 -/
def form (l : List UInt8) : Bool := if l.head? = some 45 then canon l.tail && decide (l.tail ≠ [48]) else canon l
def numVal (l : List UInt8) : Int := if l.head? = some 45 then -(decVal l.tail : Int) else decVal l

/-- what Parse answers -/
def parseV (l : List UInt8) : Int × Int := if form l then (if -9223372036854775808 ≤ numVal l ∧ numVal l ≤ 9223372036854775807 then (numVal l, 0) else (0, 51)) else (0, 50)

theorem decVal_snoc (l : List UInt8) (c : UInt8) : decVal (l ++ [c]) = decVal l * 10 + (c.toNat - 48) := by
  simp [decVal, List.foldl_append]

theorem dig_ofNat {d : Nat} (h : d < 10) : (UInt8.ofNat (48 + d)).toNat = 48 + d := by
  simp [UInt8.toNat_ofNat]; omega

theorem decVal_decDigits (u : Nat) : decVal (Lib.decDigits u) = u := by
  induction u using Nat.strongRecOn with
  | _ u ih =>
    rw [Lib.decDigits]
    split
    · rename_i h
      simp only [decVal, List.foldl_cons, List.foldl_nil]
      rw [dig_ofNat h]; omega
    · rw [decVal_snoc, ih (u / 10) (by omega), dig_ofNat (by omega)]
      omega

theorem all_decDigits (u : Nat) : (Lib.decDigits u).all isDig = true := by
  induction u using Nat.strongRecOn with
  | _ u ih =>
    rw [Lib.decDigits]
    split
    · rename_i h
      simp only [List.all_cons, List.all_nil, Bool.and_true, isDig, decide_eq_true_eq]
      rw [dig_ofNat h]; omega
    · rw [List.all_append, ih (u / 10) (by omega)]
      simp only [List.all_cons, List.all_nil, Bool.and_true, Bool.true_and, isDig, decide_eq_true_eq]
      rw [dig_ofNat (by omega)]; omega

theorem decDigits_ne_nil (u : Nat) : Lib.decDigits u ≠ [] := by
  rw [Lib.decDigits]; split <;> simp

theorem head_decDigits (u : Nat) (h : u ≠ 0) : (Lib.decDigits u).head? ≠ some 48 := by
  induction u using Nat.strongRecOn with
  | _ u ih =>
    rw [Lib.decDigits]
    split
    · rename_i hlt
      simp only [List.head?_cons, ne_eq, Option.some.injEq]
      intro e
      have := congrArg UInt8.toNat e
      rw [dig_ofNat hlt] at this
      simp at this
      omega
    · rw [List.head?_append]
      have hn := decDigits_ne_nil (u / 10)
      obtain ⟨a, r, e⟩ : ∃ a r, Lib.decDigits (u / 10) = a :: r := by
        cases e : Lib.decDigits (u / 10) with
        | nil => exact absurd e hn
        | cons a r => exact ⟨a, r, rfl⟩
      have := ih (u / 10) (by omega) (by omega)
      rw [e] at this ⊢
      simpa using this

theorem canon_decDigits (u : Nat) : canon (Lib.decDigits u) = true := by
  unfold canon
  rw [all_decDigits]
  by_cases h : u = 0
  · subst h
    rw [Lib.decDigits_one (by omega)]
    decide
  · have h1 := head_decDigits u h
    have h2 := decDigits_ne_nil u
    simp [h1, h2]

theorem decVal_pos {l : List UInt8} (h : l.all isDig = true) (hh : l.head? ≠ some 48) (hne : l ≠ []) : 0 < decVal l := by
  have key : ∀ (l : List UInt8) (a : Nat), 0 < a → 0 < l.foldl (fun a c => a * 10 + (c.toNat - 48)) a := by
    intro l
    induction l with
    | nil => intro a ha; simpa using ha
    | cons c r ih => intro a ha; simp only [List.foldl_cons]; exact ih _ (by omega)
  cases l with
  | nil => exact absurd rfl hne
  | cons c r =>
    simp only [List.all_cons, Bool.and_eq_true, isDig, decide_eq_true_eq] at h
    simp only [decVal, List.foldl_cons]
    apply key
    have : c.toNat ≠ 48 := by
      intro e
      apply hh
      simp only [List.head?_cons, Option.some.injEq]
      exact UInt8.toNat_inj.mp (by simpa using e)
    omega

theorem snoc_of {l : List UInt8} (h : l ≠ []) : ∃ r c, l = r ++ [c] := ⟨l.dropLast, l.getLast h, (List.dropLast_concat_getLast h).symm⟩

/-- What is of the form is what is written for its number. -/
theorem decDigits_decVal (l : List UInt8) (h : canon l = true) : Lib.decDigits (decVal l) = l := by
  have key : ∀ (n : Nat) (l : List UInt8), l.length = n → l ≠ [] → l.all isDig = true → (l.head? ≠ some 48 ∨ l = [48]) → Lib.decDigits (decVal l) = l := by
    intro n
    induction n using Nat.strongRecOn with
    | _ n ih =>
      intro l hl hne hall hz
      obtain ⟨r, c, rfl⟩ := snoc_of hne
      rw [decVal_snoc]
      have hc : 48 ≤ c.toNat ∧ c.toNat ≤ 57 := by
        have := hall
        simp only [List.all_append, List.all_cons, List.all_nil, Bool.and_true, Bool.and_eq_true, isDig, decide_eq_true_eq] at this
        exact this.2
      have hcc : UInt8.ofNat (48 + (c.toNat - 48)) = c := by
        apply UInt8.toNat_inj.mp
        rw [dig_ofNat (by omega)]; omega
      by_cases hr : r = []
      · subst hr
        have e0 : decVal [] * 10 + (c.toNat - 48) = c.toNat - 48 := by simp [decVal]
        rw [e0, Lib.decDigits, dif_pos (by omega), hcc, List.nil_append]
      · have hrall : r.all isDig = true := by
          have := hall
          rw [List.all_append, Bool.and_eq_true] at this
          exact this.1
        have hrh : r.head? ≠ some 48 := by
          rcases hz with hz | hz
          · obtain ⟨a, r', rfl⟩ : ∃ a r', r = a :: r' := by
              cases r with
              | nil => exact absurd rfl hr
              | cons a r' => exact ⟨a, r', rfl⟩
            simpa using hz
          · have := congrArg List.length hz
            simp at this
            exact absurd this hr
        have hp := decVal_pos hrall hrh hr
        have hi := ih r.length (by rw [← hl]; simp) r rfl hr hrall (Or.inl hrh)
        rw [Lib.decDigits, dif_neg (by omega)]
        rw [show (decVal r * 10 + (c.toNat - 48)) / 10 = decVal r from by omega, show (decVal r * 10 + (c.toNat - 48)) % 10 = c.toNat - 48 from by omega, hi, hcc]
  unfold canon at h
  simp only [Bool.and_eq_true, Bool.or_eq_true, Bool.not_eq_true', List.isEmpty_eq_false_iff, decide_eq_true_eq] at h
  exact key l.length l rfl h.1.1 h.1.2 h.2

def dv (acc : Nat) (l : List UInt8) : Nat := l.foldl (fun a c => a * 10 + (c.toNat - 48)) acc
theorem dv_cons (acc : Nat) (c : UInt8) (r : List UInt8) : dv acc (c :: r) = dv (acc * 10 + (c.toNat - 48)) r := by
  simp only [dv, List.foldl_cons]
theorem dv_up : ∀ (l : List UInt8) (a : Nat), a ≤ dv a l := by
  intro l
  induction l with
  | nil => intro a; simp [dv]
  | cons c r ih => intro a; rw [dv_cons]; exact Nat.le_trans (by omega) (ih _)
theorem parse_ok (l : List UInt8) : ∀ (acc : Nat), l.all isDig = true → dv acc l < 18446744073709551616 → Lib.parseUint10 acc l = .ok (dv acc l) := by
  induction l with
  | nil => intro acc _ _; rfl
  | cons c r ih =>
    intro acc hall hlt
    simp only [List.all_cons, Bool.and_eq_true, isDig, decide_eq_true_eq] at hall
    rw [dv_cons] at hlt ⊢
    have hu := dv_up r (acc * 10 + (c.toNat - 48))
    simp only [Lib.parseUint10]
    split
    · split
      · omega
      · split
        · omega
        · exact ih _ hall.2 hlt
    · rename_i h; exact absurd hall.1 h
theorem parse_range' {M : Nat} (hM : M = 18446744073709551616) (l : List UInt8) : ∀ (acc : Nat), acc < M → l.all isDig = true → M ≤ dv acc l → Lib.parseUint10 acc l = .range := by
  induction l with
  | nil =>
    intro acc h _ h2
    have e : dv acc [] = acc := rfl
    rw [e] at h2
    omega
  | cons c r ih =>
    intro acc h hall hge
    simp only [List.all_cons, Bool.and_eq_true, isDig, decide_eq_true_eq] at hall
    rw [dv_cons] at hge
    have step : Lib.parseUint10 acc (c :: r) = if 1844674407370955162 ≤ acc then .range else if 18446744073709551616 ≤ acc * 10 + (c.toNat - 48) then .range else Lib.parseUint10 (acc * 10 + (c.toNat - 48)) r := by
      rw [Lib.parseUint10, if_pos hall.1]
    rw [step, ← hM]
    by_cases h1 : 1844674407370955162 ≤ acc
    · rw [if_pos h1]
    · rw [if_neg h1]
      by_cases h2 : M ≤ acc * 10 + (c.toNat - 48)
      · rw [if_pos h2]
      · rw [if_neg h2]
        exact ih _ (Nat.not_le.1 h2) hall.2 hge
theorem parse_range (l : List UInt8) (hall : l.all isDig = true) (h : 18446744073709551616 ≤ dv 0 l) : Lib.parseUint10 0 l = .range :=
  parse_range' rfl l 0 (by decide) hall h

theorem canon_parts {l : List UInt8} (h : canon l = true) : l ≠ [] ∧ l.all isDig = true ∧ (l.head? ≠ some 48 ∨ l = [48]) := by
  unfold canon at h
  simp only [Bool.and_eq_true, Bool.or_eq_true, Bool.not_eq_true', List.isEmpty_eq_false_iff, decide_eq_true_eq] at h
  exact ⟨h.1.1, h.1.2, h.2⟩
theorem parseMag_ok {l : List UInt8} (h : canon l = true) (hlt : decVal l < 18446744073709551616) : Lib.parseMag l = .ok (decVal l) := by
  obtain ⟨h1, h2, -⟩ := canon_parts h
  unfold Lib.parseMag
  rw [if_neg h1]
  exact parse_ok l 0 h2 hlt
theorem parseMag_range {l : List UInt8} (h : canon l = true) (hge : 18446744073709551616 ≤ decVal l) : Lib.parseMag l = .range := by
  obtain ⟨h1, h2, -⟩ := canon_parts h
  unfold Lib.parseMag
  rw [if_neg h1]
  exact parse_range l h2 hge

theorem canon_head {l : List UInt8} (h : canon l = true) : ∃ c r, l = c :: r ∧ 48 ≤ c.toNat ∧ c.toNat ≤ 57 := by
  obtain ⟨h1, h2, -⟩ := canon_parts h
  cases l with
  | nil => exact absurd rfl h1
  | cons c r =>
    simp only [List.all_cons, Bool.and_eq_true, isDig, decide_eq_true_eq] at h2
    exact ⟨c, r, rfl, h2.1⟩

theorem toNat45 : (45 : UInt8).toNat = 45 := rfl

theorem form_cases {l : List UInt8} (h : form l = true) : (∃ r, l = 45 :: r ∧ canon r = true ∧ r ≠ [48] ∧ numVal l = -(decVal r : Int)) ∨ (canon l = true ∧ l.head? ≠ some 45 ∧ numVal l = decVal l) := by
  unfold form at h
  unfold numVal
  by_cases hm : l.head? = some 45
  · left
    rw [if_pos hm] at h
    cases l with
    | nil => simp at hm
    | cons c r =>
      simp only [List.head?_cons, Option.some.injEq] at hm
      subst hm
      simp only [List.tail_cons, Bool.and_eq_true] at h
      exact ⟨r, rfl, h.1, of_decide_eq_true h.2, by simp⟩
  · right
    rw [if_neg hm] at h
    exact ⟨h, hm, by rw [if_neg hm]⟩

theorem minus_ok {r : List UInt8} {u : Nat} (h : Lib.parseMag r = .ok u) (hu : u ≤ 9223372036854775808) : Lib.atoiAll (45 :: r) = .ok (-(u : Int)) := by
  rw [Lib.atoiAll_minus, h]
  unfold Lib.signed
  simp only
  split
  · omega
  · rfl
theorem minus_range {r : List UInt8} {u : Nat} (h : Lib.parseMag r = .ok u) (hu : 9223372036854775808 < u) : Lib.atoiAll (45 :: r) = .range := by
  rw [Lib.atoiAll_minus, h]
  unfold Lib.signed
  simp only
  split
  · rfl
  · omega
theorem minus_range' {r : List UInt8} (h : Lib.parseMag r = .range) : Lib.atoiAll (45 :: r) = .range := by
  rw [Lib.atoiAll_minus, h]
  rfl
theorem plain_ok {c : UInt8} {r : List UInt8} {u : Nat} (hc : 48 ≤ c.toNat) (h : Lib.parseMag (c :: r) = .ok u) (hu : u < 9223372036854775808) : Lib.atoiAll (c :: r) = .ok (u : Int) := by
  rw [Lib.atoiAll_plain c r (by omega) (by omega), h]
  unfold Lib.signless
  simp only
  split
  · omega
  · rfl
theorem plain_range {c : UInt8} {r : List UInt8} {u : Nat} (hc : 48 ≤ c.toNat) (h : Lib.parseMag (c :: r) = .ok u) (hu : 9223372036854775808 ≤ u) : Lib.atoiAll (c :: r) = .range := by
  rw [Lib.atoiAll_plain c r (by omega) (by omega), h]
  unfold Lib.signless
  simp only
  split
  · rfl
  · omega
theorem plain_range' {c : UInt8} {r : List UInt8} (hc : 48 ≤ c.toNat) (h : Lib.parseMag (c :: r) = .range) : Lib.atoiAll (c :: r) = .range := by
  rw [Lib.atoiAll_plain c r (by omega) (by omega), h]
  rfl

/-- Atoi of what is of the form: its number .. -/
theorem atoiAll_ok {l : List UInt8} (h : form l = true) (h1 : -9223372036854775808 ≤ numVal l) (h2 : numVal l ≤ 9223372036854775807) : Lib.atoiAll l = .ok (numVal l) := by
  rcases form_cases h with ⟨r, rfl, hc, -, hv⟩ | ⟨hc, -, hv⟩
  · rw [hv] at h1 h2 ⊢
    exact minus_ok (parseMag_ok hc (by omega)) (by omega)
  · rw [hv] at h1 h2 ⊢
    obtain ⟨c, r, e, hc1, hc2⟩ := canon_head hc
    have hp := parseMag_ok hc (by omega)
    generalize decVal l = v at *
    subst e
    exact plain_ok hc1 hp (by omega)
/-- .. or too far out. -/
theorem atoiAll_range {l : List UInt8} (h : form l = true) (h1 : numVal l < -9223372036854775808 ∨ 9223372036854775807 < numVal l) : Lib.atoiAll l = .range := by
  rcases form_cases h with ⟨r, rfl, hc, -, hv⟩ | ⟨hc, -, hv⟩
  · rw [hv] at h1
    by_cases hb : decVal r < 18446744073709551616
    · exact minus_range (parseMag_ok hc hb) (by omega)
    · exact minus_range' (parseMag_range hc (by omega))
  · rw [hv] at h1
    obtain ⟨c, r, e, hc1, hc2⟩ := canon_head hc
    by_cases hb : decVal l < 18446744073709551616
    · have hp := parseMag_ok hc hb
      generalize decVal l = v at *
      subst e
      exact plain_range hc1 hp (by omega)
    · have hp := parseMag_range hc (by omega)
      subst e
      exact plain_range' hc1 hp

/-- Itoa of its number is the text. -/
theorem itoa_numVal {l : List UInt8} (h : form l = true) : Lib.itoa (numVal l) = l := by
  rcases form_cases h with ⟨r, rfl, hc, h48, hv⟩ | ⟨hc, -, hv⟩
  · rw [hv]
    obtain ⟨h1, h2, h3⟩ := canon_parts hc
    have hpos : 0 < decVal r := decVal_pos h2 (h3.resolve_right h48) h1
    unfold Lib.itoa
    rw [if_pos (by omega), show (-(decVal r : Int)).natAbs = decVal r from by omega, decDigits_decVal r hc]
  · rw [hv]
    unfold Lib.itoa
    rw [if_neg (by omega), Int.toNat_natCast, decDigits_decVal l hc]

/-- What Itoa writes is of the form, and its number is the one that was written. -/
theorem form_itoa (n : Int) : form (Lib.itoa n) = true ∧ numVal (Lib.itoa n) = n := by
  unfold Lib.itoa form numVal
  by_cases h : n < 0
  · rw [if_pos h]
    simp only [List.head?_cons, if_true, List.tail_cons, Bool.and_eq_true]
    refine ⟨⟨canon_decDigits _, ?_⟩, ?_⟩
    · refine decide_eq_true ?_
      intro e
      have := decVal_decDigits n.natAbs
      rw [e] at this
      simp [decVal] at this
      omega
    · rw [decVal_decDigits]; omega
  · rw [if_neg h]
    obtain ⟨c, r, e, hc1, hc2⟩ := canon_head (canon_decDigits n.toNat)
    have hh : ¬ (Lib.decDigits n.toNat).head? = some 45 := by
      rw [e]
      simp only [List.head?_cons, Option.some.injEq]
      intro ec
      rw [ec, toNat45] at hc1
      omega
    rw [if_neg hh, if_neg hh, decVal_decDigits]
    exact ⟨canon_decDigits _, by omega⟩
end Go.Proofs.YtgdcnenlelckhaaGreatDoor.Dec

namespace Go.Proofs.YtgdcnenlelckhaaGreatDoor
open Go.RowKit

def halvesTab : List Int := [0, 4129, 8258, 12387, 16516, 20645, 24774, 28903, 33032, 37161, 41290, 45419, 49548, 53677, 57806, 61935]
/-- What the code reads of package-level variables. -/
structure Env (w : World) : Prop where
  pow : Lib.TabIs Tryz.prog w "internal/strconv.uint64pow10" .u64 Lib.pow10Tab
  syn : ∃ a, w.var? Tryz.prog "strconv.ErrSyntax" = some #[.iface 203 (.pointer (some a))]
  rng : ∃ a, w.var? Tryz.prog "strconv.ErrRange" = some #[.iface 203 (.pointer (some a))]
  spc : Lib.TabIs Tryz.prog w "strings.asciiSpace" .u8 Lib.asciiSpaceTab
  whs : Lib.WhiteTab 1 w
  hlv : Lib.TabIs Tryz.prog w "marshalyard/crc.halves" .u16 halvesTab
  mx : ∃ m, w.cell? ⟨2, 0, none⟩ = some (.int .i64 m)

theorem gPow : Tryz.prog.globalNamed "internal/strconv.uint64pow10" = some 6 := by kernel_rfl
theorem gPowT : (Tryz.prog.globals[6]?).map (·.type) = some 207 := by kernel_rfl
theorem cellsPow : Tryz.prog.cellsOf 207 = 20 := by kernel_rfl
theorem cellsU64 : Tryz.prog.cellsOf 41 = 1 := by kernel_rfl
theorem gSyn : Tryz.prog.globalNamed "strconv.ErrSyntax" = some 4 := by kernel_rfl
theorem gSynT : (Tryz.prog.globals[4]?).map (·.type) = some 147 := by kernel_rfl
theorem gRng : Tryz.prog.globalNamed "strconv.ErrRange" = some 5 := by kernel_rfl
theorem gRngT : (Tryz.prog.globals[5]?).map (·.type) = some 147 := by kernel_rfl
theorem starErr : "*" ++ "errors.errorString" = "*errors.errorString" := by decide
theorem rowErr (u : TypeId) (h : Tryz.prog.typeName? 3 u = some "*errors.errorString") : u = 203 :=
  typeName_ptr_named (nm := "errors.errorString") (by rw [starErr]; kernel_rfl) (by kernel_rfl) (by decide) u (by rw [starErr]; exact h)
theorem cellsErr : Tryz.prog.cellsOf 205 = 1 := by kernel_rfl
theorem cellsStr : Tryz.prog.cellsOf 9 = 1 := by kernel_rfl

theorem laidMet_drop {P : Program} {W : World} : ∀ (k : Nat) {l : List (String × DataW Unit)}, laidMet P l W → laidMet P (l.drop k) W
  | 0, _, h => by simpa using h
  | k + 1, [], h => by simpa using h
  | k + 1, _ :: r, h => by simpa using laidMet_drop k (l := r) h.tail

theorem pow_of {W : World} {r : List (String × DataW Unit)} (h : laidMet Tryz.prog (("internal/strconv.uint64pow10", Rows.laid_internal_strconv_uint64pow10) :: r) W) :
    Lib.TabIs Tryz.prog W "internal/strconv.uint64pow10" .u64 Lib.pow10Tab :=
  Lib.tabIs_of_head (rest := r) gPow gPowT Tryz.underlying207 Tryz.underlying41 cellsU64 cellsPow h
theorem syn_of {W : World} {r : List (String × DataW Unit)} (h : laidMet Tryz.prog (("strconv.ErrSyntax", Rows.laid_strconv_ErrSyntax) :: r) W) :
    ∃ a, W.var? Tryz.prog "strconv.ErrSyntax" = some #[.iface 203 (.pointer (some a))] := by
  obtain ⟨a, s, hv, -, -, -⟩ := laid_sentinel h gSyn gSynT Tryz.underlying147 rowErr Tryz.underlying203 Tryz.underlying205 rfl rfl Tryz.underlying9 cellsErr cellsStr
  exact ⟨a, hv⟩
theorem rng_of {W : World} {r : List (String × DataW Unit)} (h : laidMet Tryz.prog (("strconv.ErrRange", Rows.laid_strconv_ErrRange) :: r) W) :
    ∃ a, W.var? Tryz.prog "strconv.ErrRange" = some #[.iface 203 (.pointer (some a))] := by
  obtain ⟨a, s, hv, -, -, -⟩ := laid_sentinel h gRng gRngT Tryz.underlying147 rowErr Tryz.underlying203 Tryz.underlying205 rfl rfl Tryz.underlying9 cellsErr cellsStr
  exact ⟨a, hv⟩

theorem mx_of {W : World} (h : W.ShapedOpen Tryz.prog) : ∃ m, W.cell? ⟨2, 0, none⟩ = some (.int .i64 m) :=
  Go.Proofs.cell_of_shapedOpen_int (zero := #[.int .i64 0]) (t := 3) h (of_decide_eq_true (by kernel_rfl)) (by kernel_rfl) rfl (by kernel_rfl) (by kernel_rfl) Tryz.underlying3

theorem var_lt {w : World} {n : String} {g : Nat} {cs : Array Value} (hg : Tryz.prog.globalNamed n = some g) (hv : w.var? Tryz.prog n = some cs) : g < w.heap.size := by
  unfold World.var? at hv
  simp only [hg, Option.bind_some] at hv
  by_cases hlt : g < w.heap.size
  · exact hlt
  · rw [Array.getElem?_eq_none (by omega)] at hv
    simp at hv

theorem gSpc : Tryz.prog.globalNamed "strings.asciiSpace" = some 0 := by kernel_rfl
theorem gSpcT : (Tryz.prog.globals[0]?).map (·.type) = some 143 := by kernel_rfl
theorem cellsSpc : Tryz.prog.cellsOf 143 = 256 := by kernel_rfl
theorem cellsU8 : Tryz.prog.cellsOf 5 = 1 := by kernel_rfl
theorem spc_data : (Rows.laid_strings_asciiSpace : DataW Unit) = Lib.tabData .u8 Lib.asciiSpaceTab := by kernel_rfl
theorem spc_of {W : World} {r : List (String × DataW Unit)} (h : laidMet Tryz.prog (("strings.asciiSpace", Rows.laid_strings_asciiSpace) :: r) W) :
    Lib.TabIs Tryz.prog W "strings.asciiSpace" .u8 Lib.asciiSpaceTab := by
  rw [spc_data] at h
  exact Lib.tabIs_of_head (rest := r) gSpc gSpcT Tryz.underlying143 Tryz.underlying5 cellsU8 cellsSpc h
theorem gHlv : Tryz.prog.globalNamed "marshalyard/crc.halves" = some 3 := by kernel_rfl
theorem gHlvT : (Tryz.prog.globals[3]?).map (·.type) = some 183 := by kernel_rfl
theorem cellsHlv : Tryz.prog.cellsOf 183 = 16 := by kernel_rfl
theorem cellsU16 : Tryz.prog.cellsOf 128 = 1 := by kernel_rfl
theorem hlv_of {W : World} {r : List (String × DataW Unit)} (h : laidMet Tryz.prog (("marshalyard/crc.halves", Rows.laid_marshalyard_crc_halves) :: r) W) :
    Lib.TabIs Tryz.prog W "marshalyard/crc.halves" .u16 halvesTab :=
  Lib.tabIs_of_head (rest := r) gHlv gHlvT Tryz.underlying183 Tryz.underlying128 cellsU16 cellsHlv h
theorem wh_data : (Rows.laid_unicode_White_Space : DataW Unit) = Lib.whiteData := by kernel_rfl
theorem wh_extra : WhiteExtra Tryz.prog Tryz.lays157_ren := ⟨by kernel_rfl, by kernel_rfl, by kernel_rfl, by kernel_rfl, by kernel_rfl, by kernel_rfl, by kernel_rfl, by kernel_rfl⟩
theorem whs_of {W : World} {r : List (String × DataW Unit)} (h : laidMet Tryz.prog (("unicode.White_Space", Rows.laid_unicode_White_Space) :: r) W) : Lib.WhiteTab 1 W := by
  rw [wh_data] at h
  exact whiteTab_of_reads { Tryz.lays157 with } wh_extra (Lib.laidMet.reads h List.mem_cons_self)
/-- What lies below stays. -/
theorem Env.below {w w' : World} (h : Env w) (b : Below w.heap.size w w') : Env w' := by
  obtain ⟨a, ha⟩ := h.syn
  obtain ⟨c, hc⟩ := h.rng
  obtain ⟨m, hm⟩ := h.mx
  exact { pow := var?_below b gPow (var_lt gPow h.pow) h.pow
          syn := ⟨a, var?_below b gSyn (var_lt gSyn ha) ha⟩
          spc := var?_below b gSpc (var_lt gSpc h.spc) h.spc
          whs := WhiteTab_below h.whs b
          hlv := var?_below b gHlv (var_lt gHlv h.hlv) h.hlv
          mx := ⟨m, (b.cell (World.block_lt_of_cell? w _ hm)).trans hm⟩
          rng := ⟨c, var?_below b gRng (var_lt gRng hc) hc⟩ }
end Go.Proofs.YtgdcnenlelckhaaGreatDoor

namespace Go.Proofs.YtgdcnenlelckhaaGreatDoor
open Go.RowKit Go.Proofs.YtgdcnenlelckhaaGreatDoorW.PrintWords

/-! ### words of 64 bits -/
theorem wrap64 (n : Int) (h0 : 0 ≤ n) (h1 : n < 2 ^ 64) : IntKind.u64.wrap n = n := by
  have : IntKind.u64.wrap n = n % 18446744073709551616 := by simp [IntKind.wrap, IntKind.bits, IntKind.signed]
  rw [this]
  have : (2 : Int) ^ 64 = 18446744073709551616 := by decide
  omega
theorem and1 (x : Nat) (h : x < 18446744073709551616) : bits .and .u64 (x : Int) 1 = ((x % 2 : Nat) : Int) := by
  have := (bits_nat .u64 64 (by decide) (fun n a b => wrap64 n a b) x 1 (by simpa using h) (by decide)).1
  rw [show ((1 : Nat) : Int) = 1 from rfl, Nat.and_one_is_mod] at this
  exact this
theorem or64 (x y : Nat) (h : x < 18446744073709551616) (h' : y < 18446744073709551616) : bits .or .u64 (x : Int) (y : Int) = ((x ||| y : Nat) : Int) :=
  (bits_nat .u64 64 (by decide) (fun n a b => wrap64 n a b) x y (by simpa using h) (by simpa using h')).2
theorem andNot64 (x y : Nat) (h : x < 18446744073709551616) (h' : y < 18446744073709551616) : bits .andNot .u64 (x : Int) (y : Int) = ((x &&& (18446744073709551615 - y) : Nat) : Int) := by
  have hx : x % 2 ^ 64 = x := Nat.mod_eq_of_lt (by simpa using h)
  have hy : y % 2 ^ 64 = y := Nat.mod_eq_of_lt (by simpa using h')
  show IntKind.u64.wrap ((((BitVec.ofInt 64 (x : Int)) &&& ~~~(BitVec.ofInt 64 (y : Int))).toNat : Nat) : Int) = _
  rw [BitVec.ofInt_natCast, BitVec.ofInt_natCast, BitVec.toNat_and, BitVec.toNat_not, BitVec.toNat_ofNat, BitVec.toNat_ofNat, hx, hy]
  have e : 2 ^ 64 - 1 - y = 18446744073709551615 - y := by simp
  rw [e]
  exact wrap64 _ (Int.natCast_nonneg _) (by
    have h3 : x &&& (18446744073709551615 - y) ≤ x := Nat.and_le_left
    have h4 : x &&& (18446744073709551615 - y) < 2 ^ 64 := Nat.lt_of_le_of_lt h3 (by simpa using h)
    exact_mod_cast h4)

/-- The slots as words: 256 whole numbers below 2^64. -/
structure Words (a : Array Value) (f : Nat → Nat) : Prop where
  size : a.size = 256
  get : ∀ i, i < 256 → a[i]? = some (.int .u64 (f i))
  lt : ∀ i, f i < 18446744073709551616
theorem there_calls (n : Int) (w : World) : Calls Tryz.prog 107 #[.int .i64 n] w fun e w' => e = .returned (.bool (decide (0 ≤ n) && decide (n < 16384))) ∧ w = w' := by
  by_cases h : 0 ≤ n
  · rw [decide_eq_true h, Bool.true_and]
    go_enter Tryz.func107, Tryz.ntmps107
    go_wp2
    go_ret
    exact ⟨rfl, rfl⟩
  · rw [decide_eq_false h, Bool.false_and]
    go_enter Tryz.func107, Tryz.ntmps107
    go_wp2
    go_ret
    exact ⟨rfl, rfl⟩
def hasW (f : Nat → Nat) (n : Int) : Bool := decide (0 ≤ n) && decide (n < 16384) && decide (f (n.toNat / 64) / 2 ^ (n.toNat % 64) % 2 = 1)
set_option maxRecDepth 100000 in
theorem Has_calls (a : Array Value) (f : Nat → Nat) (ha : Words a f) (n : Int) (w : World) :
    Calls Tryz.prog 96 #[.agg a, .int .i64 n] w fun e w' => e = .returned (.bool (hasW f n)) ∧ Below w.heap.size w w' := by
  have ht := there_calls n
  by_cases h : 0 ≤ n ∧ n < 16384
  · obtain ⟨k, rfl⟩ : ∃ k : Nat, n = k := ⟨n.toNat, by omega⟩
    have hk : k < 16384 := by omega
    rw [decide_eq_true h.1, decide_eq_true h.2] at ht
    have hg := ha.get (k / 64) (by omega)
    have hsz := ha.size
    have hx : f (k / 64) / 2 ^ (k % 64) < 18446744073709551616 := Nat.lt_of_le_of_lt (Nat.div_le_self _ _) (ha.lt _)
    have hb := and1 _ hx
    have hc : ((f (k / 64) / 2 ^ (k % 64) : Nat) : Int) = (f (k / 64) : Int) / 2 ^ (k % 64) := by simp
    rw [hc] at hb
    have hE : hasW f k = (((f (k / 64) / 2 ^ (k % 64) % 2 : Nat) : Int) == 1) := by
      unfold hasW
      rw [decide_eq_true h.1, decide_eq_true h.2, Bool.true_and, Bool.true_and, Int.toNat_natCast, Bool.beq_eq_decide_eq]
      congr 1
      exact propext ⟨fun h => by omega, fun h => by omega⟩
    have hd : ((f (k / 64) / 2 ^ (k % 64) % 2 : Nat) : Int) = (f (k / 64) : Int) / 2 ^ (k % 64) % 2 := by simp
    rw [hd] at hE
    rw [hE]
    go_enter Tryz.func96, Tryz.ntmps96
    go_wp2_with (go_at_call 107; refine (ht _).mono ?_; rintro e w2 ⟨rfl, rfl⟩)
    go_ret
    exact ⟨rfl, below_alloc (Below.refl _ _) _⟩
  · have hE : hasW f n = false := by unfold hasW; by_cases h1 : 0 ≤ n <;> by_cases h2 : n < 16384 <;> simp [h1, h2]; omega
    have ht' : (decide (0 ≤ n) && decide (n < 16384)) = false := by by_cases h1 : 0 ≤ n <;> by_cases h2 : n < 16384 <;> simp [h1, h2]; omega
    rw [ht'] at ht
    rw [hE]
    go_enter Tryz.func96, Tryz.ntmps96
    go_wp2_with (go_at_call 107; refine (ht _).mono ?_; rintro e w2 ⟨rfl, rfl⟩)
    go_ret
    exact ⟨rfl, below_alloc (Below.refl _ _) _⟩

/-! ### one bit of a word -/
def clr (x k : Nat) : Nat := x &&& (18446744073709551615 - 2 ^ k)
def bset (x k : Nat) : Nat := clr x k ||| 2 ^ k
theorem pow_lt64 {k : Nat} (h : k < 64) : 2 ^ k < 18446744073709551616 := by
  have := Nat.pow_lt_pow_right (a := 2) (by decide) h
  simpa using this
theorem clr_lt {x k : Nat} (h : x < 18446744073709551616) : clr x k < 18446744073709551616 := Nat.lt_of_le_of_lt Nat.and_le_left h
theorem bset_lt {x k : Nat} (h : x < 18446744073709551616) (hk : k < 64) : bset x k < 18446744073709551616 := by
  have := Nat.or_lt_two_pow (n := 64) (by simpa using clr_lt (k := k) h) (by simpa using pow_lt64 hk)
  simpa [bset] using this
theorem clr_bit {x k : Nat} (h : x < 18446744073709551616) (hk : k < 64) (i : Nat) : (clr x k).testBit i = (x.testBit i && decide (i ≠ k)) := by
  unfold clr
  rw [Nat.testBit_and]
  have e : 18446744073709551615 - 2 ^ k = 2 ^ 64 - (2 ^ k + 1) := by omega
  rw [e, Nat.testBit_two_pow_sub_succ (by simpa using pow_lt64 hk), Nat.testBit_two_pow]
  by_cases hi : i < 64
  · by_cases hik : i = k
    · subst hik; simp
    · have : ¬ k = i := fun e => hik e.symm
      simp [hi, hik, this]
  · have : x.testBit i = false := Nat.testBit_lt_two_pow (Nat.lt_of_lt_of_le (by simpa using h) (Nat.pow_le_pow_right (by decide) (by omega : 64 ≤ i)))
    rw [this]; simp
theorem bset_bit {x k : Nat} (h : x < 18446744073709551616) (hk : k < 64) (i : Nat) : (bset x k).testBit i = (x.testBit i || decide (i = k)) := by
  unfold bset
  rw [Nat.testBit_or, clr_bit h hk, Nat.testBit_two_pow]
  by_cases hik : i = k
  · subst hik; simp
  · have : ¬ k = i := fun e => hik e.symm
    simp [hik, this]
def withW (f : Nat → Nat) (n : Nat) (b : Bool) : Nat → Nat := fun w => if w = n / 64 then (if b then bset (f w) (n % 64) else clr (f w) (n % 64)) else f w
theorem hasW_bit (f : Nat → Nat) (n : Nat) (h : n < 16384) : hasW f n = (f (n / 64)).testBit (n % 64) := by
  unfold hasW
  rw [decide_eq_true (by omega), decide_eq_true (by omega), Bool.true_and, Bool.true_and, Int.toNat_natCast, Nat.testBit_eq_decide_div_mod_eq]
theorem Words.set {a : Array Value} {f : Nat → Nat} (h : Words a f) (i : Nat) (hi : i < 256) (x : Nat) (hx : x < 18446744073709551616) : Words (a.setIfInBounds i (.int .u64 x)) (fun w => if w = i then x else f w) := by
  refine ⟨by simp [h.size], fun j hj => ?_, fun j => ?_⟩
  · rw [Array.getElem?_setIfInBounds]
    by_cases hij : i = j
    · subst hij; simp [h.size, hi]
    · rw [if_neg hij, if_neg (fun e => hij e.symm)]; exact h.get j hj
  · show (if j = i then x else f j) < _
    split
    · exact hx
    · exact h.lt j
theorem Words.one {a : Array Value} {f : Nat → Nat} (h : Words a f) : a.all (·.oneCell') = true := by
  rw [Array.all_eq_true]
  intro i hi
  have := h.get i (by rw [← h.size]; exact hi)
  rw [Array.getElem?_eq_getElem hi] at this
  rw [Option.some.inj this]
  rfl
theorem heap0 (w : World) (A B : Obj) : ((w.alloc A).alloc B).heap[w.heap.size]? = some A := ((below_alloc (Below.refl (w.alloc A).heap.size (w.alloc A)) B).block w.heap.size (by simp)).trans (heap_alloc_last w A)
theorem heap1 (w : World) (A B : Obj) : ((w.alloc A).alloc B).heap[w.heap.size + 1]? = some B := by
  have := heap_alloc_last (w.alloc A) B
  rw [World.size_alloc] at this
  exact this

theorem zero_size : Tryz.zeroCells43.size = 256 := by kernel_rfl
theorem info30 : (Tryz.prog.info? 43).map (·.size) = some 256 := by kernel_rfl
theorem wrap_pow {k : Nat} (hk : k < 64) : IntKind.u64.wrap (2 ^ k) = 2 ^ k := by
  refine wrap64 _ (by have h0 : (0 : Int) ≤ ((2 ^ k : Nat) : Int) := Int.natCast_nonneg _
                      rwa [Int.natCast_pow] at h0) ?_
  have := pow_lt64 hk
  exact_mod_cast this
end Go.Proofs.YtgdcnenlelckhaaGreatDoor

namespace Go.Proofs.YtgdcnenlelckhaaGreatDoor
open Go.RowKit Go.Proofs.YtgdcnenlelckhaaGreatDoorW.PrintWords
set_option maxRecDepth 100000 in
theorem power_calls (k : Nat) (hk : k < 64) (w : World) : Calls Tryz.prog 73 #[.int .i64 k] w fun e w' => e = .returned (.int .u64 ((2 ^ k : Nat) : Int)) ∧ w = w' := by
  go_enter Tryz.func73, Tryz.ntmps73
  go_wp2
  go_loop [3, 4] (fun p i => ∃ j : Nat, j ≤ k ∧ i = .int .i64 j ∧ p = .int .u64 ((2 ^ j : Nat) : Int)) (fun _ i => k - (intOf i).toNat)
  case atStart => exact ⟨0, Nat.zero_le _, rfl, rfl⟩
  case round =>
    obtain ⟨j, hj, rfl, rfl⟩ := hrel
    by_cases hjk : j < k
    · have h1 : 2 ^ (j + 1) < 18446744073709551616 := pow_lt64 (by omega)
      have h2 : 2 ^ (j + 1) = 2 ^ j * 2 := Nat.pow_succ 2 j
      have h3 := Lib.hid h2
      rw [h2] at h1
      clear h2
      generalize 2 ^ j = P at *
      go_wp2
      case roundEnd =>
        refine ⟨⟨j + 1, by omega, by go_num, ?_⟩, by simp [intOf]; omega⟩
        rw [h3.out, Int.natCast_mul]
        first | rfl | go_num
    · obtain rfl : j = k := by omega
      go_wp2
      go_ret
      exact ⟨rfl, rfl⟩
theorem hasW_eq (f : Nat → Nat) (k : Nat) (h : k < 16384) : hasW f k = (((f (k / 64) : Int) / ((2 ^ (k % 64) : Nat) : Int) % 2) == 1) := by
  unfold hasW
  rw [decide_eq_true (by omega), decide_eq_true (by omega), Bool.true_and, Bool.true_and, Int.toNat_natCast, Bool.beq_eq_decide_eq]
  congr 1
  have e : (f (k / 64) : Int) / ((2 ^ (k % 64) : Nat) : Int) % 2 = ((f (k / 64) / 2 ^ (k % 64) % 2 : Nat) : Int) := by simp
  rw [e]
  exact propext ⟨fun h => by omega, fun h => by omega⟩
theorem hasW_out (f : Nat → Nat) (n : Int) (h : ¬ (0 ≤ n ∧ n < 16384)) : hasW f n = false := by
  unfold hasW; by_cases h1 : 0 ≤ n <;> by_cases h2 : n < 16384 <;> simp [h1, h2]; omega
set_option maxRecDepth 100000 in
theorem refHas_calls (a : Array Value) (f : Nat → Nat) (ha : Words a f) (n : Int) (w : World) :
    Calls Tryz.prog 72 #[.agg a, .int .i64 n] w fun e w' => e = .returned (.bool (hasW f n)) ∧ Below w.heap.size w w' := by
  by_cases h : 0 ≤ n ∧ n < 16384
  · obtain ⟨k, rfl⟩ : ∃ k : Nat, n = k := ⟨n.toNat, by omega⟩
    have hk : k < 16384 := by omega
    have hg := ha.get (k / 64) (by omega)
    have hsz := ha.size
    have hp := power_calls (k % 64) (by omega)
    have hpos : 0 < 2 ^ (k % 64) := Nat.two_pow_pos _
    rw [hasW_eq f k hk]
    generalize 2 ^ (k % 64) = P at *
    have hc : ((k % 64 : Nat) : Int) = (k : Int) % 64 := by simp
    rw [hc] at hp
    have hp := fun W => (hp W).mono (R' := fun e w' => e = .returned (.int .u64 (P : Int)) ∧ w' = W) fun _ _ h => ⟨h.1, h.2.symm⟩
    have hv : (IntKind.u64.wrap ((f (k / 64) : Int) / (P : Int))).tmod 2 = (f (k / 64) : Int) / (P : Int) % 2 := by
      have hx := ha.lt (k / 64)
      have h0 : (0 : Int) ≤ (f (k / 64) : Int) / (P : Int) := Int.ediv_nonneg (Int.natCast_nonneg _) (Int.natCast_nonneg _)
      have h1 : (f (k / 64) : Int) / (P : Int) < 2 ^ 64 := by
        have : f (k / 64) / P < 18446744073709551616 := Nat.lt_of_le_of_lt (Nat.div_le_self _ _) hx
        have h2 : ((f (k / 64) / P : Nat) : Int) < 2 ^ 64 := by exact_mod_cast this
        rwa [Int.natCast_ediv] at h2
      rw [wrap64 _ h0 h1, Int.tmod_eq_emod_of_nonneg h0]
    go_enter Tryz.func72, Tryz.ntmps72
    go_wp2_with fail
    go_quiet ((go_at_call 73; first | (with_reducible exact Calls.quiet_of_same (hp _))))
    go_wp2
    go_ret
    refine ⟨?_, pw_below_drewN (below_alloc (Below.refl _ _) _) _⟩
    rw [← hv]
    rfl
  · rw [hasW_out f n h]
    by_cases h1 : n < 0
    · go_enter Tryz.func72, Tryz.ntmps72
      go_wp2
      go_ret
      exact ⟨rfl, below_alloc (Below.refl _ _) _⟩
    · have h2 : 16384 ≤ n := by omega
      go_enter Tryz.func72, Tryz.ntmps72
      go_wp2
      go_ret
      exact ⟨rfl, below_alloc (Below.refl _ _) _⟩
end Go.Proofs.YtgdcnenlelckhaaGreatDoor

namespace Go.Proofs.YtgdcnenlelckhaaGreatDoor
open Go.RowKit Go.Proofs.YtgdcnenlelckhaaGreatDoorW.PrintWords
theorem withW_same {f : Nat → Nat} {k : Nat} {b : Bool} (hk : k < 16384) (hx : f (k / 64) < 18446744073709551616) (h : hasW f k = b) : withW f k b = f := by
  rw [hasW_bit f k hk] at h
  funext w
  unfold withW
  by_cases hw : w = k / 64
  · subst hw
    rw [if_pos rfl]
    cases b with
    | true =>
      rw [if_pos rfl]
      apply Nat.eq_of_testBit_eq
      intro i
      rw [bset_bit hx (by omega)]
      by_cases hi : i = k % 64
      · subst hi; rw [h]; simp
      · simp [hi]
    | false =>
      rw [if_neg (by simp)]
      apply Nat.eq_of_testBit_eq
      intro i
      rw [clr_bit hx (by omega)]
      by_cases hi : i = k % 64
      · subst hi; rw [h]; simp
      · simp [hi]
  · rw [if_neg hw]
theorem add_or {x j : Nat} (hx : x < 18446744073709551616) (hj : j < 64) (h : x.testBit j = false) : (x + 2 ^ j) % 18446744073709551616 = x ||| 2 ^ j := by
  have e : BitVec.ofNat 64 x &&& BitVec.ofNat 64 (2 ^ j) = 0#64 := by
    apply BitVec.eq_of_toNat_eq
    rw [BitVec.toNat_and, BitVec.toNat_ofNat, BitVec.toNat_ofNat, Nat.mod_eq_of_lt (by simpa using hx), Nat.mod_eq_of_lt (by simpa using pow_lt64 hj)]
    apply Nat.eq_of_testBit_eq
    intro i
    rw [Nat.testBit_and, Nat.testBit_two_pow]
    by_cases hi : j = i
    · subst hi; rw [h]; simp
    · simp [hi]
  have := congrArg BitVec.toNat (BitVec.add_eq_or_of_and_eq_zero _ _ e)
  rw [BitVec.toNat_add, BitVec.toNat_or, BitVec.toNat_ofNat, BitVec.toNat_ofNat, Nat.mod_eq_of_lt (a := x) (by simpa using hx), Nat.mod_eq_of_lt (a := 2 ^ j) (by simpa using pow_lt64 hj)] at this
  exact this
theorem wrap_mod (n : Int) : IntKind.u64.wrap n = n % 18446744073709551616 := by simp [IntKind.wrap, IntKind.bits, IntKind.signed]
theorem clr_same {x j : Nat} (hx : x < 18446744073709551616) (hj : j < 64) (h : x.testBit j = false) : clr x j = x := by
  apply Nat.eq_of_testBit_eq
  intro i
  rw [clr_bit hx hj]
  by_cases hi : i = j
  · subst hi; rw [h]; simp
  · simp [hi]
theorem sum_set {x j : Nat} (hx : x < 18446744073709551616) (hj : j < 64) (h : x.testBit j = false) : IntKind.u64.wrap ((x : Int) + ((2 ^ j : Nat) : Int)) = (bset x j : Int) := by
  rw [wrap_mod, bset, clr_same hx hj h, ← add_or hx hj h]
  omega
theorem sub_clr {x j : Nat} (hx : x < 18446744073709551616) (hj : j < 64) (h : x.testBit j = true) : IntKind.u64.wrap ((x : Int) - ((2 ^ j : Nat) : Int)) = (clr x j : Int) := by
  have hc : (clr x j).testBit j = false := by rw [clr_bit hx hj]; simp
  have e1 := add_or (clr_lt hx) hj hc
  have e2 : clr x j ||| 2 ^ j = x := by
    apply Nat.eq_of_testBit_eq
    intro i
    have := bset_bit hx hj i
    unfold bset at this
    rw [this]
    by_cases hi : i = j
    · subst hi; rw [h]; simp
    · simp [hi]
  rw [e2] at e1
  have hl := clr_lt (k := j) hx
  rw [wrap_mod]
  generalize 2 ^ j = P at *
  omega
theorem words_set {a : Array Value} {f : Nat → Nat} (ha : Words a f) {k : Nat} (hk : k < 16384) (b : Bool) {D : Nat} (hD : D < 18446744073709551616) (he : D = if b then bset (f (k / 64)) (k % 64) else clr (f (k / 64)) (k % 64)) :
    Words (a.setIfInBounds (k / 64) (.int .u64 (D : Int))) (withW f k b) := by
  have := ha.set (k / 64) (by omega) D hD
  have e : (fun w => if w = k / 64 then D else f w) = withW f k b := by
    funext w; unfold withW
    by_cases hw : w = k / 64
    · subst hw; rw [if_pos rfl, if_pos rfl, he]
    · rw [if_neg hw, if_neg hw]
  rw [e] at this
  exact this
theorem wpList_load_row_g {P : Program} {ops : Array Oper} {rest : List Oper} {o : Oper} {a : Act} {w : World} {Q : Exit → Act → World → Prop} (hw : Region.wanted o (yielded ops a.tmps) = true) (ty : TypeId) (x : Operand) (ho : o.op = .load ty x)
    (g : Nat) (hx : a.eval x = .pointer (some ⟨g, 0, none⟩)) (t : TypeId) (cs : Array Value) (fr : Nat × Nat) (d : TypeDesc) (hg : w.heap[g]? = some (.cells cs t fr))
    (hu : P.underlying ty = some d) (hd : (match d with | .struct _ | .array _ _ => true | _ => false) = true) (hi : (P.info? ty).map (·.size) = some cs.size)
    (h : wpList P ops Q rest (a.put o.dst (.agg cs)) w) : wpList P ops Q (o :: rest) a w :=
  wpList_step fun K hK => by rw [if_pos hw]; exact wp_load_row ty x ho g hx t cs fr d hg hu hd hi (hK _ _ h)
theorem heapN (w : World) (A : Obj) : (w.alloc A).heap[w.heap.size]? = some A := heap_alloc_last w A
set_option maxRecDepth 100000 in
theorem refWith_calls (a : Array Value) (f : Nat → Nat) (ha : Words a f) (n : Int) (b : Bool) (w : World) :
    Calls Tryz.prog 47 #[.agg a, .int .i64 n, .bool b] w fun e w' =>
      ∃ a', e = .returned (.agg a') ∧ Words a' (if 0 ≤ n ∧ n < 16384 then withW f n.toNat b else f) ∧ Below w.heap.size w w' := by
  by_cases h : 0 ≤ n ∧ n < 16384
  · rw [if_pos h]
    obtain ⟨k, rfl⟩ : ∃ k : Nat, n = k := ⟨n.toNat, by omega⟩
    rw [Int.toNat_natCast]
    have hk : k < 16384 := by omega
    have hH := fun W => refHas_calls a f ha k W
    have hs1 : (Tryz.prog.info? 43).map (·.size) = some a.size := by rw [ha.size]; exact info30
    have c1 : ¬ (k : Int) < 0 := by omega
    have c2 : ¬ (16384 : Int) ≤ (k : Int) := by omega
    go_enter Tryz.func47, Tryz.ntmps47
    have hg := ha.get (k / 64) (by omega)
    have hp := power_calls (k % 64) (by omega)
    have hc : ((k % 64 : Nat) : Int) = (k : Int) % 64 := by simp
    rw [hc] at hp
    have hP := pow_lt64 (k := k % 64) (by omega)
    generalize hPe : 2 ^ (k % 64) = P at *
    have hp := fun W => (hp W).mono (R' := fun e w' => e = .returned (.int .u64 (P : Int)) ∧ w' = W) fun _ _ h => ⟨h.1, h.2.symm⟩
    go_wp2_with (refine wpList_load_row_g (by first | rfl | simp [Region.wanted, yielded, c1, c2]) 43 _ rfl w.heap.size rfl 43 a (0, 0) _ (heap0 w _ _) Tryz.underlying43 rfl hs1 ?_)
    refine (hH _).mono ?_
    rintro e w2 ⟨rfl, hb⟩
    have g0 : w2.heap[w.heap.size]? = some (.cells a 43 (0, 0)) := (hb.block _ (by simp; omega)).trans (heap0 w _ _)
    have g1 : w2.heap[w.heap.size + 1]? = some (.cells Tryz.zeroCells43 43 (0, 0)) := (hb.block _ (by simp)).trans (heap1 w _ _)
    have hbw : Below w.heap.size w w2 := (below_alloc (below_alloc (Below.refl _ _) _) _).trans (hb.mono (by simp; omega))
    have hZ : Tryz.zeroCells43.size = a.size := by rw [ha.size]; exact zero_size
    have h1 := ha.one
    cases b with
    | true =>
      cases hB : hasW f k with
      | true =>
        go_wp2_with (first | (refine wpList_load_row rfl 43 _ rfl w.heap.size rfl 43 a (0, 0) _ g0 Tryz.underlying43 rfl hs1 ?_) | (refine wpList_store_row rfl 43 _ _ rfl (w.heap.size + 1) a rfl rfl 43 Tryz.zeroCells43 g1 hs1 hZ h1 ?_))
        refine bodyPost_ret (v := .agg a) (results_cell_row rfl _ _ (w.heap.size + 1) 43 a (0, 0) _ rfl (setRow_heap _ _ _ a _ _ g1) Tryz.underlying43 rfl hs1) rfl ⟨a, rfl, by rw [withW_same hk (ha.lt _) hB]; exact ha, below_setRow hbw (Nat.le_succ _) _⟩
      | false =>
        have q0 : w2.cell? ⟨w.heap.size, k / 64, none⟩ = some (.int .u64 (f (k / 64))) := by
          rw [cell_of_row w2 _ (k / 64) a 43 (0, 0) g0]; exact hg
        have q1 : w2.frozen? ⟨w.heap.size, k / 64, none⟩ = false := by simp [World.frozen?, g0]
        have wk : IntKind.i64.wrap ((k : Int) / 64) = (k : Int) / 64 := by rw [IntKind.wrap_i64]; omega
        have wt : ((k : Int) / 64).toNat = k / 64 := by omega
        have wl : (k : Int) / 64 < 256 := by omega
        have w0 : 0 ≤ (k : Int) / 64 := by omega
        have wm : (k : Int).tmod 64 = (k : Int) % 64 := Int.tmod_eq_emod_of_nonneg (by omega)
        go_wp2_with fail
        have q0' : w2.drew.cell? ⟨w.heap.size, k / 64, none⟩ = some (.int .u64 (f (k / 64))) := q0
        have q1' : w2.drew.frozen? ⟨w.heap.size, k / 64, none⟩ = false := q1
        have hbw' : Below w.heap.size w w2.drew := below_drew hbw
        have g0' : w2.drew.heap[w.heap.size]? = some (.cells a 43 (0, 0)) := g0
        have g1' : w2.drew.heap[w.heap.size + 1]? = some (.cells Tryz.zeroCells43 43 (0, 0)) := g1
        refine wp_region_still_tail 11 (by kernel_rfl) (by kernel_rfl) ?_
        simp only [List.take_succ_cons, List.take_zero, List.drop_succ_cons, List.drop_zero]
        change wpStill _ _ w2.drew (fun a' => wpList _ _ _ _ a' w2.drew) _ _
        generalize w2.drew = w3 at *
        clear q0 q1 hbw g0 g1 hb
        repeat still_step
        still_call (hp w3)
        repeat still_step
        refine wpStill_nil ?_
        have hsum : IntKind.u64.wrap ((f (k / 64) : Int) + (P : Int)) = (bset (f (k / 64)) (k % 64) : Int) := by
          rw [← hPe]; exact sum_set (ha.lt _) (by omega) (by rw [← hasW_bit f k hk]; exact hB)
        have hW : Words (a.setIfInBounds (k / 64) (.int .u64 (bset (f (k / 64)) (k % 64) : Int))) (withW f k true) := words_set ha hk true (bset_lt (ha.lt _) (by omega)) rfl
        generalize bset (f (k / 64)) (k % 64) = D at *
        have G0 := heap_setCell_same w3 w.heap.size (k / 64) a 43 (.int .u64 (D : Int)) g0'
        have G1 : (w3.setCell ⟨w.heap.size, k / 64, none⟩ (.int .u64 (D : Int))).heap[w.heap.size + 1]? = some (.cells Tryz.zeroCells43 43 (0, 0)) := (heap_setCell_other w3 _ _ _ (by simp)).trans g1'
        generalize a.setIfInBounds (k / 64) (.int .u64 (D : Int)) = A at *
        have hAs := hW.size
        have hi : (Tryz.prog.info? 43).map (·.size) = some A.size := by rw [hAs]; exact info30
        have hZ' : Tryz.zeroCells43.size = A.size := by rw [hAs]; exact zero_size
        have h1' := hW.one
        go_wp2_with (first | (refine wpList_load_row rfl 43 _ rfl w.heap.size rfl 43 A (0, 0) _ G0 Tryz.underlying43 rfl hi ?_) | (refine wpList_store_row rfl 43 _ _ rfl (w.heap.size + 1) A rfl rfl 43 Tryz.zeroCells43 G1 hi hZ' h1' ?_))
        refine bodyPost_ret (v := .agg A) (results_cell_row rfl _ _ (w.heap.size + 1) 43 A (0, 0) _ rfl (setRow_heap _ _ _ A _ _ G1) Tryz.underlying43 rfl hi) rfl ⟨A, rfl, hW, below_setRow (below_set hbw' (Nat.le_refl _)) (Nat.le_succ _) _⟩
    | false =>
      cases hB : hasW f k with
      | false =>
        go_wp2_with (first | (refine wpList_load_row rfl 43 _ rfl w.heap.size rfl 43 a (0, 0) _ g0 Tryz.underlying43 rfl hs1 ?_) | (refine wpList_store_row rfl 43 _ _ rfl (w.heap.size + 1) a rfl rfl 43 Tryz.zeroCells43 g1 hs1 hZ h1 ?_))
        refine bodyPost_ret (v := .agg a) (results_cell_row rfl _ _ (w.heap.size + 1) 43 a (0, 0) _ rfl (setRow_heap _ _ _ a _ _ g1) Tryz.underlying43 rfl hs1) rfl ⟨a, rfl, by rw [withW_same hk (ha.lt _) hB]; exact ha, below_setRow hbw (Nat.le_succ _) _⟩
      | true =>
        have q0 : w2.cell? ⟨w.heap.size, k / 64, none⟩ = some (.int .u64 (f (k / 64))) := by
          rw [cell_of_row w2 _ (k / 64) a 43 (0, 0) g0]; exact hg
        have q1 : w2.frozen? ⟨w.heap.size, k / 64, none⟩ = false := by simp [World.frozen?, g0]
        have wk : IntKind.i64.wrap ((k : Int) / 64) = (k : Int) / 64 := by rw [IntKind.wrap_i64]; omega
        have wt : ((k : Int) / 64).toNat = k / 64 := by omega
        have wl : (k : Int) / 64 < 256 := by omega
        have w0 : 0 ≤ (k : Int) / 64 := by omega
        have wm : (k : Int).tmod 64 = (k : Int) % 64 := Int.tmod_eq_emod_of_nonneg (by omega)
        go_wp2_with fail
        have q0' : w2.drew.cell? ⟨w.heap.size, k / 64, none⟩ = some (.int .u64 (f (k / 64))) := q0
        have q1' : w2.drew.frozen? ⟨w.heap.size, k / 64, none⟩ = false := q1
        have hbw' : Below w.heap.size w w2.drew := below_drew hbw
        have g0' : w2.drew.heap[w.heap.size]? = some (.cells a 43 (0, 0)) := g0
        have g1' : w2.drew.heap[w.heap.size + 1]? = some (.cells Tryz.zeroCells43 43 (0, 0)) := g1
        refine wp_region_still_tail 11 (by kernel_rfl) (by kernel_rfl) ?_
        simp only [List.take_succ_cons, List.take_zero, List.drop_succ_cons, List.drop_zero]
        change wpStill _ _ w2.drew (fun a' => wpList _ _ _ _ a' w2.drew) _ _
        generalize w2.drew = w3 at *
        clear q0 q1 hbw g0 g1 hb
        repeat still_step
        still_call (hp w3)
        repeat still_step
        refine wpStill_nil ?_
        have hsum : IntKind.u64.wrap ((f (k / 64) : Int) - (P : Int)) = (clr (f (k / 64)) (k % 64) : Int) := by
          rw [← hPe]; exact sub_clr (ha.lt _) (by omega) (by rw [← hasW_bit f k hk]; exact hB)
        have hW : Words (a.setIfInBounds (k / 64) (.int .u64 (clr (f (k / 64)) (k % 64) : Int))) (withW f k false) := words_set ha hk false (clr_lt (ha.lt _)) rfl
        generalize clr (f (k / 64)) (k % 64) = D at *
        have G0 := heap_setCell_same w3 w.heap.size (k / 64) a 43 (.int .u64 (D : Int)) g0'
        have G1 : (w3.setCell ⟨w.heap.size, k / 64, none⟩ (.int .u64 (D : Int))).heap[w.heap.size + 1]? = some (.cells Tryz.zeroCells43 43 (0, 0)) := (heap_setCell_other w3 _ _ _ (by simp)).trans g1'
        generalize a.setIfInBounds (k / 64) (.int .u64 (D : Int)) = A at *
        have hAs := hW.size
        have hi : (Tryz.prog.info? 43).map (·.size) = some A.size := by rw [hAs]; exact info30
        have hZ' : Tryz.zeroCells43.size = A.size := by rw [hAs]; exact zero_size
        have h1' := hW.one
        go_wp2_with (first | (refine wpList_load_row rfl 43 _ rfl w.heap.size rfl 43 A (0, 0) _ G0 Tryz.underlying43 rfl hi ?_) | (refine wpList_store_row rfl 43 _ _ rfl (w.heap.size + 1) A rfl rfl 43 Tryz.zeroCells43 G1 hi hZ' h1' ?_))
        refine bodyPost_ret (v := .agg A) (results_cell_row rfl _ _ (w.heap.size + 1) 43 A (0, 0) _ rfl (setRow_heap _ _ _ A _ _ G1) Tryz.underlying43 rfl hi) rfl ⟨A, rfl, hW, below_setRow (below_set hbw' (Nat.le_refl _)) (Nat.le_succ _) _⟩
  · rw [if_neg h]
    have hs1 : (Tryz.prog.info? 43).map (·.size) = some a.size := by rw [ha.size]; exact info30
    have hZ : Tryz.zeroCells43.size = a.size := by rw [ha.size]; exact zero_size
    have h1 := ha.one
    by_cases c1 : n < 0
    · go_enter Tryz.func47, Tryz.ntmps47
      go_wp2_with (first | (refine wpList_load_row rfl 43 _ rfl w.heap.size rfl 43 a (0, 0) _ (heap0 w _ _) Tryz.underlying43 rfl hs1 ?_) | (refine wpList_store_row rfl 43 _ _ rfl (w.heap.size + 1) a rfl rfl 43 Tryz.zeroCells43 (heap1 w _ _) hs1 hZ h1 ?_))
      refine bodyPost_ret (v := .agg a) (results_cell_row rfl _ _ (w.heap.size + 1) 43 a (0, 0) _ rfl (setRow_heap _ _ _ a _ _ (heap1 w _ _)) Tryz.underlying43 rfl hs1) rfl ⟨a, rfl, ha, below_setRow (by repeat (first | exact Below.refl _ _ | apply below_alloc)) (Nat.le_succ _) _⟩
    · have c2 : 16384 ≤ n := by omega
      go_enter Tryz.func47, Tryz.ntmps47
      go_wp2_with (first | (refine wpList_load_row rfl 43 _ rfl w.heap.size rfl 43 a (0, 0) _ (heap0 w _ _) Tryz.underlying43 rfl hs1 ?_) | (refine wpList_store_row rfl 43 _ _ rfl (w.heap.size + 1) a rfl rfl 43 Tryz.zeroCells43 (heap1 w _ _) hs1 hZ h1 ?_))
      refine bodyPost_ret (v := .agg a) (results_cell_row rfl _ _ (w.heap.size + 1) 43 a (0, 0) _ rfl (setRow_heap _ _ _ a _ _ (heap1 w _ _)) Tryz.underlying43 rfl hs1) rfl ⟨a, rfl, ha, below_setRow (by repeat (first | exact Below.refl _ _ | apply below_alloc)) (Nat.le_succ _) _⟩
end Go.Proofs.YtgdcnenlelckhaaGreatDoor

namespace Go.Proofs.YtgdcnenlelckhaaGreatDoor
open Go.RowKit Go.Proofs.YtgdcnenlelckhaaGreatDoorW.PrintWords
def hasN (f : Nat → Nat) (n : Nat) : Bool := (f (n / 64)).testBit (n % 64)
def upto (f : Nat → Nat) (n : Nat) : List Nat := (List.range n).filter (hasN f)
theorem upto_succ (f : Nat → Nat) (n : Nat) : upto f (n + 1) = upto f n ++ if hasN f n then [n] else [] := by
  unfold upto
  rw [List.range_succ, List.filter_append]
  congr 1
  cases h : hasN f n <;> simp [h]
theorem upto_le (f : Nat → Nat) (n : Nat) : (upto f n).length ≤ n := by
  have := List.length_filter_le (hasN f) (List.range n)
  simpa [upto] using this
theorem upto_zero (f : Nat → Nat) (i : Nat) (h : f i = 0) : ∀ j, j ≤ 64 → upto f (64 * i + j) = upto f (64 * i)
  | 0, _ => rfl
  | j + 1, hj => by
    rw [← Nat.add_assoc, upto_succ, upto_zero f i h j (by omega)]
    have : hasN f (64 * i + j) = false := by
      unfold hasN
      rw [show (64 * i + j) / 64 = i by omega, h]
      simp
    rw [this]; simp
theorem bit_val (x j : Nat) : ((x / 2 ^ j % 2 : Nat) : Int) = if x.testBit j then 1 else 0 := by
  rw [Nat.testBit_eq_decide_div_mod_eq]
  have := Nat.mod_two_eq_zero_or_one (x / 2 ^ j)
  rcases this with h | h <;> rw [h] <;> simp
theorem idx30 {a : Array Value} {f : Nat → Nat} (ha : Words a f) (k : Nat) (hk : k < 256) (W : World) : (Instr.index 43 (.agg a) (.int .i64 (k : Int))).run Tryz.prog W = .ok (.int .u64 (f k : Int)) W := by
  have hg := ha.get k hk
  have h1 : (k : Int) < 256 := by omega
  simp [Instr.index, run_underlying Tryz.underlying43, asIntOf, go_sem, h1, hg]
  intro h; omega
end Go.Proofs.YtgdcnenlelckhaaGreatDoor

namespace Go.Proofs.YtgdcnenlelckhaaGreatDoor
open Go.RowKit Go.Proofs.YtgdcnenlelckhaaGreatDoorW.PrintWords
def intsN (l : List Nat) : List Value := l.map fun (n : Nat) => Value.int .i64 (n : Int)
theorem upto_high (f : Nat → Nat) (k j : Nat) (hx : f k < 18446744073709551616) (h : f k / 2 ^ j = 0) : ∀ m, j + m ≤ 64 → upto f (64 * k + j + m) = upto f (64 * k + j)
  | 0, _ => rfl
  | m + 1, hm => by
    rw [← Nat.add_assoc, upto_succ, upto_high f k j hx h m (by omega)]
    have hb : hasN f (64 * k + j + m) = false := by
      unfold hasN
      rw [show (64 * k + j + m) / 64 = k by omega, show (64 * k + j + m) % 64 = j + m by omega]
      apply Nat.testBit_lt_two_pow
      have h1 : f k < 2 ^ j := by
        rcases Nat.div_eq_zero_iff.1 h with h | h
        · exact absurd h (Nat.ne_of_gt (Nat.two_pow_pos j))
        · exact h
      exact Nat.lt_of_lt_of_le h1 (Nat.pow_le_pow_right (by decide) (by omega))
    rw [hb]; simp
theorem div_pow_succ (x j : Nat) : x / 2 ^ (j + 1) = x / 2 ^ j / 2 := by rw [Nat.pow_succ, Nat.div_div_eq_div_mul]
theorem news1 (w : World) (v : Value) (T : TypeId) : ∀ (j : Nat) (u : Value), [v][j]? = some u → (w.alloc (.cells #[v] T)).cell? ((⟨w.heap.size, 0, none⟩ : Addr).add j) = some u := by
  intro j u h
  cases j with
  | zero =>
    simp only [List.getElem?_cons_zero, Option.some.injEq] at h
    subst h
    simp [Addr.add, go_sem]
  | succ j => simp at h
theorem one_int (k : IntKind) (v : Int) : ∀ u ∈ [Value.int k v], u.oneCell' = true := fun u h => by
  rw [List.mem_singleton.1 h]; rfl
theorem alloc_ge {n : Nat} {w : World} (h : n ≤ w.heap.size) (o : Obj) : n ≤ (w.alloc o).heap.size := by
  simp; omega
theorem below_new' (W : World) (o : Obj) : Below W.heap.size W (W.alloc o) := below_alloc (Below.refl _ _) _
theorem info_int : (Tryz.prog.info? 3).map (fun i => (i.zero, i.size, i.bytes)) = some (some (.int .i64 0), 1, 8) := by kernel_rfl
set_option maxHeartbeats 1000000 in
set_option maxRecDepth 100000 in
theorem refAll_calls (a : Array Value) (f : Nat → Nat) (ha : Words a f) (w : World) : Calls Tryz.prog 34 #[.agg a] w fun e w' =>
    ∃ v, e = .returned v ∧ w'.ownsRow w.heap.size 3 1 v (upto f 16384).length (intsN (upto f 16384)) ∧ Below w.heap.size w w' := by
  have hsz := ha.size
  go_enter Tryz.func34, Tryz.ntmps34
  go_wp2_with fail
  go_loopw [3, 4] (fun out i wr => ∃ k : Nat, k ≤ 256 ∧ i = .int .i64 k ∧ wr.ownsRow (w.heap.size + 1) 3 1 out (upto f (64 * k)).length (intsN (upto f (64 * k))) ∧ Below w.heap.size w wr ∧ wr.heap[w.heap.size]? = some (.cells a 43 (0, 0)) ∧ w.heap.size < wr.heap.size) (fun _ i _ => 256 - (intOf i).toNat)
  case atStart => exact ⟨0, by omega, rfl, own_nil _ _ _ _, below_new' w _, heapN w _, by simp⟩
  case round =>
    obtain ⟨k, hk, rfl, hown, hb, hh, hlt⟩ := hrel
    by_cases hk6 : k < 256
    · have hg : wr.cell? ⟨w.heap.size, k, none⟩ = some (.int .u64 (f k : Int)) := by
        rw [cell_of_row wr _ k a 43 (0, 0) hh]; exact ha.get k hk6
      have hx := ha.lt k
      have hki : (k : Int) < 256 := by omega
      have hkd : decide ((k : Int) < 256) = true := decide_eq_true hki
      go_wp2_with fail
      go_loopw [3, 5, 6] (fun out x kk wq => ∃ j : Nat, j ≤ 64 ∧ kk = .int .i64 j ∧ x = .int .u64 ((f k / 2 ^ j : Nat) : Int) ∧ wq.ownsRow (w.heap.size + 1) 3 1 out (upto f (64 * k + j)).length (intsN (upto f (64 * k + j))) ∧ Below w.heap.size w wq ∧ wq.heap[w.heap.size]? = some (.cells a 43 (0, 0)) ∧ w.heap.size < wq.heap.size) (fun _ _ kk _ => 64 - (intOf kk).toNat)
      case atStart => exact ⟨0, by omega, rfl, by simp, hown, hb, hh, hlt⟩
      case round =>
        obtain ⟨j, hj, rfl, rfl, hown2, hb2, hh2, hlt2⟩ := hrel
        by_cases hx0 : f k / 2 ^ j = 0
        · have hup := upto_high f k j hx hx0 (64 - j) (by omega)
          rw [show 64 * k + j + (64 - j) = 64 * (k + 1) by omega] at hup
          rw [← hup] at hown2
          have hle : ¬ (0 : Int) < ((f k / 2 ^ j : Nat) : Int) := by omega
          generalize f k / 2 ^ j = X at *
          go_wp2
          case roundEnd => exact ⟨⟨k + 1, by omega, by go_num, hown2, hb2, hh2, hlt2⟩, by simp [intOf]; omega⟩
        · have hj6 : j < 64 := by
            rcases Nat.lt_or_ge j 64 with h | h
            · exact h
            · exact absurd (Nat.div_eq_of_lt (Nat.lt_of_lt_of_le (by simpa using hx) (Nat.pow_le_pow_right (by decide) h : 2 ^ 64 ≤ 2 ^ j))) hx0
          have hst := upto_succ f (64 * k + j)
          have hN : hasN f (64 * k + j) = decide (f k / 2 ^ j % 2 = 1) := by
            unfold hasN
            rw [show (64 * k + j) / 64 = k by omega, show (64 * k + j) % 64 = j by omega, Nat.testBit_eq_decide_div_mod_eq]
          have hd := Lib.hid (div_pow_succ (f k) j)
          have hle := upto_le f (64 * k + j)
          have hXlt : f k / 2 ^ j < 18446744073709551616 := Nat.lt_of_le_of_lt (Nat.div_le_self _ _) hx
          generalize f k / 2 ^ j = X at *
          have hpos : (0 : Int) < (X : Int) := by omega
          by_cases hb1 : X % 2 = 1
          · rw [decide_eq_true hb1] at hN
            have hst2 : upto f (64 * k + j + 1) = upto f (64 * k + j) ++ [64 * k + j] := by rw [hst, hN]; rfl
            have hm : (X : Int) % 2 = 1 := by omega
            have hne : ((X : Int) % 2 == 1) = true := by rw [hm]; rfl
            have hc3 : (upto f (64 * k + j)).length + 1 ≤ maxLen := by unfold maxLen; omega
            have hc4 : ((upto f (64 * k + j)).length + 1) * 8 ≤ 140737488355328 := by omega
            have hc5 : w.heap.size + 1 ≤ (wr.alloc (.cells #[.int .i64 (64 * (k : Int) + (j : Int))] 3)).heap.size := by simp; omega
            obtain ⟨i0, hi0, hz0, hz1, hz2⟩ := info_parts info_int
            clear hst hN
            go_wp2_with (at_builtin; refine wpList_append_own _ rfl _ _ 22 rfl (w.heap.size + 1) 3 i0 (.int .i64 0) 1 8 Tryz.underlying22 hi0 hz0 hz1 hz2 rfl (by decide) _ _ _ rfl (hown2.alloc _) ⟨wr.heap.size, 0, none⟩ 1 1 [.int .i64 (64 * (k : Int) + (j : Int))] rfl rfl (news1 _ _ _) (one_int _ _) hc3 hc4 hc5 ?_; intro v' w2 hown3 hgrow _)
            have hbA := (hb2.trans ((below_new' wr (.cells #[.int .i64 (64 * (k : Int) + (j : Int))] 3)).mono hb2.size))
            have hb3 := hbA.grown hgrow (by simp; omega) (fun x hx => Nat.le_of_succ_le (own_base hown2 x hx))
            have hh3 : w2.heap[w.heap.size]? = some (.cells a 43 (0, 0)) :=
              (hgrow.block w.heap.size (by simp; omega) (fun e => by have := own_base hown2 w.heap.size e.symm; omega)).trans (((below_new' wr _).block w.heap.size hlt2).trans hh2)
            have hlt3 : w.heap.size < w2.heap.size := by
              rcases Nat.lt_or_ge w.heap.size w2.heap.size with h | h
              · exact h
              · rw [Array.getElem?_eq_none h] at hh3; cases hh3
            have hrel3 : w2.ownsRow (w.heap.size + 1) 3 1 v' (upto f (64 * k + (j + 1))).length (intsN (upto f (64 * k + (j + 1)))) := by
              rw [show 64 * k + (j + 1) = 64 * k + j + 1 by omega, hst2]
              simpa [intsN] using hown3
            refine ⟨⟨j + 1, by omega, by go_num, by rw [hd.out]; go_num, hrel3, hb3, hh3, hlt3⟩, by simp [intOf]; omega⟩
          · rw [decide_eq_false hb1] at hN
            have hst2 : upto f (64 * k + j + 1) = upto f (64 * k + j) := by rw [hst, hN]; simp
            have hm : (X : Int) % 2 = 0 := by omega
            have hne : ((X : Int) % 2 == 1) = false := by rw [hm]; rfl
            clear hst hN
            go_wp2
            case roundEnd =>
              refine ⟨⟨j + 1, by omega, by go_num, ?_, ?_, hb2, hh2, hlt2⟩, by simp [intOf]; omega⟩
              · rw [hd.out]; first | rfl | (congr 1; omega) | go_num
              · rw [show 64 * k + (j + 1) = 64 * k + j + 1 by omega, hst2]; exact hown2
    · obtain rfl : k = 256 := by omega
      go_wp2
      exact bodyPost_ret (by simp [results, Tryz.results34, go_sem]) rfl ⟨_, rfl, own_weaken hown (Nat.le_succ _), hb⟩
end Go.Proofs.YtgdcnenlelckhaaGreatDoor

namespace Go.Proofs.YtgdcnenlelckhaaGreatDoor
/-- one number more: the last run grows, or a new one begins (the last run stands first) -/
def addR : List (Nat × Nat) → Nat → List (Nat × Nat)
  | (a, b) :: r, n => if b + 1 = n then (a, n) :: r else (n, n) :: (a, b) :: r
  | [], n => [(n, n)]
def rangesV (l : List Nat) : List (Nat × Nat) := (l.foldl addR []).reverse
theorem rangesV_nil : rangesV [] = [] := rfl
theorem foldl_snoc (l : List Nat) (n : Nat) : (l ++ [n]).foldl addR [] = addR (l.foldl addR []) n := by rw [List.foldl_append]; rfl
def flatR (l : List (Nat × Nat)) : List Value := l.flatMap fun p => [.int .i64 (p.1 : Int), .int .i64 (p.2 : Int)]
theorem flatR_len (l : List (Nat × Nat)) : (flatR l).length = l.length * 2 := by
  induction l with
  | nil => rfl
  | cons p r ih => simp [flatR] at ih ⊢; omega
theorem flatR_append (l r : List (Nat × Nat)) : flatR (l ++ r) = flatR l ++ flatR r := by simp [flatR]
/-- what a number more does to the runs -/
theorem rangesV_snoc (l : List Nat) (n : Nat) :
    (rangesV l = [] ∧ rangesV (l ++ [n]) = [(n, n)]) ∨
    ∃ q a b, rangesV l = q ++ [(a, b)] ∧ rangesV (l ++ [n]) = if b + 1 = n then q ++ [(a, n)] else q ++ [(a, b)] ++ [(n, n)] := by
  unfold rangesV
  rw [foldl_snoc]
  cases h : l.foldl addR [] with
  | nil => exact Or.inl ⟨rfl, rfl⟩
  | cons p r =>
    obtain ⟨a, b⟩ := p
    refine Or.inr ⟨r.reverse, a, b, by simp, ?_⟩
    show (if b + 1 = n then (a, n) :: r else (n, n) :: (a, b) :: r).reverse = _
    by_cases hb : b + 1 = n
    · rw [if_pos hb, if_pos hb]; simp
    · rw [if_neg hb, if_neg hb]; simp
theorem flatR_set (q : List (Nat × Nat)) (a b n : Nat) : (flatR (q ++ [(a, b)])).set (q.length * 2 + 1) (.int .i64 (n : Int)) = flatR (q ++ [(a, n)]) := by
  rw [flatR_append, flatR_append, List.set_append_right _ _ (by rw [flatR_len]; omega), flatR_len]
  have : q.length * 2 + 1 - q.length * 2 = 1 := by omega
  rw [this]; rfl
theorem flatR_last (q : List (Nat × Nat)) (a b : Nat) : (flatR (q ++ [(a, b)]))[q.length * 2 + 1]? = some (.int .i64 (b : Int)) := by
  rw [flatR_append, List.getElem?_append_right (by rw [flatR_len]; omega), flatR_len]
  have : q.length * 2 + 1 - q.length * 2 = 1 := by omega
  rw [this]; rfl
theorem rangesV_le (l : List Nat) : (rangesV l).length ≤ l.length := by
  have key : ∀ (l : List Nat) (acc : List (Nat × Nat)), (l.foldl addR acc).length ≤ acc.length + l.length := by
    intro l
    induction l with
    | nil => intro acc; exact Nat.le_refl _
    | cons n l ih =>
      intro acc
      have := ih (addR acc n)
      have h2 : (addR acc n).length ≤ acc.length + 1 := by
        unfold addR
        split
        · split <;> simp
        · simp
      simp only [List.foldl_cons, List.length_cons]
      omega
  have := key l []
  unfold rangesV
  simpa using this
end Go.Proofs.YtgdcnenlelckhaaGreatDoor

namespace Go.Proofs.YtgdcnenlelckhaaGreatDoor
open Go.RowKit Go.Proofs.YtgdcnenlelckhaaGreatDoorW.PrintWords
theorem info_rng : (Tryz.prog.info? 117).map (fun i => (i.zero, i.size, i.bytes)) = some (some (.agg #[.int .i64 0, .int .i64 0]), 2, 16) := by kernel_rfl
def RgPost (w : World) (l : List (Nat × Nat)) (e : Ending) (w' : World) : Prop :=
  ∃ v, e = .returned v ∧ w'.ownsRow w.heap.size 117 2 v l.length (flatR l) ∧ Below w.heap.size w w'
theorem news2 (w : World) (a b : Value) (T : TypeId) : ∀ (j : Nat) (u : Value), [a, b][j]? = some u → (w.alloc (.cells #[a, b] T)).cell? ((⟨w.heap.size, 0, none⟩ : Addr).add j) = some u := by
  intro j u h
  match j with
  | 0 => simp only [List.getElem?_cons_zero, Option.some.injEq] at h; subst h; simp [Addr.add, go_sem]
  | 1 => simp only [List.getElem?_cons_succ, List.getElem?_cons_zero, Option.some.injEq] at h; subst h; simp [Addr.add, go_sem]
  | j + 2 => simp at h
theorem two_int (k : IntKind) (v z : Int) : ∀ u ∈ [Value.int k v, Value.int k z], u.oneCell' = true := fun u h => by
  rcases List.mem_cons.1 h with rfl | h
  · rfl
  · rw [List.mem_singleton.1 h]; rfl
theorem info_rng' : ∃ i0, Tryz.prog.info? 117 = some i0 ∧ i0.zero = some (.agg #[.int .i64 0, .int .i64 0]) ∧ i0.size = 2 ∧ i0.bytes = 16 := info_parts info_rng
/-- what an append to a row of the call's own leaves of the rest -/
theorem grown_keep {w w2 w3 : World} {e : TypeId} {size n : Nat} {v : Value} {xs : List Value} {o ob : Obj} (hbw2 : Below w.heap.size w w2) (hh2 : w2.heap[w.heap.size]? = some ob) (hlt2 : w.heap.size < w2.heap.size)
    (hown2 : w2.ownsRow (w.heap.size + 1) e size v n xs) (hgrow : (w2.alloc o).grownBy w3 v.ownBlock) : Below w.heap.size w w3 ∧ w3.heap[w.heap.size]? = some ob ∧ w.heap.size < w3.heap.size := by
  have hbA := hbw2.trans ((below_new' w2 o).mono hbw2.size)
  have hb3 := hbA.grown hgrow (by simp; omega) (fun x hx => Nat.le_of_succ_le (own_base hown2 x hx))
  have hh3 : w3.heap[w.heap.size]? = some ob :=
    (hgrow.block w.heap.size (by simp; omega) (fun e => by have := own_base hown2 w.heap.size e.symm; omega)).trans (((below_new' w2 _).block w.heap.size hlt2).trans hh2)
  refine ⟨hb3, hh3, ?_⟩
  rcases Nat.lt_or_ge w.heap.size w3.heap.size with h | h
  · exact h
  · rw [Array.getElem?_eq_none h] at hh3; cases hh3
theorem grown_keep' {w w2 w3 : World} {g : Nat} {ob : Obj} (hbw2 : Below w.heap.size w w2) (hh2 : w2.heap[w.heap.size]? = some ob) (hlt2 : w.heap.size < w2.heap.size)
    (hg : w.heap.size + 1 ≤ g) (hgrow : w2.grownBy w3 (some g)) : Below w.heap.size w w3 ∧ w3.heap[w.heap.size]? = some ob ∧ w.heap.size < w3.heap.size := by
  have hb3 := hbw2.grown hgrow (by omega) (fun x hx => by cases hx; omega)
  have hh3 : w3.heap[w.heap.size]? = some ob := (hgrow.block w.heap.size hlt2 (fun e => by cases e; omega)).trans hh2
  refine ⟨hb3, hh3, ?_⟩
  rcases Nat.lt_or_ge w.heap.size w3.heap.size with h | h
  · exact h
  · rw [Array.getElem?_eq_none h] at hh3; cases hh3
theorem blk_lt {w : World} {g : Nat} {o : Obj} (h : w.heap[g]? = some o) : g < w.heap.size := by
  rcases Nat.lt_or_ge g w.heap.size with h' | h'
  · exact h'
  · rw [Array.getElem?_eq_none h'] at h; cases h
set_option maxHeartbeats 2000000 in
set_option maxRecDepth 100000 in
theorem Ranges_calls (a : Array Value) (f : Nat → Nat) (ha : Words a f) (w : World) : Calls Tryz.prog 84 #[.agg a] w (RgPost w (rangesV (upto f 16384))) := by
  have hsz := ha.size
  have hH := fun n W => Has_calls a f ha n W
  have hs1 : (Tryz.prog.info? 43).map (·.size) = some a.size := by rw [ha.size]; exact info30
  go_enter Tryz.func84, Tryz.ntmps84
  go_wp2_with fail
  go_loopw [3, 4] (fun out i wr => ∃ m : Nat, m ≤ 16384 ∧ i = .int .i64 m ∧ wr.ownsRow (w.heap.size + 1) 117 2 out (rangesV (upto f m)).length (flatR (rangesV (upto f m))) ∧ Below w.heap.size w wr ∧ wr.heap[w.heap.size]? = some (.cells a 43 (0, 0)) ∧ w.heap.size < wr.heap.size) (fun _ i _ => 16384 - (intOf i).toNat)
  case atStart => exact ⟨0, by omega, rfl, own_nil _ _ _ _, below_new' w _, heapN w _, by simp⟩
  case round =>
    obtain ⟨m, hm, rfl, hown, hb, hh, hlt⟩ := hrel
    by_cases hm6 : m < 16384
    · have hg : wr.cell? ⟨w.heap.size, m / 64, none⟩ = some (.int .u64 (f (m / 64) : Int)) := by
        rw [cell_of_row wr _ (m / 64) a 43 (0, 0) hh]; exact ha.get (m / 64) (by omega)
      have hx := ha.lt (m / 64)
      have hmi : (m : Int) < 16384 := by omega
      have hmd : decide ((m : Int) < 16384) = true := decide_eq_true hmi
      have wm : (m : Int).tmod 64 = (m : Int) % 64 := Int.tmod_eq_emod_of_nonneg (by omega)
      by_cases hz : m % 64 = 0 ∧ f (m / 64) = 0
      · have h64 := upto_zero f (m / 64) hz.2 64 (by omega)
        rw [show 64 * (m / 64) = m by omega] at h64
        have e1 : ((m : Int) % 64 == 0) = true := by rw [show (m : Int) % 64 = 0 by omega]; rfl
        have e2 : ((f (m / 64) : Int) == 0) = true := by rw [hz.2]; rfl
        go_wp2_with fail
        case roundEnd => exact ⟨⟨m + 64, by omega, by go_num, by rw [h64]; exact hown, hb, hh, hlt⟩, by simp [intOf]; omega⟩
      · have hHm := hH m
        rw [hasW_bit f m hm6] at hHm
        change ∀ W, Calls Tryz.prog 96 #[Value.agg a, Value.int IntKind.i64 m] W fun e w' => e = Ending.returned (Value.bool (hasN f m)) ∧ Below W.heap.size W w' at hHm
        have hst := upto_succ f m
        have hle := upto_le f m
        have hle2 := rangesV_le (upto f m)
        have hrel0 : hasN f m = false → upto f (m + 1) = upto f m := fun h => by rw [hst, h]; simp
        have hrel1 : hasN f m = true → upto f (m + 1) = upto f m ++ [m] := fun h => by rw [hst, h]; rfl
        clear hst
        have hcnd : ((m : Int) % 64 == 0) = false ∨ (((m : Int) % 64 == 0) = true ∧ ((f (m / 64) : Int) == 0) = false) := by
          by_cases h1 : m % 64 = 0
          · exact Or.inr ⟨by rw [show (m : Int) % 64 = 0 by omega]; rfl, beq_eq_false_iff_ne.2 (fun e => hz ⟨h1, by omega⟩)⟩
          · exact Or.inl (beq_eq_false_iff_ne.2 (fun e => h1 (by omega)))
        clear hz hH
        obtain ⟨i0, hi0, hz0, hz1, hz2⟩ := info_rng'
        rcases hcnd with hc1 | ⟨hc1, hc2⟩
        all_goals
          go_wp2_with (refine wpList_load_row rfl 43 _ rfl w.heap.size rfl 43 a (0, 0) _ hh Tryz.underlying43 rfl hs1 ?_)
          refine (hHm _).mono ?_
          rintro e w2 ⟨rfl, hb2⟩
          have hbw2 := hb.trans (hb2.mono hb.size)
          have hown2 := pw_own_below hown hb2
          have hh2 : w2.heap[w.heap.size]? = some (.cells a 43 (0, 0)) := (hb2.block _ hlt).trans hh
          have hlt2 : w.heap.size < w2.heap.size := Nat.lt_of_lt_of_le hlt hb2.size
          clear hb2 hh hHm hg hlt hb hown
          cases hB : hasN f m with
          | false =>
            have e3 := Lib.hid (hrel0 hB)
            clear hrel0 hrel1 hB
            go_wp2_with fail
            case roundEnd => exact ⟨⟨m + 1, by omega, by go_num, by rw [e3.out]; exact hown2, hbw2, hh2, hlt2⟩, by simp [intOf]; omega⟩
          | true =>
            have e3 := Lib.hid (hrel1 hB)
            clear hrel0 hrel1 hB
            rcases rangesV_snoc (upto f m) m with ⟨q0, q1⟩ | ⟨q, x, y, q0, q1⟩
            · rw [q0] at hown2
              rw [← e3.out] at q1
              have q2 := Lib.hid q1
              clear q0 e3 hle2 q1 hle
              obtain ⟨A, c, rfl⟩ := own_slice hown2
              change w2.ownsRow (w.heap.size + 1) 117 2 (.slice A 0 c) 0 [] at hown2
              have hc3 : 0 + 1 ≤ maxLen := by unfold maxLen; omega
              have hc5 : w.heap.size + 1 ≤ (w2.alloc (.cells #[.int .i64 (m : Int), .int .i64 (m : Int)] 117)).heap.size := by simp; omega
              go_wp2_with (at_builtin; refine wpList_append_own _ rfl _ _ 88 rfl (w.heap.size + 1) 117 i0 (.agg #[.int .i64 0, .int .i64 0]) 2 16 Tryz.underlying88 hi0 hz0 hz1 hz2 rfl (by decide) _ _ _ rfl (hown2.alloc _) ⟨w2.heap.size, 0, none⟩ 1 1 [.int .i64 (m : Int), .int .i64 (m : Int)] rfl rfl (news2 _ _ _ _) (two_int _ _ _) hc3 (by decide) hc5 ?_; intro v' w3 hown3 hgrow _)
              obtain ⟨k1, k2, k3⟩ := grown_keep hbw2 hh2 hlt2 hown2 hgrow
              exact ⟨⟨m + 1, by omega, by go_num, by rw [q2.out]; exact hown3, k1, k2, k3⟩, by simp [intOf]; omega⟩
            · have hql : q.length + 1 ≤ m := by rw [q0] at hle2; simp at hle2; omega
              rw [q0] at hown2
              rw [← e3.out] at q1
              have hown4 : w2.ownsRow (w.heap.size + 1) 117 2 u3 (q.length + 1) (flatR (q ++ [(x, y)])) := by simpa using hown2
              clear q0 e3 hle2 hle hown2
              obtain ⟨A, c, rfl⟩ := own_slice hown4
              obtain ⟨g, cap, hgA, -, -⟩ := hown4.form (by omega)
              obtain rfl : A = some ⟨g, 0, none⟩ := by injection hgA
              have hcell : w2.cell? ⟨g, q.length * 2 + 1, none⟩ = some (.int .i64 (y : Int)) := by
                rw [hown4.cellAt _ (by omega)]; exact flatR_last q x y
              have hfro := hown4.frozenAt (q.length * 2 + 1)
              have i1 : ((q.length + 1 : Nat) : Int) - 1 = (q.length : Int) := by omega
              clear hgA
              by_cases hy : y + 1 = m
              · rw [if_pos hy] at q1
                have q2 := Lib.hid q1
                have hyd : ((y : Int) == (m : Int) - 1) = true := by rw [beq_iff_eq]; omega
                obtain ⟨s1, s2⟩ := hown4.stored (q.length * 2 + 1) (.int .i64 (m : Int))
                clear q1
                go_wp2_with fail
                obtain ⟨k1, k2, k3⟩ := grown_keep' hbw2 hh2 hlt2 (own_base hown4 g rfl) s2
                exact ⟨⟨m + 1, by omega, by go_num, by rw [q2.out, ← flatR_set q x y m]; simpa using s1, k1, k2, k3⟩, by simp [intOf]; omega⟩
              · rw [if_neg hy] at q1
                have q2 := Lib.hid q1
                have hyd : ((y : Int) == (m : Int) - 1) = false := beq_eq_false_iff_ne.2 (by omega)
                have hc3 : (q.length + 1) + 1 ≤ maxLen := by unfold maxLen; omega
                have hc5 : w.heap.size + 1 ≤ (w2.alloc (.cells #[.int .i64 (m : Int), .int .i64 (m : Int)] 117)).heap.size := by simp; omega
                clear q1
                go_wp2_with (at_builtin; refine wpList_append_own _ rfl _ _ 88 rfl (w.heap.size + 1) 117 i0 (.agg #[.int .i64 0, .int .i64 0]) 2 16 Tryz.underlying88 hi0 hz0 hz1 hz2 rfl (by decide) _ _ _ rfl (hown4.alloc _) ⟨w2.heap.size, 0, none⟩ 1 1 [.int .i64 (m : Int), .int .i64 (m : Int)] rfl rfl (news2 _ _ _ _) (two_int _ _ _) hc3 (by omega) hc5 ?_; intro v' w3 hown3 hgrow _)
                obtain ⟨k1, k2, k3⟩ := grown_keep hbw2 hh2 hlt2 hown4 hgrow
                exact ⟨⟨m + 1, by omega, by go_num, by rw [q2.out, flatR_append, List.length_append, List.length_append]; exact hown3, k1, k2, k3⟩, by simp [intOf]; omega⟩
    · obtain rfl : m = 16384 := by omega
      go_wp2
      exact bodyPost_ret (by simp [results, Tryz.results84, go_sem]) rfl ⟨_, rfl, own_weaken hown (Nat.le_succ _), hb⟩
end Go.Proofs.YtgdcnenlelckhaaGreatDoor

namespace Go.Proofs.YtgdcnenlelckhaaGreatDoor
/-- what a node knows: whose a slot is, each node's epoch -/
structure VS where
  self : Nat
  own : Nat → Int
  ep : Nat → Nat
  cur : Nat
/-- the same by the document: each node's slots, each node's epoch -/
structure XS where
  self : Nat
  ep : Nat → Nat
  cl : Nat → Nat → Nat
  cur : Nat
structure Agree (v : VS) (x : XS) : Prop where
  self : v.self = x.self
  cur : v.cur = x.cur
  ep : ∀ n, n < 64 → v.ep n = x.ep n
  own : ∀ n s, n < 64 → s < 16384 → hasN (x.cl n) s = decide (v.own s = (n : Int))
  node : ∀ s, s < 16384 → -1 ≤ v.own s ∧ v.own s < 64
  word : ∀ n i, n < 64 → i < 256 → x.cl n i < 18446744073709551616
def upd {α : Type} (f : Nat → α) (n : Nat) (a : α) : Nat → α := fun k => if k = n then a else f k
/-- x without y's bits -/
def lessN (x y : Nat) : Nat := x &&& (18446744073709551615 - y)
def orN (m : Nat) (g : Nat → Nat) : Nat := (List.range m).foldl (fun a o => a ||| g o) 0
theorem orN_succ (m : Nat) (g : Nat → Nat) : orN (m + 1) g = orN m g ||| g m := by
  unfold orN
  rw [List.range_succ, List.foldl_append]
  rfl
theorem orN_bit (g : Nat → Nat) (j : Nat) : ∀ m, (orN m g).testBit j = true ↔ ∃ o, o < m ∧ (g o).testBit j = true
  | 0 => by
    have : orN 0 g = 0 := rfl
    rw [this]
    simp
  | m + 1 => by
    rw [orN_succ, Nat.testBit_or, Bool.or_eq_true, orN_bit g j m]
    constructor
    · rintro (⟨o, h1, h2⟩ | h)
      · exact ⟨o, by omega, h2⟩
      · exact ⟨m, by omega, h⟩
    · rintro ⟨o, h1, h2⟩
      by_cases h : o = m
      · subst h; exact Or.inr h2
      · exact Or.inl ⟨o, by omega, h2⟩
theorem orN_lt (g : Nat → Nat) (h : ∀ o, g o < 18446744073709551616) : ∀ m, orN m g < 18446744073709551616
  | 0 => Nat.zero_lt_succ _
  | m + 1 => by
    rw [orN_succ]
    exact Nat.or_lt_two_pow (n := 64) (orN_lt g h m) (h m)
theorem less_bit (x y j : Nat) (hj : j < 64) (hy : y < 18446744073709551616) : (lessN x y).testBit j = (x.testBit j && !y.testBit j) := by
  unfold lessN
  rw [Nat.testBit_and]
  have h : (18446744073709551615 - y).testBit j = !y.testBit j := by
    have e : (18446744073709551615 : Nat) - y = 2 ^ 64 - (y + 1) := by omega
    rw [e, Nat.testBit_two_pow_sub_succ (by omega)]
    simp [hj]
  rw [h]
theorem less_lt (x y : Nat) (hx : x < 18446744073709551616) : lessN x y < 18446744073709551616 := Nat.lt_of_le_of_lt Nat.and_le_left hx
/-- a node's claims are taken in -/
def claimV (v : VS) (n e : Nat) (p : Nat → Nat) : VS :=
  { v with ep := upd v.ep n e, own := fun s => if hasN p s = true then (if v.own s = -1 ∨ v.own s = (n : Int) ∨ upd v.ep n e (v.own s).toNat < e then (n : Int) else v.own s) else (if v.own s = (n : Int) then -1 else v.own s) }
def keptX (x : XS) (n e i : Nat) : Nat := orN 64 (fun o => if o ≠ n ∧ e ≤ x.ep o then x.cl o i else 0)
def claimX (x : XS) (n e : Nat) (p : Nat → Nat) : XS :=
  { x with ep := upd x.ep n e, cl := fun o i => if o = n then lessN (p i) (keptX x n e i) else lessN (x.cl o i) (lessN (p i) (keptX x n e i)) }
theorem kept_lt {v : VS} {x : XS} (h : Agree v x) (n e i : Nat) (hi : i < 256) : keptX x n e i < 18446744073709551616 := by
  unfold keptX
  have key : ∀ m, m ≤ 64 → orN m (fun o => if o ≠ n ∧ e ≤ x.ep o then x.cl o i else 0) < 18446744073709551616 := by
    intro m
    induction m with
    | zero => intro _; exact Nat.zero_lt_succ _
    | succ m ih =>
      intro hm
      rw [orN_succ]
      refine Nat.or_lt_two_pow (n := 64) (ih (by omega)) ?_
      split
      · exact h.word m i (by omega) hi
      · decide
  exact key 64 (Nat.le_refl _)
theorem kept_bit {v : VS} {x : XS} (h : Agree v x) (n e s : Nat) (hs : s < 16384) :
    (keptX x n e (s / 64)).testBit (s % 64) = true ↔ v.own s ≠ -1 ∧ v.own s ≠ (n : Int) ∧ e ≤ v.ep (v.own s).toNat := by
  unfold keptX
  rw [orN_bit]
  have hn := h.node s hs
  constructor
  · rintro ⟨o, ho, hb⟩
    split at hb
    · rename_i hc
      have h1 := h.own o s ho hs
      unfold hasN at h1
      rw [hb] at h1
      have h2 := of_decide_eq_true h1.symm
      rw [h2]
      refine ⟨by omega, fun h3 => hc.1 (by omega), ?_⟩
      rw [Int.toNat_natCast, h.ep o ho]
      exact hc.2
    · simp at hb
  · rintro ⟨h1, h2, h3⟩
    have ho : (v.own s).toNat < 64 := by omega
    refine ⟨(v.own s).toNat, ho, ?_⟩
    rw [if_pos ⟨by omega, by rw [← h.ep _ ho]; exact h3⟩]
    have h4 := h.own (v.own s).toNat s ho hs
    unfold hasN at h4
    rw [h4, decide_eq_true_eq]
    omega
theorem claim_agree {v : VS} {x : XS} (h : Agree v x) (n e : Nat) (hn : n < 64) (p : Nat → Nat) (hp : ∀ i, i < 256 → p i < 18446744073709551616) : Agree (claimV v n e p) (claimX x n e p) := by
  have hnode : ∀ s, s < 16384 → -1 ≤ (claimV v n e p).own s ∧ (claimV v n e p).own s < 64 := by
    intro s hs
    have := h.node s hs
    show -1 ≤ (if _ then _ else _) ∧ _
    simp only [claimV]
    split
    · split <;> omega
    · split <;> omega
  refine ⟨h.self, h.cur, ?_, ?_, hnode, ?_⟩
  · intro o ho
    show upd v.ep n e o = upd x.ep n e o
    unfold upd
    split
    · rfl
    · exact h.ep o ho
  · intro o s ho hs
    have hi : s / 64 < 256 := by omega
    have hj : s % 64 < 64 := Nat.mod_lt _ (by decide)
    have hkl := kept_lt h n e (s / 64) hi
    have hkb := kept_bit h n e s hs
    have hnd := h.node s hs
    have ho1 := h.own o s ho hs
    have hwon : (lessN (p (s / 64)) (keptX x n e (s / 64))).testBit (s % 64) = (hasN p s && !(keptX x n e (s / 64)).testBit (s % 64)) := less_bit _ _ _ hj hkl
    have hkept : (keptX x n e (s / 64)).testBit (s % 64) = decide (v.own s ≠ -1 ∧ v.own s ≠ (n : Int) ∧ e ≤ v.ep (v.own s).toNat) := by
      rw [Bool.eq_iff_iff, hkb, decide_eq_true_eq]
    have hup : v.own s ≠ -1 → v.own s ≠ (n : Int) → upd v.ep n e (v.own s).toNat = v.ep (v.own s).toNat := fun h1 h2 => by
      unfold upd
      rw [if_neg (by omega)]
    have hV : (claimV v n e p).own s = if hasN p s = true then (if v.own s = -1 ∨ v.own s = (n : Int) ∨ upd v.ep n e (v.own s).toNat < e then (n : Int) else v.own s) else (if v.own s = (n : Int) then -1 else v.own s) := rfl
    generalize (claimV v n e p).own s = V at *
    unfold hasN at ho1
    have hL : hasN ((claimX x n e p).cl o) s = if o = n then (lessN (p (s / 64)) (keptX x n e (s / 64))).testBit (s % 64) else (lessN (x.cl o (s / 64)) (lessN (p (s / 64)) (keptX x n e (s / 64)))).testBit (s % 64) := by
      unfold hasN
      simp only [claimX]
      split <;> rfl
    rw [hL]
    have hcases : (hasN p s = true ∧ (v.own s = -1 ∨ v.own s = (n : Int)) ∧ V = n) ∨ (hasN p s = true ∧ v.own s ≠ -1 ∧ v.own s ≠ (n : Int) ∧ v.ep (v.own s).toNat < e ∧ V = n) ∨ (hasN p s = true ∧ v.own s ≠ -1 ∧ v.own s ≠ (n : Int) ∧ e ≤ v.ep (v.own s).toNat ∧ V = v.own s) ∨ (hasN p s = false ∧ v.own s = (n : Int) ∧ V = -1) ∨ (hasN p s = false ∧ v.own s ≠ (n : Int) ∧ V = v.own s) := by
      by_cases hc : hasN p s = true
      · rw [if_pos hc] at hV
        by_cases h1 : v.own s = -1
        · rw [if_pos (Or.inl h1)] at hV; exact Or.inl ⟨hc, Or.inl h1, hV⟩
        · by_cases h2 : v.own s = (n : Int)
          · rw [if_pos (Or.inr (Or.inl h2))] at hV; exact Or.inl ⟨hc, Or.inr h2, hV⟩
          · rw [hup h1 h2] at hV
            by_cases h3 : v.ep (v.own s).toNat < e
            · rw [if_pos (Or.inr (Or.inr h3))] at hV; exact Or.inr (Or.inl ⟨hc, h1, h2, h3, hV⟩)
            · rw [if_neg (by rintro (h | h | h); exact h1 h; exact h2 h; exact h3 h)] at hV
              exact Or.inr (Or.inr (Or.inl ⟨hc, h1, h2, by omega, hV⟩))
      · rw [if_neg hc] at hV
        have hc' : hasN p s = false := by simpa using hc
        by_cases h2 : v.own s = (n : Int)
        · rw [if_pos h2] at hV; exact Or.inr (Or.inr (Or.inr (Or.inl ⟨hc', h2, hV⟩)))
        · rw [if_neg h2] at hV; exact Or.inr (Or.inr (Or.inr (Or.inr ⟨hc', h2, hV⟩)))
    clear hV hL hnode hkb
    by_cases hon : o = n
    · subst hon
      rw [if_pos rfl, hwon, hkept]
      rcases hcases with ⟨hc, h1, rfl⟩ | ⟨hc, h1, h2, h3, rfl⟩ | ⟨hc, h1, h2, h3, rfl⟩ | ⟨hc, h1, rfl⟩ | ⟨hc, h1, rfl⟩ <;> rw [hc]
      · rcases h1 with h1 | h1 <;> simp [h1]
      · have h4 : ¬ e ≤ v.ep (v.own s).toNat := by omega
        simp [h4]
      · simp [h1, h2, h3]
      · simp
      · simp [h1]
    · rw [if_neg hon, less_bit _ _ _ hj (less_lt _ _ (hp _ hi)), ho1, hwon, hkept]
      have hno : ¬ ((n : Int) = (o : Int)) := by omega
      rcases hcases with ⟨hc, h1, rfl⟩ | ⟨hc, h1, h2, h3, rfl⟩ | ⟨hc, h1, h2, h3, rfl⟩ | ⟨hc, h1, rfl⟩ | ⟨hc, h1, rfl⟩ <;> rw [hc]
      · rcases h1 with h1 | h1
        · simp [h1, hno]
        · simp [h1, hno]
      · have h4 : ¬ e ≤ v.ep (v.own s).toNat := by omega
        simp [h4, hno]
      · simp [h1, h2, h3]
      · simp [h1, hno]
      · simp
  · intro o i ho hi
    simp only [claimX]
    split
    · exact less_lt _ _ (hp i hi)
    · exact less_lt _ _ (h.word o i ho hi)
/-- whose a slot is, by the document -/
def ownerX (x : XS) (s : Nat) : Int := match (List.range 64).find? (fun n => hasN (x.cl n) s) with
  | some n => (n : Int)
  | none => -1
theorem owner_agree {v : VS} {x : XS} (h : Agree v x) (s : Nat) (hs : s < 16384) : ownerX x s = v.own s := by
  have hn := h.node s hs
  unfold ownerX
  cases hf : (List.range 64).find? (fun n => hasN (x.cl n) s) with
  | some n =>
    have h1 := List.find?_some hf
    have h2 := List.mem_of_find?_eq_some hf
    rw [List.mem_range] at h2
    have h3 := h.own n s h2 hs
    rw [h1] at h3
    exact (of_decide_eq_true h3.symm).symm
  | none =>
    rw [List.find?_eq_none] at hf
    show (-1 : Int) = v.own s
    by_cases h1 : v.own s = -1
    · exact h1.symm
    · have ho : (v.own s).toNat < 64 := by omega
      have h2 := hf (v.own s).toNat (List.mem_range.2 ho)
      rw [h.own _ s ho hs] at h2
      exact absurd (decide_eq_true (by omega)) h2
/-- a slot becomes a node's -/
def giveV (v : VS) (s n : Nat) : VS := { v with own := fun k => if k = s then (n : Int) else v.own k }
def giveX (x : XS) (s n : Nat) : XS := { x with cl := fun o i => if i = s / 64 then (if o = n then lessN (x.cl o i) (2 ^ (s % 64)) ||| 2 ^ (s % 64) else lessN (x.cl o i) (2 ^ (s % 64))) else x.cl o i }
theorem pow_lt (k : Nat) (hk : k < 64) : 2 ^ k < 18446744073709551616 := by
  have : (2 : Nat) ^ k < 2 ^ 64 := Nat.pow_lt_pow_right (by omega) hk
  exact this
theorem give_agree {v : VS} {x : XS} (h : Agree v x) (s n : Nat) (hs : s < 16384) (hn : n < 64) : Agree (giveV v s n) (giveX x s n) := by
  refine ⟨h.self, h.cur, h.ep, ?_, ?_, ?_⟩
  · intro o k ho hk
    have hj : k % 64 < 64 := Nat.mod_lt _ (by decide)
    have hj2 : s % 64 < 64 := Nat.mod_lt _ (by decide)
    have h1 := h.own o k ho hk
    have hV : (giveV v s n).own k = if k = s then (n : Int) else v.own k := rfl
    rw [hV]
    unfold hasN at h1 ⊢
    simp only [giveX]
    by_cases hw : k / 64 = s / 64
    · rw [if_pos hw]
      have hb : (2 ^ (s % 64)).testBit (k % 64) = decide (k = s) := by
        rw [Nat.testBit_two_pow, decide_eq_decide]
        omega
      by_cases hon : o = n
      · subst hon
        rw [if_pos rfl, Nat.testBit_or, less_bit _ _ _ hj (pow_lt _ hj2), hb, h1]
        by_cases hks : k = s
        · simp [hks]
        · simp [hks]
      · rw [if_neg hon, less_bit _ _ _ hj (pow_lt _ hj2), hb, h1]
        have hno : ¬ ((n : Int) = (o : Int)) := by omega
        by_cases hks : k = s
        · simp [hks, hno]
        · simp [hks]
    · rw [if_neg hw, if_neg (fun e => hw (by rw [e]))]
      exact h1
  · intro k hk
    have hV : (giveV v s n).own k = if k = s then (n : Int) else v.own k := rfl
    rw [hV]
    have := h.node k hk
    split <;> omega
  · intro o i ho hi
    simp only [giveX]
    have h1 := h.word o i ho hi
    split
    · split
      · exact Nat.or_lt_two_pow (n := 64) (less_lt _ _ h1) (pow_lt _ (Nat.mod_lt _ (by decide)))
      · exact less_lt _ _ h1
    · exact h1
/-- a new epoch -/
def raiseV (v : VS) : VS := { v with cur := v.cur + 1, ep := upd v.ep v.self (v.cur + 1) }
def raiseX (x : XS) : XS := { x with cur := x.cur + 1, ep := upd x.ep x.self (x.cur + 1) }
theorem raise_agree {v : VS} {x : XS} (h : Agree v x) : Agree (raiseV v) (raiseX x) := by
  refine ⟨h.self, by show v.cur + 1 = x.cur + 1; rw [h.cur], ?_, h.own, h.node, h.word⟩
  intro n hn
  show upd v.ep v.self (v.cur + 1) n = upd x.ep x.self (x.cur + 1) n
  unfold upd
  rw [h.self, h.cur]
  split
  · rfl
  · exact h.ep n hn
/-- what all know at first -/
def newV (self e : Nat) (p : Nat → Nat) : VS := ⟨self, fun s => if hasN p s = true then (self : Int) else -1, fun n => if n = self then e else 0, e⟩
def newX (self e : Nat) (p : Nat → Nat) : XS := ⟨self, fun n => if n = self then e else 0, fun n i => if n = self then p i else 0, e⟩
theorem new_agree (self e : Nat) (hs : self < 64) (p : Nat → Nat) (hp : ∀ i, i < 256 → p i < 18446744073709551616) : Agree (newV self e p) (newX self e p) := by
  refine ⟨rfl, rfl, fun _ _ => rfl, ?_, ?_, ?_⟩
  · intro n s hn hs2
    have hV : (newV self e p).own s = if hasN p s = true then (self : Int) else -1 := rfl
    rw [hV]
    have hL : hasN ((newX self e p).cl n) s = if n = self then hasN p s else false := by
      unfold hasN
      simp only [newX]
      split
      · rfl
      · simp
    rw [hL]
    by_cases h1 : n = self
    · subst h1
      rw [if_pos rfl]
      cases hasN p s <;> simp
    · rw [if_neg h1]
      have : ¬ ((self : Int) = (n : Int)) := by omega
      cases hasN p s <;> simp [this]
  · intro s hs2
    have hV : (newV self e p).own s = if hasN p s = true then (self : Int) else -1 := rfl
    rw [hV]
    split <;> omega
  · intro n i hn hi
    simp only [newX]
    split
    · exact hp i hi
    · exact Nat.zero_lt_succ _
/-- a node's slots, a word of sixty-four -/
def wordV (v : VS) (n i : Nat) : Nat := orN 64 (fun j => if v.own (i * 64 + j) = (n : Int) then 2 ^ j else 0)
theorem wordV_bit (v : VS) (n i j : Nat) (hj : j < 64) : (wordV v n i).testBit j = decide (v.own (i * 64 + j) = (n : Int)) := by
  rw [Bool.eq_iff_iff, decide_eq_true_eq]
  unfold wordV
  rw [orN_bit]
  constructor
  · rintro ⟨o, ho, hb⟩
    split at hb
    · rename_i h
      rw [Nat.testBit_two_pow] at hb
      have : o = j := of_decide_eq_true hb
      subst this
      exact h
    · simp at hb
  · intro h
    refine ⟨j, hj, ?_⟩
    rw [if_pos h, Nat.testBit_two_pow]
    simp
theorem wordV_lt (v : VS) (n i : Nat) : wordV v n i < 18446744073709551616 := by
  unfold wordV
  have key : ∀ m, m ≤ 64 → orN m (fun j => if v.own (i * 64 + j) = (n : Int) then 2 ^ j else 0) < 18446744073709551616 := by
    intro m
    induction m with
    | zero => intro _; exact Nat.zero_lt_succ _
    | succ m ih =>
      intro hm
      rw [orN_succ]
      refine Nat.or_lt_two_pow (n := 64) (ih (by omega)) ?_
      split
      · exact pow_lt m (by omega)
      · exact Nat.zero_lt_succ _
  exact key 64 (Nat.le_refl _)
theorem word_agree {v : VS} {x : XS} (h : Agree v x) (n i : Nat) (hn : n < 64) (hi : i < 256) : wordV v n i = x.cl n i := by
  refine Nat.eq_of_testBit_eq fun j => ?_
  rcases Nat.lt_or_ge j 64 with hj | hj
  · rw [wordV_bit v n i j hj]
    have h1 := h.own n (i * 64 + j) hn (by omega)
    unfold hasN at h1
    have e1 : (i * 64 + j) / 64 = i := by omega
    have e2 : (i * 64 + j) % 64 = j := by omega
    rw [e1, e2] at h1
    exact h1.symm
  · have h1 := Nat.testBit_lt_two_pow (i := j) (Nat.lt_of_lt_of_le (wordV_lt v n i) (show 18446744073709551616 ≤ 2 ^ j from (Nat.pow_le_pow_right (by omega) hj : 2 ^ 64 ≤ 2 ^ j)))
    have h2 := Nat.testBit_lt_two_pow (i := j) (Nat.lt_of_lt_of_le (h.word n i hn hi) (show 18446744073709551616 ≤ 2 ^ j from (Nat.pow_le_pow_right (by omega) hj : 2 ^ 64 ≤ 2 ^ j)))
    rw [h1, h2]
/-- the owner of the first slot that is claimed at a lesser epoch than its owner's -/
def beatV (v : VS) (fr : Int) (e : Nat) (p : Nat → Nat) : Int := match ((List.range 16384).filter (hasN p)).find? (fun s => decide (v.own s ≠ -1 ∧ v.own s ≠ fr ∧ e < v.ep (v.own s).toNat)) with
  | some s => v.own s
  | none => -1
def beatX (x : XS) (fr : Int) (e : Nat) (p : Nat → Nat) : Int := match ((List.range 16384).filter (hasN p)).find? (fun s => decide (ownerX x s ≠ -1 ∧ ownerX x s ≠ fr ∧ e < x.ep (ownerX x s).toNat)) with
  | some s => ownerX x s
  | none => -1
theorem find_congr {α : Type} {p q : α → Bool} : ∀ l : List α, (∀ a ∈ l, p a = q a) → l.find? p = l.find? q
  | [], _ => rfl
  | a :: l, h => by
    rw [List.find?_cons, List.find?_cons, h a (List.mem_cons_self ..), find_congr l fun b hb => h b (List.mem_cons_of_mem _ hb)]
theorem beat_agree {v : VS} {x : XS} (h : Agree v x) (fr : Int) (e : Nat) (p : Nat → Nat) : beatX x fr e p = beatV v fr e p := by
  unfold beatX beatV
  have hl : ∀ s ∈ (List.range 16384).filter (hasN p), s < 16384 := fun s hs => List.mem_range.1 (List.mem_filter.1 hs).1
  have hc : ((List.range 16384).filter (hasN p)).find? (fun s => decide (ownerX x s ≠ -1 ∧ ownerX x s ≠ fr ∧ e < x.ep (ownerX x s).toNat)) = ((List.range 16384).filter (hasN p)).find? (fun s => decide (v.own s ≠ -1 ∧ v.own s ≠ fr ∧ e < v.ep (v.own s).toNat)) := by
    refine find_congr _ fun s hs => ?_
    have h1 := hl s hs
    have h2 := h.node s h1
    rw [owner_agree h s h1, decide_eq_decide]
    constructor
    · rintro ⟨a, b, c⟩
      exact ⟨a, b, by rw [h.ep _ (by omega)]; exact c⟩
    · rintro ⟨a, b, c⟩
      exact ⟨a, b, by rw [← h.ep _ (by omega)]; exact c⟩
  rw [hc]
  cases hf : ((List.range 16384).filter (hasN p)).find? (fun s => decide (v.own s ≠ -1 ∧ v.own s ≠ fr ∧ e < v.ep (v.own s).toNat)) with
  | none => rfl
  | some s => exact owner_agree h s (hl s (List.mem_of_find?_eq_some hf))
end Go.Proofs.YtgdcnenlelckhaaGreatDoor

namespace Go.Proofs.YtgdcnenlelckhaaGreatDoor
/-- what nodes tell one another -/
structure Pkt where
  kind : Int
  fr : Int
  of_ : Int
  ep : Nat
  cur : Nat
  cl : Nat → Nat
structure PktEq (a b : Pkt) : Prop where
  kind : a.kind = b.kind
  fr : a.fr = b.fr
  of_ : a.of_ = b.of_
  ep : a.ep = b.ep
  cur : a.cur = b.cur
  cl : ∀ i, i < 256 → a.cl i = b.cl i
inductive AllEq : List Pkt → List Pkt → Prop
  | nil : AllEq [] []
  | cons {a b : Pkt} {l m : List Pkt} : PktEq a b → AllEq l m → AllEq (a :: l) (b :: m)
theorem AllEq.app {a b c d : List Pkt} (h : AllEq a b) (k : AllEq c d) : AllEq (a ++ c) (b ++ d) := by
  induction h with
  | nil => exact k
  | cons h1 _ ih => exact AllEq.cons h1 ih
def tellV (v : VS) (kind : Int) : Pkt := ⟨kind, v.self, 0, v.ep v.self, v.cur, wordV v v.self⟩
def tellX (x : XS) (kind : Int) : Pkt := ⟨kind, x.self, 0, x.ep x.self, x.cur, x.cl x.self⟩
theorem tell_agree {v : VS} {x : XS} (h : Agree v x) (hs : v.self < 64) (kind : Int) : PktEq (tellV v kind) (tellX x kind) :=
  ⟨rfl, by show (v.self : Int) = x.self; rw [h.self], rfl, by show v.ep v.self = x.ep x.self; rw [← h.self]; exact h.ep _ hs, h.cur, fun i hi => by show wordV v v.self i = x.cl x.self i; rw [← h.self]; exact word_agree h _ i hs hi⟩
def maxV (v : VS) (c : Nat) : VS := { v with cur := max v.cur c }
def maxX (x : XS) (c : Nat) : XS := { x with cur := max x.cur c }
theorem max_agree {v : VS} {x : XS} (h : Agree v x) (c : Nat) : Agree (maxV v c) (maxX x c) := ⟨h.self, by show max v.cur c = max x.cur c; rw [h.cur], h.ep, h.own, h.node, h.word⟩
def nodeOf (q : Pkt) : Nat := (if q.kind = 3 then q.of_ else q.fr).toNat
def takenV (v : VS) (q : Pkt) : VS := if (maxV v q.cur).ep (nodeOf q) ≤ q.ep then claimV (maxV v q.cur) (nodeOf q) q.ep q.cl else maxV v q.cur
def takenX (x : XS) (q : Pkt) : XS := if (maxX x q.cur).ep (nodeOf q) ≤ q.ep then claimX (maxX x q.cur) (nodeOf q) q.ep q.cl else maxX x q.cur
def liftV (v : VS) (q : Pkt) : VS := if q.ep = v.ep v.self ∧ v.self < nodeOf q then raiseV v else v
def liftX (x : XS) (q : Pkt) : XS := if q.ep = x.ep x.self ∧ x.self < nodeOf q then raiseX x else x
def answV (v : VS) (q : Pkt) : List Pkt := (if q.kind = 1 ∨ q.kind = 4 then [tellV v 2] else []) ++ (if beatV v q.fr q.ep q.cl = -1 then [] else [⟨3, v.self, beatV v q.fr q.ep q.cl, v.ep (beatV v q.fr q.ep q.cl).toNat, v.cur, wordV v (beatV v q.fr q.ep q.cl).toNat⟩])
def answX (x : XS) (q : Pkt) : List Pkt := (if q.kind = 1 ∨ q.kind = 4 then [tellX x 2] else []) ++ (if beatX x q.fr q.ep q.cl = -1 then [] else [⟨3, x.self, beatX x q.fr q.ep q.cl, x.ep (beatX x q.fr q.ep q.cl).toNat, x.cur, x.cl (beatX x q.fr q.ep q.cl).toNat⟩])
def idleP (self : Nat) (q : Pkt) (right : Bool) : Prop := right = false ∨ 4611686018427387904 < q.cur ∨ q.fr = (self : Int) ∨ (q.kind = 3 ∧ q.of_ = (self : Int))
instance (self : Nat) (q : Pkt) (right : Bool) : Decidable (idleP self q right) := by unfold idleP; infer_instance
def hearV (v : VS) (q : Pkt) (right : Bool) : VS × List Pkt := if idleP v.self q right then (v, []) else if q.kind = 3 then (takenV v q, []) else (liftV (takenV v q) q, answV (liftV (takenV v q) q) q)
def hearX (x : XS) (q : Pkt) (right : Bool) : XS × List Pkt := if idleP x.self q right then (x, []) else if q.kind = 3 then (takenX x q, []) else (liftX (takenX x q) q, answX (liftX (takenX x q) q) q)
theorem taken_self (v : VS) (q : Pkt) : (takenV v q).self = v.self := by unfold takenV; split <;> rfl
theorem lift_self (v : VS) (q : Pkt) : (liftV v q).self = v.self := by unfold liftV; split <;> rfl
theorem taken_agree {v : VS} {x : XS} (h : Agree v x) (q : Pkt) (hn : nodeOf q < 64) (hq : ∀ i, i < 256 → q.cl i < 18446744073709551616) : Agree (takenV v q) (takenX x q) := by
  have h1 := max_agree h q.cur
  unfold takenV takenX
  rw [← h1.ep _ hn]
  split
  · exact claim_agree h1 _ _ hn _ hq
  · exact h1
theorem lift_agree {v : VS} {x : XS} (h : Agree v x) (hs : v.self < 64) (q : Pkt) : Agree (liftV v q) (liftX x q) := by
  unfold liftV liftX
  rw [← h.self, ← h.ep _ hs]
  split
  · exact raise_agree h
  · exact h
theorem beat_node {v : VS} {x : XS} (h : Agree v x) (fr : Int) (e : Nat) (p : Nat → Nat) : -1 ≤ beatV v fr e p ∧ beatV v fr e p < 64 := by
  unfold beatV
  cases hf : ((List.range 16384).filter (hasN p)).find? (fun s => decide (v.own s ≠ -1 ∧ v.own s ≠ fr ∧ e < v.ep (v.own s).toNat)) with
  | none => exact ⟨by show (-1 : Int) ≤ -1; omega, by show (-1 : Int) < 64; omega⟩
  | some s => exact h.node s (List.mem_range.1 (List.mem_filter.1 (List.mem_of_find?_eq_some hf)).1)
theorem answ_agree {v : VS} {x : XS} (h : Agree v x) (hs : v.self < 64) (q : Pkt) : AllEq (answV v q) (answX x q) := by
  unfold answV answX
  rw [beat_agree h]
  have hb := beat_node h q.fr q.ep q.cl
  refine AllEq.app ?_ ?_
  · split
    · exact AllEq.cons (tell_agree h hs 2) AllEq.nil
    · exact AllEq.nil
  · split
    · exact AllEq.nil
    · rename_i hne
      have ho : (beatV v q.fr q.ep q.cl).toNat < 64 := by omega
      exact AllEq.cons ⟨rfl, by show (v.self : Int) = x.self; rw [h.self], rfl, h.ep _ ho, h.cur, fun i hi => word_agree h _ i ho hi⟩ AllEq.nil
theorem hear_agree {v : VS} {x : XS} (h : Agree v x) (hs : v.self < 64) (q : Pkt) (right : Bool) (hn : right = true → nodeOf q < 64) (hq : ∀ i, i < 256 → q.cl i < 18446744073709551616) : Agree (hearV v q right).1 (hearX x q right).1 ∧ AllEq (hearV v q right).2 (hearX x q right).2 := by
  unfold hearV hearX
  rw [← h.self]
  by_cases hi : idleP v.self q right
  · rw [if_pos hi, if_pos hi]
    exact ⟨h, AllEq.nil⟩
  · rw [if_neg hi, if_neg hi]
    have hr : right = true := by
      cases right with
      | true => rfl
      | false => exact absurd (Or.inl rfl) hi
    have h1 := taken_agree h q (hn hr) hq
    by_cases h3 : q.kind = 3
    · rw [if_pos h3, if_pos h3]
      exact ⟨h1, AllEq.nil⟩
    · rw [if_neg h3, if_neg h3]
      have hs1 : (takenV v q).self < 64 := by rw [taken_self]; exact hs
      have h2 := lift_agree h1 hs1 q
      have hs2 : (liftV (takenV v q) q).self < 64 := by rw [lift_self]; exact hs1
      exact ⟨h2, answ_agree h2 hs2 q⟩
end Go.Proofs.YtgdcnenlelckhaaGreatDoor

namespace Go.Proofs.YtgdcnenlelckhaaGreatDoor
open Go.RowKit Go.Proofs.YtgdcnenlelckhaaGreatDoorW.PrintWords
theorem rangesV_last (l : List Nat) (n : Nat) : ∃ q a, rangesV (l ++ [n]) = q ++ [(a, n)] := by
  rcases rangesV_snoc l n with ⟨_, h⟩ | ⟨q, a, b, _, h⟩
  · exact ⟨[], n, h⟩
  · split at h
    · exact ⟨q, a, h⟩
    · exact ⟨q ++ [(a, b)], n, h⟩
theorem take_snoc' (l : List Nat) (k : Nat) (h : k < l.length) : l.take (k + 1) = l.take k ++ [l.getD k 0] := by
  rw [List.take_succ_eq_append_getElem h]
  simp [List.getD, h]
/-- a run begins -/
theorem run_start (l : List Nat) (i : Nat) (h : i < l.length) (hb : i = 0 ∨ l.getD i 0 ≠ l.getD (i - 1) 0 + 1) :
    rangesV (l.take (i + 1)) = rangesV (l.take i) ++ [(l.getD i 0, l.getD i 0)] := by
  rw [take_snoc' l i h]
  rcases Nat.eq_zero_or_pos i with rfl | hi
  · rfl
  · have hne := hb.resolve_left (by omega)
    obtain ⟨j, rfl⟩ : ∃ j, i = j + 1 := ⟨i - 1, by omega⟩
    rw [take_snoc' l j (by omega)]
    obtain ⟨q0, a0, e0⟩ := rangesV_last (l.take j) (l.getD j 0)
    rcases rangesV_snoc (l.take j ++ [l.getD j 0]) (l.getD (j + 1) 0) with ⟨h0, _⟩ | ⟨q, a, b, h0, h1⟩
    · rw [e0] at h0; simp at h0
    · rw [e0] at h0
      have hb : b = l.getD j 0 := by
        have := congrArg List.getLast? h0
        simp at this
        exact this.2.symm
      rw [h1, if_neg (by rw [hb]; simp at hne; simp; omega), e0, h0]
/-- a run goes on -/
theorem run_more (l : List Nat) (k : Nat) (h : k + 1 < l.length) (P : List (Nat × Nat)) (a : Nat) (hR : rangesV (l.take (k + 1)) = P ++ [(a, l.getD k 0)]) (he : l.getD (k + 1) 0 = l.getD k 0 + 1) :
    rangesV (l.take (k + 2)) = P ++ [(a, l.getD (k + 1) 0)] := by
  rw [take_snoc' l (k + 1) h]
  rcases rangesV_snoc (l.take (k + 1)) (l.getD (k + 1) 0) with ⟨h0, _⟩ | ⟨q, a', b, h0, h1⟩
  · rw [hR] at h0; simp at h0
  · rw [hR] at h0
    have h2 := congrArg List.reverse h0
    simp at h2
    obtain ⟨⟨e1, e2⟩, e3⟩ := h2
    rw [h1, if_pos (by rw [← e2, he]; simp [List.getD]), e1, e3]
theorem ints_at (l : List Nat) (k : Nat) (h : k < l.length) : (intsN l)[k]? = some (.int .i64 ((l.getD k 0 : Nat) : Int)) := by
  unfold intsN
  rw [List.getElem?_map, List.getElem?_eq_getElem h]
  simp [List.getD, h]
theorem own_drewN' {W : World} {base n : Nat} {e : TypeId} {size : Nat} {v : Value} {xs : List Value} (h : W.ownsRow base e size v n xs) (m : Nat) : (W.drewN m).ownsRow base e size v n xs := h
theorem below_drewN {n : Nat} {w w1 : World} (h : Below n w w1) (k : Nat) : Below n w (w1.drewN k) := by
  induction k with
  | zero => exact h
  | succ k ih => exact below_drew ih
set_option maxHeartbeats 2000000 in
set_option maxRecDepth 100000 in
theorem refRanges_calls (a : Array Value) (f : Nat → Nat) (ha : Words a f) (w : World) : Calls Tryz.prog 33 #[.agg a] w (RgPost w (rangesV (upto f 16384))) := by
  have hsz := ha.size
  have hA := fun W => refAll_calls a f ha W
  have hs1 : (Tryz.prog.info? 43).map (·.size) = some a.size := by rw [ha.size]; exact info30
  have hlen := upto_le f 16384
  have hel : ∀ k, (upto f 16384).getD k 0 < 16384 := by
    intro k
    rw [List.getD_eq_getElem?_getD]
    rcases h : (upto f 16384)[k]? with _ | x
    · simp
    · have := List.mem_of_getElem? h
      unfold upto at this
      have := List.mem_range.1 (List.mem_filter.1 this).1
      simpa using this
  generalize upto f 16384 = l at *
  have hlm : (l.length : Int) ≤ 16384 := by omega
  clear hsz
  go_enter Tryz.func33, Tryz.ntmps33
  go_wp2_with (refine wpList_load_row rfl 43 _ rfl w.heap.size rfl 43 a (0, 0) _ (heapN w _) Tryz.underlying43 rfl hs1 ?_)
  refine (hA _).mono ?_
  rintro e w1 ⟨v, rfl, hl1, hb1⟩
  have hbw1 : Below w.heap.size w w1 := (below_new' w _).trans (hb1.mono (by simp))
  have hl1 := own_weaken hl1 (show w.heap.size ≤ _ by simp)
  obtain ⟨A, c, rfl⟩ := own_slice hl1
  clear hb1 hA
  obtain ⟨i0, hi0, hz0, hz1, hz2⟩ := info_rng'
  go_wp2_with fail
  go_loopw [3, 5, 6] (fun out i _ wr => ∃ m : Nat, m ≤ l.length ∧ i = .int .i64 m ∧ (m = 0 ∨ m = l.length ∨ l.getD m 0 ≠ l.getD (m - 1) 0 + 1) ∧ wr.ownsRow w.heap.size 117 2 out (rangesV (l.take m)).length (flatR (rangesV (l.take m))) ∧ Below w.heap.size w wr ∧ wr.ownsRow w.heap.size 3 1 (.slice A l.length c) l.length (intsN l)) (fun _ i _ _ => l.length - (intOf i).toNat)
  case atStart => exact ⟨0, by omega, rfl, Or.inl rfl, own_nil _ _ _ _, hbw1, hl1⟩
  case round =>
    obtain ⟨m, hm, rfl, hst, hown, hb, hl⟩ := hrel
    clear hl1 hbw1
    have hrl := rangesV_le (l.take m)
    have htl : (l.take m).length ≤ m := List.length_take_le _ _
    by_cases hml : m < l.length
    · obtain ⟨g, cap, hgA, -, -⟩ := hl.form (by omega)
      obtain rfl : A = some ⟨g, 0, none⟩ := by injection hgA
      clear hgA
      have hrun := run_start l m hml (by omega)
      have hst := Lib.hid hst
      have hgo : decide ((m : Int) < (l.length : Int)) = true := decide_eq_true (by omega)
      go_wp2_with fail
      go_loopw [6] (fun k wq => ∃ j : Nat, m ≤ j ∧ j < l.length ∧ k = .int .i64 j ∧ rangesV (l.take (j + 1)) = rangesV (l.take m) ++ [(l.getD m 0, l.getD j 0)] ∧ wq.ownsRow w.heap.size 117 2 u3 (rangesV (l.take m)).length (flatR (rangesV (l.take m))) ∧ Below w.heap.size w wq ∧ wq.ownsRow w.heap.size 3 1 (.slice (some ⟨g, 0, none⟩) l.length c) l.length (intsN l)) (fun k _ => l.length - (intOf k).toNat)
      case atStart => exact ⟨m, by omega, hml, rfl, hrun, hown, hb, hl⟩
      case round =>
        obtain ⟨j, hmj, hjl, rfl, hR, hown2, hb2, hl2⟩ := hrel
        clear hl hown hb hrun hst hgo
        have kj : wr.cell? ⟨g, j, none⟩ = some (.int .i64 ((l.getD j 0 : Nat) : Int)) := (hl2.cellAt j (by omega)).trans (ints_at l j hjl)
        have kj' : j + 1 < l.length → wr.cell? ⟨g, j + 1, none⟩ = some (.int .i64 ((l.getD (j + 1) 0 : Nat) : Int)) := fun h => (hl2.cellAt (j + 1) (by omega)).trans (ints_at l (j + 1) h)
        have w1 : IntKind.i64.wrap ((j : Int) + 1) = (j : Int) + 1 := IntWalk.i64_in _ (by omega)
        have w2 : (0 : Int) ≤ (j : Int) + 1 := by omega
        have w3 : ((j : Int) + 1).toNat = j + 1 := by omega
        have w4 : (j : Int) < (l.length : Int) := by omega
        have hYl := hel j
        have hjv : IntKind.i64.wrap (((l.getD j 0 : Nat) : Int) + 1) = ((l.getD j 0 : Nat) : Int) + 1 := IntWalk.i64_in _ (by omega)
        by_cases hgo2 : j + 1 < l.length ∧ l.getD (j + 1) 0 = l.getD j 0 + 1
        · obtain ⟨hj, he⟩ := hgo2
          have kj2 := kj' hj
          have w5 : (j : Int) + 1 < (l.length : Int) := by omega
          have w6 : decide ((j : Int) + 1 < (l.length : Int)) = true := decide_eq_true w5
          have hmore := Lib.hid (run_more l j hj _ _ hR he)
          have he2 : (((l.getD (j + 1) 0 : Nat) : Int) == ((l.getD j 0 : Nat) : Int) + 1) = true := by rw [beq_iff_eq]; omega
          clear kj' he hR hel
          generalize hX : l.getD (j + 1) 0 = X at *
          generalize hY : l.getD j 0 = Y at *
          replace hX := Lib.hid hX
          go_wp2_with fail
          go_quiet (fail)
          go_wp2_with fail
          case roundEnd =>
            exact ⟨⟨j + 1, by omega, by omega, by go_num, by rw [hX.out]; exact hmore.out, own_drewN' hown2 nq, below_drewN hb2 nq, own_drewN' hl2 nq⟩, by simp [intOf]; omega⟩
        · have hnext := Lib.hid (show j + 1 = 0 ∨ j + 1 = l.length ∨ l.getD (j + 1) 0 ≠ l.getD (j + 1 - 1) 0 + 1 by
            by_cases h : j + 1 = l.length
            · exact Or.inr (Or.inl h)
            · refine Or.inr (Or.inr fun e => hgo2 ⟨by omega, ?_⟩)
              simpa using e)
          have km : wr.cell? ⟨g, m, none⟩ = some (.int .i64 ((l.getD m 0 : Nat) : Int)) := (hl2.cellAt m (by omega)).trans (ints_at l m hml)
          have hmz := hel m
          have hRl : (rangesV (l.take (j + 1))).length = (rangesV (l.take m)).length + 1 := by rw [hR]; simp
          have hR' := Lib.hid hR
          replace hRl := Lib.hid hRl
          have ak := own_type_ne hown2 hl2 (by decide)
          have ak : u3.ownBlock ≠ some g := by
            rcases ak with h | h
            · rw [h]; simp
            · exact h
          have ht : (∃ X : Nat, (wr.cell? ⟨g, j + 1, none⟩ = some (.int .i64 (X : Int)) ∧ decide ((j : Int) + 1 < (l.length : Int)) = true ∧ ((j : Int) + 1 < (l.length : Int)) ∧ ((X : Int) == ((l.getD j 0 : Nat) : Int) + 1) = false)) ∨ decide ((j : Int) + 1 < (l.length : Int)) = false := by
            by_cases hj : j + 1 < l.length
            · refine Or.inl ⟨_, kj' hj, decide_eq_true (by omega), by omega, beq_eq_false_iff_ne.2 fun e => hgo2 ⟨hj, by omega⟩⟩
            · exact Or.inr (decide_eq_false (by omega))
          clear kj' hR hel hgo2
          generalize hX : l.getD m 0 = Z at *
          generalize hY : l.getD j 0 = Y at *
          replace hX := Lib.hid hX
          replace hY := Lib.hid hY
          generalize hP : rangesV (l.take m) = P at *
          rcases ht with ⟨X, kj2, w6, w5, he2⟩ | w6
          all_goals
            go_wp2_with fail
            go_quiet (fail)
            go_wp2_with fail
            have hl3 := own_drewN' hl2 nq
            have hown3 := own_drewN' hown2 nq
            have hb3 := below_drewN hb2 nq
            have km3 : (wr.drewN nq).cell? ⟨g, m, none⟩ = some (.int .i64 (Z : Int)) := km
            have kj3 : (wr.drewN nq).cell? ⟨g, j, none⟩ = some (.int .i64 (Y : Int)) := kj
            generalize wr.drewN nq = wz at *
            have lg : g < wz.heap.size := own_lt hl3 g rfl
            have hsz3 : w.heap.size ≤ wz.heap.size := hb3.size
            clear w1 w3 hjv hl1
            have hz1' : (Z : Int) < 16384 := by omega
            go_region_held3 (fun w' => w'.cell? ⟨g, m, none⟩ = some (.int .i64 (Z : Int)) ∧ w'.cell? ⟨g, j, none⟩ = some (.int .i64 (Y : Int)))
              (first
                | go_keep
                | (go_split_ands
                   refine ⟨?_, ?_⟩
                   · (rw [hgrow.cell_far _ (by simp; omega) (Ne.symm ak)]; assumption)
                   · (rw [hgrow.cell_far _ (by simp; omega) (Ne.symm ak)]; assumption)))
              ((refine step_append_lies _ (by rfl) _ _ _ (by rfl) w.heap.size 117 i0 _ 2 16 Tryz.underlying88 hi0 hz0 hz1 hz2 rfl (by omega) u3 P.length (flatR P) (by rfl) ((hown3.alloc _).drew)
                  ⟨wz.heap.size, 0, none⟩ 1 1 [.int .i64 (Z : Int), .int .i64 (Y : Int)] (by rfl) (by rfl) (World.news_of_block (cs := #[.int .i64 (Z : Int), .int .i64 (Y : Int)]) (t := 117) (fr := (0, 0)) (heap_alloc_new wz _)) (by simp [Value.oneCell'])
                  (by omega) (by unfold maxLen; omega) (by omega) (by simp; omega) (wz.heap.size + 1) (by simp) ?_; intro gg cap w9 hown9 hgrow hat hlt))
            go_wp2_with fail
            have hbA : Below w.heap.size w (wz.alloc (.cells #[.int .i64 (Z : Int), .int .i64 (Y : Int)] 117)).drew := below_drew (hb3.trans ((below_new' wz _).mono hb3.size))
            have hb9 := hbA.grown hgrow (by simp; omega) (fun x hx => own_base hown3 x hx)
            have hl9 := ((hl3.alloc (.cells #[.int .i64 (Z : Int), .int .i64 (Y : Int)] 117)).drew).kept hgrow (Or.inr (by simpa [Value.ownBlock] using Ne.symm ak))
            exact ⟨⟨j + 1, by omega, by go_num, hnext.out, by rw [hR'.out, flatR_append, List.length_append]; exact hown9, hb9, hl9⟩, by simp [intOf]; omega⟩
    · obtain rfl : m = l.length := by omega
      go_wp2_with fail
      exact bodyPost_ret (v := u3) (by simp [results, Tryz.results33, go_sem]) rfl ⟨u3, rfl, by rw [List.take_of_length_le (Nat.le_refl _)] at hown; exact hown, hb⟩
end Go.Proofs.YtgdcnenlelckhaaGreatDoor

namespace Go.Proofs.YtgdcnenlelckhaaGreatDoor.SlS
open Go Go.Proofs.YtgdcnenlelckhaaGreatDoor

/-! ### runs cover what is there -/
structure Inv (h : Nat → Bool) (m : Nat) (acc : List (Nat × Nat)) : Prop where
  cover : ∀ n, n < m → (h n = true ↔ ∃ r ∈ acc, r.1 ≤ n ∧ n ≤ r.2)
  ord : ∀ r ∈ acc, r.1 ≤ r.2 ∧ r.2 < m
inductive Gap : List (Nat × Nat) → Prop
  | nil : Gap []
  | one (a b : Nat) : Gap [(a, b)]
  | cons (a b c d : Nat) (r : List (Nat × Nat)) : d + 1 < a → Gap ((c, d) :: r) → Gap ((a, b) :: (c, d) :: r)
theorem inv_foldl (h : Nat → Bool) : ∀ m, Inv h m (((List.range m).filter h).foldl addR []) ∧ Gap (((List.range m).filter h).foldl addR [])
  | 0 => ⟨⟨fun n hn => absurd hn (by omega), fun r hr => by simp at hr⟩, Gap.nil⟩
  | m + 1 => by
    obtain ⟨⟨hc, ho⟩, hg⟩ := inv_foldl h m
    rw [List.range_succ, List.filter_append]
    cases hm : h m with
    | false =>
      have e : ([m].filter h) = [] := by simp [hm]
      rw [e, List.append_nil]
      refine ⟨⟨fun n hn => ?_, fun r hr => ⟨(ho r hr).1, by have := (ho r hr).2; omega⟩⟩, hg⟩
      by_cases hnm : n = m
      · subst hnm
        rw [hm]
        constructor
        · intro h; cases h
        · rintro ⟨r, hr, h1, h2⟩
          have := (ho r hr).2; omega
      · exact hc n (by omega)
    | true =>
      have e : ([m].filter h) = [m] := by simp [hm]
      rw [e, foldl_snoc]
      generalize ((List.range m).filter h).foldl addR [] = acc at *
      cases acc with
      | nil =>
        refine ⟨⟨fun n hn => ?_, fun r hr => ?_⟩, Gap.one m m⟩
        · show h n = true ↔ ∃ r ∈ [(m, m)], _
          by_cases hnm : n = m
          · subst hnm; simp [hm]
          · have := hc n (by omega)
            simp at this
            simp [this]
            omega
        · have : r = (m, m) := by simpa [addR] using hr
          subst this
          exact ⟨Nat.le_refl _, Nat.lt_succ_self _⟩
      | cons p r =>
        obtain ⟨a, b⟩ := p
        have hab := ho (a, b) (by simp)
        show Inv h (m + 1) (if b + 1 = m then (a, m) :: r else (m, m) :: (a, b) :: r) ∧ Gap (if b + 1 = m then (a, m) :: r else (m, m) :: (a, b) :: r)
        by_cases hb : b + 1 = m
        · rw [if_pos hb]
          refine ⟨⟨fun n hn => ?_, fun q hq => ?_⟩, ?_⟩
          · by_cases hnm : n = m
            · subst hnm
              simp only [hm, true_iff]
              exact ⟨(a, n), by simp, by simp at hab ⊢; omega, Nat.le_refl _⟩
            · rw [hc n (by omega)]
              constructor
              · rintro ⟨q, hq, h1, h2⟩
                rcases List.mem_cons.1 hq with rfl | hq
                · exact ⟨(a, m), by simp, h1, by simp at h2 ⊢; omega⟩
                · exact ⟨q, by simp [hq], h1, h2⟩
              · rintro ⟨q, hq, h1, h2⟩
                rcases List.mem_cons.1 hq with rfl | hq
                · exact ⟨(a, b), by simp, h1, by simp at h2 ⊢; omega⟩
                · exact ⟨q, by simp [hq], h1, h2⟩
          · rcases List.mem_cons.1 hq with rfl | hq
            · simp at hab ⊢; omega
            · have := ho q (by simp [hq]); omega
          · cases hg with
            | one => exact Gap.one _ _
            | cons _ _ c d r h1 h2 => exact Gap.cons _ _ _ _ _ h1 h2
        · rw [if_neg hb]
          refine ⟨⟨fun n hn => ?_, fun q hq => ?_⟩, ?_⟩
          · by_cases hnm : n = m
            · subst hnm
              simp only [hm, true_iff]
              exact ⟨(n, n), by simp, Nat.le_refl _, Nat.le_refl _⟩
            · rw [hc n (by omega)]
              constructor
              · rintro ⟨q, hq, h1, h2⟩
                exact ⟨q, List.mem_cons_of_mem _ hq, h1, h2⟩
              · rintro ⟨q, hq, h1, h2⟩
                rcases List.mem_cons.1 hq with rfl | hq
                · simp at h1 h2; omega
                · exact ⟨q, hq, h1, h2⟩
          · rcases List.mem_cons.1 hq with rfl | hq
            · simp
            · have := ho q hq; omega
          · exact Gap.cons _ _ _ _ _ (by simp at hab; omega) hg
theorem cover (h : Nat → Bool) (m : Nat) {n : Nat} (hn : n < m) : h n = true ↔ ∃ r ∈ rangesV ((List.range m).filter h), r.1 ≤ n ∧ n ≤ r.2 := by
  rw [(inv_foldl h m).1.cover n hn]
  unfold rangesV
  simp only [List.mem_reverse]
theorem ordered (h : Nat → Bool) (m : Nat) {r : Nat × Nat} (hr : r ∈ rangesV ((List.range m).filter h)) : r.1 ≤ r.2 ∧ r.2 < m :=
  (inv_foldl h m).1.ord r (by unfold rangesV at hr; exact List.mem_reverse.1 hr)

/-! ### how they are written -/
def rangeT (p : Nat × Nat) : List UInt8 := Lib.decDigits p.1 ++ if p.1 < p.2 then 45 :: Lib.decDigits p.2 else []
def printV (rs : List (Nat × Nat)) : List UInt8 := Lib.join (rs.map rangeT) [32]
theorem itoa_nat (n : Nat) : Lib.itoa (n : Int) = Lib.decDigits n := by
  unfold Lib.itoa
  rw [if_neg (by omega)]
  rfl

theorem dig_len1 {n : Nat} (h : n < 10) : (Lib.decDigits n).length = 1 := by rw [Lib.decDigits, dif_pos h]; rfl
theorem dig_len_le : ∀ (k n : Nat), n < 10 ^ (k + 1) → (Lib.decDigits n).length ≤ k + 1
  | 0, n, h => by rw [dig_len1 (by simpa using h)]; omega
  | k + 1, n, h => by
    rw [Lib.decDigits]
    split
    · simp
    · have := dig_len_le k (n / 10) (by rw [Nat.pow_succ] at h; omega)
      simp; omega
theorem rangeT_len {a b : Nat} (hab : a ≤ b) (hb : b < 16384) : (rangeT (a, b)).length ≤ (if a < b then 11 else 5) ∧ (b < 100 → (rangeT (a, b)).length ≤ (if a < b then 5 else 2)) ∧ (b < 10 → (rangeT (a, b)).length ≤ (if a < b then 3 else 1)) := by
  have h1 := dig_len_le 4 a (by omega)
  have h2 := dig_len_le 4 b (by omega)
  unfold rangeT
  simp only
  refine ⟨?_, fun h => ?_, fun h => ?_⟩
  · split <;> simp <;> omega
  · have h3 := dig_len_le 1 a (by omega)
    have h4 := dig_len_le 1 b (by omega)
    split <;> simp <;> omega
  · have h3 := dig_len_le 0 a (by omega)
    have h4 := dig_len_le 0 b (by omega)
    split <;> simp <;> omega
def bulk (acc : List (Nat × Nat)) : Nat := (acc.map fun p => (rangeT p).length + 1).sum
def phi (x : Nat) : Nat := if x < 100 then 2 * (x + 2) else 4 * (x + 2) - 150
theorem bulk_le : ∀ (r : List (Nat × Nat)) (a b : Nat), Gap ((a, b) :: r) → (∀ p ∈ (a, b) :: r, p.1 ≤ p.2 ∧ p.2 < 16384) → bulk ((a, b) :: r) ≤ phi b
  | [], a, b, hg, ho => by
    have hab := ho (a, b) (by simp)
    simp only at hab
    obtain ⟨l1, l2, l3⟩ := rangeT_len hab.1 hab.2
    unfold bulk phi
    simp only [List.map_cons, List.map_nil, List.sum_cons, List.sum_nil]
    by_cases h1 : b < 100
    · rw [if_pos h1]
      have := l2 h1
      by_cases h2 : b < 10
      · have := l3 h2; split at this <;> omega
      · split at this <;> omega
    · rw [if_neg h1]; split at l1 <;> omega
  | (c, d) :: r, a, b, hg, ho => by
    have hab := ho (a, b) (by simp)
    have hcd := ho (c, d) (by simp)
    simp only at hab hcd
    cases hg with
    | cons _ _ _ _ _ hda hg' =>
      have ih := bulk_le r c d hg' (fun p hp => ho p (List.mem_cons_of_mem _ hp))
      obtain ⟨l1, l2, l3⟩ := rangeT_len hab.1 hab.2
      have e : bulk ((a, b) :: (c, d) :: r) = (rangeT (a, b)).length + 1 + bulk ((c, d) :: r) := by simp [bulk]
      rw [e]
      generalize bulk ((c, d) :: r) = B at *
      generalize (rangeT (a, b)).length = L at *
      unfold phi at *
      by_cases h1 : b < 100
      · rw [if_pos h1]
        have h2 := l2 h1
        rw [if_pos (by omega)] at ih
        split at h2 <;> omega
      · rw [if_neg h1]
        by_cases h3 : d < 100
        · rw [if_pos h3] at ih
          split at l1 <;> omega
        · rw [if_neg h3] at ih
          split at l1 <;> omega
theorem join_len (ps : List (List UInt8)) : (Lib.join ps [32]).length ≤ (ps.map fun p => p.length + 1).sum := by
  cases ps with
  | nil => simp [Lib.join]
  | cons x r =>
    rw [Lib.join_length]
    have : Lib.lens (x :: r) = ((x :: r).map List.length).sum := rfl
    rw [this]
    have key : ∀ l : List (List UInt8), (l.map fun p => p.length + 1).sum = (l.map List.length).sum + l.length := by
      intro l
      induction l with
      | nil => rfl
      | cons y r ih => simp only [List.map_cons, List.sum_cons, List.length_cons, ih]; omega
    rw [key]
    simp
    omega
/-- what is written is short -/
theorem print_len (h : Nat → Bool) : (printV (rangesV ((List.range 16384).filter h))).length ≤ 65390 := by
  obtain ⟨⟨_, ho⟩, hg⟩ := inv_foldl h 16384
  unfold printV rangesV
  refine Nat.le_trans (join_len _) ?_
  generalize ((List.range 16384).filter h).foldl addR [] = acc at *
  have e : ((acc.reverse.map rangeT).map fun p => p.length + 1).sum = bulk acc := by
    unfold bulk
    rw [List.map_map, List.map_reverse, List.sum_reverse]
    rfl
  rw [e]
  cases acc with
  | nil => simp [bulk]
  | cons p r =>
    obtain ⟨a, b⟩ := p
    have := bulk_le r a b hg ho
    have hb := (ho (a, b) (by simp)).2
    unfold phi at this
    split at this <;> omega

/-! ### what is written is read as it was -/
theorem fieldsGo_word (w : List UInt8) (hw : ∀ b ∈ w, Lib.isSp b = false) (l cur : List UInt8) : Lib.fieldsGo cur (w ++ l) = Lib.fieldsGo (cur ++ w) l := by
  induction w generalizing cur with
  | nil => simp
  | cons b w ih =>
    rw [List.cons_append, Lib.fieldsGo_more _ _ _ (hw b (by simp)), ih (fun c hc => hw c (by simp [hc]))]
    simp
theorem isSp32 : Lib.isSp 32 = true := by decide
theorem fields_join (ps : List (List UInt8)) (h : ∀ p ∈ ps, p ≠ [] ∧ ∀ b ∈ p, Lib.isSp b = false) : Lib.fields (Lib.join ps [32]) = ps := by
  cases ps with
  | nil => rfl
  | cons x r =>
    rw [Lib.join_cons]
    unfold Lib.fields
    have key : ∀ (r : List (List UInt8)) (x : List UInt8), (∀ p ∈ x :: r, p ≠ [] ∧ ∀ b ∈ p, Lib.isSp b = false) → Lib.fieldsGo [] (x ++ Lib.joinTail [32] r) = x :: r := by
      intro r
      induction r with
      | nil =>
        intro x hx
        rw [fieldsGo_word x (hx x (by simp)).2]
        have := (hx x (by simp)).1
        cases x with
        | nil => exact absurd rfl this
        | cons b x => simp [Lib.joinTail, Lib.fieldsGo]
      | cons y r ih =>
        intro x hx
        have e : x ++ Lib.joinTail [32] (y :: r) = x ++ 32 :: (y ++ Lib.joinTail [32] r) := by simp [Lib.joinTail]
        rw [e, fieldsGo_word x (hx x (by simp)).2, Lib.fieldsGo_end _ _ _ isSp32 (by simpa using (hx x (by simp)).1), ih y (fun p hp => hx p (List.mem_cons_of_mem _ hp))]
        simp
    exact key r x h
theorem dig_nosp {c : UInt8} (h : Dec.isDig c = true ∨ c = 45) : Lib.isSp c = false ∧ c.toNat < 128 := by
  have h2 : (48 ≤ c.toNat ∧ c.toNat ≤ 57) ∨ c.toNat = 45 := by
    rcases h with h | h
    · unfold Dec.isDig at h
      exact Or.inl (of_decide_eq_true h)
    · exact Or.inr (by rw [h]; rfl)
  refine ⟨?_, by omega⟩
  obtain ⟨k, hk, rfl⟩ : ∃ k : Nat, k < 256 ∧ c = UInt8.ofNat k := ⟨c.toNat, c.toNat_lt, by simp⟩
  have e : (UInt8.ofNat k).toNat = k := by simp [UInt8.toNat_ofNat']; omega
  rw [e] at h2
  have all : (List.range 256).all (fun k => !((decide (48 ≤ k) && decide (k ≤ 57)) || decide (k = 45)) || !Lib.isSp (UInt8.ofNat k)) = true := by decide +kernel
  rw [List.all_eq_true] at all
  have := all k (List.mem_range.2 hk)
  simp only [Bool.or_eq_true, Bool.not_eq_true', Bool.or_eq_false_iff, Bool.and_eq_false_iff, decide_eq_false_iff_not] at this
  rcases this with h | h
  · omega
  · exact h
theorem rangeT_chars (p : Nat × Nat) : ∀ b ∈ rangeT p, Dec.isDig b = true ∨ b = 45 := by
  intro b hb
  unfold rangeT at hb
  have hd := fun n => List.all_eq_true.1 (Dec.all_decDigits n)
  rcases List.mem_append.1 hb with hb | hb
  · exact Or.inl (hd _ b hb)
  · split at hb
    · rcases List.mem_cons.1 hb with rfl | hb
      · exact Or.inr rfl
      · exact Or.inl (hd _ b hb)
    · simp at hb
theorem rangeT_ne (p : Nat × Nat) : rangeT p ≠ [] := by
  unfold rangeT
  have := Dec.decDigits_ne_nil p.1
  simp [this]
theorem join_mem {ps : List (List UInt8)} {b : UInt8} (h : b ∈ Lib.join ps [32]) : b = 32 ∨ ∃ p ∈ ps, b ∈ p := by
  cases ps with
  | nil => simp [Lib.join] at h
  | cons x r =>
    rw [Lib.join_cons] at h
    rcases List.mem_append.1 h with h | h
    · exact Or.inr ⟨x, by simp, h⟩
    · unfold Lib.joinTail at h
      simp only [List.mem_flatten, List.mem_map] at h
      obtain ⟨l, ⟨y, hy, rfl⟩, hb⟩ := h
      rcases List.mem_append.1 hb with hb | hb
      · exact Or.inl (by simpa using hb)
      · exact Or.inr ⟨y, by simp [hy], hb⟩
theorem fieldsD_print (rs : List (Nat × Nat)) : Lib.fieldsD (printV rs) = rs.map rangeT := by
  rw [Lib.fieldsD_ascii]
  · refine fields_join _ ?_
    intro p hp
    obtain ⟨r, _, rfl⟩ := List.mem_map.1 hp
    exact ⟨rangeT_ne r, fun b hb => (dig_nosp (rangeT_chars r b hb)).1⟩
  · intro b hb
    rcases join_mem hb with rfl | ⟨p, hp, hb⟩
    · decide
    · obtain ⟨r, _, rfl⟩ := List.mem_map.1 hp
      exact (dig_nosp (rangeT_chars r b hb)).2

/-- what number reads -/
def numS (l : List UInt8) : Int := match Lib.atoiAll l with
  | .ok v => if l.length ≤ 5 then v else -1
  | _ => -1
theorem numS_dec {n : Nat} (h : n < 16384) : numS (Lib.decDigits n) = n := by
  have h1 := Dec.form_itoa (n : Int)
  rw [itoa_nat] at h1
  have := Dec.atoiAll_ok h1.1 (by rw [h1.2]; omega) (by rw [h1.2]; omega)
  unfold numS
  rw [this, h1.2]
  simp only
  rw [if_pos (dig_len_le 4 n (by omega))]
theorem numS_bounds (l : List UInt8) : -9223372036854775808 ≤ numS l ∧ numS l ≤ 9223372036854775807 := by
  unfold numS
  split
  · rename_i v h
    have := Lib.atoiAll_bounds h
    split <;> omega
  · omega
theorem index_dig (l r : List UInt8) (h : ∀ b ∈ l, Dec.isDig b = true) : Lib.index (l ++ 45 :: r) [45] = l.length := by
  induction l with
  | nil => simp [Lib.index, List.isPrefixOf]
  | cons c l ih =>
    have hc : c ≠ 45 := by
      intro e
      have := h c (by simp)
      rw [e] at this
      exact absurd this (by decide)
    have hp : ([45] : List UInt8).isPrefixOf (c :: (l ++ 45 :: r)) = false := by simp [List.isPrefixOf, Ne.symm hc]
    rw [List.cons_append, Lib.index, hp, ih (fun b hb => h b (by simp [hb]))]
    have h1 : (((l.length : Nat) : Int) == -1) = false := by rw [beq_eq_false_iff_ne]; omega
    simp [h1]
theorem index_none (l : List UInt8) (h : ∀ b ∈ l, Dec.isDig b = true) : Lib.index l [45] = -1 := by
  induction l with
  | nil => simp [Lib.index]
  | cons c l ih =>
    have hc : c ≠ 45 := by
      intro e
      have := h c (by simp)
      rw [e] at this
      exact absurd this (by decide)
    have hp : ([45] : List UInt8).isPrefixOf (c :: l) = false := by simp [List.isPrefixOf, Ne.symm hc]
    rw [Lib.index, hp, ih (fun b hb => h b (by simp [hb]))]
    simp
theorem cut_range (p : Nat × Nat) : Lib.cut (rangeT p) [45] = if p.1 < p.2 then (Lib.decDigits p.1, Lib.decDigits p.2, true) else (Lib.decDigits p.1, [], false) := by
  have hd := List.all_eq_true.1 (Dec.all_decDigits p.1)
  unfold rangeT Lib.cut
  split
  · rw [index_dig _ _ hd, if_pos (by omega)]
    simp
  · rw [List.append_nil, index_none _ hd, if_neg (by omega)]
def pieceV (l : List UInt8) : Int × Int := (numS (Lib.cut l [45]).1, numS (if (Lib.cut l [45]).2.2 then (Lib.cut l [45]).2.1 else (Lib.cut l [45]).1))
def readS (l : List UInt8) : List (Int × Int) := (Lib.fieldsD l).map pieceV
def intR (rs : List (Nat × Nat)) : List (Int × Int) := rs.map fun p => ((p.1 : Int), (p.2 : Int))
theorem piece_range {p : Nat × Nat} (h1 : p.1 ≤ p.2) (h2 : p.2 < 16384) : pieceV (rangeT p) = ((p.1 : Int), (p.2 : Int)) := by
  unfold pieceV
  rw [cut_range]
  split
  · simp only [if_true]; rw [numS_dec (by omega), numS_dec h2]
  · simp only [Bool.false_eq_true, if_false]
    rw [numS_dec (by omega), show p.2 = p.1 by omega]
theorem readS_print (rs : List (Nat × Nat)) (h : ∀ p ∈ rs, p.1 ≤ p.2 ∧ p.2 < 16384) : readS (printV rs) = intR rs := by
  unfold readS intR
  rw [fieldsD_print, List.map_map]
  exact List.map_congr_left fun p hp => piece_range (h p hp).1 (h p hp).2
end Go.Proofs.YtgdcnenlelckhaaGreatDoor.SlS

namespace Go.Proofs.YtgdcnenlelckhaaGreatDoor.SlT
open Go Go.Proofs.YtgdcnenlelckhaaGreatDoor Go.Proofs.YtgdcnenlelckhaaGreatDoor.SlS

def okR (l : List (Int × Int)) : Bool := l.all fun r => decide (0 ≤ r.1) && decide (r.1 ≤ r.2) && decide (r.2 < 16384)
def setH (l : List (Int × Int)) (n : Nat) : Bool := l.any fun r => decide (r.1 ≤ (n : Int)) && decide ((n : Int) ≤ r.2)
def rngH (H : Nat → Bool) : List (Nat × Nat) := rangesV ((List.range 16384).filter H)
def printH (H : Nat → Bool) : List UInt8 := printV (rngH H)
theorem rngH_congr {H H' : Nat → Bool} (h : ∀ n, n < 16384 → H n = H' n) : rngH H = rngH H' := by
  have e : (List.range 16384).filter H = (List.range 16384).filter H' := List.filter_congr fun n hn => h n (List.mem_range.1 hn)
  unfold rngH
  rw [e]
theorem printH_congr {H H' : Nat → Bool} (h : ∀ n, n < 16384 → H n = H' n) : printH H = printH H' := by
  unfold printH
  rw [rngH_congr h]
theorem rngH_ord (H : Nat → Bool) : ∀ p ∈ rngH H, p.1 ≤ p.2 ∧ p.2 < 16384 := fun p hp => ordered H 16384 hp
theorem okR_intR {rs : List (Nat × Nat)} (h : ∀ p ∈ rs, p.1 ≤ p.2 ∧ p.2 < 16384) : okR (intR rs) = true := by
  unfold okR intR
  rw [List.all_eq_true]
  intro r hr
  obtain ⟨p, hp, rfl⟩ := List.mem_map.1 hr
  have := h p hp
  simp
  omega
theorem setH_intR (rs : List (Nat × Nat)) (n : Nat) : setH (intR rs) n = true ↔ ∃ r ∈ rs, r.1 ≤ n ∧ n ≤ r.2 := by
  unfold setH intR
  rw [List.any_map, List.any_eq_true]
  constructor
  · rintro ⟨p, hp, h⟩
    simp at h
    exact ⟨p, hp, h⟩
  · rintro ⟨p, hp, h⟩
    exact ⟨p, hp, by simp; exact h⟩
/-- the runs of what is there make it again -/
theorem setH_rng (H : Nat → Bool) {n : Nat} (hn : n < 16384) : setH (intR (rngH H)) n = H n := by
  rw [Bool.eq_iff_iff, setH_intR]
  exact (SlS.cover H 16384 hn).symm
/-- who reads what was written finds what was there -/
theorem read_back {rd : List UInt8 → Option (List (Int × Int))} (hrd : ∀ rs, (∀ p ∈ rs, p.1 ≤ p.2 ∧ p.2 < 16384) → rd (printV rs) = some (intR rs)) (H : Nat → Bool) :
    ∃ l, rd (printH H) = some l ∧ okR l = true ∧ ∀ n, n < 16384 → setH l n = H n :=
  ⟨_, hrd _ (rngH_ord H), okR_intR (rngH_ord H), fun _ hn => setH_rng H hn⟩
theorem readS_rd : ∀ rs, (∀ p ∈ rs, p.1 ≤ p.2 ∧ p.2 < 16384) → some (readS (printV rs)) = some (intR rs) := fun rs h => by rw [readS_print rs h]
/-- a text says one set of slots at most -/
theorem printH_inj {H H' : Nat → Bool} (h : printH H = printH H') {n : Nat} (hn : n < 16384) : H n = H' n := by
  obtain ⟨l, e, _, h1⟩ := read_back (rd := fun s => some (readS s)) readS_rd H
  obtain ⟨l', e', _, h1'⟩ := read_back (rd := fun s => some (readS s)) readS_rd H'
  rw [h] at e
  simp only [e] at e'
  cases e'
  rw [← h1 n hn, h1' n hn]
/-- a reader, the set of what it read, written again: just what is written is read -/
theorem read_iff {rd : List UInt8 → Option (List (Int × Int))} (hrd : ∀ rs, (∀ p ∈ rs, p.1 ≤ p.2 ∧ p.2 < 16384) → rd (printV rs) = some (intR rs)) (s : List UInt8) :
    (∃ H, printH H = s) ↔ ∃ l, rd s = some l ∧ okR l = true ∧ printH (setH l) = s := by
  constructor
  · rintro ⟨H, rfl⟩
    obtain ⟨l, e, h1, h2⟩ := read_back hrd H
    exact ⟨l, e, h1, printH_congr h2⟩
  · rintro ⟨l, _, _, h⟩
    exact ⟨_, h⟩
theorem printH_len (H : Nat → Bool) : (printH H).length ≤ 65390 := print_len H
theorem rng_len_le (H : Nat → Bool) : (rngH H).length ≤ 16384 := by
  have h1 := rangesV_le ((List.range 16384).filter H)
  have h2 := List.length_filter_le H (List.range 16384)
  rw [List.length_range] at h2
  unfold rngH
  omega

/-! ### the reference's reader -/
def digs : Nat → List UInt8 → Nat × List UInt8
  | n, [] => (n, [])
  | n, c :: r => if 48 ≤ c.toNat ∧ c.toNat ≤ 57 ∧ n < 100000 then digs (n * 10 + (c.toNat - 48)) r else (n, c :: r)
def setLast (l : List (Nat × Nat)) (n : Nat) : List (Nat × Nat) := match l.reverse with
  | [] => []
  | (a, _) :: r => ((a, n) :: r).reverse
def nextL (m : Bool) (l : List (Nat × Nat)) (n : Nat) : List (Nat × Nat) := if m && !l.isEmpty then setLast l n else l ++ [(n, n)]
def refRd : Nat → List UInt8 → Bool → List (Nat × Nat) → Option (List (Nat × Nat))
  | 0, _, _, l => some l
  | _ + 1, [], _, l => some l
  | k + 1, c :: r, m, l =>
    if (digs 0 (c :: r)).2.length = (c :: r).length then none
    else match (digs 0 (c :: r)).2 with
      | [] => some (nextL m l (digs 0 (c :: r)).1)
      | d :: q => refRd k q (decide (d = 45)) (nextL m l (digs 0 (c :: r)).1)
theorem setLast_snoc (l : List (Nat × Nat)) (a b n : Nat) : setLast (l ++ [(a, b)]) n = l ++ [(a, n)] := by
  unfold setLast; simp
theorem digs_le : ∀ (l : List UInt8) (n : Nat), (digs n l).2.length ≤ l.length
  | [], n => by simp [digs]
  | c :: r, n => by
    unfold digs
    split
    · have := digs_le r (n * 10 + (c.toNat - 48)); simp; omega
    · simp
def stops (l : List UInt8) : Prop := ∀ c r, l = c :: r → ¬ (48 ≤ c.toNat ∧ c.toNat ≤ 57)
theorem digs_word (l rest : List UInt8) (hs : stops rest) : ∀ (acc : Nat), l.all Dec.isDig = true → Dec.dv acc l < 100000 → digs acc (l ++ rest) = (Dec.dv acc l, rest) := by
  induction l with
  | nil =>
    intro acc _ _
    cases rest with
    | nil => rfl
    | cons c r =>
      have := hs c r rfl
      show digs acc (c :: r) = _
      rw [digs, if_neg (fun h => this ⟨h.1, h.2.1⟩)]
      rfl
  | cons c l ih =>
    intro acc hall hlt
    simp only [List.all_cons, Bool.and_eq_true, Dec.isDig, decide_eq_true_eq] at hall
    rw [Dec.dv_cons] at hlt
    have hu := Dec.dv_up l (acc * 10 + (c.toNat - 48))
    rw [List.cons_append, digs, if_pos ⟨hall.1.1, hall.1.2, by omega⟩, ih _ hall.2 hlt, Dec.dv_cons]
theorem digs_dec {n : Nat} (h : n < 16384) {rest : List UInt8} (hs : stops rest) : digs 0 (Lib.decDigits n ++ rest) = (n, rest) := by
  have e : Dec.dv 0 (Lib.decDigits n) = n := Dec.decVal_decDigits n
  rw [digs_word _ _ hs 0 (Dec.all_decDigits n) (by rw [e]; omega), e]
theorem refRd_word {n : Nat} (h : n < 16384) {rest : List UInt8} (hs : stops rest) (k : Nat) (m : Bool) (l : List (Nat × Nat)) :
    refRd (k + 1) (Lib.decDigits n ++ rest) m l = match (generalizing := false) rest with
      | [] => some (nextL m l n)
      | d :: q => refRd k q (decide (d = 45)) (nextL m l n) := by
  have hd := digs_dec h hs
  have hl : 0 < (Lib.decDigits n).length := List.length_pos_iff.2 (Dec.decDigits_ne_nil n)
  generalize hX : Lib.decDigits n ++ rest = X at *
  have hXl : X.length = (Lib.decDigits n).length + rest.length := by rw [← hX]; simp
  cases X with
  | nil => simp at hXl; omega
  | cons c r =>
    rw [refRd, hd]
    simp only
    rw [if_neg (by omega)]
theorem refRd_range {p : Nat × Nat} (h1 : p.1 ≤ p.2) (h2 : p.2 < 16384) (tl : List UInt8) (ht : tl = [] ∨ ∃ q, tl = 32 :: q) (k : Nat) (l : List (Nat × Nat)) :
    refRd (k + 2) (rangeT p ++ tl) false l = match (generalizing := false) tl with
      | [] => some (l ++ [p])
      | _ :: q => refRd (if p.1 < p.2 then k else k + 1) q false (l ++ [p]) := by
  have hstop : stops tl := by
    rcases ht with rfl | ⟨q, rfl⟩
    · intro c r e; cases e
    · intro c r e
      cases e
      decide
  obtain ⟨a, b⟩ := p
  simp only at h1 h2
  unfold rangeT
  by_cases hab : a < b
  · simp only [hab, if_true]
    rw [List.append_assoc, refRd_word (by omega) (by intro c r e; cases e; decide)]
    simp only [List.cons_append]
    simp only [decide_true]
    rw [refRd_word h2 hstop]
    have e1 : nextL false l a = l ++ [(a, a)] := rfl
    have e2 : nextL true (l ++ [(a, a)]) b = l ++ [(a, b)] := by
      unfold nextL
      rw [setLast_snoc]; simp
    rw [e1, e2]
    rcases ht with rfl | ⟨q, rfl⟩
    · rfl
    · rfl
  · simp only [hab, if_false, List.append_nil]
    rw [refRd_word (by omega) hstop]
    have e1 : nextL false l a = l ++ [(a, b)] := by
      have : a = b := by omega
      subst this; rfl
    rw [e1]
    rcases ht with rfl | ⟨q, rfl⟩
    · rfl
    · rfl
theorem refRd_join : ∀ (rs : List (Nat × Nat)) (p : Nat × Nat) (k : Nat) (l : List (Nat × Nat)), (∀ q ∈ p :: rs, q.1 ≤ q.2 ∧ q.2 < 16384) → 2 * rs.length + 2 ≤ k →
    refRd k (rangeT p ++ Lib.joinTail [32] (rs.map rangeT)) false l = some (l ++ p :: rs)
  | [], p, k, l, h, hk => by
    obtain ⟨k, rfl⟩ : ∃ j, k = j + 2 := ⟨k - 2, by simp at hk; omega⟩
    have hp := h p (by simp)
    rw [show Lib.joinTail [32] (([] : List (Nat × Nat)).map rangeT) = [] from rfl, refRd_range hp.1 hp.2 [] (Or.inl rfl)]
  | q :: rs, p, k, l, h, hk => by
    obtain ⟨k, rfl⟩ : ∃ j, k = j + 2 := ⟨k - 2, by simp at hk; omega⟩
    have hp := h p (by simp)
    have e : Lib.joinTail [32] ((q :: rs).map rangeT) = 32 :: (rangeT q ++ Lib.joinTail [32] (rs.map rangeT)) := by simp [Lib.joinTail]
    rw [e, refRd_range hp.1 hp.2 _ (Or.inr ⟨_, rfl⟩)]
    simp only
    rw [refRd_join rs q _ _ (fun x hx => h x (List.mem_cons_of_mem _ hx)) (by simp at hk; split <;> omega)]
    simp
theorem printV_len_ge : ∀ (rs : List (Nat × Nat)), rs ≠ [] → 2 * rs.length ≤ (printV rs).length + 1
  | [], h => absurd rfl h
  | p :: rs, _ => by
    unfold printV
    rw [List.map_cons, Lib.join_cons, List.length_append]
    have hp := List.length_pos_iff.2 (rangeT_ne p)
    have key : ∀ rs : List (Nat × Nat), 2 * rs.length ≤ (Lib.joinTail [32] (rs.map rangeT)).length := by
      intro rs
      induction rs with
      | nil => simp
      | cons q rs ih =>
        have e : Lib.joinTail [32] ((q :: rs).map rangeT) = 32 :: (rangeT q ++ Lib.joinTail [32] (rs.map rangeT)) := by simp [Lib.joinTail]
        have hq := List.length_pos_iff.2 (rangeT_ne q)
        rw [e]
        simp
        omega
    have := key rs
    simp only [List.length_cons]
    omega
def refReadN (s : List UInt8) : Option (List (Nat × Nat)) := refRd (s.length + 1) s false []
def refRead (s : List UInt8) : Option (List (Int × Int)) := (refReadN s).map intR
theorem refRead_print (rs : List (Nat × Nat)) (h : ∀ p ∈ rs, p.1 ≤ p.2 ∧ p.2 < 16384) : refRead (printV rs) = some (intR rs) := by
  unfold refRead refReadN
  cases rs with
  | nil => rfl
  | cons p rs =>
    have hl := printV_len_ge (p :: rs) (by simp)
    have e : printV (p :: rs) = rangeT p ++ Lib.joinTail [32] (rs.map rangeT) := by unfold printV; rw [List.map_cons, Lib.join_cons]
    simp only [List.length_cons] at hl
    rw [e] at hl ⊢
    rw [refRd_join rs p _ [] h (by omega)]
    rfl
end Go.Proofs.YtgdcnenlelckhaaGreatDoor.SlT

namespace Go.Proofs.YtgdcnenlelckhaaGreatDoor
open Go.RowKit Go.Proofs.YtgdcnenlelckhaaGreatDoorW.PrintWords
open SlT
/-- A slice of ranges reads as this list. -/
def RdR (w : World) (A : Option Addr) (l : List (Int × Int)) : Prop :=
  ∀ k p, l[k]? = some p → ∃ g o, A = some ⟨g, o, none⟩ ∧ g < w.heap.size ∧ w.cell? ⟨g, o + k * 2, none⟩ = some (.int .i64 p.1) ∧ w.cell? ⟨g, o + k * 2 + 1, none⟩ = some (.int .i64 p.2)
theorem RdR.below {w w' : World} {A : Option Addr} {l : List (Int × Int)} (h : RdR w A l) (hb : Below w.heap.size w w') : RdR w' A l := fun k p hk => by
  obtain ⟨g, o, e, hlt, h1, h2⟩ := h k p hk
  exact ⟨g, o, e, Nat.lt_of_lt_of_le hlt hb.size, (hb.cell (p := ⟨g, o + k * 2, none⟩) hlt).trans h1, (hb.cell (p := ⟨g, o + k * 2 + 1, none⟩) hlt).trans h2⟩
theorem zero_words : Words Tryz.zeroCells43 (fun _ => 0) := by
  have e : Tryz.zeroCells43 = Array.replicate 256 (.int .u64 0) := by kernel_rfl
  rw [e]
  refine ⟨by simp, fun i hi => ?_, fun i => by decide⟩
  rw [Array.getElem?_replicate, if_pos hi]; rfl
def orW (f : Nat → Nat) (n : Nat) : Nat → Nat := fun w => if w = n / 64 then f w ||| 2 ^ (n % 64) else f w
theorem orW_lt {f : Nat → Nat} (h : ∀ i, f i < 18446744073709551616) (n : Nat) : f (n / 64) ||| 2 ^ (n % 64) < 18446744073709551616 := by
  have := Nat.or_lt_two_pow (n := 64) (by simpa using h (n / 64)) (by simpa using pow_lt64 (k := n % 64) (by omega))
  simpa using this
theorem hasN_orW (f : Nat → Nat) (n x : Nat) : hasN (orW f n) x = (hasN f x || decide (x = n)) := by
  unfold hasN orW
  split
  · rename_i h
    rw [Nat.testBit_or, Nat.testBit_two_pow]
    congr 1
    exact decide_eq_decide.2 ⟨fun e => by omega, fun e => by omega⟩
  · rename_i h
    have : decide (x = n) = false := decide_eq_false (fun e => h (by rw [e]))
    rw [this, Bool.or_false]
theorem words_or {a : Array Value} {f : Nat → Nat} (ha : Words a f) {k : Nat} (hk : k < 16384) : Words (a.setIfInBounds (k / 64) (.int .u64 ((f (k / 64) ||| 2 ^ (k % 64) : Nat) : Int))) (orW f k) := by
  have := ha.set (k / 64) (by omega) _ (orW_lt ha.lt k)
  have e : (fun w => if w = k / 64 then f (k / 64) ||| 2 ^ (k % 64) else f w) = orW f k := by
    funext w; unfold orW
    by_cases hw : w = k / 64
    · subst hw; simp
    · rw [if_neg hw, if_neg hw]
  rw [e] at this
  exact this
def MkPost (w : World) (l : List (Int × Int)) (e : Ending) (w' : World) : Prop :=
  (if okR l then ∃ a f, e = .returned (.tuple #[.agg a, .int .i64 0]) ∧ Words a f ∧ ∀ n, n < 16384 → hasN f n = setH l n else e = .returned (.tuple #[.agg Tryz.zeroCells43, .int .i64 20])) ∧ Below w.heap.size w w'
def okP (r : Int × Int) : Bool := decide (0 ≤ r.1) && decide (r.1 ≤ r.2) && decide (r.2 < 16384)
theorem okR_take (l : List (Int × Int)) (k : Nat) (p : Int × Int) (h : l[k]? = some p) : okR (l.take (k + 1)) = (okR (l.take k) && okP p) := by
  rw [List.take_add_one, h]; simp [okR, okP]
theorem setH_take (l : List (Int × Int)) (k : Nat) (p : Int × Int) (h : l[k]? = some p) (n : Nat) : setH (l.take (k + 1)) n = (setH (l.take k) n || (decide (p.1 ≤ (n : Int)) && decide ((n : Int) ≤ p.2))) := by
  rw [List.take_add_one, h]; simp [setH]
theorem okR_not {l : List (Int × Int)} {k : Nat} {p : Int × Int} (h : l[k]? = some p) (hp : okP p = false) : okR l = false := by
  cases e : okR l with
  | false => rfl
  | true =>
    unfold okR at e
    rw [List.all_eq_true] at e
    have := e p (List.mem_of_getElem? h)
    unfold okP at hp
    rw [hp] at this
    cases this
theorem results_cell_row2 {P : Program} {fn : Func} {p q : Tmp} {ty : TypeId} (h : fn.results = #[.cell p ty, .tmp q]) (tmps : Array Value) (w : World) (g : Nat) (t : TypeId) (cs : Array Value) (fr : Nat × Nat) (d : TypeDesc) (v : Value)
    (hp : tmps.getD p undef = .pointer (some ⟨g, 0, none⟩)) (hq : tmps.getD q undef = v) (hg : w.heap[g]? = some (.cells cs t fr))
    (hu : P.underlying ty = some d) (hd : (match d with | .struct _ | .array _ _ => true | _ => false) = true) (hi : (P.info? ty).map (·.size) = some cs.size) :
    (results fn tmps).run P w = .ok (.tuple #[.agg cs, v]) w := by
  have hp' : tmps[p]?.getD undef = .pointer (some ⟨g, 0, none⟩) := by simpa using hp
  have hq' : tmps[q]?.getD undef = v := by simpa using hq
  simp [results, h, hp', hq', asAddr, run_loadVar_row w g t ty cs fr d hg hu hd hi]
set_option maxHeartbeats 4000000 in
set_option maxRecDepth 100000 in
theorem Make_calls (l : List (Int × Int)) (A : Option Addr) (c : Nat) (hlen : l.length ≤ 9223372036854775806) (w : World) (hR : RdR w A l) : Calls Tryz.prog 77 #[.slice A l.length c] w (MkPost w l) := by
  go_enter Tryz.func77, Tryz.ntmps77
  go_wp2_with fail
  go_loopw [6, 7, 10] (fun _ _ i wr => ∃ (k : Nat) (a : Array Value) (f : Nat → Nat), k ≤ l.length ∧ i = .int .i64 k ∧ Words a f ∧ (∀ n, n < 16384 → hasN f n = setH (l.take k) n) ∧ okR (l.take k) = true ∧ Below w.heap.size w wr ∧
      wr.heap[w.heap.size]? = some (.cells Tryz.zeroCells43 43 (0, 0)) ∧ wr.heap[w.heap.size + 1]? = some (.cells a 43 (0, 0)) ∧ w.heap.size + 1 < wr.heap.size) (fun _ _ i _ => l.length - (intOf i).toNat)
  case atStart => exact ⟨0, _, _, by omega, rfl, zero_words, fun n _ => by simp [setH, hasN], rfl, below_alloc (below_new' _ _) _, heap0 w _ _, heap1 w _ _, by simp⟩
  case round =>
    obtain ⟨k, a, f, hk, rfl, ha, hf, hok, hb, h0, h1, hlt⟩ := hrel
    by_cases hkl : k < l.length
    · obtain ⟨p, hp⟩ : ∃ p, l[k]? = some p := ⟨l[k], List.getElem?_eq_getElem hkl⟩
      obtain ⟨g, o, rfl, hg, c1, c2⟩ := hR k p hp
      have c1 := (hb.cell (p := ⟨g, o + k * 2, none⟩) hg).trans c1
      have c2 := (hb.cell (p := ⟨g, o + k * 2 + 1, none⟩) hg).trans c2
      obtain ⟨p1, p2⟩ := p
      have hgo : decide ((k : Int) < (l.length : Int)) = true := decide_eq_true (by omega)
      simp only at c1 c2
      clear hR
      have hf := Lib.hid hf
      have h0' : ∀ o : Obj, (wr.alloc o).heap[w.heap.size]? = some (.cells Tryz.zeroCells43 43 (0, 0)) := fun o => ((below_new' wr o).block _ (by omega)).trans h0
      have h1' : ∀ o : Obj, (wr.alloc o).heap[w.heap.size + 1]? = some (.cells a 43 (0, 0)) := fun o => ((below_new' wr o).block _ (by omega)).trans h1
      have hb' : ∀ o : Obj, Below w.heap.size w (wr.alloc o) := fun o => hb.trans ((below_new' wr o).mono hb.size)
      by_cases hbad : p1 < 0 ∨ p2 < p1 ∨ 16384 ≤ p2
      · have hpB : okP (p1, p2) = false := by unfold okP; simp only [Bool.and_eq_false_iff, decide_eq_false_iff_not]; omega
        have hres := Lib.hid (okR_not hp hpB)
        clear hpB
        have hiZ : (Tryz.prog.info? 43).map (·.size) = some Tryz.zeroCells43.size := by rw [zero_size]; exact info30
        have hz1 := zero_words.one
        have done : ∀ (o : Obj), MkPost w l (.returned (.tuple #[.agg Tryz.zeroCells43, .int .i64 20])) ((wr.alloc o).setRow w.heap.size Tryz.zeroCells43) := fun o => by
          unfold MkPost
          rw [hres.out, if_neg (by decide)]
          exact ⟨rfl, below_setRow (hb' o) (Nat.le_refl _) _⟩
        have hb3 : p1 < 0 ∨ (¬ p1 < 0 ∧ p2 < p1) ∨ (¬ p1 < 0 ∧ ¬ p2 < p1 ∧ 16384 ≤ p2) := by omega
        clear hbad
        rcases hb3 with hb1 | ⟨hb1, hb2⟩ | ⟨hb1, hb2, hb4⟩
        all_goals
          go_wp2_with (refine wpList_store_row rfl 43 _ _ rfl (w.heap.size) Tryz.zeroCells43 rfl rfl 43 Tryz.zeroCells43 (h0' _) hiZ rfl hz1 ?_)
          refine bodyPost_ret (v := .tuple #[.agg Tryz.zeroCells43, .int .i64 20]) (results_cell_row2 Tryz.results77 _ _ w.heap.size 43 Tryz.zeroCells43 (0, 0) _ _ rfl rfl (setRow_heap _ _ _ _ _ _ (h0' _)) Tryz.underlying43 rfl hiZ) rfl (done _)
      · obtain ⟨q1, rfl⟩ : ∃ q : Nat, p1 = q := ⟨p1.toNat, by omega⟩
        obtain ⟨q2, rfl⟩ : ∃ q : Nat, p2 = q := ⟨p2.toNat, by omega⟩
        have hq12 : q1 ≤ q2 := by omega
        have hq2 : q2 < 16384 := by omega
        have t1 : ¬ (q1 : Int) < 0 := by omega
        have t2 : ¬ (q2 : Int) < (q1 : Int) := by omega
        have t3 : ¬ (16384 : Int) ≤ (q2 : Int) := by omega
        have hokn : okR (l.take (k + 1)) = true := by
          rw [okR_take l k _ hp, hok]
          unfold okP
          simp only [Bool.true_and, Bool.and_eq_true, decide_eq_true_eq]
          omega
        have hsn := setH_take l k _ hp
        simp only [Int.ofNat_le] at hsn
        have hokn := Lib.hid hokn
        have hsn := Lib.hid hsn
        obtain ⟨wo, rfl⟩ : ∃ wo : World, wo = wr := ⟨_, rfl⟩
        have hbad := Lib.hid hbad
        have hh0 := h0' (.cells #[.int .i64 (q1 : Int), .int .i64 (q2 : Int)] 117)
        have hh1 := h1' (.cells #[.int .i64 (q1 : Int), .int .i64 (q2 : Int)] 117)
        have hhb := hb' (.cells #[.int .i64 (q1 : Int), .int .i64 (q2 : Int)] 117)
        have hhl : wo.heap.size + 1 ≤ (wo.alloc (.cells #[.int .i64 (q1 : Int), .int .i64 (q2 : Int)] 117)).heap.size := by simp
        have d1 : (wo.alloc (.cells #[.int .i64 (q1 : Int), .int .i64 (q2 : Int)] 117)).cell? ⟨wo.heap.size, 0, none⟩ = some (.int .i64 (q1 : Int)) := by simp [go_sem]
        have d2 : (wo.alloc (.cells #[.int .i64 (q1 : Int), .int .i64 (q2 : Int)] 117)).cell? ⟨wo.heap.size, 1, none⟩ = some (.int .i64 (q2 : Int)) := by simp [go_sem]
        clear h0' h1' hb'
        go_wp2_with fail
        go_loopw [7] (fun s7 wr => ∃ (x : Nat) (a' : Array Value) (f' : Nat → Nat), q1 ≤ x ∧ x ≤ q2 + 1 ∧ s7 = .int .i64 x ∧ Words a' f' ∧ (∀ n, n < 16384 → hasN f' n = (setH (l.take k) n || (decide (q1 ≤ n) && decide (n < x)))) ∧ Below w.heap.size w wr ∧
          wr.heap[w.heap.size]? = some (.cells Tryz.zeroCells43 43 (0, 0)) ∧ wr.heap[w.heap.size + 1]? = some (.cells a' 43 (0, 0)) ∧ wo.heap.size + 1 ≤ wr.heap.size ∧ wr.cell? ⟨wo.heap.size, 1, none⟩ = some (.int .i64 (q2 : Int))) (fun s7 _ => 16384 - (intOf s7).toNat)
        case atStart => exact ⟨q1, a, f, by omega, by omega, rfl, ha, fun n hn => by rw [hf.out n hn]; (have : (decide (q1 ≤ n) && decide (n < q1)) = false := by rw [Bool.and_eq_false_iff, decide_eq_false_iff_not, decide_eq_false_iff_not]; omega); rw [this, Bool.or_false], hhb, hh0, hh1, hhl, d2⟩
        case round =>
          clear d1 d2 hhl hhb hh0 hh1
          obtain ⟨x, a', f', hx1, hx2, rfl, ha', hf', hb', h0', h1', hl', d2⟩ := hrel
          by_cases hxq : x ≤ q2
          · have c4 : wr.cell? ⟨w.heap.size + 1, x / 64, none⟩ = some (.int .u64 (f' (x / 64))) := by
              rw [cell_of_row wr _ (x / 64) a' 43 (0, 0) h1']; exact ha'.get (x / 64) (by omega)
            have c5 : wr.frozen? ⟨w.heap.size + 1, x / 64, none⟩ = false := by simp [World.frozen?, h1']
            have hw := words_or ha' (k := x) (by omega)
            have hO : bits .or .u64 (f' (x / 64) : Int) (2 ^ (x % 64)) = ((f' (x / 64) ||| 2 ^ (x % 64) : Nat) : Int) := by
              have := or64 (f' (x / 64)) (2 ^ (x % 64)) (ha'.lt _) (pow_lt64 (by omega))
              rw [Int.natCast_pow] at this
              exact this
            have hwp := wrap_pow (k := x % 64) (by omega)
            have hgo2 : decide ((x : Int) ≤ (q2 : Int)) = true := decide_eq_true (by omega)
            have hh := Lib.hid (fun n => hasN_orW f' x n)
            generalize hF : orW f' x = F at *
            generalize f' (x / 64) ||| 2 ^ (x % 64) = D at *
            have hf' := Lib.hid hf'
            have hxb : x < 16384 := by omega
            go_wp2_with fail
            go_region
            go_wp2_with fail
            have G1 := heap_setCell_same wr (w.heap.size + 1) (x / 64) a' 43 (.int .u64 (D : Int)) h1'
            have G0 := (heap_setCell_other wr ⟨w.heap.size + 1, x / 64, none⟩ w.heap.size (.int .u64 (D : Int)) (by simp)).trans h0'
            have G2 := (World.cell?_of_block (a := ⟨wo.heap.size, 1, none⟩) (heap_setCell_other wr ⟨w.heap.size + 1, x / 64, none⟩ wo.heap.size (.int .u64 (D : Int)) (by simp; omega))).trans d2
            refine ⟨⟨x + 1, _, F, by omega, by omega, by go_num, hw, fun n hn => ?_, below_drew (below_set hb' (Nat.le_succ _)), G0, G1, by simpa using hl', G2⟩, by simp [intOf]; omega⟩
            rw [hh.out n, hf'.out n hn, Bool.or_assoc]
            congr 1
            rw [Bool.eq_iff_iff]
            simp only [Bool.or_eq_true, Bool.and_eq_true, decide_eq_true_eq]
            omega
          · obtain rfl : x = q2 + 1 := by omega
            have hgo2 : decide (((q2 + 1 : Nat) : Int) ≤ (q2 : Int)) = false := decide_eq_false (by omega)
            go_wp2_with fail
            case roundEnd =>
              refine ⟨⟨k + 1, a', f', by omega, by go_num, ha', fun n hn => ?_, hokn.out, hb', h0', h1', by omega⟩, by simp [intOf]; omega⟩
              rw [hsn.out n, hf' n hn]
              congr 1
              rw [Bool.eq_iff_iff]
              simp only [Bool.and_eq_true, decide_eq_true_eq]
              omega
    · obtain rfl : k = l.length := by omega
      have hi : (Tryz.prog.info? 43).map (·.size) = some a.size := by rw [ha.size]; exact info30
      have hZ : Tryz.zeroCells43.size = a.size := by rw [ha.size]; exact zero_size
      have ho := ha.one
      have hf := Lib.hid hf
      clear hR
      rw [List.take_of_length_le (Nat.le_refl _)] at hok
      go_wp2_with (first | (refine wpList_load_row rfl 43 _ rfl (w.heap.size + 1) rfl 43 a (0, 0) _ h1 Tryz.underlying43 rfl hi ?_) | (refine wpList_store_row rfl 43 _ _ rfl (w.heap.size) a rfl rfl 43 Tryz.zeroCells43 h0 hi hZ ho ?_))
      refine bodyPost_ret (v := .tuple #[.agg a, .int .i64 0]) (results_cell_row2 Tryz.results77 _ _ w.heap.size 43 a (0, 0) _ _ rfl rfl (setRow_heap _ _ _ _ _ _ h0) Tryz.underlying43 rfl hi) rfl ?_
      unfold MkPost
      rw [hok, if_pos rfl]
      exact ⟨⟨a, f, rfl, ha, fun n hn => by rw [hf.out n hn, List.take_of_length_le (Nat.le_refl _)]⟩, below_setRow hb (Nat.le_refl _) _⟩
end Go.Proofs.YtgdcnenlelckhaaGreatDoor

namespace Go.Proofs.YtgdcnenlelckhaaGreatDoor
open Go.RowKit Go.Proofs.YtgdcnenlelckhaaGreatDoorW.PrintWords
open SlT
theorem hasN_withW {f : Nat → Nat} (h : ∀ i, f i < 18446744073709551616) (n x : Nat) : hasN (withW f n true) x = (hasN f x || decide (x = n)) := by
  unfold hasN withW
  split
  · rename_i e
    rw [if_pos rfl, bset_bit (h _) (by omega)]
    congr 1
    exact decide_eq_decide.2 ⟨fun e => by omega, fun e => by omega⟩
  · rename_i e
    have : decide (x = n) = false := decide_eq_false (fun h => e (by rw [h]))
    rw [this, Bool.or_false]
set_option maxHeartbeats 4000000 in
set_option maxRecDepth 100000 in
theorem refMake_calls (l : List (Int × Int)) (A : Option Addr) (c : Nat) (hlen : l.length ≤ 9223372036854775806) (w : World) (hR : RdR w A l) : Calls Tryz.prog 67 #[.slice A l.length c] w (MkPost w l) := by
  go_enter Tryz.func67, Tryz.ntmps67
  go_wp2_with fail
  go_loopw [5, 6] (fun i _ wr => ∃ (k : Nat) (a : Array Value) (f : Nat → Nat), k ≤ l.length ∧ i = .int .i64 k ∧ Words a f ∧ (∀ n, n < 16384 → hasN f n = setH (l.take k) n) ∧ okR (l.take k) = true ∧ Below w.heap.size w wr ∧
      wr.heap[w.heap.size]? = some (.cells Tryz.zeroCells43 43 (0, 0)) ∧ wr.heap[w.heap.size + 1]? = some (.cells a 43 (0, 0)) ∧ w.heap.size + 1 < wr.heap.size) (fun i _ _ => l.length - (intOf i).toNat)
  case atStart => exact ⟨0, _, _, by omega, rfl, zero_words, fun n _ => by simp [setH, hasN], rfl, below_alloc (below_new' _ _) _, heap0 w _ _, heap1 w _ _, by simp⟩
  case round =>
    obtain ⟨k, a, f, hk, rfl, ha, hf, hok, hb, h0, h1, hlt⟩ := hrel
    by_cases hkl : k < l.length
    · obtain ⟨p, hp⟩ : ∃ p, l[k]? = some p := ⟨l[k], List.getElem?_eq_getElem hkl⟩
      obtain ⟨g, o, rfl, hg, c1, c2⟩ := hR k p hp
      have c1 := (hb.cell (p := ⟨g, o + k * 2, none⟩) hg).trans c1
      have c2 := (hb.cell (p := ⟨g, o + k * 2 + 1, none⟩) hg).trans c2
      obtain ⟨p1, p2⟩ := p
      have hgo : decide ((k : Int) < (l.length : Int)) = true := decide_eq_true (by omega)
      simp only at c1 c2
      clear hR
      have hf := Lib.hid hf
      have h0' : ∀ n, (wr.drewN n).heap[w.heap.size]? = some (.cells Tryz.zeroCells43 43 (0, 0)) := fun n => h0
      have h1' : ∀ n, (wr.drewN n).heap[w.heap.size + 1]? = some (.cells a 43 (0, 0)) := fun n => h1
      have hb' : ∀ n, Below w.heap.size w (wr.drewN n) := fun n => below_drewN hb n
      have k0 : (0 : Int) ≤ (k : Int) := by omega
      have k1 : (k : Int) < (l.length : Int) := by omega
      by_cases hbad : p1 < 0 ∨ p2 < p1 ∨ 16384 ≤ p2
      · have hpB : okP (p1, p2) = false := by unfold okP; simp only [Bool.and_eq_false_iff, decide_eq_false_iff_not]; omega
        have hres := Lib.hid (okR_not hp hpB)
        clear hpB
        have hiZ : (Tryz.prog.info? 43).map (·.size) = some Tryz.zeroCells43.size := by rw [zero_size]; exact info30
        have hz1 := zero_words.one
        have done : ∀ n, MkPost w l (.returned (.tuple #[.agg Tryz.zeroCells43, .int .i64 20])) ((wr.drewN n).setRow w.heap.size Tryz.zeroCells43) := fun o => by
          unfold MkPost
          rw [hres.out, if_neg (by decide)]
          exact ⟨rfl, below_setRow (hb' o) (Nat.le_refl _) _⟩
        have hb3 : decide (p1 < 0) = true ∨ (decide (p1 < 0) = false ∧ decide (p2 < p1) = true) ∨ (decide (p1 < 0) = false ∧ decide (p2 < p1) = false ∧ decide (16383 < p2) = true) := by
          simp only [decide_eq_true_eq, decide_eq_false_iff_not]; omega
        clear hbad
        rcases hb3 with hb1 | ⟨hb1, hb2⟩ | ⟨hb1, hb2, hb4⟩
        all_goals
          go_wp2_with fail
          go_quiet (fail)
          go_wp2_with (refine wpList_store_row rfl 43 _ _ rfl (w.heap.size) Tryz.zeroCells43 rfl rfl 43 Tryz.zeroCells43 (h0' _) hiZ rfl hz1 ?_)
          refine bodyPost_ret (v := .tuple #[.agg Tryz.zeroCells43, .int .i64 20]) (results_cell_row2 Tryz.results67 _ _ w.heap.size 43 Tryz.zeroCells43 (0, 0) _ _ rfl rfl (setRow_heap _ _ _ _ _ _ (h0' _)) Tryz.underlying43 rfl hiZ) rfl (done _)
      · obtain ⟨q1, rfl⟩ : ∃ q : Nat, p1 = q := ⟨p1.toNat, by omega⟩
        obtain ⟨q2, rfl⟩ : ∃ q : Nat, p2 = q := ⟨p2.toNat, by omega⟩
        have hq12 : q1 ≤ q2 := by omega
        have hq2 : q2 < 16384 := by omega
        have t1 : decide ((q1 : Int) < 0) = false := decide_eq_false (by omega)
        have t2 : decide ((q2 : Int) < (q1 : Int)) = false := decide_eq_false (by omega)
        have t2n : decide (q2 < q1) = false := decide_eq_false (by omega)
        have t3 : decide ((16383 : Int) < (q2 : Int)) = false := decide_eq_false (by omega)
        have hokn : okR (l.take (k + 1)) = true := by
          rw [okR_take l k _ hp, hok]
          unfold okP
          simp only [Bool.true_and, Bool.and_eq_true, decide_eq_true_eq]
          omega
        have hsn := setH_take l k _ hp
        simp only [Int.ofNat_le] at hsn
        have hokn := Lib.hid hokn
        have hsn := Lib.hid hsn
        obtain ⟨wo, rfl⟩ : ∃ wo : World, wo = wr := ⟨_, rfl⟩
        clear hbad
        go_wp2_with fail
        go_quiet (fail)
        have c1' : (wo.drewN nq).cell? ⟨g, o + k * 2, none⟩ = some (.int .i64 (q1 : Int)) := c1
        have c2' : (wo.drewN nq).cell? ⟨g, o + k * 2 + 1, none⟩ = some (.int .i64 (q2 : Int)) := c2
        have hh0 := h0' nq
        have hh1 := h1' nq
        have hhb := hb' nq
        have hhl : wo.heap.size ≤ (wo.drewN nq).heap.size := Nat.le_refl _
        generalize wo.drewN nq = wz at *
        clear h0' h1' hb' c1 c2
        go_wp2_with fail
        go_loopw [6] (fun s7 wr => ∃ (x : Nat) (a' : Array Value) (f' : Nat → Nat), q1 ≤ x ∧ x ≤ q2 + 1 ∧ s7 = .int .i64 x ∧ Words a' f' ∧ (∀ n, n < 16384 → hasN f' n = (setH (l.take k) n || (decide (q1 ≤ n) && decide (n < x)))) ∧ Below w.heap.size w wr ∧
          wr.heap[w.heap.size]? = some (.cells Tryz.zeroCells43 43 (0, 0)) ∧ wr.heap[w.heap.size + 1]? = some (.cells a' 43 (0, 0)) ∧ wo.heap.size ≤ wr.heap.size ∧ wr.cell? ⟨g, o + k * 2 + 1, none⟩ = some (.int .i64 (q2 : Int))) (fun s7 _ => 16384 - (intOf s7).toNat)
        case atStart => exact ⟨q1, a, f, by omega, by omega, rfl, ha, fun n hn => by rw [hf.out n hn]; (have : (decide (q1 ≤ n) && decide (n < q1)) = false := by rw [Bool.and_eq_false_iff, decide_eq_false_iff_not, decide_eq_false_iff_not]; omega); rw [this, Bool.or_false], hhb, hh0, hh1, hhl, c2'⟩
        case round =>
          clear c1' c2' hhl hhb hh0 hh1
          obtain ⟨x, a', f', hx1, hx2, rfl, ha', hf', hb', h0', h1', hl', d2⟩ := hrel
          by_cases hxq : x ≤ q2
          · have hgo2 : decide ((x : Int) ≤ (q2 : Int)) = true := decide_eq_true (by omega)
            have hW := fun W => refWith_calls a' f' ha' x true W
            simp only [show (0 : Int) ≤ (x : Int) ∧ (x : Int) < 16384 from by omega, and_self, if_true, Int.toNat_natCast] at hW
            have hh := Lib.hid (fun n => hasN_withW ha'.lt x n)
            generalize hF : withW f' x true = F at *
            have hf' := Lib.hid hf'
            have hiA : (Tryz.prog.info? 43).map (·.size) = some a'.size := by rw [ha'.size]; exact info30
            go_wp2_with (refine wpList_load_row rfl 43 _ rfl (w.heap.size + 1) rfl 43 a' (0, 0) _ h1' Tryz.underlying43 rfl hiA ?_)
            refine (hW _).mono ?_
            rintro e w2 ⟨a2, rfl, ha2, hb2⟩
            have hlt0 : w.heap.size + 1 < wr.heap.size := by omega
            have g0 := (hb2.block _ (by omega : w.heap.size < wr.heap.size)).trans h0'
            have g1 := (hb2.block _ hlt0).trans h1'
            have hbw2 := hb'.trans (hb2.mono (by omega))
            have hgl : g < wr.heap.size := by omega
            have d3 := (hb2.cell (p := ⟨g, o + k * 2 + 1, none⟩) hgl).trans d2
            have hl2 : wo.heap.size ≤ w2.heap.size := Nat.le_trans hl' hb2.size
            have hi2 : (Tryz.prog.info? 43).map (·.size) = some a2.size := by rw [ha2.size]; exact info30
            have hZ2 : a'.size = a2.size := by rw [ha2.size]; exact ha'.size
            have ho2 := ha2.one
            clear hb2 h0' h1' hb' d2 hW
            go_wp2_with (refine wpList_store_row rfl 43 _ _ rfl (w.heap.size + 1) a2 rfl rfl 43 a' g1 hi2 hZ2 ho2 ?_)
            have G1 := setRow_heap _ _ _ a2 _ _ g1
            have G0 := (setRow_other w2 (w.heap.size + 1) w.heap.size a2 (by omega)).trans g0
            have G2 := (World.cell?_of_block (a := ⟨g, o + k * 2 + 1, none⟩) (setRow_other w2 (w.heap.size + 1) g a2 (by simp; omega))).trans d3
            refine ⟨⟨x + 1, _, F, by omega, by omega, by go_num, ha2, fun n hn => ?_, below_setRow hbw2 (Nat.le_succ _) _, G0, G1, by simpa [World.setRow] using hl2, G2⟩, by simp [intOf]; omega⟩
            rw [hh.out n, hf'.out n hn, Bool.or_assoc]
            congr 1
            rw [Bool.eq_iff_iff]
            simp only [Bool.or_eq_true, Bool.and_eq_true, decide_eq_true_eq]
            omega
          · obtain rfl : x = q2 + 1 := by omega
            have hgo2 : decide (((q2 + 1 : Nat) : Int) ≤ (q2 : Int)) = false := decide_eq_false (by omega)
            go_wp2_with fail
            case roundEnd =>
              refine ⟨⟨k + 1, a', f', by omega, by go_num, ha', fun n hn => ?_, hokn.out, hb', h0', h1', by omega⟩, by simp [intOf]; omega⟩
              rw [hsn.out n, hf' n hn]
              congr 1
              rw [Bool.eq_iff_iff]
              simp only [Bool.and_eq_true, decide_eq_true_eq]
              omega
    · obtain rfl : k = l.length := by omega
      have hi : (Tryz.prog.info? 43).map (·.size) = some a.size := by rw [ha.size]; exact info30
      have hZ : Tryz.zeroCells43.size = a.size := by rw [ha.size]; exact zero_size
      have ho := ha.one
      have hf := Lib.hid hf
      clear hR
      rw [List.take_of_length_le (Nat.le_refl _)] at hok
      go_wp2_with (first | (refine wpList_load_row rfl 43 _ rfl (w.heap.size + 1) rfl 43 a (0, 0) _ h1 Tryz.underlying43 rfl hi ?_) | (refine wpList_store_row rfl 43 _ _ rfl (w.heap.size) a rfl rfl 43 Tryz.zeroCells43 h0 hi hZ ho ?_))
      refine bodyPost_ret (v := .tuple #[.agg a, .int .i64 0]) (results_cell_row2 Tryz.results67 _ _ w.heap.size 43 a (0, 0) _ _ rfl rfl (setRow_heap _ _ _ _ _ _ h0) Tryz.underlying43 rfl hi) rfl ?_
      unfold MkPost
      rw [hok, if_pos rfl]
      exact ⟨⟨a, f, rfl, ha, fun n hn => by rw [hf.out n hn, List.take_of_length_le (Nat.le_refl _)]⟩, below_setRow hb (Nat.le_refl _) _⟩
end Go.Proofs.YtgdcnenlelckhaaGreatDoor
