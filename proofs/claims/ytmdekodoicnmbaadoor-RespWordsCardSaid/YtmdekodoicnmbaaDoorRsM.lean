/- The document's command is the same text. Conditions: texts within the machine's reach. -/
import Derived.Test.YtmdekodoicnmbaaDoorRsL
import Derived.Test.YtmdekodoicnmbaaDoorRRpx1
set_option linter.unusedVariables false
set_option linter.unusedSimpArgs false
namespace Go.Proofs.YtmdekodoicnmbaaDoor
open Go.RowKit Go.Proofs.YtmdekodoicnmbaaDoorW.PrintWords
theorem w64 {x : Int} (h1 : -9223372036854775808 ≤ x) (h2 : x ≤ 9223372036854775807) : Go.RowKit.wrap64 x = x := by
  unfold Go.RowKit.wrap64; omega
theorem digits_eq : ∀ (d n : Nat), n < 10 ^ (d + 1) → n < 9223372036854775000 → RRp.marshalyardref03_digits.f (d + 1) (n : Int) = some ⟨(Lib.decDigits n).toArray⟩
  | d, n, h, hb => by
    by_cases h10 : n < 10
    · rw [RRp.marshalyardref03_digits.f, if_pos (by omega), w64 (by omega) (by omega)]
      have e : (48 + (n : Int)) % 256 = ((48 + n : Nat) : Int) := by omega
      rw [e, Lib.decDigits, dif_pos h10]
      rfl
    · match d, h with
      | 0, h => exact absurd (by simpa using h) h10
      | d + 1, h =>
        have hq : Int.tdiv (n : Int) 10 = ((n / 10 : Nat) : Int) := by norm_cast
        have hr : Int.tmod (n : Int) 10 = ((n % 10 : Nat) : Int) := by norm_cast
        rw [RRp.marshalyardref03_digits.f, if_neg (by omega), hq, hr, w64 (by omega) (by omega), digits_eq d (n / 10) (by rw [Nat.pow_succ] at h; omega) (by omega), w64 (by omega) (by omega)]
        simp only [Option.bind_some]
        have e : (48 + ((n % 10 : Nat) : Int)) % 256 = ((48 + n % 10 : Nat) : Int) := by omega
        rw [e]
        have hs : strOfNums [((48 + n % 10 : Nat) : Int)] = ⟨[UInt8.ofNat (48 + n % 10)].toArray⟩ := by
          simp only [strOfNums, List.map_cons, List.map_nil, Int.toNat_natCast]
        rw [hs, ba_append, Lib.decDigits.eq_1 n, dif_neg h10, if_pos]
        have hl := dec_len 18 (n / 10) (by omega)
        rw [size_mk, size_mk]
        simp
        omega
theorem digits_k {k n : Nat} (hk : 19 ≤ k) (hn : n < 9223372036854775000) : RRp.marshalyardref03_digits.f k (n : Int) = some ⟨(Lib.decDigits n).toArray⟩ := by
  obtain ⟨d, rfl⟩ : ∃ d, k = d + 1 := ⟨k - 1, by omega⟩
  refine digits_eq d n (Nat.lt_of_lt_of_le (Nat.lt_of_lt_of_le hn (by decide : 9223372036854775000 ≤ 10 ^ 19)) (Nat.pow_le_pow_right (by decide) hk)) hn
theorem l0_cmd (xs : List ByteArray) : ∀ (d i k : Nat) (s : List UInt8), d = xs.length - i → i ≤ xs.length → xs.length ≤ 1000000 → d + 21 ≤ k → s.length + (argsB (xs.drop i)).length ≤ 140737488355328 →
    RRp.marshalyardref03_Command.l0 k xs ⟨s.toArray⟩ (i : Int) = some ⟨(s ++ argsB (xs.drop i)).toArray⟩ := by
  intro d
  induction d with
  | zero =>
    intro i k s hd hi hx hk hs
    obtain ⟨k, rfl⟩ : ∃ q, k = q + 1 := ⟨k - 1, by omega⟩
    rw [RRp.marshalyardref03_Command.l0, if_neg (by omega), List.drop_eq_nil_of_le (by omega)]
    simp [argsB]
  | succ d ih =>
    intro i k s hd hi hx hk hs
    obtain ⟨k, rfl⟩ : ∃ q, k = q + 1 := ⟨k - 1, by omega⟩
    have hil : i < xs.length := by omega
    have hrd : rdOf ByteArray.empty xs (i : Int) = xs[i] := by unfold rdOf; simp [List.getD, hil]
    have hdr : argsB (xs.drop i) = argV (xs[i]).data.toList ++ argsB (xs.drop (i + 1)) := by
      unfold argsB
      rw [List.drop_eq_getElem_cons hil, List.flatMap_cons]
    generalize xs[i] = x at *
    obtain ⟨l, rfl⟩ : ∃ l : List UInt8, x = ⟨l.toArray⟩ := ⟨x.data.toList, rfl⟩
    have hll : (⟨l.toArray⟩ : ByteArray).data.toList = l := rfl
    rw [hll] at hdr
    have hav : argV l = [36] ++ Lib.decDigits l.length ++ [13, 10] ++ l ++ [13, 10] := rfl
    have havl : (argV l).length = (Lib.decDigits l.length).length + l.length + 5 := by rw [hav]; simp; omega
    rw [hdr, List.length_append, havl] at hs
    have hD := digits_k (k := k) (n := l.length) (by omega) (by omega)
    have hdl := dec_len 18 l.length (by omega)
    have e1 : (⟨#[36]⟩ : ByteArray) = ⟨([36] : List UInt8).toArray⟩ := rfl
    have e2 : (⟨#[13, 10]⟩ : ByteArray) = ⟨([13, 10] : List UInt8).toArray⟩ := rfl
    rw [RRp.marshalyardref03_Command.l0, if_pos (by omega), if_pos (by rw [size_mk]; omega), if_pos (by omega), hrd]
    simp only [size_mk]
    rw [hD]
    simp only [Option.bind_some]
    rw [e1, e2]
    simp only [ba_append, size_mk]
    rw [if_pos (by simp; omega), if_pos (by simp; omega), if_pos (by simp; omega), if_pos (by simp; omega), w64 (by omega) (by omega)]
    have h6 := ih (i + 1) k (s ++ [36] ++ Lib.decDigits l.length ++ [13, 10] ++ l ++ [13, 10]) (by omega) (by omega) hx (by omega) (by simp; omega)
    have h7 : ((i : Int) + 1) = ((i + 1 : Nat) : Int) := by omega
    rw [h7, h6, hdr, hav]
    simp
theorem refCommand_calls (A : Option Addr) (c : Nat) (xs : List ByteArray) (w : World) (hr : Kd.string.C w A xs.length xs) (hc : xs.length ≤ c) (hlen : (cmdV xs).length ≤ 140737488355328) (hn : xs.length ≤ 1000000) :
    Calls Tryd.prog 13 #[.slice A xs.length c] w fun e w' => e = .returned (.string ⟨(cmdV xs).toArray⟩) ∧ Below w.heap.size w w' := by
  refine RRp.marshalyardref03_Command.calls (xs.length + 40) A c xs _ w hr hc ?_
  unfold RRp.marshalyardref03_Command.f
  have hcl : (cmdV xs).length = (Lib.decDigits xs.length).length + 3 + (argsB xs).length := by unfold cmdV; simp; omega
  have hdl := dec_len 18 xs.length (by omega)
  rw [digits_k (by omega) (by omega)]
  simp only [Option.bind_some]
  have e1 : (⟨#[42]⟩ : ByteArray) = ⟨([42] : List UInt8).toArray⟩ := rfl
  have e2 : (⟨#[13, 10]⟩ : ByteArray) = ⟨([13, 10] : List UInt8).toArray⟩ := rfl
  rw [e1, e2, ba_append, ba_append, size_mk, size_mk, if_pos (by omega), if_pos (by simp; omega)]
  have h := l0_cmd xs xs.length 0 (xs.length + 40) ([42] ++ Lib.decDigits xs.length ++ [13, 10]) (by omega) (by omega) hn (by omega) (by rw [List.drop_zero]; simp; omega)
  rw [List.drop_zero] at h
  exact h
end Go.Proofs.YtmdekodoicnmbaaDoor
