/- The reference's power and Has over words of 64 bits. Conditions: none. -/
import Derived.Test.YtnlchdjknebmfaaDoorSlA
import Derived.Deep.RegionHeld3
set_option linter.unusedVariables false
set_option linter.unusedSimpArgs false
namespace Go.Proofs.YtnlchdjknebmfaaDoor
open Go.RowKit Go.Proofs.YtnlchdjknebmfaaDoorW.PrintWords
set_option maxRecDepth 100000 in
theorem power_calls (k : Nat) (hk : k < 64) (w : World) : Calls Tryd.prog 43 #[.int .i64 k] w fun e w' => e = .returned (.int .u64 ((2 ^ k : Nat) : Int)) ∧ w = w' := by
  go_enter Tryd.func43, Tryd.ntmps43
  go_wp2
  go_loop [3, 4] (fun p i => ∃ j : Nat, j ≤ k ∧ i = .int .i64 j ∧ p = .int .u64 ((2 ^ j : Nat) : Int)) (fun _ i => k - (intOf i).toNat)
  case atStart => exact ⟨0, Nat.zero_le _, rfl, rfl⟩
  case round =>
    obtain ⟨j, hj, rfl, rfl⟩ := hrel
    by_cases hjk : j < k
    · have h1 : 2 ^ (j + 1) < 18446744073709551616 := pow_lt64 (by omega)
      have h2 : 2 ^ (j + 1) = 2 ^ j * 2 := Nat.pow_succ 2 j
      have h3 := Lib.hid h2
      rw [h2] at h1
      clear h2
      generalize 2 ^ j = P at *
      go_wp2
      case roundEnd =>
        refine ⟨⟨j + 1, by omega, by go_num, ?_⟩, by simp [intOf]; omega⟩
        rw [h3.out, Int.natCast_mul]
        first | rfl | go_num
    · obtain rfl : j = k := by omega
      go_wp2
      go_ret
      exact ⟨rfl, rfl⟩
theorem hasW_eq (f : Nat → Nat) (k : Nat) (h : k < 16384) : hasW f k = (((f (k / 64) : Int) / ((2 ^ (k % 64) : Nat) : Int) % 2) == 1) := by
  unfold hasW
  rw [decide_eq_true (by omega), decide_eq_true (by omega), Bool.true_and, Bool.true_and, Int.toNat_natCast, Bool.beq_eq_decide_eq]
  congr 1
  have e : (f (k / 64) : Int) / ((2 ^ (k % 64) : Nat) : Int) % 2 = ((f (k / 64) / 2 ^ (k % 64) % 2 : Nat) : Int) := by simp
  rw [e]
  exact propext ⟨fun h => by omega, fun h => by omega⟩
theorem hasW_out (f : Nat → Nat) (n : Int) (h : ¬ (0 ≤ n ∧ n < 16384)) : hasW f n = false := by
  unfold hasW; by_cases h1 : 0 ≤ n <;> by_cases h2 : n < 16384 <;> simp [h1, h2]; omega
set_option maxRecDepth 100000 in
theorem refHas_calls (a : Array Value) (f : Nat → Nat) (ha : Words a f) (n : Int) (w : World) :
    Calls Tryd.prog 33 #[.agg a, .int .i64 n] w fun e w' => e = .returned (.bool (hasW f n)) ∧ Below w.heap.size w w' := by
  by_cases h : 0 ≤ n ∧ n < 16384
  · obtain ⟨k, rfl⟩ : ∃ k : Nat, n = k := ⟨n.toNat, by omega⟩
    have hk : k < 16384 := by omega
    have hg := ha.get (k / 64) (by omega)
    have hsz := ha.size
    have hp := power_calls (k % 64) (by omega)
    have hpos : 0 < 2 ^ (k % 64) := Nat.two_pow_pos _
    rw [hasW_eq f k hk]
    generalize 2 ^ (k % 64) = P at *
    have hc : ((k % 64 : Nat) : Int) = (k : Int) % 64 := by simp
    rw [hc] at hp
    have hp := fun W => (hp W).mono (R' := fun e w' => e = .returned (.int .u64 (P : Int)) ∧ w' = W) fun _ _ h => ⟨h.1, h.2.symm⟩
    have hv : (IntKind.u64.wrap ((f (k / 64) : Int) / (P : Int))).tmod 2 = (f (k / 64) : Int) / (P : Int) % 2 := by
      have hx := ha.lt (k / 64)
      have h0 : (0 : Int) ≤ (f (k / 64) : Int) / (P : Int) := Int.ediv_nonneg (Int.natCast_nonneg _) (Int.natCast_nonneg _)
      have h1 : (f (k / 64) : Int) / (P : Int) < 2 ^ 64 := by
        have : f (k / 64) / P < 18446744073709551616 := Nat.lt_of_le_of_lt (Nat.div_le_self _ _) hx
        have h2 : ((f (k / 64) / P : Nat) : Int) < 2 ^ 64 := by exact_mod_cast this
        rwa [Int.natCast_ediv] at h2
      rw [wrap64 _ h0 h1, Int.tmod_eq_emod_of_nonneg h0]
    go_enter Tryd.func33, Tryd.ntmps33
    go_wp2_with fail
    go_quiet ((go_at_call 43; first | (with_reducible exact Calls.quiet_of_same (hp _))))
    go_wp2
    go_ret
    refine ⟨?_, pw_below_drewN (below_alloc (Below.refl _ _) _) _⟩
    rw [← hv]
    rfl
  · rw [hasW_out f n h]
    by_cases h1 : n < 0
    · go_enter Tryd.func33, Tryd.ntmps33
      go_wp2
      go_ret
      exact ⟨rfl, below_alloc (Below.refl _ _) _⟩
    · have h2 : 16384 ≤ n := by omega
      go_enter Tryd.func33, Tryd.ntmps33
      go_wp2
      go_ret
      exact ⟨rfl, below_alloc (Below.refl _ _) _⟩
end Go.Proofs.YtnlchdjknebmfaaDoor
