/- How many slots there are: slot.Count comes to the number of those that are there. Conditions: none. -/
import Derived.Test.YtnlchdjknebmfaaDoorSlC
import Derived.Outline
set_option linter.unusedVariables false
set_option linter.unusedSimpArgs false
namespace Go.Proofs.YtnlchdjknebmfaaDoor
open Go.RowKit Go.Proofs.YtnlchdjknebmfaaDoorW.PrintWords
def hasN (f : Nat → Nat) (n : Nat) : Bool := (f (n / 64)).testBit (n % 64)
def upto (f : Nat → Nat) (n : Nat) : List Nat := (List.range n).filter (hasN f)
theorem upto_succ (f : Nat → Nat) (n : Nat) : upto f (n + 1) = upto f n ++ if hasN f n then [n] else [] := by
  unfold upto
  rw [List.range_succ, List.filter_append]
  congr 1
  cases h : hasN f n <;> simp [h]
theorem upto_le (f : Nat → Nat) (n : Nat) : (upto f n).length ≤ n := by
  have := List.length_filter_le (hasN f) (List.range n)
  simpa [upto] using this
theorem upto_zero (f : Nat → Nat) (i : Nat) (h : f i = 0) : ∀ j, j ≤ 64 → upto f (64 * i + j) = upto f (64 * i)
  | 0, _ => rfl
  | j + 1, hj => by
    rw [← Nat.add_assoc, upto_succ, upto_zero f i h j (by omega)]
    have : hasN f (64 * i + j) = false := by
      unfold hasN
      rw [show (64 * i + j) / 64 = i by omega, h]
      simp
    rw [this]; simp
theorem bit_val (x j : Nat) : ((x / 2 ^ j % 2 : Nat) : Int) = if x.testBit j then 1 else 0 := by
  rw [Nat.testBit_eq_decide_div_mod_eq]
  have := Nat.mod_two_eq_zero_or_one (x / 2 ^ j)
  rcases this with h | h <;> rw [h] <;> simp
theorem idx30 {a : Array Value} {f : Nat → Nat} (ha : Words a f) (k : Nat) (hk : k < 256) (W : World) : (Instr.index 30 (.agg a) (.int .i64 (k : Int))).run Tryd.prog W = .ok (.int .u64 (f k : Int)) W := by
  have hg := ha.get k hk
  have h1 : (k : Int) < 256 := by omega
  simp [Instr.index, run_underlying Tryd.underlying30, asIntOf, go_sem, h1, hg]
  intro h; omega
set_option maxRecDepth 100000 in
theorem Count_calls (a : Array Value) (f : Nat → Nat) (ha : Words a f) (w : World) : Calls Tryd.prog 19 #[.agg a] w fun e w' => e = .returned (.int .i64 ((upto f 16384).length : Nat)) ∧ Below w.heap.size w w' := by
  have hs1 : (Tryd.prog.info? 30).map (·.size) = some a.size := by rw [ha.size]; exact info30
  have hsz := ha.size
  go_enter Tryd.func19, Tryd.ntmps19
  go_wp2_with (first | (refine wpList_load_row rfl 30 _ rfl w.heap.size rfl 30 a (0, 0) _ (heapN w _) Tryd.underlying30 rfl hs1 ?_))
  go_loop [3, 8] (fun m i => ∃ k : Nat, k ≤ 256 ∧ i = .int .i64 k ∧ m = .int .i64 ((upto f (64 * k)).length : Nat)) (fun _ i => 256 - (intOf i).toNat)
  case atStart => exact ⟨0, by omega, rfl, rfl⟩
  case round =>
    obtain ⟨k, hk, rfl, rfl⟩ := hrel
    have hle := upto_le f (64 * k)
    by_cases hk6 : k < 256
    · have hix := idx30 ha k hk6
      have hg := ha.get k hk6
      have hx := ha.lt k
      have hz := upto_zero f k
      by_cases h0 : f k = 0
      · have h64 := Lib.hid (hz h0 64 (by omega))
        have hb : (((f k : Nat) : Int) == 0) = true := by rw [h0]; rfl
        clear hz
        go_wp2
        case roundEnd =>
          refine ⟨⟨k + 1, by omega, by go_num, ?_⟩, by simp [intOf]; omega⟩
          rw [show 64 * (k + 1) = 64 * k + 64 by omega, h64.out]
      · have hb : (((f k : Nat) : Int) == 0) = false := beq_eq_false_iff_ne.2 (by omega)
        clear hz
        go_wp2
        go_loop [3, 13] (fun m i => ∃ j : Nat, j ≤ 64 ∧ i = .int .i64 j ∧ m = .int .i64 ((upto f (64 * k + j)).length : Nat)) (fun _ i => 64 - (intOf i).toNat)
        case atStart => exact ⟨0, by omega, rfl, rfl⟩
        case round =>
          obtain ⟨j, hj, rfl, rfl⟩ := hrel
          have hle2 := upto_le f (64 * k + j)
          by_cases hj6 : j < 64
          · have hst := upto_succ f (64 * k + j)
            have hN : hasN f (64 * k + j) = (f k).testBit j := by
              unfold hasN
              rw [show (64 * k + j) / 64 = k by omega, show (64 * k + j) % 64 = j by omega]
            have hv := and1 (f k / 2 ^ j) (Nat.lt_of_le_of_lt (Nat.div_le_self _ _) hx)
            rw [bit_val] at hv
            have hc : ((f k / 2 ^ j : Nat) : Int) = (f k : Int) / 2 ^ j := by simp
            rw [hc] at hv
            cases hB : (f k).testBit j with
            | true =>
              rw [hB] at hv hN
              rw [hN] at hst
              have hL : Hid ((upto f (64 * k + j + 1)).length = (upto f (64 * k + j)).length + 1) := by show _ = _; rw [hst]; simp
              simp only [if_true] at hv
              clear hst hN hc hB
              generalize (upto f (64 * k + j)).length = L at *
              go_wp2
              case roundEnd =>
                refine ⟨⟨j + 1, by omega, by go_num, ?_⟩, by simp [intOf]; omega⟩
                rw [show 64 * k + (j + 1) = 64 * k + j + 1 by omega, hL.out]
                go_num
            | false =>
              rw [hB] at hv hN
              rw [hN] at hst
              have hL : Hid ((upto f (64 * k + j + 1)).length = (upto f (64 * k + j)).length) := by show _ = _; rw [hst]; simp
              simp only [Bool.false_eq_true, if_false] at hv
              clear hst hN hc hB
              generalize (upto f (64 * k + j)).length = L at *
              go_wp2
              case roundEnd =>
                refine ⟨⟨j + 1, by omega, by go_num, ?_⟩, by simp [intOf]; omega⟩
                rw [show 64 * k + (j + 1) = 64 * k + j + 1 by omega, hL.out]
          · obtain rfl : j = 64 := by omega
            go_wp2
            case roundEnd =>
              refine ⟨⟨k + 1, by omega, by go_num, ?_⟩, by simp [intOf]; omega⟩
              rw [show 64 * (k + 1) = 64 * k + 64 by omega]
    · obtain rfl : k = 256 := by omega
      go_wp2
      go_ret
      exact ⟨rfl, below_alloc (Below.refl _ _) _⟩
end Go.Proofs.YtnlchdjknebmfaaDoor
