/- The reference's All: the slots that are there, rising. Conditions: none. -/
import Derived.Test.YtnlchdjknebmfaaDoorSlD
import Derived.OwnWalk
import Derived.Laws.AppendOwn
import Derived.Laws.OwnMore
import Derived.Outline
set_option linter.unusedVariables false
set_option linter.unusedSimpArgs false
namespace Go.Proofs.YtnlchdjknebmfaaDoor
open Go.RowKit Go.Proofs.YtnlchdjknebmfaaDoorW.PrintWords
def intsN (l : List Nat) : List Value := l.map fun (n : Nat) => Value.int .i64 (n : Int)
theorem upto_high (f : Nat → Nat) (k j : Nat) (hx : f k < 18446744073709551616) (h : f k / 2 ^ j = 0) : ∀ m, j + m ≤ 64 → upto f (64 * k + j + m) = upto f (64 * k + j)
  | 0, _ => rfl
  | m + 1, hm => by
    rw [← Nat.add_assoc, upto_succ, upto_high f k j hx h m (by omega)]
    have hb : hasN f (64 * k + j + m) = false := by
      unfold hasN
      rw [show (64 * k + j + m) / 64 = k by omega, show (64 * k + j + m) % 64 = j + m by omega]
      apply Nat.testBit_lt_two_pow
      have h1 : f k < 2 ^ j := by
        rcases Nat.div_eq_zero_iff.1 h with h | h
        · exact absurd h (Nat.ne_of_gt (Nat.two_pow_pos j))
        · exact h
      exact Nat.lt_of_lt_of_le h1 (Nat.pow_le_pow_right (by decide) (by omega))
    rw [hb]; simp
theorem div_pow_succ (x j : Nat) : x / 2 ^ (j + 1) = x / 2 ^ j / 2 := by rw [Nat.pow_succ, Nat.div_div_eq_div_mul]
theorem news1 (w : World) (v : Value) (T : TypeId) : ∀ (j : Nat) (u : Value), [v][j]? = some u → (w.alloc (.cells #[v] T)).cell? ((⟨w.heap.size, 0, none⟩ : Addr).add j) = some u := by
  intro j u h
  cases j with
  | zero =>
    simp only [List.getElem?_cons_zero, Option.some.injEq] at h
    subst h
    simp [Addr.add, go_sem]
  | succ j => simp at h
theorem one_int (k : IntKind) (v : Int) : ∀ u ∈ [Value.int k v], u.oneCell' = true := fun u h => by
  rw [List.mem_singleton.1 h]; rfl
theorem alloc_ge {n : Nat} {w : World} (h : n ≤ w.heap.size) (o : Obj) : n ≤ (w.alloc o).heap.size := by
  simp; omega
theorem below_new' (W : World) (o : Obj) : Below W.heap.size W (W.alloc o) := below_alloc (Below.refl _ _) _
theorem info_int : (Tryd.prog.info? 3).map (fun i => (i.zero, i.size, i.bytes)) = some (some (.int .i64 0), 1, 8) := by kernel_rfl
set_option maxHeartbeats 1000000 in
set_option maxRecDepth 100000 in
theorem refAll_calls (a : Array Value) (f : Nat → Nat) (ha : Words a f) (w : World) : Calls Tryd.prog 20 #[.agg a] w fun e w' =>
    ∃ v, e = .returned v ∧ w'.ownsRow w.heap.size 3 1 v (upto f 16384).length (intsN (upto f 16384)) ∧ Below w.heap.size w w' := by
  have hsz := ha.size
  go_enter Tryd.func20, Tryd.ntmps20
  go_wp2_with fail
  go_loopw [3, 4] (fun out i wr => ∃ k : Nat, k ≤ 256 ∧ i = .int .i64 k ∧ wr.ownsRow (w.heap.size + 1) 3 1 out (upto f (64 * k)).length (intsN (upto f (64 * k))) ∧ Below w.heap.size w wr ∧ wr.heap[w.heap.size]? = some (.cells a 30 (0, 0)) ∧ w.heap.size < wr.heap.size) (fun _ i _ => 256 - (intOf i).toNat)
  case atStart => exact ⟨0, by omega, rfl, own_nil _ _ _ _, below_new' w _, heapN w _, by simp⟩
  case round =>
    obtain ⟨k, hk, rfl, hown, hb, hh, hlt⟩ := hrel
    by_cases hk6 : k < 256
    · have hg : wr.cell? ⟨w.heap.size, k, none⟩ = some (.int .u64 (f k : Int)) := by
        rw [cell_of_row wr _ k a 30 (0, 0) hh]; exact ha.get k hk6
      have hx := ha.lt k
      have hki : (k : Int) < 256 := by omega
      have hkd : decide ((k : Int) < 256) = true := decide_eq_true hki
      go_wp2_with fail
      go_loopw [3, 5, 6] (fun out x kk wq => ∃ j : Nat, j ≤ 64 ∧ kk = .int .i64 j ∧ x = .int .u64 ((f k / 2 ^ j : Nat) : Int) ∧ wq.ownsRow (w.heap.size + 1) 3 1 out (upto f (64 * k + j)).length (intsN (upto f (64 * k + j))) ∧ Below w.heap.size w wq ∧ wq.heap[w.heap.size]? = some (.cells a 30 (0, 0)) ∧ w.heap.size < wq.heap.size) (fun _ _ kk _ => 64 - (intOf kk).toNat)
      case atStart => exact ⟨0, by omega, rfl, by simp, hown, hb, hh, hlt⟩
      case round =>
        obtain ⟨j, hj, rfl, rfl, hown2, hb2, hh2, hlt2⟩ := hrel
        by_cases hx0 : f k / 2 ^ j = 0
        · have hup := upto_high f k j hx hx0 (64 - j) (by omega)
          rw [show 64 * k + j + (64 - j) = 64 * (k + 1) by omega] at hup
          rw [← hup] at hown2
          have hle : ¬ (0 : Int) < ((f k / 2 ^ j : Nat) : Int) := by omega
          generalize f k / 2 ^ j = X at *
          go_wp2
          case roundEnd => exact ⟨⟨k + 1, by omega, by go_num, hown2, hb2, hh2, hlt2⟩, by simp [intOf]; omega⟩
        · have hj6 : j < 64 := by
            rcases Nat.lt_or_ge j 64 with h | h
            · exact h
            · exact absurd (Nat.div_eq_of_lt (Nat.lt_of_lt_of_le (by simpa using hx) (Nat.pow_le_pow_right (by decide) h : 2 ^ 64 ≤ 2 ^ j))) hx0
          have hst := upto_succ f (64 * k + j)
          have hN : hasN f (64 * k + j) = decide (f k / 2 ^ j % 2 = 1) := by
            unfold hasN
            rw [show (64 * k + j) / 64 = k by omega, show (64 * k + j) % 64 = j by omega, Nat.testBit_eq_decide_div_mod_eq]
          have hd := Lib.hid (div_pow_succ (f k) j)
          have hle := upto_le f (64 * k + j)
          have hXlt : f k / 2 ^ j < 18446744073709551616 := Nat.lt_of_le_of_lt (Nat.div_le_self _ _) hx
          generalize f k / 2 ^ j = X at *
          have hpos : (0 : Int) < (X : Int) := by omega
          by_cases hb1 : X % 2 = 1
          · rw [decide_eq_true hb1] at hN
            have hst2 : upto f (64 * k + j + 1) = upto f (64 * k + j) ++ [64 * k + j] := by rw [hst, hN]; rfl
            have hm : (X : Int) % 2 = 1 := by omega
            have hne : ((X : Int) % 2 == 1) = true := by rw [hm]; rfl
            have hc3 : (upto f (64 * k + j)).length + 1 ≤ maxLen := by unfold maxLen; omega
            have hc4 : ((upto f (64 * k + j)).length + 1) * 8 ≤ 140737488355328 := by omega
            have hc5 : w.heap.size + 1 ≤ (wr.alloc (.cells #[.int .i64 (64 * (k : Int) + (j : Int))] 3)).heap.size := by simp; omega
            obtain ⟨i0, hi0, hz0, hz1, hz2⟩ := info_parts info_int
            clear hst hN
            go_wp2_with (at_builtin; refine wpList_append_own _ rfl _ _ 32 rfl (w.heap.size + 1) 3 i0 (.int .i64 0) 1 8 Tryd.underlying32 hi0 hz0 hz1 hz2 rfl (by decide) _ _ _ rfl (hown2.alloc _) ⟨wr.heap.size, 0, none⟩ 1 1 [.int .i64 (64 * (k : Int) + (j : Int))] rfl rfl (news1 _ _ _) (one_int _ _) hc3 hc4 hc5 ?_; intro v' w2 hown3 hgrow _)
            have hbA := (hb2.trans ((below_new' wr (.cells #[.int .i64 (64 * (k : Int) + (j : Int))] 3)).mono hb2.size))
            have hb3 := hbA.grown hgrow (by simp; omega) (fun x hx => Nat.le_of_succ_le (own_base hown2 x hx))
            have hh3 : w2.heap[w.heap.size]? = some (.cells a 30 (0, 0)) :=
              (hgrow.block w.heap.size (by simp; omega) (fun e => by have := own_base hown2 w.heap.size e.symm; omega)).trans (((below_new' wr _).block w.heap.size hlt2).trans hh2)
            have hlt3 : w.heap.size < w2.heap.size := by
              rcases Nat.lt_or_ge w.heap.size w2.heap.size with h | h
              · exact h
              · rw [Array.getElem?_eq_none h] at hh3; cases hh3
            have hrel3 : w2.ownsRow (w.heap.size + 1) 3 1 v' (upto f (64 * k + (j + 1))).length (intsN (upto f (64 * k + (j + 1)))) := by
              rw [show 64 * k + (j + 1) = 64 * k + j + 1 by omega, hst2]
              simpa [intsN] using hown3
            refine ⟨⟨j + 1, by omega, by go_num, by rw [hd.out]; go_num, hrel3, hb3, hh3, hlt3⟩, by simp [intOf]; omega⟩
          · rw [decide_eq_false hb1] at hN
            have hst2 : upto f (64 * k + j + 1) = upto f (64 * k + j) := by rw [hst, hN]; simp
            have hm : (X : Int) % 2 = 0 := by omega
            have hne : ((X : Int) % 2 == 1) = false := by rw [hm]; rfl
            clear hst hN
            go_wp2
            case roundEnd =>
              refine ⟨⟨j + 1, by omega, by go_num, ?_, ?_, hb2, hh2, hlt2⟩, by simp [intOf]; omega⟩
              · rw [hd.out]; first | rfl | (congr 1; omega) | go_num
              · rw [show 64 * k + (j + 1) = 64 * k + j + 1 by omega, hst2]; exact hown2
    · obtain rfl : k = 256 := by omega
      go_wp2
      exact bodyPost_ret (by simp [results, Tryd.results20, go_sem]) rfl ⟨_, rfl, own_weaken hown (Nat.le_succ _), hb⟩
end Go.Proofs.YtnlchdjknebmfaaDoor
