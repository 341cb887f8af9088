/- slot.Ranges: the runs of the slots that are there. Conditions: none. -/
import Derived.Test.YtnlchdjknebmfaaDoorSlE
import Derived.Test.YtnlchdjknebmfaaDoorSlR
set_option linter.unusedVariables false
set_option linter.unusedSimpArgs false
namespace Go.Proofs.YtnlchdjknebmfaaDoor
open Go.RowKit Go.Proofs.YtnlchdjknebmfaaDoorW.PrintWords
theorem info_rng : (Tryd.prog.info? 53).map (fun i => (i.zero, i.size, i.bytes)) = some (some (.agg #[.int .i64 0, .int .i64 0]), 2, 16) := by kernel_rfl
def RgPost (w : World) (l : List (Nat × Nat)) (e : Ending) (w' : World) : Prop :=
  ∃ v, e = .returned v ∧ w'.ownsRow w.heap.size 53 2 v l.length (flatR l) ∧ Below w.heap.size w w'
theorem news2 (w : World) (a b : Value) (T : TypeId) : ∀ (j : Nat) (u : Value), [a, b][j]? = some u → (w.alloc (.cells #[a, b] T)).cell? ((⟨w.heap.size, 0, none⟩ : Addr).add j) = some u := by
  intro j u h
  match j with
  | 0 => simp only [List.getElem?_cons_zero, Option.some.injEq] at h; subst h; simp [Addr.add, go_sem]
  | 1 => simp only [List.getElem?_cons_succ, List.getElem?_cons_zero, Option.some.injEq] at h; subst h; simp [Addr.add, go_sem]
  | j + 2 => simp at h
theorem two_int (k : IntKind) (v z : Int) : ∀ u ∈ [Value.int k v, Value.int k z], u.oneCell' = true := fun u h => by
  rcases List.mem_cons.1 h with rfl | h
  · rfl
  · rw [List.mem_singleton.1 h]; rfl
theorem info_rng' : ∃ i0, Tryd.prog.info? 53 = some i0 ∧ i0.zero = some (.agg #[.int .i64 0, .int .i64 0]) ∧ i0.size = 2 ∧ i0.bytes = 16 := info_parts info_rng
/-- what an append to a row of the call's own leaves of the rest -/
theorem grown_keep {w w2 w3 : World} {e : TypeId} {size n : Nat} {v : Value} {xs : List Value} {o ob : Obj} (hbw2 : Below w.heap.size w w2) (hh2 : w2.heap[w.heap.size]? = some ob) (hlt2 : w.heap.size < w2.heap.size)
    (hown2 : w2.ownsRow (w.heap.size + 1) e size v n xs) (hgrow : (w2.alloc o).grownBy w3 v.ownBlock) : Below w.heap.size w w3 ∧ w3.heap[w.heap.size]? = some ob ∧ w.heap.size < w3.heap.size := by
  have hbA := hbw2.trans ((below_new' w2 o).mono hbw2.size)
  have hb3 := hbA.grown hgrow (by simp; omega) (fun x hx => Nat.le_of_succ_le (own_base hown2 x hx))
  have hh3 : w3.heap[w.heap.size]? = some ob :=
    (hgrow.block w.heap.size (by simp; omega) (fun e => by have := own_base hown2 w.heap.size e.symm; omega)).trans (((below_new' w2 _).block w.heap.size hlt2).trans hh2)
  refine ⟨hb3, hh3, ?_⟩
  rcases Nat.lt_or_ge w.heap.size w3.heap.size with h | h
  · exact h
  · rw [Array.getElem?_eq_none h] at hh3; cases hh3
theorem grown_keep' {w w2 w3 : World} {g : Nat} {ob : Obj} (hbw2 : Below w.heap.size w w2) (hh2 : w2.heap[w.heap.size]? = some ob) (hlt2 : w.heap.size < w2.heap.size)
    (hg : w.heap.size + 1 ≤ g) (hgrow : w2.grownBy w3 (some g)) : Below w.heap.size w w3 ∧ w3.heap[w.heap.size]? = some ob ∧ w.heap.size < w3.heap.size := by
  have hb3 := hbw2.grown hgrow (by omega) (fun x hx => by cases hx; omega)
  have hh3 : w3.heap[w.heap.size]? = some ob := (hgrow.block w.heap.size hlt2 (fun e => by cases e; omega)).trans hh2
  refine ⟨hb3, hh3, ?_⟩
  rcases Nat.lt_or_ge w.heap.size w3.heap.size with h | h
  · exact h
  · rw [Array.getElem?_eq_none h] at hh3; cases hh3
theorem blk_lt {w : World} {g : Nat} {o : Obj} (h : w.heap[g]? = some o) : g < w.heap.size := by
  rcases Nat.lt_or_ge g w.heap.size with h' | h'
  · exact h'
  · rw [Array.getElem?_eq_none h'] at h; cases h
set_option maxHeartbeats 2000000 in
set_option maxRecDepth 100000 in
theorem Ranges_calls (a : Array Value) (f : Nat → Nat) (ha : Words a f) (w : World) : Calls Tryd.prog 21 #[.agg a] w (RgPost w (rangesV (upto f 16384))) := by
  have hsz := ha.size
  have hH := fun n W => Has_calls a f ha n W
  have hs1 : (Tryd.prog.info? 30).map (·.size) = some a.size := by rw [ha.size]; exact info30
  go_enter Tryd.func21, Tryd.ntmps21
  go_wp2_with fail
  go_loopw [3, 4] (fun out i wr => ∃ m : Nat, m ≤ 16384 ∧ i = .int .i64 m ∧ wr.ownsRow (w.heap.size + 1) 53 2 out (rangesV (upto f m)).length (flatR (rangesV (upto f m))) ∧ Below w.heap.size w wr ∧ wr.heap[w.heap.size]? = some (.cells a 30 (0, 0)) ∧ w.heap.size < wr.heap.size) (fun _ i _ => 16384 - (intOf i).toNat)
  case atStart => exact ⟨0, by omega, rfl, own_nil _ _ _ _, below_new' w _, heapN w _, by simp⟩
  case round =>
    obtain ⟨m, hm, rfl, hown, hb, hh, hlt⟩ := hrel
    by_cases hm6 : m < 16384
    · have hg : wr.cell? ⟨w.heap.size, m / 64, none⟩ = some (.int .u64 (f (m / 64) : Int)) := by
        rw [cell_of_row wr _ (m / 64) a 30 (0, 0) hh]; exact ha.get (m / 64) (by omega)
      have hx := ha.lt (m / 64)
      have hmi : (m : Int) < 16384 := by omega
      have hmd : decide ((m : Int) < 16384) = true := decide_eq_true hmi
      have wm : (m : Int).tmod 64 = (m : Int) % 64 := Int.tmod_eq_emod_of_nonneg (by omega)
      by_cases hz : m % 64 = 0 ∧ f (m / 64) = 0
      · have h64 := upto_zero f (m / 64) hz.2 64 (by omega)
        rw [show 64 * (m / 64) = m by omega] at h64
        have e1 : ((m : Int) % 64 == 0) = true := by rw [show (m : Int) % 64 = 0 by omega]; rfl
        have e2 : ((f (m / 64) : Int) == 0) = true := by rw [hz.2]; rfl
        go_wp2_with fail
        case roundEnd => exact ⟨⟨m + 64, by omega, by go_num, by rw [h64]; exact hown, hb, hh, hlt⟩, by simp [intOf]; omega⟩
      · have hHm := hH m
        rw [hasW_bit f m hm6] at hHm
        change ∀ W, Calls Tryd.prog 32 #[Value.agg a, Value.int IntKind.i64 m] W fun e w' => e = Ending.returned (Value.bool (hasN f m)) ∧ Below W.heap.size W w' at hHm
        have hst := upto_succ f m
        have hle := upto_le f m
        have hle2 := rangesV_le (upto f m)
        have hrel0 : hasN f m = false → upto f (m + 1) = upto f m := fun h => by rw [hst, h]; simp
        have hrel1 : hasN f m = true → upto f (m + 1) = upto f m ++ [m] := fun h => by rw [hst, h]; rfl
        clear hst
        have hcnd : ((m : Int) % 64 == 0) = false ∨ (((m : Int) % 64 == 0) = true ∧ ((f (m / 64) : Int) == 0) = false) := by
          by_cases h1 : m % 64 = 0
          · exact Or.inr ⟨by rw [show (m : Int) % 64 = 0 by omega]; rfl, beq_eq_false_iff_ne.2 (fun e => hz ⟨h1, by omega⟩)⟩
          · exact Or.inl (beq_eq_false_iff_ne.2 (fun e => h1 (by omega)))
        clear hz hH
        obtain ⟨i0, hi0, hz0, hz1, hz2⟩ := info_rng'
        rcases hcnd with hc1 | ⟨hc1, hc2⟩
        all_goals
          go_wp2_with (refine wpList_load_row rfl 30 _ rfl w.heap.size rfl 30 a (0, 0) _ hh Tryd.underlying30 rfl hs1 ?_)
          refine (hHm _).mono ?_
          rintro e w2 ⟨rfl, hb2⟩
          have hbw2 := hb.trans (hb2.mono hb.size)
          have hown2 := pw_own_below hown hb2
          have hh2 : w2.heap[w.heap.size]? = some (.cells a 30 (0, 0)) := (hb2.block _ hlt).trans hh
          have hlt2 : w.heap.size < w2.heap.size := Nat.lt_of_lt_of_le hlt hb2.size
          clear hb2 hh hHm hg hlt hb hown
          cases hB : hasN f m with
          | false =>
            have e3 := Lib.hid (hrel0 hB)
            clear hrel0 hrel1 hB
            go_wp2_with fail
            case roundEnd => exact ⟨⟨m + 1, by omega, by go_num, by rw [e3.out]; exact hown2, hbw2, hh2, hlt2⟩, by simp [intOf]; omega⟩
          | true =>
            have e3 := Lib.hid (hrel1 hB)
            clear hrel0 hrel1 hB
            rcases rangesV_snoc (upto f m) m with ⟨q0, q1⟩ | ⟨q, x, y, q0, q1⟩
            · rw [q0] at hown2
              rw [← e3.out] at q1
              have q2 := Lib.hid q1
              clear q0 e3 hle2 q1 hle
              obtain ⟨A, c, rfl⟩ := own_slice hown2
              change w2.ownsRow (w.heap.size + 1) 53 2 (.slice A 0 c) 0 [] at hown2
              have hc3 : 0 + 1 ≤ maxLen := by unfold maxLen; omega
              have hc5 : w.heap.size + 1 ≤ (w2.alloc (.cells #[.int .i64 (m : Int), .int .i64 (m : Int)] 53)).heap.size := by simp; omega
              go_wp2_with (at_builtin; refine wpList_append_own _ rfl _ _ 35 rfl (w.heap.size + 1) 53 i0 (.agg #[.int .i64 0, .int .i64 0]) 2 16 Tryd.underlying35 hi0 hz0 hz1 hz2 rfl (by decide) _ _ _ rfl (hown2.alloc _) ⟨w2.heap.size, 0, none⟩ 1 1 [.int .i64 (m : Int), .int .i64 (m : Int)] rfl rfl (news2 _ _ _ _) (two_int _ _ _) hc3 (by decide) hc5 ?_; intro v' w3 hown3 hgrow _)
              obtain ⟨k1, k2, k3⟩ := grown_keep hbw2 hh2 hlt2 hown2 hgrow
              exact ⟨⟨m + 1, by omega, by go_num, by rw [q2.out]; exact hown3, k1, k2, k3⟩, by simp [intOf]; omega⟩
            · have hql : q.length + 1 ≤ m := by rw [q0] at hle2; simp at hle2; omega
              rw [q0] at hown2
              rw [← e3.out] at q1
              have hown4 : w2.ownsRow (w.heap.size + 1) 53 2 u3 (q.length + 1) (flatR (q ++ [(x, y)])) := by simpa using hown2
              clear q0 e3 hle2 hle hown2
              obtain ⟨A, c, rfl⟩ := own_slice hown4
              obtain ⟨g, cap, hgA, -, -⟩ := hown4.form (by omega)
              obtain rfl : A = some ⟨g, 0, none⟩ := by injection hgA
              have hcell : w2.cell? ⟨g, q.length * 2 + 1, none⟩ = some (.int .i64 (y : Int)) := by
                rw [hown4.cellAt _ (by omega)]; exact flatR_last q x y
              have hfro := hown4.frozenAt (q.length * 2 + 1)
              have i1 : ((q.length + 1 : Nat) : Int) - 1 = (q.length : Int) := by omega
              clear hgA
              by_cases hy : y + 1 = m
              · rw [if_pos hy] at q1
                have q2 := Lib.hid q1
                have hyd : ((y : Int) == (m : Int) - 1) = true := by rw [beq_iff_eq]; omega
                obtain ⟨s1, s2⟩ := hown4.stored (q.length * 2 + 1) (.int .i64 (m : Int))
                clear q1
                go_wp2_with fail
                obtain ⟨k1, k2, k3⟩ := grown_keep' hbw2 hh2 hlt2 (own_base hown4 g rfl) s2
                exact ⟨⟨m + 1, by omega, by go_num, by rw [q2.out, ← flatR_set q x y m]; simpa using s1, k1, k2, k3⟩, by simp [intOf]; omega⟩
              · rw [if_neg hy] at q1
                have q2 := Lib.hid q1
                have hyd : ((y : Int) == (m : Int) - 1) = false := beq_eq_false_iff_ne.2 (by omega)
                have hc3 : (q.length + 1) + 1 ≤ maxLen := by unfold maxLen; omega
                have hc5 : w.heap.size + 1 ≤ (w2.alloc (.cells #[.int .i64 (m : Int), .int .i64 (m : Int)] 53)).heap.size := by simp; omega
                clear q1
                go_wp2_with (at_builtin; refine wpList_append_own _ rfl _ _ 35 rfl (w.heap.size + 1) 53 i0 (.agg #[.int .i64 0, .int .i64 0]) 2 16 Tryd.underlying35 hi0 hz0 hz1 hz2 rfl (by decide) _ _ _ rfl (hown4.alloc _) ⟨w2.heap.size, 0, none⟩ 1 1 [.int .i64 (m : Int), .int .i64 (m : Int)] rfl rfl (news2 _ _ _ _) (two_int _ _ _) hc3 (by omega) hc5 ?_; intro v' w3 hown3 hgrow _)
                obtain ⟨k1, k2, k3⟩ := grown_keep hbw2 hh2 hlt2 hown4 hgrow
                exact ⟨⟨m + 1, by omega, by go_num, by rw [q2.out, flatR_append, List.length_append, List.length_append]; exact hown3, k1, k2, k3⟩, by simp [intOf]; omega⟩
    · obtain rfl : m = 16384 := by omega
      go_wp2
      exact bodyPost_ret (by simp [results, Tryd.results21, go_sem]) rfl ⟨_, rfl, own_weaken hown (Nat.le_succ _), hb⟩
end Go.Proofs.YtnlchdjknebmfaaDoor
