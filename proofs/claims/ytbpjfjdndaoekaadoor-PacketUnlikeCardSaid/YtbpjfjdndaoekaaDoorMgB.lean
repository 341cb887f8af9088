/- slot.Ranges: the runs of the slots that are there. The reference's Ranges: the same runs. slot.Make: of ranges that are in order the slots that they cover; else none. The reference's Make: the same. Numbers of slots: how they are written, how they are read; a sum of a key's bytes. slot.Print: the slots' runs as a text. The reference's Print: the same text. slot.Parse: of a text that is written for a set of slots that set, else a refusal. Conditions: the listed variables as laid; texts within the form's reach; the listed variables as laid. -/
import Derived.Test.YtbpjfjdndaoekaaDoorMgA
import Derived.Deep.RegionHeld3
import Derived.Deep.AppendLies
import Derived.StillTactics
import Derived.Test.YtbpjfjdndaoekaaDoorBase
import Derived.Test.YtbpjfjdndaoekaaDoorRDmx1
import Derived.Lib.ItoaLen
import Derived.Lib.ItoaMem
set_option linter.unusedVariables false
set_option linter.unusedSimpArgs false
namespace Go.Proofs.YtbpjfjdndaoekaaDoor
open Go.RowKit Go.Proofs.YtbpjfjdndaoekaaDoorW.PrintWords
theorem info_rng : (Tryd.prog.info? 53).map (fun i => (i.zero, i.size, i.bytes)) = some (some (.agg #[.int .i64 0, .int .i64 0]), 2, 16) := by kernel_rfl
def RgPost (w : World) (l : List (Nat × Nat)) (e : Ending) (w' : World) : Prop :=
  ∃ v, e = .returned v ∧ w'.ownsRow w.heap.size 53 2 v l.length (flatR l) ∧ Below w.heap.size w w'
theorem news2 (w : World) (a b : Value) (T : TypeId) : ∀ (j : Nat) (u : Value), [a, b][j]? = some u → (w.alloc (.cells #[a, b] T)).cell? ((⟨w.heap.size, 0, none⟩ : Addr).add j) = some u := by
  intro j u h
  match j with
  | 0 => simp only [List.getElem?_cons_zero, Option.some.injEq] at h; subst h; simp [Addr.add, go_sem]
  | 1 => simp only [List.getElem?_cons_succ, List.getElem?_cons_zero, Option.some.injEq] at h; subst h; simp [Addr.add, go_sem]
  | j + 2 => simp at h
theorem two_int (k : IntKind) (v z : Int) : ∀ u ∈ [Value.int k v, Value.int k z], u.oneCell' = true := fun u h => by
  rcases List.mem_cons.1 h with rfl | h
  · rfl
  · rw [List.mem_singleton.1 h]; rfl
theorem info_rng' : ∃ i0, Tryd.prog.info? 53 = some i0 ∧ i0.zero = some (.agg #[.int .i64 0, .int .i64 0]) ∧ i0.size = 2 ∧ i0.bytes = 16 := info_parts info_rng
/-- what an append to a row of the call's own leaves of the rest -/
theorem grown_keep {w w2 w3 : World} {e : TypeId} {size n : Nat} {v : Value} {xs : List Value} {o ob : Obj} (hbw2 : Below w.heap.size w w2) (hh2 : w2.heap[w.heap.size]? = some ob) (hlt2 : w.heap.size < w2.heap.size)
    (hown2 : w2.ownsRow (w.heap.size + 1) e size v n xs) (hgrow : (w2.alloc o).grownBy w3 v.ownBlock) : Below w.heap.size w w3 ∧ w3.heap[w.heap.size]? = some ob ∧ w.heap.size < w3.heap.size := by
  have hbA := hbw2.trans ((below_new' w2 o).mono hbw2.size)
  have hb3 := hbA.grown hgrow (by simp; omega) (fun x hx => Nat.le_of_succ_le (own_base hown2 x hx))
  have hh3 : w3.heap[w.heap.size]? = some ob :=
    (hgrow.block w.heap.size (by simp; omega) (fun e => by have := own_base hown2 w.heap.size e.symm; omega)).trans (((below_new' w2 _).block w.heap.size hlt2).trans hh2)
  refine ⟨hb3, hh3, ?_⟩
  rcases Nat.lt_or_ge w.heap.size w3.heap.size with h | h
  · exact h
  · rw [Array.getElem?_eq_none h] at hh3; cases hh3
theorem grown_keep' {w w2 w3 : World} {g : Nat} {ob : Obj} (hbw2 : Below w.heap.size w w2) (hh2 : w2.heap[w.heap.size]? = some ob) (hlt2 : w.heap.size < w2.heap.size)
    (hg : w.heap.size + 1 ≤ g) (hgrow : w2.grownBy w3 (some g)) : Below w.heap.size w w3 ∧ w3.heap[w.heap.size]? = some ob ∧ w.heap.size < w3.heap.size := by
  have hb3 := hbw2.grown hgrow (by omega) (fun x hx => by cases hx; omega)
  have hh3 : w3.heap[w.heap.size]? = some ob := (hgrow.block w.heap.size hlt2 (fun e => by cases e; omega)).trans hh2
  refine ⟨hb3, hh3, ?_⟩
  rcases Nat.lt_or_ge w.heap.size w3.heap.size with h | h
  · exact h
  · rw [Array.getElem?_eq_none h] at hh3; cases hh3
theorem blk_lt {w : World} {g : Nat} {o : Obj} (h : w.heap[g]? = some o) : g < w.heap.size := by
  rcases Nat.lt_or_ge g w.heap.size with h' | h'
  · exact h'
  · rw [Array.getElem?_eq_none h'] at h; cases h
set_option maxHeartbeats 2000000 in
set_option maxRecDepth 100000 in
theorem Ranges_calls (a : Array Value) (f : Nat → Nat) (ha : Words a f) (w : World) : Calls Tryd.prog 27 #[.agg a] w (RgPost w (rangesV (upto f 16384))) := by
  have hsz := ha.size
  have hH := fun n W => Has_calls a f ha n W
  have hs1 : (Tryd.prog.info? 24).map (·.size) = some a.size := by rw [ha.size]; exact info30
  go_enter Tryd.func27, Tryd.ntmps27
  go_wp2_with fail
  go_loopw [3, 4] (fun out i wr => ∃ m : Nat, m ≤ 16384 ∧ i = .int .i64 m ∧ wr.ownsRow (w.heap.size + 1) 53 2 out (rangesV (upto f m)).length (flatR (rangesV (upto f m))) ∧ Below w.heap.size w wr ∧ wr.heap[w.heap.size]? = some (.cells a 24 (0, 0)) ∧ w.heap.size < wr.heap.size) (fun _ i _ => 16384 - (intOf i).toNat)
  case atStart => exact ⟨0, by omega, rfl, own_nil _ _ _ _, below_new' w _, heapN w _, by simp⟩
  case round =>
    obtain ⟨m, hm, rfl, hown, hb, hh, hlt⟩ := hrel
    by_cases hm6 : m < 16384
    · have hg : wr.cell? ⟨w.heap.size, m / 64, none⟩ = some (.int .u64 (f (m / 64) : Int)) := by
        rw [cell_of_row wr _ (m / 64) a 24 (0, 0) hh]; exact ha.get (m / 64) (by omega)
      have hx := ha.lt (m / 64)
      have hmi : (m : Int) < 16384 := by omega
      have hmd : decide ((m : Int) < 16384) = true := decide_eq_true hmi
      have wm : (m : Int).tmod 64 = (m : Int) % 64 := Int.tmod_eq_emod_of_nonneg (by omega)
      by_cases hz : m % 64 = 0 ∧ f (m / 64) = 0
      · have h64 := upto_zero f (m / 64) hz.2 64 (by omega)
        rw [show 64 * (m / 64) = m by omega] at h64
        have e1 : ((m : Int) % 64 == 0) = true := by rw [show (m : Int) % 64 = 0 by omega]; rfl
        have e2 : ((f (m / 64) : Int) == 0) = true := by rw [hz.2]; rfl
        go_wp2_with fail
        case roundEnd => exact ⟨⟨m + 64, by omega, by go_num, by rw [h64]; exact hown, hb, hh, hlt⟩, by simp [intOf]; omega⟩
      · have hHm := hH m
        rw [hasW_bit f m hm6] at hHm
        change ∀ W, Calls Tryd.prog 39 #[Value.agg a, Value.int IntKind.i64 m] W fun e w' => e = Ending.returned (Value.bool (hasN f m)) ∧ Below W.heap.size W w' at hHm
        have hst := upto_succ f m
        have hle := upto_le f m
        have hle2 := rangesV_le (upto f m)
        have hrel0 : hasN f m = false → upto f (m + 1) = upto f m := fun h => by rw [hst, h]; simp
        have hrel1 : hasN f m = true → upto f (m + 1) = upto f m ++ [m] := fun h => by rw [hst, h]; rfl
        clear hst
        have hcnd : ((m : Int) % 64 == 0) = false ∨ (((m : Int) % 64 == 0) = true ∧ ((f (m / 64) : Int) == 0) = false) := by
          by_cases h1 : m % 64 = 0
          · exact Or.inr ⟨by rw [show (m : Int) % 64 = 0 by omega]; rfl, beq_eq_false_iff_ne.2 (fun e => hz ⟨h1, by omega⟩)⟩
          · exact Or.inl (beq_eq_false_iff_ne.2 (fun e => h1 (by omega)))
        clear hz hH
        obtain ⟨i0, hi0, hz0, hz1, hz2⟩ := info_rng'
        rcases hcnd with hc1 | ⟨hc1, hc2⟩
        all_goals
          go_wp2_with (refine wpList_load_row rfl 24 _ rfl w.heap.size rfl 24 a (0, 0) _ hh Tryd.underlying24 rfl hs1 ?_)
          refine (hHm _).mono ?_
          rintro e w2 ⟨rfl, hb2⟩
          have hbw2 := hb.trans (hb2.mono hb.size)
          have hown2 := pw_own_below hown hb2
          have hh2 : w2.heap[w.heap.size]? = some (.cells a 24 (0, 0)) := (hb2.block _ hlt).trans hh
          have hlt2 : w.heap.size < w2.heap.size := Nat.lt_of_lt_of_le hlt hb2.size
          clear hb2 hh hHm hg hlt hb hown
          cases hB : hasN f m with
          | false =>
            have e3 := Lib.hid (hrel0 hB)
            clear hrel0 hrel1 hB
            go_wp2_with fail
            case roundEnd => exact ⟨⟨m + 1, by omega, by go_num, by rw [e3.out]; exact hown2, hbw2, hh2, hlt2⟩, by simp [intOf]; omega⟩
          | true =>
            have e3 := Lib.hid (hrel1 hB)
            clear hrel0 hrel1 hB
            rcases rangesV_snoc (upto f m) m with ⟨q0, q1⟩ | ⟨q, x, y, q0, q1⟩
            · rw [q0] at hown2
              rw [← e3.out] at q1
              have q2 := Lib.hid q1
              clear q0 e3 hle2 q1 hle
              obtain ⟨A, c, rfl⟩ := own_slice hown2
              change w2.ownsRow (w.heap.size + 1) 53 2 (.slice A 0 c) 0 [] at hown2
              have hc3 : 0 + 1 ≤ maxLen := by unfold maxLen; omega
              have hc5 : w.heap.size + 1 ≤ (w2.alloc (.cells #[.int .i64 (m : Int), .int .i64 (m : Int)] 53)).heap.size := by simp; omega
              go_wp2_with (at_builtin; refine wpList_append_own _ rfl _ _ 50 rfl (w.heap.size + 1) 53 i0 (.agg #[.int .i64 0, .int .i64 0]) 2 16 Tryd.underlying50 hi0 hz0 hz1 hz2 rfl (by decide) _ _ _ rfl (hown2.alloc _) ⟨w2.heap.size, 0, none⟩ 1 1 [.int .i64 (m : Int), .int .i64 (m : Int)] rfl rfl (news2 _ _ _ _) (two_int _ _ _) hc3 (by decide) hc5 ?_; intro v' w3 hown3 hgrow _)
              obtain ⟨k1, k2, k3⟩ := grown_keep hbw2 hh2 hlt2 hown2 hgrow
              exact ⟨⟨m + 1, by omega, by go_num, by rw [q2.out]; exact hown3, k1, k2, k3⟩, by simp [intOf]; omega⟩
            · have hql : q.length + 1 ≤ m := by rw [q0] at hle2; simp at hle2; omega
              rw [q0] at hown2
              rw [← e3.out] at q1
              have hown4 : w2.ownsRow (w.heap.size + 1) 53 2 u3 (q.length + 1) (flatR (q ++ [(x, y)])) := by simpa using hown2
              clear q0 e3 hle2 hle hown2
              obtain ⟨A, c, rfl⟩ := own_slice hown4
              obtain ⟨g, cap, hgA, -, -⟩ := hown4.form (by omega)
              obtain rfl : A = some ⟨g, 0, none⟩ := by injection hgA
              have hcell : w2.cell? ⟨g, q.length * 2 + 1, none⟩ = some (.int .i64 (y : Int)) := by
                rw [hown4.cellAt _ (by omega)]; exact flatR_last q x y
              have hfro := hown4.frozenAt (q.length * 2 + 1)
              have i1 : ((q.length + 1 : Nat) : Int) - 1 = (q.length : Int) := by omega
              clear hgA
              by_cases hy : y + 1 = m
              · rw [if_pos hy] at q1
                have q2 := Lib.hid q1
                have hyd : ((y : Int) == (m : Int) - 1) = true := by rw [beq_iff_eq]; omega
                obtain ⟨s1, s2⟩ := hown4.stored (q.length * 2 + 1) (.int .i64 (m : Int))
                clear q1
                go_wp2_with fail
                obtain ⟨k1, k2, k3⟩ := grown_keep' hbw2 hh2 hlt2 (own_base hown4 g rfl) s2
                exact ⟨⟨m + 1, by omega, by go_num, by rw [q2.out, ← flatR_set q x y m]; simpa using s1, k1, k2, k3⟩, by simp [intOf]; omega⟩
              · rw [if_neg hy] at q1
                have q2 := Lib.hid q1
                have hyd : ((y : Int) == (m : Int) - 1) = false := beq_eq_false_iff_ne.2 (by omega)
                have hc3 : (q.length + 1) + 1 ≤ maxLen := by unfold maxLen; omega
                have hc5 : w.heap.size + 1 ≤ (w2.alloc (.cells #[.int .i64 (m : Int), .int .i64 (m : Int)] 53)).heap.size := by simp; omega
                clear q1
                go_wp2_with (at_builtin; refine wpList_append_own _ rfl _ _ 50 rfl (w.heap.size + 1) 53 i0 (.agg #[.int .i64 0, .int .i64 0]) 2 16 Tryd.underlying50 hi0 hz0 hz1 hz2 rfl (by decide) _ _ _ rfl (hown4.alloc _) ⟨w2.heap.size, 0, none⟩ 1 1 [.int .i64 (m : Int), .int .i64 (m : Int)] rfl rfl (news2 _ _ _ _) (two_int _ _ _) hc3 (by omega) hc5 ?_; intro v' w3 hown3 hgrow _)
                obtain ⟨k1, k2, k3⟩ := grown_keep hbw2 hh2 hlt2 hown4 hgrow
                exact ⟨⟨m + 1, by omega, by go_num, by rw [q2.out, flatR_append, List.length_append, List.length_append]; exact hown3, k1, k2, k3⟩, by simp [intOf]; omega⟩
    · obtain rfl : m = 16384 := by omega
      go_wp2
      exact bodyPost_ret (by simp [results, Tryd.results27, go_sem]) rfl ⟨_, rfl, own_weaken hown (Nat.le_succ _), hb⟩
end Go.Proofs.YtbpjfjdndaoekaaDoor

namespace Go.Proofs.YtbpjfjdndaoekaaDoor
open Go.RowKit Go.Proofs.YtbpjfjdndaoekaaDoorW.PrintWords
theorem rangesV_last (l : List Nat) (n : Nat) : ∃ q a, rangesV (l ++ [n]) = q ++ [(a, n)] := by
  rcases rangesV_snoc l n with ⟨_, h⟩ | ⟨q, a, b, _, h⟩
  · exact ⟨[], n, h⟩
  · split at h
    · exact ⟨q, a, h⟩
    · exact ⟨q ++ [(a, b)], n, h⟩
theorem take_snoc' (l : List Nat) (k : Nat) (h : k < l.length) : l.take (k + 1) = l.take k ++ [l.getD k 0] := by
  rw [List.take_succ_eq_append_getElem h]
  simp [List.getD, h]
/-- a run begins -/
theorem run_start (l : List Nat) (i : Nat) (h : i < l.length) (hb : i = 0 ∨ l.getD i 0 ≠ l.getD (i - 1) 0 + 1) :
    rangesV (l.take (i + 1)) = rangesV (l.take i) ++ [(l.getD i 0, l.getD i 0)] := by
  rw [take_snoc' l i h]
  rcases Nat.eq_zero_or_pos i with rfl | hi
  · rfl
  · have hne := hb.resolve_left (by omega)
    obtain ⟨j, rfl⟩ : ∃ j, i = j + 1 := ⟨i - 1, by omega⟩
    rw [take_snoc' l j (by omega)]
    obtain ⟨q0, a0, e0⟩ := rangesV_last (l.take j) (l.getD j 0)
    rcases rangesV_snoc (l.take j ++ [l.getD j 0]) (l.getD (j + 1) 0) with ⟨h0, _⟩ | ⟨q, a, b, h0, h1⟩
    · rw [e0] at h0; simp at h0
    · rw [e0] at h0
      have hb : b = l.getD j 0 := by
        have := congrArg List.getLast? h0
        simp at this
        exact this.2.symm
      rw [h1, if_neg (by rw [hb]; simp at hne; simp; omega), e0, h0]
/-- a run goes on -/
theorem run_more (l : List Nat) (k : Nat) (h : k + 1 < l.length) (P : List (Nat × Nat)) (a : Nat) (hR : rangesV (l.take (k + 1)) = P ++ [(a, l.getD k 0)]) (he : l.getD (k + 1) 0 = l.getD k 0 + 1) :
    rangesV (l.take (k + 2)) = P ++ [(a, l.getD (k + 1) 0)] := by
  rw [take_snoc' l (k + 1) h]
  rcases rangesV_snoc (l.take (k + 1)) (l.getD (k + 1) 0) with ⟨h0, _⟩ | ⟨q, a', b, h0, h1⟩
  · rw [hR] at h0; simp at h0
  · rw [hR] at h0
    have h2 := congrArg List.reverse h0
    simp at h2
    obtain ⟨⟨e1, e2⟩, e3⟩ := h2
    rw [h1, if_pos (by rw [← e2, he]; simp [List.getD]), e1, e3]
theorem ints_at (l : List Nat) (k : Nat) (h : k < l.length) : (intsN l)[k]? = some (.int .i64 ((l.getD k 0 : Nat) : Int)) := by
  unfold intsN
  rw [List.getElem?_map, List.getElem?_eq_getElem h]
  simp [List.getD, h]
theorem own_drewN' {W : World} {base n : Nat} {e : TypeId} {size : Nat} {v : Value} {xs : List Value} (h : W.ownsRow base e size v n xs) (m : Nat) : (W.drewN m).ownsRow base e size v n xs := h
theorem below_drewN {n : Nat} {w w1 : World} (h : Below n w w1) (k : Nat) : Below n w (w1.drewN k) := by
  induction k with
  | zero => exact h
  | succ k ih => exact below_drew ih
set_option maxHeartbeats 2000000 in
set_option maxRecDepth 100000 in
theorem refRanges_calls (a : Array Value) (f : Nat → Nat) (ha : Words a f) (w : World) : Calls Tryd.prog 31 #[.agg a] w (RgPost w (rangesV (upto f 16384))) := by
  have hsz := ha.size
  have hA := fun W => refAll_calls a f ha W
  have hs1 : (Tryd.prog.info? 24).map (·.size) = some a.size := by rw [ha.size]; exact info30
  have hlen := upto_le f 16384
  have hel : ∀ k, (upto f 16384).getD k 0 < 16384 := by
    intro k
    rw [List.getD_eq_getElem?_getD]
    rcases h : (upto f 16384)[k]? with _ | x
    · simp
    · have := List.mem_of_getElem? h
      unfold upto at this
      have := List.mem_range.1 (List.mem_filter.1 this).1
      simpa using this
  generalize upto f 16384 = l at *
  have hlm : (l.length : Int) ≤ 16384 := by omega
  clear hsz
  go_enter Tryd.func31, Tryd.ntmps31
  go_wp2_with (refine wpList_load_row rfl 24 _ rfl w.heap.size rfl 24 a (0, 0) _ (heapN w _) Tryd.underlying24 rfl hs1 ?_)
  refine (hA _).mono ?_
  rintro e w1 ⟨v, rfl, hl1, hb1⟩
  have hbw1 : Below w.heap.size w w1 := (below_new' w _).trans (hb1.mono (by simp))
  have hl1 := own_weaken hl1 (show w.heap.size ≤ _ by simp)
  obtain ⟨A, c, rfl⟩ := own_slice hl1
  clear hb1 hA
  obtain ⟨i0, hi0, hz0, hz1, hz2⟩ := info_rng'
  go_wp2_with fail
  go_loopw [3, 5, 6] (fun out i _ wr => ∃ m : Nat, m ≤ l.length ∧ i = .int .i64 m ∧ (m = 0 ∨ m = l.length ∨ l.getD m 0 ≠ l.getD (m - 1) 0 + 1) ∧ wr.ownsRow w.heap.size 53 2 out (rangesV (l.take m)).length (flatR (rangesV (l.take m))) ∧ Below w.heap.size w wr ∧ wr.ownsRow w.heap.size 3 1 (.slice A l.length c) l.length (intsN l)) (fun _ i _ _ => l.length - (intOf i).toNat)
  case atStart => exact ⟨0, by omega, rfl, Or.inl rfl, own_nil _ _ _ _, hbw1, hl1⟩
  case round =>
    obtain ⟨m, hm, rfl, hst, hown, hb, hl⟩ := hrel
    clear hl1 hbw1
    have hrl := rangesV_le (l.take m)
    have htl : (l.take m).length ≤ m := List.length_take_le _ _
    by_cases hml : m < l.length
    · obtain ⟨g, cap, hgA, -, -⟩ := hl.form (by omega)
      obtain rfl : A = some ⟨g, 0, none⟩ := by injection hgA
      clear hgA
      have hrun := run_start l m hml (by omega)
      have hst := Lib.hid hst
      have hgo : decide ((m : Int) < (l.length : Int)) = true := decide_eq_true (by omega)
      go_wp2_with fail
      go_loopw [6] (fun k wq => ∃ j : Nat, m ≤ j ∧ j < l.length ∧ k = .int .i64 j ∧ rangesV (l.take (j + 1)) = rangesV (l.take m) ++ [(l.getD m 0, l.getD j 0)] ∧ wq.ownsRow w.heap.size 53 2 u3 (rangesV (l.take m)).length (flatR (rangesV (l.take m))) ∧ Below w.heap.size w wq ∧ wq.ownsRow w.heap.size 3 1 (.slice (some ⟨g, 0, none⟩) l.length c) l.length (intsN l)) (fun k _ => l.length - (intOf k).toNat)
      case atStart => exact ⟨m, by omega, hml, rfl, hrun, hown, hb, hl⟩
      case round =>
        obtain ⟨j, hmj, hjl, rfl, hR, hown2, hb2, hl2⟩ := hrel
        clear hl hown hb hrun hst hgo
        have kj : wr.cell? ⟨g, j, none⟩ = some (.int .i64 ((l.getD j 0 : Nat) : Int)) := (hl2.cellAt j (by omega)).trans (ints_at l j hjl)
        have kj' : j + 1 < l.length → wr.cell? ⟨g, j + 1, none⟩ = some (.int .i64 ((l.getD (j + 1) 0 : Nat) : Int)) := fun h => (hl2.cellAt (j + 1) (by omega)).trans (ints_at l (j + 1) h)
        have w1 : IntKind.i64.wrap ((j : Int) + 1) = (j : Int) + 1 := IntWalk.i64_in _ (by omega)
        have w2 : (0 : Int) ≤ (j : Int) + 1 := by omega
        have w3 : ((j : Int) + 1).toNat = j + 1 := by omega
        have w4 : (j : Int) < (l.length : Int) := by omega
        have hYl := hel j
        have hjv : IntKind.i64.wrap (((l.getD j 0 : Nat) : Int) + 1) = ((l.getD j 0 : Nat) : Int) + 1 := IntWalk.i64_in _ (by omega)
        by_cases hgo2 : j + 1 < l.length ∧ l.getD (j + 1) 0 = l.getD j 0 + 1
        · obtain ⟨hj, he⟩ := hgo2
          have kj2 := kj' hj
          have w5 : (j : Int) + 1 < (l.length : Int) := by omega
          have w6 : decide ((j : Int) + 1 < (l.length : Int)) = true := decide_eq_true w5
          have hmore := Lib.hid (run_more l j hj _ _ hR he)
          have he2 : (((l.getD (j + 1) 0 : Nat) : Int) == ((l.getD j 0 : Nat) : Int) + 1) = true := by rw [beq_iff_eq]; omega
          clear kj' he hR hel
          generalize hX : l.getD (j + 1) 0 = X at *
          generalize hY : l.getD j 0 = Y at *
          replace hX := Lib.hid hX
          go_wp2_with fail
          go_quiet (fail)
          go_wp2_with fail
          case roundEnd =>
            exact ⟨⟨j + 1, by omega, by omega, by go_num, by rw [hX.out]; exact hmore.out, own_drewN' hown2 nq, below_drewN hb2 nq, own_drewN' hl2 nq⟩, by simp [intOf]; omega⟩
        · have hnext := Lib.hid (show j + 1 = 0 ∨ j + 1 = l.length ∨ l.getD (j + 1) 0 ≠ l.getD (j + 1 - 1) 0 + 1 by
            by_cases h : j + 1 = l.length
            · exact Or.inr (Or.inl h)
            · refine Or.inr (Or.inr fun e => hgo2 ⟨by omega, ?_⟩)
              simpa using e)
          have km : wr.cell? ⟨g, m, none⟩ = some (.int .i64 ((l.getD m 0 : Nat) : Int)) := (hl2.cellAt m (by omega)).trans (ints_at l m hml)
          have hmz := hel m
          have hRl : (rangesV (l.take (j + 1))).length = (rangesV (l.take m)).length + 1 := by rw [hR]; simp
          have hR' := Lib.hid hR
          replace hRl := Lib.hid hRl
          have ak := own_type_ne hown2 hl2 (by decide)
          have ak : u3.ownBlock ≠ some g := by
            rcases ak with h | h
            · rw [h]; simp
            · exact h
          have ht : (∃ X : Nat, (wr.cell? ⟨g, j + 1, none⟩ = some (.int .i64 (X : Int)) ∧ decide ((j : Int) + 1 < (l.length : Int)) = true ∧ ((j : Int) + 1 < (l.length : Int)) ∧ ((X : Int) == ((l.getD j 0 : Nat) : Int) + 1) = false)) ∨ decide ((j : Int) + 1 < (l.length : Int)) = false := by
            by_cases hj : j + 1 < l.length
            · refine Or.inl ⟨_, kj' hj, decide_eq_true (by omega), by omega, beq_eq_false_iff_ne.2 fun e => hgo2 ⟨hj, by omega⟩⟩
            · exact Or.inr (decide_eq_false (by omega))
          clear kj' hR hel hgo2
          generalize hX : l.getD m 0 = Z at *
          generalize hY : l.getD j 0 = Y at *
          replace hX := Lib.hid hX
          replace hY := Lib.hid hY
          generalize hP : rangesV (l.take m) = P at *
          rcases ht with ⟨X, kj2, w6, w5, he2⟩ | w6
          all_goals
            go_wp2_with fail
            go_quiet (fail)
            go_wp2_with fail
            have hl3 := own_drewN' hl2 nq
            have hown3 := own_drewN' hown2 nq
            have hb3 := below_drewN hb2 nq
            have km3 : (wr.drewN nq).cell? ⟨g, m, none⟩ = some (.int .i64 (Z : Int)) := km
            have kj3 : (wr.drewN nq).cell? ⟨g, j, none⟩ = some (.int .i64 (Y : Int)) := kj
            generalize wr.drewN nq = wz at *
            have lg : g < wz.heap.size := own_lt hl3 g rfl
            have hsz3 : w.heap.size ≤ wz.heap.size := hb3.size
            clear w1 w3 hjv hl1
            have hz1' : (Z : Int) < 16384 := by omega
            go_region_held3 (fun w' => w'.cell? ⟨g, m, none⟩ = some (.int .i64 (Z : Int)) ∧ w'.cell? ⟨g, j, none⟩ = some (.int .i64 (Y : Int)))
              (first
                | go_keep
                | (go_split_ands
                   refine ⟨?_, ?_⟩
                   · (rw [hgrow.cell_far _ (by simp; omega) (Ne.symm ak)]; assumption)
                   · (rw [hgrow.cell_far _ (by simp; omega) (Ne.symm ak)]; assumption)))
              ((refine step_append_lies _ (by rfl) _ _ _ (by rfl) w.heap.size 53 i0 _ 2 16 Tryd.underlying50 hi0 hz0 hz1 hz2 rfl (by omega) u3 P.length (flatR P) (by rfl) ((hown3.alloc _).drew)
                  ⟨wz.heap.size, 0, none⟩ 1 1 [.int .i64 (Z : Int), .int .i64 (Y : Int)] (by rfl) (by rfl) (World.news_of_block (cs := #[.int .i64 (Z : Int), .int .i64 (Y : Int)]) (t := 53) (fr := (0, 0)) (heap_alloc_new wz _)) (by simp [Value.oneCell'])
                  (by omega) (by unfold maxLen; omega) (by omega) (by simp; omega) (wz.heap.size + 1) (by simp) ?_; intro gg cap w9 hown9 hgrow hat hlt))
            go_wp2_with fail
            have hbA : Below w.heap.size w (wz.alloc (.cells #[.int .i64 (Z : Int), .int .i64 (Y : Int)] 53)).drew := below_drew (hb3.trans ((below_new' wz _).mono hb3.size))
            have hb9 := hbA.grown hgrow (by simp; omega) (fun x hx => own_base hown3 x hx)
            have hl9 := ((hl3.alloc (.cells #[.int .i64 (Z : Int), .int .i64 (Y : Int)] 53)).drew).kept hgrow (Or.inr (by simpa [Value.ownBlock] using Ne.symm ak))
            exact ⟨⟨j + 1, by omega, by go_num, hnext.out, by rw [hR'.out, flatR_append, List.length_append]; exact hown9, hb9, hl9⟩, by simp [intOf]; omega⟩
    · obtain rfl : m = l.length := by omega
      go_wp2_with fail
      exact bodyPost_ret (v := u3) (by simp [results, Tryd.results31, go_sem]) rfl ⟨u3, rfl, by rw [List.take_of_length_le (Nat.le_refl _)] at hown; exact hown, hb⟩
end Go.Proofs.YtbpjfjdndaoekaaDoor

namespace Go.Proofs.YtbpjfjdndaoekaaDoor
open Go.RowKit Go.Proofs.YtbpjfjdndaoekaaDoorW.PrintWords
open SlT
/-- A slice of ranges reads as this list. -/
def RdR (w : World) (A : Option Addr) (l : List (Int × Int)) : Prop :=
  ∀ k p, l[k]? = some p → ∃ g o, A = some ⟨g, o, none⟩ ∧ g < w.heap.size ∧ w.cell? ⟨g, o + k * 2, none⟩ = some (.int .i64 p.1) ∧ w.cell? ⟨g, o + k * 2 + 1, none⟩ = some (.int .i64 p.2)
theorem RdR.below {w w' : World} {A : Option Addr} {l : List (Int × Int)} (h : RdR w A l) (hb : Below w.heap.size w w') : RdR w' A l := fun k p hk => by
  obtain ⟨g, o, e, hlt, h1, h2⟩ := h k p hk
  exact ⟨g, o, e, Nat.lt_of_lt_of_le hlt hb.size, (hb.cell (p := ⟨g, o + k * 2, none⟩) hlt).trans h1, (hb.cell (p := ⟨g, o + k * 2 + 1, none⟩) hlt).trans h2⟩
theorem zero_words : Words Tryd.zeroCells24 (fun _ => 0) := by
  have e : Tryd.zeroCells24 = Array.replicate 256 (.int .u64 0) := by kernel_rfl
  rw [e]
  refine ⟨by simp, fun i hi => ?_, fun i => by decide⟩
  rw [Array.getElem?_replicate, if_pos hi]; rfl
def orW (f : Nat → Nat) (n : Nat) : Nat → Nat := fun w => if w = n / 64 then f w ||| 2 ^ (n % 64) else f w
theorem orW_lt {f : Nat → Nat} (h : ∀ i, f i < 18446744073709551616) (n : Nat) : f (n / 64) ||| 2 ^ (n % 64) < 18446744073709551616 := by
  have := Nat.or_lt_two_pow (n := 64) (by simpa using h (n / 64)) (by simpa using pow_lt64 (k := n % 64) (by omega))
  simpa using this
theorem hasN_orW (f : Nat → Nat) (n x : Nat) : hasN (orW f n) x = (hasN f x || decide (x = n)) := by
  unfold hasN orW
  split
  · rename_i h
    rw [Nat.testBit_or, Nat.testBit_two_pow]
    congr 1
    exact decide_eq_decide.2 ⟨fun e => by omega, fun e => by omega⟩
  · rename_i h
    have : decide (x = n) = false := decide_eq_false (fun e => h (by rw [e]))
    rw [this, Bool.or_false]
theorem words_or {a : Array Value} {f : Nat → Nat} (ha : Words a f) {k : Nat} (hk : k < 16384) : Words (a.setIfInBounds (k / 64) (.int .u64 ((f (k / 64) ||| 2 ^ (k % 64) : Nat) : Int))) (orW f k) := by
  have := ha.set (k / 64) (by omega) _ (orW_lt ha.lt k)
  have e : (fun w => if w = k / 64 then f (k / 64) ||| 2 ^ (k % 64) else f w) = orW f k := by
    funext w; unfold orW
    by_cases hw : w = k / 64
    · subst hw; simp
    · rw [if_neg hw, if_neg hw]
  rw [e] at this
  exact this
def MkPost (w : World) (l : List (Int × Int)) (e : Ending) (w' : World) : Prop :=
  (if okR l then ∃ a f, e = .returned (.tuple #[.agg a, .int .i64 0]) ∧ Words a f ∧ ∀ n, n < 16384 → hasN f n = setH l n else e = .returned (.tuple #[.agg Tryd.zeroCells24, .int .i64 20])) ∧ Below w.heap.size w w'
def okP (r : Int × Int) : Bool := decide (0 ≤ r.1) && decide (r.1 ≤ r.2) && decide (r.2 < 16384)
theorem okR_take (l : List (Int × Int)) (k : Nat) (p : Int × Int) (h : l[k]? = some p) : okR (l.take (k + 1)) = (okR (l.take k) && okP p) := by
  rw [List.take_add_one, h]; simp [okR, okP]
theorem setH_take (l : List (Int × Int)) (k : Nat) (p : Int × Int) (h : l[k]? = some p) (n : Nat) : setH (l.take (k + 1)) n = (setH (l.take k) n || (decide (p.1 ≤ (n : Int)) && decide ((n : Int) ≤ p.2))) := by
  rw [List.take_add_one, h]; simp [setH]
theorem okR_not {l : List (Int × Int)} {k : Nat} {p : Int × Int} (h : l[k]? = some p) (hp : okP p = false) : okR l = false := by
  cases e : okR l with
  | false => rfl
  | true =>
    unfold okR at e
    rw [List.all_eq_true] at e
    have := e p (List.mem_of_getElem? h)
    unfold okP at hp
    rw [hp] at this
    cases this
theorem results_cell_row2 {P : Program} {fn : Func} {p q : Tmp} {ty : TypeId} (h : fn.results = #[.cell p ty, .tmp q]) (tmps : Array Value) (w : World) (g : Nat) (t : TypeId) (cs : Array Value) (fr : Nat × Nat) (d : TypeDesc) (v : Value)
    (hp : tmps.getD p undef = .pointer (some ⟨g, 0, none⟩)) (hq : tmps.getD q undef = v) (hg : w.heap[g]? = some (.cells cs t fr))
    (hu : P.underlying ty = some d) (hd : (match d with | .struct _ | .array _ _ => true | _ => false) = true) (hi : (P.info? ty).map (·.size) = some cs.size) :
    (results fn tmps).run P w = .ok (.tuple #[.agg cs, v]) w := by
  have hp' : tmps[p]?.getD undef = .pointer (some ⟨g, 0, none⟩) := by simpa using hp
  have hq' : tmps[q]?.getD undef = v := by simpa using hq
  simp [results, h, hp', hq', asAddr, run_loadVar_row w g t ty cs fr d hg hu hd hi]
set_option maxHeartbeats 4000000 in
set_option maxRecDepth 100000 in
theorem Make_calls (l : List (Int × Int)) (A : Option Addr) (c : Nat) (hlen : l.length ≤ 9223372036854775806) (w : World) (hR : RdR w A l) : Calls Tryd.prog 37 #[.slice A l.length c] w (MkPost w l) := by
  go_enter Tryd.func37, Tryd.ntmps37
  go_wp2_with fail
  go_loopw [6, 7, 10] (fun _ _ i wr => ∃ (k : Nat) (a : Array Value) (f : Nat → Nat), k ≤ l.length ∧ i = .int .i64 k ∧ Words a f ∧ (∀ n, n < 16384 → hasN f n = setH (l.take k) n) ∧ okR (l.take k) = true ∧ Below w.heap.size w wr ∧
      wr.heap[w.heap.size]? = some (.cells Tryd.zeroCells24 24 (0, 0)) ∧ wr.heap[w.heap.size + 1]? = some (.cells a 24 (0, 0)) ∧ w.heap.size + 1 < wr.heap.size) (fun _ _ i _ => l.length - (intOf i).toNat)
  case atStart => exact ⟨0, _, _, by omega, rfl, zero_words, fun n _ => by simp [setH, hasN], rfl, below_alloc (below_new' _ _) _, heap0 w _ _, heap1 w _ _, by simp⟩
  case round =>
    obtain ⟨k, a, f, hk, rfl, ha, hf, hok, hb, h0, h1, hlt⟩ := hrel
    by_cases hkl : k < l.length
    · obtain ⟨p, hp⟩ : ∃ p, l[k]? = some p := ⟨l[k], List.getElem?_eq_getElem hkl⟩
      obtain ⟨g, o, rfl, hg, c1, c2⟩ := hR k p hp
      have c1 := (hb.cell (p := ⟨g, o + k * 2, none⟩) hg).trans c1
      have c2 := (hb.cell (p := ⟨g, o + k * 2 + 1, none⟩) hg).trans c2
      obtain ⟨p1, p2⟩ := p
      have hgo : decide ((k : Int) < (l.length : Int)) = true := decide_eq_true (by omega)
      simp only at c1 c2
      clear hR
      have hf := Lib.hid hf
      have h0' : ∀ o : Obj, (wr.alloc o).heap[w.heap.size]? = some (.cells Tryd.zeroCells24 24 (0, 0)) := fun o => ((below_new' wr o).block _ (by omega)).trans h0
      have h1' : ∀ o : Obj, (wr.alloc o).heap[w.heap.size + 1]? = some (.cells a 24 (0, 0)) := fun o => ((below_new' wr o).block _ (by omega)).trans h1
      have hb' : ∀ o : Obj, Below w.heap.size w (wr.alloc o) := fun o => hb.trans ((below_new' wr o).mono hb.size)
      by_cases hbad : p1 < 0 ∨ p2 < p1 ∨ 16384 ≤ p2
      · have hpB : okP (p1, p2) = false := by unfold okP; simp only [Bool.and_eq_false_iff, decide_eq_false_iff_not]; omega
        have hres := Lib.hid (okR_not hp hpB)
        clear hpB
        have hiZ : (Tryd.prog.info? 24).map (·.size) = some Tryd.zeroCells24.size := by rw [zero_size]; exact info30
        have hz1 := zero_words.one
        have done : ∀ (o : Obj), MkPost w l (.returned (.tuple #[.agg Tryd.zeroCells24, .int .i64 20])) ((wr.alloc o).setRow w.heap.size Tryd.zeroCells24) := fun o => by
          unfold MkPost
          rw [hres.out, if_neg (by decide)]
          exact ⟨rfl, below_setRow (hb' o) (Nat.le_refl _) _⟩
        have hb3 : p1 < 0 ∨ (¬ p1 < 0 ∧ p2 < p1) ∨ (¬ p1 < 0 ∧ ¬ p2 < p1 ∧ 16384 ≤ p2) := by omega
        clear hbad
        rcases hb3 with hb1 | ⟨hb1, hb2⟩ | ⟨hb1, hb2, hb4⟩
        all_goals
          go_wp2_with (refine wpList_store_row rfl 24 _ _ rfl (w.heap.size) Tryd.zeroCells24 rfl rfl 24 Tryd.zeroCells24 (h0' _) hiZ rfl hz1 ?_)
          refine bodyPost_ret (v := .tuple #[.agg Tryd.zeroCells24, .int .i64 20]) (results_cell_row2 Tryd.results37 _ _ w.heap.size 24 Tryd.zeroCells24 (0, 0) _ _ rfl rfl (setRow_heap _ _ _ _ _ _ (h0' _)) Tryd.underlying24 rfl hiZ) rfl (done _)
      · obtain ⟨q1, rfl⟩ : ∃ q : Nat, p1 = q := ⟨p1.toNat, by omega⟩
        obtain ⟨q2, rfl⟩ : ∃ q : Nat, p2 = q := ⟨p2.toNat, by omega⟩
        have hq12 : q1 ≤ q2 := by omega
        have hq2 : q2 < 16384 := by omega
        have t1 : ¬ (q1 : Int) < 0 := by omega
        have t2 : ¬ (q2 : Int) < (q1 : Int) := by omega
        have t3 : ¬ (16384 : Int) ≤ (q2 : Int) := by omega
        have hokn : okR (l.take (k + 1)) = true := by
          rw [okR_take l k _ hp, hok]
          unfold okP
          simp only [Bool.true_and, Bool.and_eq_true, decide_eq_true_eq]
          omega
        have hsn := setH_take l k _ hp
        simp only [Int.ofNat_le] at hsn
        have hokn := Lib.hid hokn
        have hsn := Lib.hid hsn
        obtain ⟨wo, rfl⟩ : ∃ wo : World, wo = wr := ⟨_, rfl⟩
        have hbad := Lib.hid hbad
        have hh0 := h0' (.cells #[.int .i64 (q1 : Int), .int .i64 (q2 : Int)] 53)
        have hh1 := h1' (.cells #[.int .i64 (q1 : Int), .int .i64 (q2 : Int)] 53)
        have hhb := hb' (.cells #[.int .i64 (q1 : Int), .int .i64 (q2 : Int)] 53)
        have hhl : wo.heap.size + 1 ≤ (wo.alloc (.cells #[.int .i64 (q1 : Int), .int .i64 (q2 : Int)] 53)).heap.size := by simp
        have d1 : (wo.alloc (.cells #[.int .i64 (q1 : Int), .int .i64 (q2 : Int)] 53)).cell? ⟨wo.heap.size, 0, none⟩ = some (.int .i64 (q1 : Int)) := by simp [go_sem]
        have d2 : (wo.alloc (.cells #[.int .i64 (q1 : Int), .int .i64 (q2 : Int)] 53)).cell? ⟨wo.heap.size, 1, none⟩ = some (.int .i64 (q2 : Int)) := by simp [go_sem]
        clear h0' h1' hb'
        go_wp2_with fail
        go_loopw [7] (fun s7 wr => ∃ (x : Nat) (a' : Array Value) (f' : Nat → Nat), q1 ≤ x ∧ x ≤ q2 + 1 ∧ s7 = .int .i64 x ∧ Words a' f' ∧ (∀ n, n < 16384 → hasN f' n = (setH (l.take k) n || (decide (q1 ≤ n) && decide (n < x)))) ∧ Below w.heap.size w wr ∧
          wr.heap[w.heap.size]? = some (.cells Tryd.zeroCells24 24 (0, 0)) ∧ wr.heap[w.heap.size + 1]? = some (.cells a' 24 (0, 0)) ∧ wo.heap.size + 1 ≤ wr.heap.size ∧ wr.cell? ⟨wo.heap.size, 1, none⟩ = some (.int .i64 (q2 : Int))) (fun s7 _ => 16384 - (intOf s7).toNat)
        case atStart => exact ⟨q1, a, f, by omega, by omega, rfl, ha, fun n hn => by rw [hf.out n hn]; (have : (decide (q1 ≤ n) && decide (n < q1)) = false := by rw [Bool.and_eq_false_iff, decide_eq_false_iff_not, decide_eq_false_iff_not]; omega); rw [this, Bool.or_false], hhb, hh0, hh1, hhl, d2⟩
        case round =>
          clear d1 d2 hhl hhb hh0 hh1
          obtain ⟨x, a', f', hx1, hx2, rfl, ha', hf', hb', h0', h1', hl', d2⟩ := hrel
          by_cases hxq : x ≤ q2
          · have c4 : wr.cell? ⟨w.heap.size + 1, x / 64, none⟩ = some (.int .u64 (f' (x / 64))) := by
              rw [cell_of_row wr _ (x / 64) a' 24 (0, 0) h1']; exact ha'.get (x / 64) (by omega)
            have c5 : wr.frozen? ⟨w.heap.size + 1, x / 64, none⟩ = false := by simp [World.frozen?, h1']
            have hw := words_or ha' (k := x) (by omega)
            have hO : bits .or .u64 (f' (x / 64) : Int) (2 ^ (x % 64)) = ((f' (x / 64) ||| 2 ^ (x % 64) : Nat) : Int) := by
              have := or64 (f' (x / 64)) (2 ^ (x % 64)) (ha'.lt _) (pow_lt64 (by omega))
              rw [Int.natCast_pow] at this
              exact this
            have hwp := wrap_pow (k := x % 64) (by omega)
            have hgo2 : decide ((x : Int) ≤ (q2 : Int)) = true := decide_eq_true (by omega)
            have hh := Lib.hid (fun n => hasN_orW f' x n)
            generalize hF : orW f' x = F at *
            generalize f' (x / 64) ||| 2 ^ (x % 64) = D at *
            have hf' := Lib.hid hf'
            have hxb : x < 16384 := by omega
            go_wp2_with fail
            go_region
            go_wp2_with fail
            have G1 := heap_setCell_same wr (w.heap.size + 1) (x / 64) a' 24 (.int .u64 (D : Int)) h1'
            have G0 := (heap_setCell_other wr ⟨w.heap.size + 1, x / 64, none⟩ w.heap.size (.int .u64 (D : Int)) (by simp)).trans h0'
            have G2 := (World.cell?_of_block (a := ⟨wo.heap.size, 1, none⟩) (heap_setCell_other wr ⟨w.heap.size + 1, x / 64, none⟩ wo.heap.size (.int .u64 (D : Int)) (by simp; omega))).trans d2
            refine ⟨⟨x + 1, _, F, by omega, by omega, by go_num, hw, fun n hn => ?_, below_drew (below_set hb' (Nat.le_succ _)), G0, G1, by simpa using hl', G2⟩, by simp [intOf]; omega⟩
            rw [hh.out n, hf'.out n hn, Bool.or_assoc]
            congr 1
            rw [Bool.eq_iff_iff]
            simp only [Bool.or_eq_true, Bool.and_eq_true, decide_eq_true_eq]
            omega
          · obtain rfl : x = q2 + 1 := by omega
            have hgo2 : decide (((q2 + 1 : Nat) : Int) ≤ (q2 : Int)) = false := decide_eq_false (by omega)
            go_wp2_with fail
            case roundEnd =>
              refine ⟨⟨k + 1, a', f', by omega, by go_num, ha', fun n hn => ?_, hokn.out, hb', h0', h1', by omega⟩, by simp [intOf]; omega⟩
              rw [hsn.out n, hf' n hn]
              congr 1
              rw [Bool.eq_iff_iff]
              simp only [Bool.and_eq_true, decide_eq_true_eq]
              omega
    · obtain rfl : k = l.length := by omega
      have hi : (Tryd.prog.info? 24).map (·.size) = some a.size := by rw [ha.size]; exact info30
      have hZ : Tryd.zeroCells24.size = a.size := by rw [ha.size]; exact zero_size
      have ho := ha.one
      have hf := Lib.hid hf
      clear hR
      rw [List.take_of_length_le (Nat.le_refl _)] at hok
      go_wp2_with (first | (refine wpList_load_row rfl 24 _ rfl (w.heap.size + 1) rfl 24 a (0, 0) _ h1 Tryd.underlying24 rfl hi ?_) | (refine wpList_store_row rfl 24 _ _ rfl (w.heap.size) a rfl rfl 24 Tryd.zeroCells24 h0 hi hZ ho ?_))
      refine bodyPost_ret (v := .tuple #[.agg a, .int .i64 0]) (results_cell_row2 Tryd.results37 _ _ w.heap.size 24 a (0, 0) _ _ rfl rfl (setRow_heap _ _ _ _ _ _ h0) Tryd.underlying24 rfl hi) rfl ?_
      unfold MkPost
      rw [hok, if_pos rfl]
      exact ⟨⟨a, f, rfl, ha, fun n hn => by rw [hf.out n hn, List.take_of_length_le (Nat.le_refl _)]⟩, below_setRow hb (Nat.le_refl _) _⟩
end Go.Proofs.YtbpjfjdndaoekaaDoor

namespace Go.Proofs.YtbpjfjdndaoekaaDoor
open Go.RowKit Go.Proofs.YtbpjfjdndaoekaaDoorW.PrintWords
open SlT
theorem hasN_withW {f : Nat → Nat} (h : ∀ i, f i < 18446744073709551616) (n x : Nat) : hasN (withW f n true) x = (hasN f x || decide (x = n)) := by
  unfold hasN withW
  split
  · rename_i e
    rw [if_pos rfl, bset_bit (h _) (by omega)]
    congr 1
    exact decide_eq_decide.2 ⟨fun e => by omega, fun e => by omega⟩
  · rename_i e
    have : decide (x = n) = false := decide_eq_false (fun h => e (by rw [h]))
    rw [this, Bool.or_false]
set_option maxHeartbeats 4000000 in
set_option maxRecDepth 100000 in
theorem refMake_calls (l : List (Int × Int)) (A : Option Addr) (c : Nat) (hlen : l.length ≤ 9223372036854775806) (w : World) (hR : RdR w A l) : Calls Tryd.prog 38 #[.slice A l.length c] w (MkPost w l) := by
  go_enter Tryd.func38, Tryd.ntmps38
  go_wp2_with fail
  go_loopw [5, 6] (fun i _ wr => ∃ (k : Nat) (a : Array Value) (f : Nat → Nat), k ≤ l.length ∧ i = .int .i64 k ∧ Words a f ∧ (∀ n, n < 16384 → hasN f n = setH (l.take k) n) ∧ okR (l.take k) = true ∧ Below w.heap.size w wr ∧
      wr.heap[w.heap.size]? = some (.cells Tryd.zeroCells24 24 (0, 0)) ∧ wr.heap[w.heap.size + 1]? = some (.cells a 24 (0, 0)) ∧ w.heap.size + 1 < wr.heap.size) (fun i _ _ => l.length - (intOf i).toNat)
  case atStart => exact ⟨0, _, _, by omega, rfl, zero_words, fun n _ => by simp [setH, hasN], rfl, below_alloc (below_new' _ _) _, heap0 w _ _, heap1 w _ _, by simp⟩
  case round =>
    obtain ⟨k, a, f, hk, rfl, ha, hf, hok, hb, h0, h1, hlt⟩ := hrel
    by_cases hkl : k < l.length
    · obtain ⟨p, hp⟩ : ∃ p, l[k]? = some p := ⟨l[k], List.getElem?_eq_getElem hkl⟩
      obtain ⟨g, o, rfl, hg, c1, c2⟩ := hR k p hp
      have c1 := (hb.cell (p := ⟨g, o + k * 2, none⟩) hg).trans c1
      have c2 := (hb.cell (p := ⟨g, o + k * 2 + 1, none⟩) hg).trans c2
      obtain ⟨p1, p2⟩ := p
      have hgo : decide ((k : Int) < (l.length : Int)) = true := decide_eq_true (by omega)
      simp only at c1 c2
      clear hR
      have hf := Lib.hid hf
      have h0' : ∀ n, (wr.drewN n).heap[w.heap.size]? = some (.cells Tryd.zeroCells24 24 (0, 0)) := fun n => h0
      have h1' : ∀ n, (wr.drewN n).heap[w.heap.size + 1]? = some (.cells a 24 (0, 0)) := fun n => h1
      have hb' : ∀ n, Below w.heap.size w (wr.drewN n) := fun n => below_drewN hb n
      have k0 : (0 : Int) ≤ (k : Int) := by omega
      have k1 : (k : Int) < (l.length : Int) := by omega
      by_cases hbad : p1 < 0 ∨ p2 < p1 ∨ 16384 ≤ p2
      · have hpB : okP (p1, p2) = false := by unfold okP; simp only [Bool.and_eq_false_iff, decide_eq_false_iff_not]; omega
        have hres := Lib.hid (okR_not hp hpB)
        clear hpB
        have hiZ : (Tryd.prog.info? 24).map (·.size) = some Tryd.zeroCells24.size := by rw [zero_size]; exact info30
        have hz1 := zero_words.one
        have done : ∀ n, MkPost w l (.returned (.tuple #[.agg Tryd.zeroCells24, .int .i64 20])) ((wr.drewN n).setRow w.heap.size Tryd.zeroCells24) := fun o => by
          unfold MkPost
          rw [hres.out, if_neg (by decide)]
          exact ⟨rfl, below_setRow (hb' o) (Nat.le_refl _) _⟩
        have hb3 : decide (p1 < 0) = true ∨ (decide (p1 < 0) = false ∧ decide (p2 < p1) = true) ∨ (decide (p1 < 0) = false ∧ decide (p2 < p1) = false ∧ decide (16383 < p2) = true) := by
          simp only [decide_eq_true_eq, decide_eq_false_iff_not]; omega
        clear hbad
        rcases hb3 with hb1 | ⟨hb1, hb2⟩ | ⟨hb1, hb2, hb4⟩
        all_goals
          go_wp2_with fail
          go_quiet (fail)
          go_wp2_with (refine wpList_store_row rfl 24 _ _ rfl (w.heap.size) Tryd.zeroCells24 rfl rfl 24 Tryd.zeroCells24 (h0' _) hiZ rfl hz1 ?_)
          refine bodyPost_ret (v := .tuple #[.agg Tryd.zeroCells24, .int .i64 20]) (results_cell_row2 Tryd.results38 _ _ w.heap.size 24 Tryd.zeroCells24 (0, 0) _ _ rfl rfl (setRow_heap _ _ _ _ _ _ (h0' _)) Tryd.underlying24 rfl hiZ) rfl (done _)
      · obtain ⟨q1, rfl⟩ : ∃ q : Nat, p1 = q := ⟨p1.toNat, by omega⟩
        obtain ⟨q2, rfl⟩ : ∃ q : Nat, p2 = q := ⟨p2.toNat, by omega⟩
        have hq12 : q1 ≤ q2 := by omega
        have hq2 : q2 < 16384 := by omega
        have t1 : decide ((q1 : Int) < 0) = false := decide_eq_false (by omega)
        have t2 : decide ((q2 : Int) < (q1 : Int)) = false := decide_eq_false (by omega)
        have t2n : decide (q2 < q1) = false := decide_eq_false (by omega)
        have t3 : decide ((16383 : Int) < (q2 : Int)) = false := decide_eq_false (by omega)
        have hokn : okR (l.take (k + 1)) = true := by
          rw [okR_take l k _ hp, hok]
          unfold okP
          simp only [Bool.true_and, Bool.and_eq_true, decide_eq_true_eq]
          omega
        have hsn := setH_take l k _ hp
        simp only [Int.ofNat_le] at hsn
        have hokn := Lib.hid hokn
        have hsn := Lib.hid hsn
        obtain ⟨wo, rfl⟩ : ∃ wo : World, wo = wr := ⟨_, rfl⟩
        clear hbad
        go_wp2_with fail
        go_quiet (fail)
        have c1' : (wo.drewN nq).cell? ⟨g, o + k * 2, none⟩ = some (.int .i64 (q1 : Int)) := c1
        have c2' : (wo.drewN nq).cell? ⟨g, o + k * 2 + 1, none⟩ = some (.int .i64 (q2 : Int)) := c2
        have hh0 := h0' nq
        have hh1 := h1' nq
        have hhb := hb' nq
        have hhl : wo.heap.size ≤ (wo.drewN nq).heap.size := Nat.le_refl _
        generalize wo.drewN nq = wz at *
        clear h0' h1' hb' c1 c2
        go_wp2_with fail
        go_loopw [6] (fun s7 wr => ∃ (x : Nat) (a' : Array Value) (f' : Nat → Nat), q1 ≤ x ∧ x ≤ q2 + 1 ∧ s7 = .int .i64 x ∧ Words a' f' ∧ (∀ n, n < 16384 → hasN f' n = (setH (l.take k) n || (decide (q1 ≤ n) && decide (n < x)))) ∧ Below w.heap.size w wr ∧
          wr.heap[w.heap.size]? = some (.cells Tryd.zeroCells24 24 (0, 0)) ∧ wr.heap[w.heap.size + 1]? = some (.cells a' 24 (0, 0)) ∧ wo.heap.size ≤ wr.heap.size ∧ wr.cell? ⟨g, o + k * 2 + 1, none⟩ = some (.int .i64 (q2 : Int))) (fun s7 _ => 16384 - (intOf s7).toNat)
        case atStart => exact ⟨q1, a, f, by omega, by omega, rfl, ha, fun n hn => by rw [hf.out n hn]; (have : (decide (q1 ≤ n) && decide (n < q1)) = false := by rw [Bool.and_eq_false_iff, decide_eq_false_iff_not, decide_eq_false_iff_not]; omega); rw [this, Bool.or_false], hhb, hh0, hh1, hhl, c2'⟩
        case round =>
          clear c1' c2' hhl hhb hh0 hh1
          obtain ⟨x, a', f', hx1, hx2, rfl, ha', hf', hb', h0', h1', hl', d2⟩ := hrel
          by_cases hxq : x ≤ q2
          · have hgo2 : decide ((x : Int) ≤ (q2 : Int)) = true := decide_eq_true (by omega)
            have hW := fun W => refWith_calls a' f' ha' x true W
            simp only [show (0 : Int) ≤ (x : Int) ∧ (x : Int) < 16384 from by omega, and_self, if_true, Int.toNat_natCast] at hW
            have hh := Lib.hid (fun n => hasN_withW ha'.lt x n)
            generalize hF : withW f' x true = F at *
            have hf' := Lib.hid hf'
            have hiA : (Tryd.prog.info? 24).map (·.size) = some a'.size := by rw [ha'.size]; exact info30
            go_wp2_with (refine wpList_load_row rfl 24 _ rfl (w.heap.size + 1) rfl 24 a' (0, 0) _ h1' Tryd.underlying24 rfl hiA ?_)
            refine (hW _).mono ?_
            rintro e w2 ⟨a2, rfl, ha2, hb2⟩
            have hlt0 : w.heap.size + 1 < wr.heap.size := by omega
            have g0 := (hb2.block _ (by omega : w.heap.size < wr.heap.size)).trans h0'
            have g1 := (hb2.block _ hlt0).trans h1'
            have hbw2 := hb'.trans (hb2.mono (by omega))
            have hgl : g < wr.heap.size := by omega
            have d3 := (hb2.cell (p := ⟨g, o + k * 2 + 1, none⟩) hgl).trans d2
            have hl2 : wo.heap.size ≤ w2.heap.size := Nat.le_trans hl' hb2.size
            have hi2 : (Tryd.prog.info? 24).map (·.size) = some a2.size := by rw [ha2.size]; exact info30
            have hZ2 : a'.size = a2.size := by rw [ha2.size]; exact ha'.size
            have ho2 := ha2.one
            clear hb2 h0' h1' hb' d2 hW
            go_wp2_with (refine wpList_store_row rfl 24 _ _ rfl (w.heap.size + 1) a2 rfl rfl 24 a' g1 hi2 hZ2 ho2 ?_)
            have G1 := setRow_heap _ _ _ a2 _ _ g1
            have G0 := (setRow_other w2 (w.heap.size + 1) w.heap.size a2 (by omega)).trans g0
            have G2 := (World.cell?_of_block (a := ⟨g, o + k * 2 + 1, none⟩) (setRow_other w2 (w.heap.size + 1) g a2 (by simp; omega))).trans d3
            refine ⟨⟨x + 1, _, F, by omega, by omega, by go_num, ha2, fun n hn => ?_, below_setRow hbw2 (Nat.le_succ _) _, G0, G1, by simpa [World.setRow] using hl2, G2⟩, by simp [intOf]; omega⟩
            rw [hh.out n, hf'.out n hn, Bool.or_assoc]
            congr 1
            rw [Bool.eq_iff_iff]
            simp only [Bool.or_eq_true, Bool.and_eq_true, decide_eq_true_eq]
            omega
          · obtain rfl : x = q2 + 1 := by omega
            have hgo2 : decide (((q2 + 1 : Nat) : Int) ≤ (q2 : Int)) = false := decide_eq_false (by omega)
            go_wp2_with fail
            case roundEnd =>
              refine ⟨⟨k + 1, a', f', by omega, by go_num, ha', fun n hn => ?_, hokn.out, hb', h0', h1', by omega⟩, by simp [intOf]; omega⟩
              rw [hsn.out n, hf' n hn]
              congr 1
              rw [Bool.eq_iff_iff]
              simp only [Bool.and_eq_true, decide_eq_true_eq]
              omega
    · obtain rfl : k = l.length := by omega
      have hi : (Tryd.prog.info? 24).map (·.size) = some a.size := by rw [ha.size]; exact info30
      have hZ : Tryd.zeroCells24.size = a.size := by rw [ha.size]; exact zero_size
      have ho := ha.one
      have hf := Lib.hid hf
      clear hR
      rw [List.take_of_length_le (Nat.le_refl _)] at hok
      go_wp2_with (first | (refine wpList_load_row rfl 24 _ rfl (w.heap.size + 1) rfl 24 a (0, 0) _ h1 Tryd.underlying24 rfl hi ?_) | (refine wpList_store_row rfl 24 _ _ rfl (w.heap.size) a rfl rfl 24 Tryd.zeroCells24 h0 hi hZ ho ?_))
      refine bodyPost_ret (v := .tuple #[.agg a, .int .i64 0]) (results_cell_row2 Tryd.results38 _ _ w.heap.size 24 a (0, 0) _ _ rfl rfl (setRow_heap _ _ _ _ _ _ h0) Tryd.underlying24 rfl hi) rfl ?_
      unfold MkPost
      rw [hok, if_pos rfl]
      exact ⟨⟨a, f, rfl, ha, fun n hn => by rw [hf.out n hn, List.take_of_length_le (Nat.le_refl _)]⟩, below_setRow hb (Nat.le_refl _) _⟩
end Go.Proofs.YtbpjfjdndaoekaaDoor

namespace Go.Proofs.YtbpjfjdndaoekaaDoor
open Go.RowKit Go.Proofs.YtbpjfjdndaoekaaDoorW.PrintWords
open SlS SlT
theorem w64 {x : Int} (h1 : -9223372036854775808 ≤ x) (h2 : x ≤ 9223372036854775807) : Go.RowKit.wrap64 x = x := by
  unfold Go.RowKit.wrap64; omega
theorem ba_ext {a b : ByteArray} (h : a.data.toList = b.data.toList) : a = b := ByteArray.ext (Array.toList_inj.1 h)
theorem ba_append (a b : List UInt8) : (⟨a.toArray⟩ : ByteArray) ++ ⟨b.toArray⟩ = ⟨(a ++ b).toArray⟩ := by
  apply ba_ext
  rw [ByteArray.data_append]
  simp
theorem size_mk (l : List UInt8) : (⟨l.toArray⟩ : ByteArray).size = l.length := List.size_toArray
theorem ret_str {a b : ByteArray} (h : a = b) : Ending.returned (.string a) = .returned (.string b) := by rw [h]
/-! ### strconv -/
theorem Atoi_ok (s : ByteArray) (hs : s.size ≤ 140737488351232) (v : Int) (h : Lib.atoiAll s.data.toList = .ok v) (w : World) :
    Calls Tryd.prog 49 #[.string s] w fun e w' => e = .returned (.tuple #[.int .i64 v, .nilIface]) ∧ Below w.heap.size w w' :=
  (Tryd.strconv_Atoi_ok s (by omega) v h w).mono fun e w' h => ⟨h.1, by
    rcases h.2 with rfl | ⟨t, rfl⟩
    · exact Below.refl _ _
    · exact Lib.bytesWorld_below _ _ _⟩
theorem Atoi_bad (s : ByteArray) (hs : s.size ≤ 140737488351232) (h : ∀ v, Lib.atoiAll s.data.toList ≠ .ok v) (w : World) (hE : Env w) :
    Calls Tryd.prog 49 #[.string s] w fun e w' => ∃ v N, e = .returned (.tuple #[.int .i64 v, .iface 114 (.pointer (some ⟨N, 0, none⟩))]) ∧ Below w.heap.size w w' := by
  cases e : Lib.atoiAll s.data.toList with
  | ok v => exact absurd e (h v)
  | range =>
    obtain ⟨a, ha⟩ := hE.rng
    exact (Tryd.strconv_Atoi_range_var s (by omega) e _ _ w ha).mono fun e w' ⟨N, h1, _, _, h2⟩ => ⟨_, N, h1, h2⟩
  | _ =>
    obtain ⟨a, ha⟩ := hE.syn
    exact (Any.strconv_Atoi_syntax_var Tryd.laysC172 s (by omega) e _ _ w ha).mono fun e w' ⟨N, h1, _, _, h2⟩ => ⟨_, N, h1, h2⟩
theorem below_grow (w : World) (k : Nat) (os : Array Obj) : Below w.heap.size w (Sort.grow (w.drewN k) os) := by
  have hh : (w.drewN k).heap = w.heap := rfl
  refine ⟨rfl, rfl, rfl, ?_, fun i hi => ?_⟩
  · show w.heap.size ≤ ((w.drewN k).heap ++ os).size
    rw [hh, Array.size_append]; omega
  · show ((w.drewN k).heap ++ os)[i]? = _
    rw [hh, Array.getElem?_append_left hi]
theorem Itoa_calls (n : Nat) (h1 : n < 16384) (w : World) (hE : Env w) :
    Calls Tryd.prog 28 #[.int .i64 (n : Int)] w fun e w' => e = .returned (.string ⟨(Lib.decDigits n).toArray⟩) ∧ Below w.heap.size w w' :=
  (Tryd.strconv_Itoa n (by omega) (by omega) w hE.pow).mono fun e w' ⟨h, k, os, hw⟩ => ⟨by rw [h, itoa_nat], by rw [hw]; exact below_grow w k os⟩
theorem number_calls (s : ByteArray) (hs : s.size ≤ 140737488351232) (w : World) (hE : Env w) :
    Calls Tryd.prog 36 #[.string s] w fun e w' => e = .returned (.int .i64 (numS s.data.toList)) ∧ Below w.heap.size w w' := by
  have hsz : s.data.toList.length = s.size := Array.length_toList
  by_cases hv : ∃ v, Lib.atoiAll s.data.toList = .ok v
  · obtain ⟨v, hv⟩ := hv
    have ha := fun W => Atoi_ok s hs v hv W
    have hN : numS s.data.toList = if s.size ≤ 5 then v else -1 := by unfold numS; rw [hv, hsz]
    rw [hN]
    have hvb := Lib.atoiAll_bounds hv
    clear hv hN hsz
    by_cases h5 : s.size ≤ 5
    · rw [if_pos h5]
      have h5' : ¬ (5 : Int) < (s.size : Int) := by omega
      go_enter Tryd.func36, Tryd.ntmps36
      go_wp2_with (go_at_call 49; refine (ha _).mono ?_; rintro e w2 ⟨rfl, hb2⟩)
      go_ret
      exact ⟨rfl, hb2⟩
    · rw [if_neg h5]
      have h5' : (5 : Int) < (s.size : Int) := by omega
      go_enter Tryd.func36, Tryd.ntmps36
      go_wp2_with (go_at_call 49; refine (ha _).mono ?_; rintro e w2 ⟨rfl, hb2⟩)
      go_ret
      exact ⟨rfl, hb2⟩
  · have ha := fun W h => Atoi_bad s hs (fun v e => hv ⟨v, e⟩) W h
    have hN : numS s.data.toList = -1 := by
      unfold numS
      split
      · rename_i v e; exact absurd ⟨v, e⟩ hv
      · rfl
    rw [hN]
    clear hv hN hsz
    go_enter Tryd.func36, Tryd.ntmps36
    go_wp2_with (go_at_call 49; refine (ha _ hE).mono ?_; rintro e w2 ⟨v, N, rfl, hb2⟩)
    go_ret
    exact ⟨rfl, hb2⟩
/-! ### decimal -/
theorem decimal_eq : ∀ (d n : Nat), n < 10 ^ (d + 1) → n < 9223372036854775000 → RDm.marshalyardref02_decimal.f (d + 1) (n : Int) = some ⟨(Lib.decDigits n).toArray⟩
  | d, n, h, hb => by
    by_cases h10 : n < 10
    · rw [RDm.marshalyardref02_decimal.f, if_pos (by omega), w64 (by omega) (by omega)]
      have e : (48 + (n : Int)) % 256 = ((48 + n : Nat) : Int) := by omega
      rw [e, Lib.decDigits, dif_pos h10]
      rfl
    · match d, h with
      | 0, h => exact absurd (by simpa using h) h10
      | d + 1, h =>
        have hq : Int.tdiv (n : Int) 10 = ((n / 10 : Nat) : Int) := by norm_cast
        have hr : Int.tmod (n : Int) 10 = ((n % 10 : Nat) : Int) := by norm_cast
        rw [RDm.marshalyardref02_decimal.f, if_neg (by omega), hq, hr, w64 (by omega) (by omega), decimal_eq d (n / 10) (by rw [Nat.pow_succ] at h; omega) (by omega), w64 (by omega) (by omega)]
        simp only [Option.bind_some]
        have e : (48 + ((n % 10 : Nat) : Int)) % 256 = ((48 + n % 10 : Nat) : Int) := by omega
        rw [e]
        have hs : strOfNums [((48 + n % 10 : Nat) : Int)] = ⟨[UInt8.ofNat (48 + n % 10)].toArray⟩ := by
          simp only [strOfNums, List.map_cons, List.map_nil, Int.toNat_natCast]
        rw [hs, ba_append, Lib.decDigits.eq_1 n, dif_neg h10, if_pos]
        have hl := dig_len_le 18 (n / 10) (by omega)
        rw [size_mk, size_mk]
        simp
        omega
theorem decimal_calls (n : Nat) (h1 : n < 16384) (w : World) : Calls Tryd.prog 32 #[.int .i64 (n : Int)] w fun e w' => e = .returned (.string ⟨(Lib.decDigits n).toArray⟩) ∧ Below w.heap.size w w' :=
  RDm.marshalyardref02_decimal.calls 5 n _ w (decimal_eq 4 n (by omega) (by omega))
end Go.Proofs.YtbpjfjdndaoekaaDoor

namespace Go.Proofs.YtbpjfjdndaoekaaDoor
open Go.RowKit Go.Proofs.YtbpjfjdndaoekaaDoorW.PrintWords
open SlS SlT
/-! ### two sets of slots compared -/
def eqW (f g : Nat → Nat) : Bool := (List.range 256).all fun i => f i == g i
theorem eqW_true {f g : Nat → Nat} (h : eqW f g = true) : ∀ i, i < 256 → f i = g i := fun i hi => by
  unfold eqW at h
  rw [List.all_eq_true] at h
  simpa using h i (List.mem_range.2 hi)
theorem eqW_self {f g : Nat → Nat} (h : ∀ i, i < 256 → f i = g i) : eqW f g = true := by
  unfold eqW
  rw [List.all_eq_true]
  intro i hi
  simpa using h i (List.mem_range.1 hi)
theorem size64 (w : World) : (sizeOf 22).run Tryd.prog w = .ok 1 w := by kernel_rfl
theorem eqInN {P : Program} (t e : TypeId) (n : Nat) (ht : P.underlying t = some (.array n e)) (he : P.underlying e = some (.int .u64)) (hsz : ∀ w, (sizeOf e).run P w = .ok 1 w) (hn : n ≤ 256)
    (d : Nat) {a b : Array Value} {f g : Nat → Nat} (ha : Words a f) (hb : Words b g) (w : World) : (Op.equalIn (d + 2) t (.agg a) (.agg b)).run P w = .ok ((List.range n).all fun i => f i == g i) w := by
  rw [List.range_eq_range', Op.equalIn]
  simp only [Sem.run_bind, run_underlying ht, Result.andThen_ok, hsz, Std.Legacy.Range.forIn_eq_forIn_range', Std.Legacy.Range.size, Nat.sub_zero, Nat.add_sub_cancel, Nat.div_one]
  have hl : ∀ i ∈ List.range' 0 n 1, i < n := fun i hi => by simpa using (List.mem_range'_1.1 hi).2
  generalize List.range' 0 n 1 = l at hl ⊢
  induction l with
  | nil => simp
  | cons i l ih =>
    have hi : i < n := hl i (by simp)
    have px : (part e a (i * 1)).run P w = .ok (.int .u64 (f i : Int)) w := by
      have := ha.get i (by omega)
      simp [part, isAgg, run_underlying he, this]
    have py : (part e b (i * 1)).run P w = .ok (.int .u64 (g i : Int)) w := by
      have := hb.get i (by omega)
      simp [part, isAgg, run_underlying he, this]
    have pe : (Op.equalIn (d + 1) e (.int .u64 (f i : Int)) (.int .u64 (g i : Int))).run P w = .ok (f i == g i) w := by
      rw [run_equalIn_int w d e .u64 .u64 _ _ he]
      congr 1
      rw [Bool.eq_iff_iff]
      simp
      omega
    simp only [List.forIn_cons, Sem.run_bind, px, py, pe, Result.andThen_ok, List.all_cons]
    cases hb : (f i == g i)
    · simp
    · simp only [Bool.not_true, Bool.false_eq_true, if_false, Sem.run_pure, Result.andThen_ok, Bool.true_and]
      exact ih fun j hj => hl j (by simp [hj])
theorem eqInW (d : Nat) {a b : Array Value} {f g : Nat → Nat} (ha : Words a f) (hb : Words b g) (w : World) : (Op.equalIn (d + 2) 24 (.agg a) (.agg b)).run Tryd.prog w = .ok (eqW f g) w :=
  eqInN 24 22 256 Tryd.underlying24 Tryd.underlying22 size64 (Nat.le_refl _) d ha hb w
theorem eqlW {a b : Array Value} {f g : Nat → Nat} (ha : Words a f) (hb : Words b g) (w : World) : (binOp .eql 24 (.agg a) (.agg b)).run Tryd.prog w = .ok (.bool (eqW f g)) w := by
  rw [run_eql_struct, eqInW 9998 ha hb w]
  rfl
theorem words_ext {a b : Array Value} {f g : Nat → Nat} (ha : Words a f) (hb : Words b g) (h : ∀ n, n < 16384 → hasN f n = hasN g n) : a = b ∧ ∀ i, i < 256 → f i = g i := by
  have hfg : ∀ i, i < 256 → f i = g i := by
    intro i hi
    apply Nat.eq_of_testBit_eq
    intro j
    by_cases hj : j < 64
    · have := h (64 * i + j) (by omega)
      unfold hasN at this
      rw [show (64 * i + j) / 64 = i by omega, show (64 * i + j) % 64 = j by omega] at this
      exact this
    · have h1 : (f i).testBit j = false := Nat.testBit_lt_two_pow (Nat.lt_of_lt_of_le (by simpa using ha.lt i) (Nat.pow_le_pow_right (by decide) (by omega : 64 ≤ j)))
      have h2 : (g i).testBit j = false := Nat.testBit_lt_two_pow (Nat.lt_of_lt_of_le (by simpa using hb.lt i) (Nat.pow_le_pow_right (by decide) (by omega : 64 ≤ j)))
      rw [h1, h2]
  refine ⟨?_, hfg⟩
  apply Array.ext (by rw [ha.size, hb.size])
  intro i h1 h2
  have hi : i < 256 := by rw [← ha.size]; exact h1
  have e1 := ha.get i hi
  have e2 := hb.get i hi
  rw [Array.getElem?_eq_getElem h1] at e1
  rw [Array.getElem?_eq_getElem h2] at e2
  rw [hfg i hi] at e1
  rw [Option.some.inj e1, Option.some.inj e2]
theorem eqW_iff {a b : Array Value} {f g : Nat → Nat} (ha : Words a f) (hb : Words b g) : eqW f g = true ↔ ∀ n, n < 16384 → hasN f n = hasN g n := by
  constructor
  · intro h n hn
    unfold hasN
    rw [eqW_true h (n / 64) (by omega)]
  · intro h
    exact eqW_self (words_ext ha hb h).2
theorem printH_zero : printH (hasN fun _ => 0) = [] := by
  have e : (List.range 16384).filter (hasN fun _ => 0) = [] := by
    rw [List.filter_eq_nil_iff]
    intro n _
    simp [hasN]
  unfold printH rngH
  rw [e]
  rfl
/-! ### the walk -/
def strV (l : List UInt8) : Value := .string ⟨l.toArray⟩
def partsV (rs : List (Nat × Nat)) : List Value := rs.map fun p => strV (rangeT p)
theorem info_str : ∃ i0, Tryd.prog.info? 9 = some i0 ∧ i0.zero = some (.string ByteArray.empty) ∧ i0.size = 1 ∧ i0.bytes = 16 := info_parts (by kernel_rfl)
theorem one_str (s : ByteArray) : ∀ u ∈ [Value.string s], u.oneCell' = true := fun u h => by
  rw [List.mem_singleton.1 h]; rfl
theorem flatR_at (rs : List (Nat × Nat)) (k : Nat) (p : Nat × Nat) (h : rs[k]? = some p) : (flatR rs)[k * 2]? = some (.int .i64 (p.1 : Int)) ∧ (flatR rs)[k * 2 + 1]? = some (.int .i64 (p.2 : Int)) := by
  induction rs generalizing k with
  | nil => simp at h
  | cons q rs ih =>
    have e : flatR (q :: rs) = .int .i64 (q.1 : Int) :: .int .i64 (q.2 : Int) :: flatR rs := rfl
    rw [e]
    cases k with
    | zero => simp at h; subst h; exact ⟨rfl, rfl⟩
    | succ k =>
      have := ih k (by simpa using h)
      rw [show (k + 1) * 2 = k * 2 + 1 + 1 by omega]
      simpa using this
set_option maxHeartbeats 4000000 in
set_option maxRecDepth 100000 in
theorem Print_calls (a : Array Value) (f : Nat → Nat) (ha : Words a f) (w : World) (hE : Env w) : Calls Tryd.prog 16 #[.agg a] w fun e w' => e = .returned (.string ⟨(printH (hasN f)).toArray⟩) ∧ Below w.heap.size w w' := by
  have hq := fun W => eqlW ha zero_words W
  have hs1 : (Tryd.prog.info? 24).map (·.size) = some a.size := by rw [ha.size]; exact info30
  cases hz : eqW f (fun _ => 0) with
  | true =>
    have hp := Lib.hid (printH_congr ((eqW_iff ha zero_words).1 hz))
    rw [hz] at hq
    go_enter Tryd.func16, Tryd.ntmps16
    go_wp2_with (refine wpList_load_row rfl 24 _ rfl w.heap.size rfl 24 a (0, 0) _ (heapN w _) Tryd.underlying24 rfl hs1 ?_)
    go_ret
    exact ⟨by rw [hp.out, printH_zero]; rfl, below_new' w _⟩
  | false =>
    rw [hz] at hq
    have hR := fun W => Ranges_calls a f ha W
    have hord := rngH_ord (hasN f)
    have hpl := printH_len (hasN f)
    have hrl := rng_len_le (hasN f)
    change ∀ W, Calls Tryd.prog 27 #[Value.agg a] W (RgPost W (rngH (hasN f))) at hR
    unfold printH at *
    generalize rngH (hasN f) = rs at *
    clear hz
    go_enter Tryd.func16, Tryd.ntmps16
    go_wp2_with (refine wpList_load_row rfl 24 _ rfl w.heap.size rfl 24 a (0, 0) _ (heapN w _) Tryd.underlying24 rfl hs1 ?_)
    refine (hR _).mono ?_
    rintro e w1 ⟨v, rfl, hl1, hb1⟩
    have hbw1 : Below w.heap.size w w1 := (below_new' w _).trans (hb1.mono (by simp))
    have hl1 := own_weaken hl1 (show w.heap.size ≤ _ by simp)
    obtain ⟨A, c, rfl⟩ := own_slice hl1
    clear hb1 hR hq
    obtain ⟨i0, hi0, hz0, hz1, hz2⟩ := info_str
    go_wp2_with fail
    go_loopw [3, 5, 6, 13] (fun out _ _ i wr => ∃ k : Nat, k ≤ rs.length ∧ i = .int .i64 k ∧ wr.ownsRow w.heap.size 9 1 out k (partsV (rs.take k)) ∧ Below w.heap.size w wr ∧ wr.ownsRow w.heap.size 53 2 (.slice A rs.length c) rs.length (flatR rs)) (fun _ _ _ i _ => rs.length - (intOf i).toNat)
    case atStart => exact ⟨0, by omega, rfl, own_nil _ _ _ _, hbw1, hl1⟩
    case round =>
      obtain ⟨k, hk, rfl, hown, hb, hl⟩ := hrel
      clear hl1 hbw1
      by_cases hkl : k < rs.length
      · obtain ⟨g, cap, hgA, -, -⟩ := hl.form (by omega)
        obtain rfl : A = some ⟨g, 0, none⟩ := by injection hgA
        clear hgA
        obtain ⟨p, hp⟩ : ∃ p, rs[k]? = some p := ⟨rs[k], List.getElem?_eq_getElem hkl⟩
        obtain ⟨hp12, hp2⟩ := hord p (List.mem_of_getElem? hp)
        obtain ⟨f1, f2⟩ := flatR_at rs k p hp
        have c1 := (hl.cellAt (k * 2) (by omega)).trans f1
        have c2 := (hl.cellAt (k * 2 + 1) (by omega)).trans f2
        have hnext := Lib.hid (show partsV (rs.take (k + 1)) = partsV (rs.take k) ++ [strV (rangeT p)] by unfold partsV; rw [List.take_add_one, hp]; simp)
        have hgo : decide ((k : Int) < (rs.length : Int)) = true := decide_eq_true (by omega)
        have hEr := hE.below hb
        have hI1 := fun W h => Itoa_calls p.1 (by omega) W h
        have hI2 := fun W h => Itoa_calls p.2 hp2 W h
        have hT : rangeT p = Lib.decDigits p.1 ++ if p.1 < p.2 then 45 :: Lib.decDigits p.2 else [] := rfl
        have hd1 := dig_len_le 4 p.1 (by omega)
        have hd2 := dig_len_le 4 p.2 (by omega)
        clear f1 f2
        generalize rangeT p = T at *
        generalize Lib.decDigits p.1 = D1 at *
        generalize Lib.decDigits p.2 = D2 at *
        generalize p.1 = p1 at *
        generalize p.2 = p2 at *
        have hs1 : (⟨D1.toArray⟩ : ByteArray).size ≤ 5 := by rw [size_mk]; exact hd1
        have hs2 : (⟨D2.toArray⟩ : ByteArray).size ≤ 5 := by rw [size_mk]; exact hd2
        have hT := Lib.hid hT
        obtain ⟨wo, rfl⟩ : ∃ wo : World, wo = wr := ⟨_, rfl⟩
        go_wp2_with fail
        refine (hI1 _ (hEr.below (below_new' _ _))).mono ?_
        rintro e w2 ⟨rfl, hb2⟩
        have d1 : w2.cell? ⟨wo.heap.size, 0, none⟩ = some (.int .i64 (p1 : Int)) := (hb2.cell (p := ⟨wo.heap.size, 0, none⟩) (by simp)).trans (by simp [go_sem])
        have d2 : w2.cell? ⟨wo.heap.size, 1, none⟩ = some (.int .i64 (p2 : Int)) := (hb2.cell (p := ⟨wo.heap.size, 1, none⟩) (by simp)).trans (by simp [go_sem])
        have hb12 := (below_new' wo (.cells #[.int .i64 (p1 : Int), .int .i64 (p2 : Int)] 53)).trans (hb2.mono (by simp))
        have hbw2 := hb.trans (hb12.mono hb.size)
        have hown2 := pw_own_below hown hb12
        have hl2 := pw_own_below hl hb12
        have hE2 := hEr.below hb12
        have hlt2 : wo.heap.size < w2.heap.size := by have := hb2.size; simp at this; omega
        have hc5 : ∀ o : Obj, w.heap.size ≤ (w2.alloc o).heap.size := fun o => by have := hbw2.size; simp; omega
        clear hI1 hb2 hb12 hown hl hb hEr c1 c2 hE
        by_cases h12 : p1 < p2
        · have h12' : decide ((p1 : Int) < (p2 : Int)) = true := decide_eq_true (by omega)
          have h12n : decide (p1 < p2) = true := decide_eq_true h12
          rw [if_pos h12] at hT
          go_wp2_with fail
          refine (hI2 _ hE2).mono ?_
          rintro e w3 ⟨rfl, hb3⟩
          have hbw3 := hbw2.trans (hb3.mono hbw2.size)
          have hown3 := pw_own_below hown2 hb3
          have hl3 := pw_own_below hl2 hb3
          have hc5' : ∀ o : Obj, w.heap.size ≤ (w3.alloc o).heap.size := fun o => by have := hbw3.size; simp; omega
          have hS : (⟨D1.toArray⟩ : ByteArray) ++ ((⟨#[45]⟩ : ByteArray) ++ ⟨D2.toArray⟩) = ⟨T.toArray⟩ := by
            rw [hT.out]
            have e1 : (⟨#[45]⟩ : ByteArray) ++ ⟨D2.toArray⟩ = ⟨(45 :: D2).toArray⟩ := ba_append [45] D2
            rw [e1, ba_append]
          replace hS := Lib.hid hS
          clear hI2 hb3 hown2 hl2 hbw2 hE2 hc5 d1 d2
          go_wp2_with (at_builtin; refine wpList_append_own _ rfl _ _ 49 rfl w.heap.size 9 i0 (.string ByteArray.empty) 1 16 Tryd.underlying49 hi0 hz0 hz1 hz2 rfl (by decide) _ _ _ rfl (hown3.alloc _) ⟨w3.heap.size, 0, none⟩ 1 1 [.string ((⟨D1.toArray⟩ : ByteArray) ++ ((⟨#[45]⟩ : ByteArray) ++ ⟨D2.toArray⟩))] rfl rfl (news1 _ _ _) (one_str _) (by unfold maxLen; omega) (by omega) (hc5' _) ?_; intro v' w4 hown4 hgrow _)
          have hbA := hbw3.trans ((below_new' w3 (.cells #[.string ((⟨D1.toArray⟩ : ByteArray) ++ ((⟨#[45]⟩ : ByteArray) ++ ⟨D2.toArray⟩))] 9)).mono hbw3.size)
          have hb9 := hbA.grown hgrow (by have := hbw3.size; simp; omega) (fun x hx => own_base hown3 x hx)
          have hl9 := (hl3.alloc (.cells #[.string ((⟨D1.toArray⟩ : ByteArray) ++ ((⟨#[45]⟩ : ByteArray) ++ ⟨D2.toArray⟩))] 9)).kept hgrow (own_type_ne hl3 hown3 (by decide))
          exact ⟨⟨k + 1, by omega, by go_num, by rw [hnext.out]; rw [hS.out] at hown4; exact hown4, hb9, hl9⟩, by simp [intOf]; omega⟩
        · have h12' : decide ((p1 : Int) < (p2 : Int)) = false := decide_eq_false (by omega)
          have h12n : decide (p1 < p2) = false := decide_eq_false h12
          go_wp2_with (at_builtin; refine wpList_append_own _ rfl _ _ 49 rfl w.heap.size 9 i0 (.string ByteArray.empty) 1 16 Tryd.underlying49 hi0 hz0 hz1 hz2 rfl (by decide) _ _ _ rfl (hown2.alloc _) ⟨w2.heap.size, 0, none⟩ 1 1 [.string ⟨D1.toArray⟩] rfl rfl (news1 _ _ _) (one_str _) (by unfold maxLen; omega) (by omega) (hc5 _) ?_; intro v' w3 hown3 hgrow _)
          have hbA := hbw2.trans ((below_new' w2 (.cells #[.string ⟨D1.toArray⟩] 9)).mono hbw2.size)
          have hb9 := hbA.grown hgrow (by have := hbw2.size; simp; omega) (fun x hx => own_base hown2 x hx)
          have hl9 := (hl2.alloc (.cells #[.string ⟨D1.toArray⟩] 9)).kept hgrow (own_type_ne hl2 hown2 (by decide))
          exact ⟨⟨k + 1, by omega, by go_num, by rw [hnext.out, hT.out, if_neg h12, List.append_nil]; exact hown3, hb9, hl9⟩, by simp [intOf]; omega⟩
      · obtain rfl : k = rs.length := by omega
        have hgo : decide ((rs.length : Int) < (rs.length : Int)) = false := decide_eq_false (by omega)
        rw [List.take_of_length_le (Nat.le_refl _)] at hown
        have hown : wr.ownsRow w.heap.size 9 1 u3 rs.length (partsV rs) := hown
        obtain ⟨A2, c2, rfl⟩ := own_slice hown
        rcases Nat.eq_zero_or_pos rs.length with h0 | h0
        · have hj := Tryd.strings_Join_none A2 c2 ⟨#[32]⟩ wr
          have hn : rs = [] := List.length_eq_zero_iff.1 h0
          subst hn
          go_wp2_with fail
          refine hj.mono ?_
          rintro e w2 ⟨rfl, rfl⟩
          go_wp2_with fail
          go_ret
          exact ⟨rfl, hb⟩
        · obtain ⟨g2, cap2, hgA, hlt2, -⟩ := hown.form h0
          obtain rfl : A2 = some ⟨g2, 0, none⟩ := by injection hgA
          have hxs : ((rs.map fun p => (⟨(rangeT p).toArray⟩ : ByteArray)).map (·.data.toList)) = rs.map rangeT := by
            rw [List.map_map]; exact List.map_congr_left fun p _ => rfl
          have hj := Tryd.strings_Join g2 0 c2 (rs.map fun p => (⟨(rangeT p).toArray⟩ : ByteArray)) ⟨#[32]⟩ wr (fun j x hx => by
              have hjl : j < rs.length := by
                rcases Nat.lt_or_ge j rs.length with h | h
                · exact h
                · rw [List.getElem?_eq_none (by simpa using h)] at hx; cases hx
              rw [Nat.zero_add, hown.cellAt j (by omega)]
              unfold partsV strV
              rw [List.getElem?_map] at hx ⊢
              obtain ⟨p, hp, rfl⟩ := Option.map_eq_some_iff.1 hx
              rw [hp]; rfl) (own_lt hown g2 rfl) (by simp; omega) (by have := own_cap hown; simpa using this) (by rw [hxs]; exact Nat.le_trans hpl (by omega))
          rw [hxs, List.length_map] at hj
          have hj := hj.mono (R' := fun e w' => e = .returned (.string ⟨(printV rs).toArray⟩) ∧ Below wr.heap.size wr w') (fun _ _ h => h)
          go_wp2_with fail
          refine hj.mono ?_
          rintro e w2 ⟨rfl, hb2⟩
          go_wp2_with fail
          go_ret
          exact ⟨rfl, hb.trans (hb2.mono hb.size)⟩
end Go.Proofs.YtbpjfjdndaoekaaDoor

namespace Go.Proofs.YtbpjfjdndaoekaaDoor
open Go.RowKit Go.Proofs.YtbpjfjdndaoekaaDoorW.PrintWords
open SlS SlT
def bI (l : List UInt8) : List Int := l.map fun b => (b.toNat : Int)
theorem bI_append (l r : List UInt8) : bI (l ++ r) = bI l ++ bI r := by simp [bI]
theorem bI_len (l : List UInt8) : (bI l).length = l.length := by simp [bI]
theorem bI_of (l : List UInt8) : bytesOf ⟨l.toArray⟩ = bI l := by simp [bytesOf, bI]
theorem str_bI (l : List UInt8) : strOfNums (bI l) = ⟨l.toArray⟩ := by
  unfold strOfNums bI
  congr 2
  rw [List.map_map]
  have e : ((fun (n : Int) => UInt8.ofNat n.toNat) ∘ fun (b : UInt8) => (b.toNat : Int)) = id := by funext b; simp
  rw [e, List.map_id]
theorem print_snoc (rs : List (Nat × Nat)) (k : Nat) (p : Nat × Nat) (h : rs[k]? = some p) : printV (rs.take (k + 1)) = printV (rs.take k) ++ (if k = 0 then [] else [32]) ++ rangeT p := by
  rw [List.take_add_one, h]
  unfold printV
  cases rs with
  | nil => simp at h
  | cons q rs =>
    cases k with
    | zero => simp at h; subst h; simp [Lib.join_one, Lib.join_nil]
    | succ k =>
      simp only [List.take_succ_cons, List.map_cons, List.cons_append, List.map_append, Option.toList_some, List.map_nil]
      rw [Lib.join_cons, Lib.join_cons]
      simp [Lib.joinTail]
theorem join_le (ps qs : List (List UInt8)) : (Lib.join ps [32]).length ≤ (Lib.join (ps ++ qs) [32]).length := by
  cases ps with
  | nil => simp [Lib.join]
  | cons x r =>
    rw [List.cons_append, Lib.join_cons, Lib.join_cons]
    simp [Lib.joinTail]
theorem print_take_le (rs : List (Nat × Nat)) (k : Nat) : (printV (rs.take k)).length ≤ (printV rs).length := by
  unfold printV
  have e : rs.map rangeT = (rs.take k).map rangeT ++ (rs.drop k).map rangeT := by rw [← List.map_append, List.take_append_drop]
  rw [e]
  exact join_le _ _
theorem info_u8 : (Tryd.prog.info? 5).map (fun i => (i.zero, i.size, i.bytes)) = some (some (.int .u8 0), 1, 1) := by kernel_rfl
theorem nums_app1 (xs : List Int) (z : Int) : nums .u8 (xs ++ [z]) = nums .u8 xs ++ [.int .u8 z] := by simp [nums]
/-- one byte more -/
theorem app_byte {w0 W : World} (base : Nat) {ops : Array Oper} {rest : List Oper} {o : Oper} {a : Act} {Q : Exit → Act → World → Prop} (hgd : o.guard = none) (s x : Operand)
    (ho : o.op = .call { callee := .builtin .append, args := #[s, x], argTypes := #[36, 36] })
    (v : Value) (xs : List Int) (z : Int) (hs : a.eval s = v) (hx : a.eval x = .slice (some ⟨W.heap.size, 0, none⟩) 1 1)
    (HO : W.ownsRow base 5 1 v xs.length (nums .u8 xs)) (HB : Below base w0 W) (hbase : base ≤ W.heap.size) (hl : xs.length + 1 ≤ 140737488355328)
    (h : ∀ v1 w1, w1.ownsRow base 5 1 v1 (xs ++ [z]).length (nums .u8 (xs ++ [z])) → Below base w0 w1 → (W.alloc (.cells #[.int .u8 z] 5)).grownBy w1 v.ownBlock → wpList Tryd.prog ops Q rest (a.put o.dst v1) w1) :
    wpList Tryd.prog ops Q (o :: rest) a (W.alloc (.cells #[.int .u8 z] 5)) := by
  obtain ⟨i0, hi0, hz0, hz1, hz2⟩ := info_parts info_u8
  refine wpList_append_own _ hgd s x 36 ho base 5 i0 (.int .u8 0) 1 1 Tryd.underlying36 hi0 hz0 hz1 hz2 rfl (by decide) v xs.length (nums .u8 xs) hs (HO.alloc _) ⟨W.heap.size, 0, none⟩ 1 1 [.int .u8 z] hx rfl (news1 _ _ _) (one_int _ _) (by unfold maxLen; omega) (by omega) (by simp; omega) ?_
  intro v1 w1 hown hg _
  have hbA : Below base w0 (W.alloc (.cells #[.int .u8 z] 5)) := HB.trans ((below_new' W _).mono hbase)
  refine h v1 w1 ?_ (hbA.grown hg (by simp; omega) (own_base HO)) hg
  rw [nums_app1, List.length_append]
  exact hown
set_option maxHeartbeats 4000000 in
set_option maxRecDepth 100000 in
theorem refPrint_calls (a : Array Value) (f : Nat → Nat) (ha : Words a f) (w : World) : Calls Tryd.prog 19 #[.agg a] w fun e w' => e = .returned (.string ⟨(printH (hasN f)).toArray⟩) ∧ Below w.heap.size w w' := by
  have hs1 : (Tryd.prog.info? 24).map (·.size) = some a.size := by rw [ha.size]; exact info30
  have hR := fun W => refRanges_calls a f ha W
  have hord := rngH_ord (hasN f)
  have hpl := printH_len (hasN f)
  have hrl := rng_len_le (hasN f)
  change ∀ W, Calls Tryd.prog 31 #[Value.agg a] W (RgPost W (rngH (hasN f))) at hR
  unfold printH at *
  generalize rngH (hasN f) = rs at *
  go_enter Tryd.func19, Tryd.ntmps19
  go_wp2_with (refine wpList_load_row rfl 24 _ rfl w.heap.size rfl 24 a (0, 0) _ (heapN w _) Tryd.underlying24 rfl hs1 ?_)
  refine (hR _).mono ?_
  rintro e w1 ⟨v, rfl, hl1, hb1⟩
  have hbw1 : Below w.heap.size w w1 := (below_new' w _).trans (hb1.mono (by simp))
  have hl1 := own_weaken hl1 (show w.heap.size ≤ _ by simp)
  obtain ⟨A, c, rfl⟩ := own_slice hl1
  clear hb1 hR
  go_wp2_with fail
  go_loopw [3, 5] (fun out i wr => ∃ k : Nat, k ≤ rs.length ∧ i = .int .i64 k ∧ wr.ownsRow w.heap.size 5 1 out (bI (printV (rs.take k))).length (nums .u8 (bI (printV (rs.take k)))) ∧ Below w.heap.size w wr ∧ wr.ownsRow w.heap.size 53 2 (.slice A rs.length c) rs.length (flatR rs)) (fun _ i _ => rs.length - (intOf i).toNat)
  case atStart => exact ⟨0, by omega, rfl, own_nil _ _ _ _, hbw1, hl1⟩
  case round =>
    obtain ⟨k, hk, rfl, hown, hb, hl⟩ := hrel
    clear hl1 hbw1
    have hpk := print_take_le rs k
    by_cases hkl : k < rs.length
    · obtain ⟨g, cap, hgA, -, -⟩ := hl.form (by omega)
      obtain rfl : A = some ⟨g, 0, none⟩ := by injection hgA
      clear hgA
      obtain ⟨p, hp⟩ : ∃ p, rs[k]? = some p := ⟨rs[k], List.getElem?_eq_getElem hkl⟩
      obtain ⟨hp12, hp2⟩ := hord p (List.mem_of_getElem? hp)
      obtain ⟨f1, f2⟩ := flatR_at rs k p hp
      have hcells : ∀ W : World, W.ownsRow w.heap.size 53 2 (.slice (some ⟨g, 0, none⟩) rs.length c) rs.length (flatR rs) → W.cell? ⟨g, k * 2, none⟩ = some (.int .i64 (p.1 : Int)) ∧ W.cell? ⟨g, k * 2 + 1, none⟩ = some (.int .i64 (p.2 : Int)) := fun W h =>
        ⟨(h.cellAt (k * 2) (by omega)).trans f1, (h.cellAt (k * 2 + 1) (by omega)).trans f2⟩
      have hnext := Lib.hid (print_snoc rs k p hp)
      have hgo : decide ((k : Int) < (rs.length : Int)) = true := decide_eq_true (by omega)
      have hD1 := fun W => decimal_calls p.1 (by omega) W
      have hD2 := fun W => decimal_calls p.2 hp2 W
      have hT : rangeT p = Lib.decDigits p.1 ++ if p.1 < p.2 then 45 :: Lib.decDigits p.2 else [] := rfl
      have hd1 := dig_len_le 4 p.1 (by omega)
      have hd2 := dig_len_le 4 p.2 (by omega)
      clear f1 f2
      generalize rangeT p = T at *
      generalize Lib.decDigits p.1 = D1 at *
      generalize Lib.decDigits p.2 = D2 at *
      generalize p.1 = p1 at *
      generalize p.2 = p2 at *
      have hs1 : (⟨D1.toArray⟩ : ByteArray).size ≤ 5 := by rw [size_mk]; exact hd1
      have hs2 : (⟨D2.toArray⟩ : ByteArray).size ≤ 5 := by rw [size_mk]; exact hd2
      replace hT := Lib.hid hT
      generalize hP : printV (rs.take k) = P at *
      have hPl := bI_len P
      have hBs := hb.size
      replace hcells := Lib.hid hcells
      have hlt : (p1 < p2 ∧ decide ((p1 : Int) < (p2 : Int)) = true) ∨ (¬ p1 < p2 ∧ decide ((p1 : Int) < (p2 : Int)) = false) := by
        by_cases h : p1 < p2
        · exact Or.inl ⟨h, decide_eq_true (by omega)⟩
        · exact Or.inr ⟨h, decide_eq_false (by omega)⟩
      replace hlt : (p1 < p2 ∧ decide (p1 < p2) = true) ∨ (¬ p1 < p2 ∧ decide (p1 < p2) = false) := by
        by_cases h : p1 < p2
        · exact Or.inl ⟨h, decide_eq_true h⟩
        · exact Or.inr ⟨h, decide_eq_false h⟩
      replace hP := Lib.hid hP
      have k0 : (0 : Int) ≤ (k : Int) := by omega
      have k1 : (k : Int) < (rs.length : Int) := by omega
      rcases Nat.eq_zero_or_pos k with hk0 | hk0
      · have hk1 : decide ((0 : Int) < (k : Int)) = false := decide_eq_false (by omega)
        have hk1n : decide (0 < k) = false := decide_eq_false (by omega)
        replace hk0 := Lib.hid hk0
        obtain ⟨c3, c4⟩ := hcells.out wr hl
        go_wp2_with fail
        refine (hD1 _).mono ?_
        rintro e w2 ⟨rfl, hb2⟩
        have ho2 := pw_own_below hown hb2
        have hl2 := pw_own_below hl hb2
        have hbw2 := hb.trans (hb2.mono hb.size)
        have hsz2 := hbw2.size
        clear hb2 hD1
        go_wp2_with (at_builtin; refine print_append_str w.heap.size rfl (.tmp 19) (.tmp 25) 36 9 5 rfl Tryd.underlying36 Tryd.underlying9 info_u8 u3 (bI P) ⟨D1.toArray⟩ rfl rfl ho2 hbw2 hsz2 (by first | omega | (simp; omega)) ?_; intro v3 w3 ho3 hb3 hg3; have hl3 := hl2.kept hg3 (own_type_ne hl2 ho2 (by decide)); obtain ⟨c5, c6⟩ := hcells.out w3 hl3)
        have e3 : (bI P) ++ bytesOf ⟨D1.toArray⟩ = bI (P ++ D1) := by rw [bI_of]; simp [bI]
        rw [e3] at ho3
        clear e3
        go_quiet (fail)
        have ho4 := own_drewN' ho3 nq
        have hl4 := own_drewN' hl3 nq
        have hb4 := below_drewN hb3 nq
        have c7 : (w3.drewN nq).cell? ⟨g, k * 2 + 1, none⟩ = some (.int .i64 (p2 : Int)) := c6
        generalize w3.drewN nq = w4 at *
        have hsz4 := hb4.size
        have hQ4 := bI_len (P ++ D1)
        simp only [List.length_append, List.length_cons, List.length_nil] at hQ4
        clear c5 c6 hg3 hl3 hb3 ho3 hl2 hbw2 ho2
        rcases hlt with ⟨hlt, h12⟩ | ⟨hlt, h12⟩
        · rw [if_pos hlt] at hT
          go_wp2_with (at_builtin; refine app_byte w.heap.size rfl (.tmp 38) (.tmp 39) rfl v3 (bI (P ++ D1)) 45 rfl rfl ho4 hb4 hsz4 (by omega) ?_; intro v5 w5 ho5 hb5 hg5; have hl5 := (hl4.alloc (.cells #[.int .u8 45] 5)).kept hg5 (own_type_ne hl4 ho4 (by decide)); obtain ⟨c5, c8⟩ := hcells.out w5 hl5)
          refine (hD2 _).mono ?_
          rintro e w6 ⟨rfl, hb6⟩
          have ho6 := pw_own_below ho5 hb6
          have hl6 := pw_own_below hl5 hb6
          have hbw6 := hb5.trans (hb6.mono hb5.size)
          have hsz6 := hbw6.size
          have e6 : (bI (P ++ D1) ++ [45]).length = P.length + D1.length + 1 := by rw [List.length_append, hQ4]; first | (simp; done) | (simp; omega)
          clear hb6 hD2 c5 c8 c7 ho4 hb4 hl4
          go_wp2_with (at_builtin; refine print_append_str w.heap.size rfl (.tmp 41) (.tmp 47) 36 9 5 rfl Tryd.underlying36 Tryd.underlying9 info_u8 v5 (bI (P ++ D1) ++ [45]) ⟨D2.toArray⟩ rfl rfl ho6 hbw6 hsz6 (by omega) ?_; intro v7 w7 ho7 hb7 hg7; have hl7 := hl6.kept hg7 (own_type_ne hl6 ho6 (by decide)))
          have e7 : bI (P ++ D1) ++ [45] ++ bytesOf ⟨D2.toArray⟩ = bI (printV (rs.take (k + 1))) := by rw [bI_of, hnext.out, hT.out, if_pos hk0.out]; simp [bI]
          rw [e7] at ho7
          exact ⟨⟨k + 1, by omega, by go_num, ho7, hb7, hl7⟩, by simp [intOf]; omega⟩
        · rw [if_neg hlt] at hT
          go_wp2_with fail
          have e7 : bI (P ++ D1) = bI (printV (rs.take (k + 1))) := by rw [hnext.out, hT.out, if_pos hk0.out]; simp [bI]
          rw [e7] at ho4
          exact ⟨⟨k + 1, by omega, by go_num, ho4, hb4, hl4⟩, by simp [intOf]; omega⟩
      · have hk1 : decide ((0 : Int) < (k : Int)) = true := decide_eq_true (by omega)
        have hk1n : decide (0 < k) = true := decide_eq_true hk0
        have hne : ¬ k = 0 := by omega
        go_wp2_with (at_builtin; refine app_byte w.heap.size rfl (.tmp 16) (.tmp 17) rfl u3 (bI P) 32 rfl rfl hown hb hb.size (by omega) ?_; intro v1 w1 ho1 hb1 hg1; have hl1 := (hl.alloc (.cells #[.int .u8 32] 5)).kept hg1 (own_type_ne hl hown (by decide)); obtain ⟨c3, c4⟩ := hcells.out w1 hl1)
        refine (hD1 _).mono ?_
        rintro e w2 ⟨rfl, hb2⟩
        have ho2 := pw_own_below ho1 hb2
        have hl2 := pw_own_below hl1 hb2
        have hbw2 := hb1.trans (hb2.mono hb1.size)
        have hsz2 := hbw2.size
        clear hb2 hD1
        go_wp2_with (at_builtin; refine print_append_str w.heap.size rfl (.tmp 19) (.tmp 25) 36 9 5 rfl Tryd.underlying36 Tryd.underlying9 info_u8 v1 (bI P ++ [32]) ⟨D1.toArray⟩ rfl rfl ho2 hbw2 hsz2 (by first | omega | (simp; omega)) ?_; intro v3 w3 ho3 hb3 hg3; have hl3 := hl2.kept hg3 (own_type_ne hl2 ho2 (by decide)); obtain ⟨c5, c6⟩ := hcells.out w3 hl3)
        have e3 : (bI P ++ [32]) ++ bytesOf ⟨D1.toArray⟩ = bI (P ++ [32] ++ D1) := by rw [bI_of]; simp [bI]
        rw [e3] at ho3
        clear e3
        go_quiet (fail)
        have ho4 := own_drewN' ho3 nq
        have hl4 := own_drewN' hl3 nq
        have hb4 := below_drewN hb3 nq
        have c7 : (w3.drewN nq).cell? ⟨g, k * 2 + 1, none⟩ = some (.int .i64 (p2 : Int)) := c6
        generalize w3.drewN nq = w4 at *
        have hsz4 := hb4.size
        have hQ4 := bI_len (P ++ [32] ++ D1)
        simp only [List.length_append, List.length_cons, List.length_nil] at hQ4
        clear c5 c6 hg3 hl3 hb3 ho3 hl2 hbw2 ho2
        rcases hlt with ⟨hlt, h12⟩ | ⟨hlt, h12⟩
        · rw [if_pos hlt] at hT
          go_wp2_with (at_builtin; refine app_byte w.heap.size rfl (.tmp 38) (.tmp 39) rfl v3 (bI (P ++ [32] ++ D1)) 45 rfl rfl ho4 hb4 hsz4 (by omega) ?_; intro v5 w5 ho5 hb5 hg5; have hl5 := (hl4.alloc (.cells #[.int .u8 45] 5)).kept hg5 (own_type_ne hl4 ho4 (by decide)); obtain ⟨c5, c8⟩ := hcells.out w5 hl5)
          refine (hD2 _).mono ?_
          rintro e w6 ⟨rfl, hb6⟩
          have ho6 := pw_own_below ho5 hb6
          have hl6 := pw_own_below hl5 hb6
          have hbw6 := hb5.trans (hb6.mono hb5.size)
          have hsz6 := hbw6.size
          have e6 : (bI (P ++ [32] ++ D1) ++ [45]).length = P.length + D1.length + 2 := by rw [List.length_append, hQ4]; first | (simp; done) | (simp; omega)
          clear hb6 hD2 c5 c8 c7 ho4 hb4 hl4
          go_wp2_with (at_builtin; refine print_append_str w.heap.size rfl (.tmp 41) (.tmp 47) 36 9 5 rfl Tryd.underlying36 Tryd.underlying9 info_u8 v5 (bI (P ++ [32] ++ D1) ++ [45]) ⟨D2.toArray⟩ rfl rfl ho6 hbw6 hsz6 (by omega) ?_; intro v7 w7 ho7 hb7 hg7; have hl7 := hl6.kept hg7 (own_type_ne hl6 ho6 (by decide)))
          have e7 : bI (P ++ [32] ++ D1) ++ [45] ++ bytesOf ⟨D2.toArray⟩ = bI (printV (rs.take (k + 1))) := by rw [bI_of, hnext.out, hT.out, if_neg hne]; simp [bI]
          rw [e7] at ho7
          exact ⟨⟨k + 1, by omega, by go_num, ho7, hb7, hl7⟩, by simp [intOf]; omega⟩
        · rw [if_neg hlt] at hT
          go_wp2_with fail
          have e7 : bI (P ++ [32] ++ D1) = bI (printV (rs.take (k + 1))) := by rw [hnext.out, hT.out, if_neg hne]; simp [bI]
          rw [e7] at ho4
          exact ⟨⟨k + 1, by omega, by go_num, ho4, hb4, hl4⟩, by simp [intOf]; omega⟩
    · obtain rfl : k = rs.length := by omega
      have hgo : decide ((rs.length : Int) < (rs.length : Int)) = false := decide_eq_false (by omega)
      rw [List.take_of_length_le (Nat.le_refl _)] at hown
      have hcv := own_string (P := Tryd.prog) (dst := 9) (src := 36) Tryd.underlying36 Tryd.underlying5 Tryd.underlying9 hown
      go_wp2_with fail
      go_ret
      exact ⟨ret_str (str_bI _), hb⟩
end Go.Proofs.YtbpjfjdndaoekaaDoor

namespace Go.Proofs.YtbpjfjdndaoekaaDoor
open Go.RowKit Go.Proofs.YtbpjfjdndaoekaaDoorW.PrintWords
open SlS SlT
theorem fieldsGoD_len : ∀ (f : Nat) (l cur : List UInt8), ∀ x ∈ Lib.fieldsGoD f cur l, x.length ≤ cur.length + l.length
  | 0, l, cur, x, hx => by
    unfold Lib.fieldsGoD at hx
    split at hx
    · cases hx
    · rw [List.mem_singleton.1 hx]; omega
  | f + 1, l, cur, x, hx => by
    unfold Lib.fieldsGoD at hx
    split at hx
    · split at hx
      · cases hx
      · rw [List.mem_singleton.1 hx]; omega
    · split at hx
      · rcases List.mem_append.1 hx with hx | hx
        · split at hx
          · cases hx
          · rw [List.mem_singleton.1 hx]; omega
        · have := fieldsGoD_len f _ [] x hx
          simp at this; omega
      · have := fieldsGoD_len f _ _ x hx
        simp at this; omega
theorem fieldsD_len (l x : List UInt8) (h : x ∈ Lib.fieldsD l) : x.length ≤ l.length := by
  have := fieldsGoD_len _ l [] x h
  simpa using this
theorem fieldsGoD_count : ∀ (f : Nat) (l cur : List UInt8), (Lib.fieldsGoD f cur l).length ≤ f + 1
  | 0, l, cur => by unfold Lib.fieldsGoD; split <;> simp
  | f + 1, l, cur => by
    unfold Lib.fieldsGoD
    split
    · split <;> simp
    · split
      · have := fieldsGoD_count f (l.drop (Lib.decodeL l).2) []
        rw [List.length_append]
        split <;> simp <;> omega
      · have := fieldsGoD_count f (l.drop (Lib.decodeL l).2) (cur ++ l.take (Lib.decodeL l).2)
        omega
theorem fieldsD_count (l : List UInt8) : (Lib.fieldsD l).length ≤ l.length + 2 := fieldsGoD_count _ l []
theorem cut_len (x : List UInt8) : (Lib.cut x [45]).1.length ≤ x.length ∧ (Lib.cut x [45]).2.1.length ≤ x.length := by
  unfold Lib.cut
  split
  · simp; omega
  · simp
def flatI (l : List (Int × Int)) : List Value := l.flatMap fun p => [.int .i64 p.1, .int .i64 p.2]
theorem flatI_append (l r : List (Int × Int)) : flatI (l ++ r) = flatI l ++ flatI r := by simp [flatI]
theorem flatI_len (l : List (Int × Int)) : (flatI l).length = l.length * 2 := by
  induction l with
  | nil => rfl
  | cons p r ih => simp [flatI] at ih ⊢; omega
theorem flatI_at (rs : List (Int × Int)) (k : Nat) (p : Int × Int) (h : rs[k]? = some p) : (flatI rs)[k * 2]? = some (.int .i64 p.1) ∧ (flatI rs)[k * 2 + 1]? = some (.int .i64 p.2) := by
  induction rs generalizing k with
  | nil => simp at h
  | cons q rs ih =>
    have e : flatI (q :: rs) = .int .i64 q.1 :: .int .i64 q.2 :: flatI rs := rfl
    rw [e]
    cases k with
    | zero => simp at h; subst h; exact ⟨rfl, rfl⟩
    | succ k =>
      have := ih k (by simpa using h)
      rw [show (k + 1) * 2 = k * 2 + 1 + 1 by omega]
      simpa using this
theorem rd_of_own {w : World} {base c : Nat} {A : Option Addr} {l : List (Int × Int)} (h : w.ownsRow base 53 2 (.slice A l.length c) l.length (flatI l)) : RdR w A l := fun k p hk => by
  have hkl : k < l.length := (List.getElem?_eq_some_iff.1 hk).1
  obtain ⟨g, cap, hgA, -, hlt⟩ := h.form (by omega)
  obtain rfl : A = some ⟨g, 0, none⟩ := by injection hgA
  obtain ⟨f1, f2⟩ := flatI_at l k p hk
  refine ⟨g, 0, rfl, hlt, ?_, ?_⟩
  · rw [Nat.zero_add, h.cellAt (k * 2) (by omega)]; exact f1
  · rw [Nat.zero_add, h.cellAt (k * 2 + 1) (by omega)]; exact f2
theorem flatI_intR (rs : List (Nat × Nat)) : flatI (intR rs) = flatR rs := by
  unfold flatI intR flatR
  rw [List.flatMap_map]
theorem rd_of_rng {w : World} {base c : Nat} {A : Option Addr} {rs : List (Nat × Nat)} (h : w.ownsRow base 53 2 (.slice A rs.length c) rs.length (flatR rs)) : RdR w A (intR rs) := by
  have e : (intR rs).length = rs.length := by simp [intR]
  refine rd_of_own (base := base) (c := c) ?_
  rw [e, flatI_intR]; exact h
/-- just a text that is written for a set of slots is read, as that set -/
def PsPost (w : World) (s : List UInt8) (e : Ending) (w' : World) : Prop :=
  ((∃ a f, e = .returned (.tuple #[.agg a, .int .i64 0]) ∧ Words a f ∧ printH (hasN f) = s) ∨ ((∀ H, printH H ≠ s) ∧ e = .returned (.tuple #[.agg Tryd.zeroCells24, .int .i64 20]))) ∧ Below w.heap.size w w'
def one34 (x : List UInt8) : ByteArray := ⟨x.toArray⟩
/-- one piece read: the loop's round -/
theorem str_eq_list (a b : ByteArray) : (a.toList == b.toList) = decide (a.data.toList = b.data.toList) := by
  rw [ByteArray.toList_eq, ByteArray.toList_eq, Bool.beq_eq_decide_eq]
set_option maxHeartbeats 4000000 in
set_option maxRecDepth 100000 in
theorem Parse_calls (s : ByteArray) (hs : s.size ≤ 140737488351232) (w : World) (hE : Env w) : Calls Tryd.prog 23 #[.string s] w (PsPost w s.data.toList) := by
  have hsz : s.data.toList.length = s.size := Array.length_toList
  have hiZ : (Tryd.prog.info? 24).map (·.size) = some Tryd.zeroCells24.size := by rw [zero_size]; exact info30
  have hzo := zero_words.one
  by_cases hlong : 98304 < s.size
  · have hno := Lib.hid (show ∀ H, printH H ≠ s.data.toList from fun H e => by have := printH_len H; rw [e, hsz] at this; omega)
    have hl2 : (98304 : Int) < (s.size : Int) := by omega
    go_enter Tryd.func23, Tryd.ntmps23
    go_wp2_with (refine wpList_store_row rfl 24 _ _ rfl (w.heap.size) Tryd.zeroCells24 rfl rfl 24 Tryd.zeroCells24 (heapN w _) hiZ rfl hzo ?_)
    refine bodyPost_ret (v := .tuple #[.agg Tryd.zeroCells24, .int .i64 20]) (results_cell_row2 Tryd.results23 _ _ w.heap.size 24 Tryd.zeroCells24 (0, 0) _ _ rfl rfl (setRow_heap _ _ _ _ _ _ (heapN w _)) Tryd.underlying24 rfl hiZ) rfl ⟨Or.inr ⟨hno.out, rfl⟩, below_setRow (below_new' w _) (Nat.le_refl _) _⟩
  · have hl2 : ¬ (98304 : Int) < (s.size : Int) := by omega
    have hF := fun W h1 h2 => Tryd.strings_Fields_any s W (by omega) h1 h2
    have hfl := fieldsD_len s.data.toList
    have hfc := fieldsD_count s.data.toList
    have hrd : readS s.data.toList = (Lib.fieldsD s.data.toList).map pieceV := rfl
    have hrl : (readS s.data.toList).length = (Lib.fieldsD s.data.toList).length := by rw [hrd, List.length_map]
    generalize hfs : Lib.fieldsD s.data.toList = fs at *
    replace hrd := Lib.hid hrd
    replace hrl := Lib.hid hrl
    replace hfl : ∀ x ∈ fs, x.length ≤ s.size := fun x hx => by rw [← hsz]; exact hfl x hx
    have hfc2 : fs.length ≤ 98306 := by omega
    replace hfl := Lib.hid hfl
    clear hfs hfc
    replace hsz := Lib.hid hsz
    go_enter Tryd.func23, Tryd.ntmps23
    go_wp2_with fail
    refine (hF _ (hE.below (below_new' _ _)).spc (hE.below (below_new' _ _)).whs).mono ?_
    rintro e w1 ⟨F, rfl, -, hF1, hb1⟩
    have hbw1 : Below w.heap.size w w1 := (below_new' w _).trans (hb1.mono (by simp))
    have hz1 : w1.heap[w.heap.size]? = some (.cells Tryd.zeroCells24 24 (0, 0)) := (hb1.block _ (by simp)).trans (heapN w _)
    have hlt1 : w.heap.size < w1.heap.size := by have := hb1.size; simp at this; omega
    have hF1 := own_weaken hF1 (show w.heap.size + 1 ≤ _ by simp)
    clear hb1 hF
    obtain ⟨i0, hi0, hz0, hzz1, hz2⟩ := info_rng'
    go_wp2_with fail
    go_loopw [4, 19] (fun out i wr => ∃ k : Nat, k ≤ fs.length ∧ i = .int .i64 k ∧ wr.ownsRow (w.heap.size + 1) 53 2 out k (flatI ((fs.take k).map pieceV)) ∧ Below w.heap.size w wr ∧ wr.heap[w.heap.size]? = some (.cells Tryd.zeroCells24 24 (0, 0)) ∧ w.heap.size < wr.heap.size ∧
      wr.ownsRow (w.heap.size + 1) 9 1 (.slice (some ⟨F, 0, none⟩) fs.length fs.length) fs.length (fs.map fun x => .string ⟨x.toArray⟩)) (fun _ i _ => fs.length - (intOf i).toNat)
    case atStart => exact ⟨0, by omega, rfl, own_nil _ _ _ _, hbw1, hz1, hlt1, hF1⟩
    case round =>
      obtain ⟨k, hk, rfl, hown, hb, hz, hlt, hF⟩ := hrel
      clear hF1 hbw1 hz1 hlt1
      by_cases hkl : k < fs.length
      · obtain ⟨x, hx⟩ : ∃ x, fs[k]? = some x := ⟨fs[k], List.getElem?_eq_getElem hkl⟩
        have hxl := hfl.out x (List.mem_of_getElem? hx)
        have hnext := Lib.hid (show flatI ((fs.take (k + 1)).map pieceV) = flatI ((fs.take k).map pieceV) ++ [.int .i64 (pieceV x).1, .int .i64 (pieceV x).2] by rw [List.take_add_one, hx]; simp [flatI])
        have c1 : wr.cell? ⟨F, k, none⟩ = some (.string ⟨x.toArray⟩) := by
          rw [hF.cellAt k (by omega), List.getElem?_map, hx]; rfl
        have hgo : decide ((k : Int) < (fs.length : Int)) = true := decide_eq_true (by omega)
        have hEr := hE.below hb
        obtain ⟨mx, hmx⟩ := hEr.mx
        have hC := Tryd.strings_Cut ⟨x.toArray⟩ ⟨#[45]⟩ mx wr (by rw [size_mk]; omega) hmx
        have hcl := cut_len x
        have e1 : (⟨x.toArray⟩ : ByteArray).data.toList = x := rfl
        have e2 : (⟨#[45]⟩ : ByteArray).data.toList = [45] := rfl
        rw [e1, e2] at hC
        have hpv : pieceV x = (numS (Lib.cut x [45]).1, numS (if (Lib.cut x [45]).2.2 then (Lib.cut x [45]).2.1 else (Lib.cut x [45]).1)) := rfl
        rw [hpv] at hnext
        generalize Lib.cut x [45] = C at *
        obtain ⟨C1, C2, C3⟩ := C
        simp only at hC hnext hcl
        have hN1 := fun W h => number_calls ⟨C1.toArray⟩ (by rw [size_mk]; omega) W h
        have hN2 := fun W h => number_calls ⟨C2.toArray⟩ (by rw [size_mk]; omega) W h
        have e3 : (⟨C1.toArray⟩ : ByteArray).data.toList = C1 := rfl
        have e4 : (⟨C2.toArray⟩ : ByteArray).data.toList = C2 := rfl
        rw [e3] at hN1
        rw [e4] at hN2
        generalize hn1 : numS C1 = n1 at *
        replace hn1 := Lib.hid hn1
        clear e1 e2 e3 e4 hpv hmx hcl hx hE
        obtain ⟨wo, rfl⟩ : ∃ wo : World, wo = wr := ⟨_, rfl⟩
        go_wp2_with fail
        refine hC.mono ?_
        rintro e w2 ⟨rfl, nd, rfl⟩
        have hown := own_drewN' hown nd
        have hF := own_drewN' hF nd
        have hz : (wo.drewN nd).heap[w.heap.size]? = some (.cells Tryd.zeroCells24 24 (0, 0)) := hz
        have hlt : w.heap.size < (wo.drewN nd).heap.size := hlt
        have hb := below_drewN hb nd
        have hEr : Env (wo.drewN nd) := hEr.below (below_drewN (Below.refl _ _) nd)
        clear hC c1
        generalize wo.drewN nd = w2 at *
        cases C3 with
        | true =>
          rw [if_pos rfl] at hnext
          go_wp2_with fail
          refine (hN1 _ hEr).mono ?_
          rintro e w3 ⟨rfl, hb3⟩
          have hE3 := hEr.below hb3
          have hown3 := pw_own_below hown hb3
          have hF3 := pw_own_below hF hb3
          have hz3 : w3.heap[w.heap.size]? = some (.cells Tryd.zeroCells24 24 (0, 0)) := (hb3.block _ hlt).trans hz
          have hlt3 : w.heap.size < w3.heap.size := Nat.lt_of_lt_of_le hlt hb3.size
          have hbw3 := hb.trans (hb3.mono hb.size)
          clear hown hF hz hlt hb hEr hb3
          go_wp2_with fail
          refine (hN2 _ hE3).mono ?_
          rintro e w4 ⟨rfl, hb4⟩
          have hown4 := pw_own_below hown3 hb4
          have hF4 := pw_own_below hF3 hb4
          have hz4 : w4.heap[w.heap.size]? = some (.cells Tryd.zeroCells24 24 (0, 0)) := (hb4.block _ hlt3).trans hz3
          have hlt4 : w.heap.size < w4.heap.size := Nat.lt_of_lt_of_le hlt3 hb4.size
          have hbw4 := hbw3.trans (hb4.mono hbw3.size)
          clear hown3 hF3 hz3 hlt3 hbw3 hE3 hb4 hN1 hN2
          generalize numS C2 = n2 at *
          have hnI := flatI_len ((fs.take k).map pieceV)
          have hc5 : w.heap.size + 1 ≤ (w4.alloc (.cells #[.int .i64 n1, .int .i64 n2] 53)).heap.size := by simp; omega
          go_wp2_with (at_builtin; refine wpList_append_own _ rfl _ _ 50 rfl (w.heap.size + 1) 53 i0 (.agg #[.int .i64 0, .int .i64 0]) 2 16 Tryd.underlying50 hi0 hz0 hzz1 hz2 rfl (by decide) _ _ _ rfl (hown4.alloc _) ⟨w4.heap.size, 0, none⟩ 1 1 [.int .i64 n1, .int .i64 n2] rfl rfl (news2 _ _ _ _) (two_int _ _ _) (by unfold maxLen; omega) (by omega) hc5 ?_; intro v' w5 hown5 hgrow _)
          obtain ⟨k1, k2, k3⟩ := grown_keep hbw4 hz4 hlt4 hown4 hgrow
          have hF5 := (hF4.alloc (.cells #[.int .i64 n1, .int .i64 n2] 53)).kept hgrow (own_type_ne hF4 hown4 (by decide))
          exact ⟨⟨k + 1, by omega, by go_num, by rw [hnext.out]; exact hown5, k1, k2, k3, hF5⟩, by simp [intOf]; omega⟩
        | false =>
          rw [if_neg (by decide)] at hnext
          go_wp2_with fail
          refine (hN1 _ hEr).mono ?_
          rintro e w3 ⟨rfl, hb3⟩
          have hE3 := hEr.below hb3
          have hown3 := pw_own_below hown hb3
          have hF3 := pw_own_below hF hb3
          have hz3 : w3.heap[w.heap.size]? = some (.cells Tryd.zeroCells24 24 (0, 0)) := (hb3.block _ hlt).trans hz
          have hlt3 : w.heap.size < w3.heap.size := Nat.lt_of_lt_of_le hlt hb3.size
          have hbw3 := hb.trans (hb3.mono hb.size)
          clear hown hF hz hlt hb hEr hb3
          go_wp2_with fail
          refine (hN1 _ hE3).mono ?_
          rintro e w4 ⟨rfl, hb4⟩
          have hown4 := pw_own_below hown3 hb4
          have hF4 := pw_own_below hF3 hb4
          have hz4 : w4.heap[w.heap.size]? = some (.cells Tryd.zeroCells24 24 (0, 0)) := (hb4.block _ hlt3).trans hz3
          have hlt4 : w.heap.size < w4.heap.size := Nat.lt_of_lt_of_le hlt3 hb4.size
          have hbw4 := hbw3.trans (hb4.mono hbw3.size)
          clear hown3 hF3 hz3 hlt3 hbw3 hE3 hb4 hN1 hN2
          rw [hn1.out] at hnext
          have hnI := flatI_len ((fs.take k).map pieceV)
          have hc5 : w.heap.size + 1 ≤ (w4.alloc (.cells #[.int .i64 n1, .int .i64 n1] 53)).heap.size := by simp; omega
          go_wp2_with (at_builtin; refine wpList_append_own _ rfl _ _ 50 rfl (w.heap.size + 1) 53 i0 (.agg #[.int .i64 0, .int .i64 0]) 2 16 Tryd.underlying50 hi0 hz0 hzz1 hz2 rfl (by decide) _ _ _ rfl (hown4.alloc _) ⟨w4.heap.size, 0, none⟩ 1 1 [.int .i64 n1, .int .i64 n1] rfl rfl (news2 _ _ _ _) (two_int _ _ _) (by unfold maxLen; omega) (by omega) hc5 ?_; intro v' w5 hown5 hgrow _)
          obtain ⟨k1, k2, k3⟩ := grown_keep hbw4 hz4 hlt4 hown4 hgrow
          have hF5 := (hF4.alloc (.cells #[.int .i64 n1, .int .i64 n1] 53)).kept hgrow (own_type_ne hF4 hown4 (by decide))
          exact ⟨⟨k + 1, by omega, by go_num, by rw [hnext.out]; exact hown5, k1, k2, k3, hF5⟩, by simp [intOf]; omega⟩
      · obtain rfl : k = fs.length := by omega
        have hgo : decide ((fs.length : Int) < (fs.length : Int)) = false := decide_eq_false (by omega)
        have hown : wr.ownsRow (w.heap.size + 1) 53 2 u4 fs.length (flatI (readS s.data.toList)) := by rw [List.take_of_length_le (Nat.le_refl _), ← hrd.out] at hown; exact hown
        obtain ⟨A, c, rfl⟩ := own_slice hown
        have hlen := hrl.out
        have hEr := hE.below hb
        have hiff := read_iff (rd := fun s => some (readS s)) readS_rd s.data.toList
        have hlim : 16384 < fs.length → ∀ H, printH H ≠ s.data.toList := fun h H e => by
          obtain ⟨l, e2, _, _⟩ := read_back (rd := fun s => some (readS s)) readS_rd H
          have e3 := readS_print (rngH H) (rngH_ord H)
          have e4 : printV (rngH H) = s.data.toList := e
          rw [e4] at e3
          have e5 := rng_len_le H
          have e6 : (intR (rngH H)).length = (rngH H).length := by simp [intR]
          rw [e3] at hlen
          omega
        have hM := fun W (hW : Below wr.heap.size wr W) => Make_calls (readS s.data.toList) A c (by omega) W ((rd_of_own (base := w.heap.size + 1) (c := c) (by rw [hlen]; exact hown)).below hW)
        rw [hlen] at hM
        generalize readS s.data.toList = l at *
        clear hF hown hlen hrd hrl
        go_wp2_with fail
        refine (hM _ (Below.refl _ _)).mono ?_
        rintro e w2 ⟨hP, hb2⟩
        have hz2' : w2.heap[w.heap.size]? = some (.cells Tryd.zeroCells24 24 (0, 0)) := (hb2.block _ hlt).trans hz
        have hlt2 : w.heap.size < w2.heap.size := Nat.lt_of_lt_of_le hlt hb2.size
        have hbw2 := hb.trans (hb2.mono hb.size)
        have hE2 := hEr.below hb2
        clear hM hb2 hz hlt hb hEr
        cases hok : okR l with
        | false =>
          rw [hok, if_neg (by decide)] at hP
          subst hP
          have hno : ∀ H, printH H ≠ s.data.toList := fun H e => by
            obtain ⟨l', e1, e2, _⟩ := hiff.1 ⟨H, e⟩
            simp at e1
            subst e1
            rw [hok] at e2; cases e2
          replace hno := Lib.hid hno
          clear hiff hlim
          have hz3 : ((w2.alloc (.cells Tryd.zeroCells24 24)).setRow w2.heap.size Tryd.zeroCells24).heap[w.heap.size]? = some (.cells Tryd.zeroCells24 24 (0, 0)) := (setRow_other _ _ _ _ (by omega)).trans (((below_new' w2 _).block _ hlt2).trans hz2')
          have hbw3 : Below w.heap.size w ((w2.alloc (.cells Tryd.zeroCells24 24)).setRow w2.heap.size Tryd.zeroCells24) := below_setRow (hbw2.trans ((below_new' w2 _).mono hbw2.size)) hbw2.size _
          go_wp2_with (first | (refine wpList_store_row rfl 24 _ _ rfl (w2.heap.size) Tryd.zeroCells24 rfl rfl 24 Tryd.zeroCells24 (heapN w2 _) hiZ rfl hzo ?_) | (refine wpList_store_row rfl 24 _ _ rfl (w.heap.size) Tryd.zeroCells24 rfl rfl 24 Tryd.zeroCells24 hz3 hiZ rfl hzo ?_))
          refine bodyPost_ret (v := .tuple #[.agg Tryd.zeroCells24, .int .i64 20]) (results_cell_row2 Tryd.results23 _ _ w.heap.size 24 Tryd.zeroCells24 (0, 0) _ _ rfl rfl (setRow_heap _ _ _ _ _ _ hz3) Tryd.underlying24 rfl hiZ) rfl ⟨Or.inr ⟨hno.out, rfl⟩, below_setRow hbw3 (Nat.le_refl _) _⟩
        | true =>
          rw [hok, if_pos rfl] at hP
          obtain ⟨a, f, rfl, ha, hfl2⟩ := hP
          have hpr := printH_congr hfl2
          have hia : (Tryd.prog.info? 24).map (·.size) = some a.size := by rw [ha.size]; exact info30
          have hza : Tryd.zeroCells24.size = a.size := by rw [ha.size]; exact zero_size
          have ho := ha.one
          have hz3 : ((w2.alloc (.cells Tryd.zeroCells24 24)).setRow w2.heap.size a).heap[w.heap.size]? = some (.cells Tryd.zeroCells24 24 (0, 0)) := (setRow_other _ _ _ _ (by omega)).trans (((below_new' w2 _).block _ hlt2).trans hz2')
          have hbn : Below w2.heap.size w2 ((w2.alloc (.cells Tryd.zeroCells24 24)).setRow w2.heap.size a) := below_setRow (below_new' w2 _) (Nat.le_refl _) _
          have hbw3 : Below w.heap.size w ((w2.alloc (.cells Tryd.zeroCells24 24)).setRow w2.heap.size a) := hbw2.trans (hbn.mono hbw2.size)
          have hE3 := hE2.below hbn
          have ha3 : ((w2.alloc (.cells Tryd.zeroCells24 24)).setRow w2.heap.size a).heap[w2.heap.size]? = some (.cells a 24 (0, 0)) := setRow_heap _ _ _ _ _ _ (heapN w2 _)
          have hl3 : w2.heap.size < ((w2.alloc (.cells Tryd.zeroCells24 24)).setRow w2.heap.size a).heap.size := by simp [World.setRow]
          clear hfl2 hbn hbw2 hE2 hz2'
          by_cases h16 : 16384 < fs.length
          · have hno := Lib.hid (hlim h16)
            have h16' : (16384 : Int) < (fs.length : Int) := by omega
            have h16n : decide (16384 < fs.length) = true := decide_eq_true h16
            clear hlim hiff hpr
            go_wp2_with (first | (refine wpList_store_row rfl 24 _ _ rfl (w2.heap.size) a rfl rfl 24 Tryd.zeroCells24 (heapN w2 _) hia hza ho ?_) | (refine wpList_store_row rfl 24 _ _ rfl (w.heap.size) Tryd.zeroCells24 rfl rfl 24 Tryd.zeroCells24 hz3 hiZ rfl hzo ?_))
            refine bodyPost_ret (v := .tuple #[.agg Tryd.zeroCells24, .int .i64 20]) (results_cell_row2 Tryd.results23 _ _ w.heap.size 24 Tryd.zeroCells24 (0, 0) _ _ rfl rfl (setRow_heap _ _ _ _ _ _ hz3) Tryd.underlying24 rfl hiZ) rfl ⟨Or.inr ⟨hno.out, rfl⟩, below_setRow hbw3 (Nat.le_refl _) _⟩
          · have h16' : ¬ (16384 : Int) < (fs.length : Int) := by omega
            have h16n : decide (16384 < fs.length) = false := decide_eq_false h16
            have hPr := fun W h => Print_calls a f ha W h
            have hsame : (printH (hasN f) = s.data.toList) ∨ ((∀ H, printH H ≠ s.data.toList) ∧ printH (hasN f) ≠ s.data.toList) := by
              by_cases h : printH (hasN f) = s.data.toList
              · exact Or.inl h
              · refine Or.inr ⟨fun H e => ?_, h⟩
                obtain ⟨l', e1, e2, e3⟩ := hiff.1 ⟨H, e⟩
                simp at e1
                subst e1
                rw [hpr] at h
                exact h e3
            clear hlim hiff hpr
            have hpe : (⟨(printH (hasN f)).toArray⟩ : ByteArray).data.toList = printH (hasN f) := rfl
            have hcmp := str_eq_list ⟨(printH (hasN f)).toArray⟩ s
            rw [hpe] at hcmp
            clear hpe
            generalize hTT : (⟨(printH (hasN f)).toArray⟩ : ByteArray) = tt at *
            replace hTT := Lib.hid hTT
            go_wp2_with (first | (refine wpList_store_row rfl 24 _ _ rfl (w2.heap.size) a rfl rfl 24 Tryd.zeroCells24 (heapN w2 _) hia hza ho ?_) | (refine wpList_load_row_g (by first | rfl | simp [Region.wanted, yielded, h16', h16n]) 24 _ rfl w2.heap.size rfl 24 a (0, 0) _ ha3 Tryd.underlying24 rfl hia ?_))
            refine (hPr _ hE3).mono ?_
            rintro e w5 ⟨rfl, hb5⟩
            have hz5 := (hb5.block _ (show w.heap.size < _ by omega)).trans hz3
            have ha5 := (hb5.block _ hl3).trans ha3
            have hbw5 := hbw3.trans (hb5.mono hbw3.size)
            generalize hW3 : (w2.alloc (.cells Tryd.zeroCells24 24)).setRow w2.heap.size a = w3 at *
            clear hW3 hPr hb5 hE3 hz3 ha3 hbw3
            rcases hsame with hS | ⟨hno, hS⟩
            · rw [decide_eq_true hS] at hcmp
              have hcmp2 : (tt.toList != s.toList) = false := by rw [bne, hcmp]; rfl
              replace hS := Lib.hid hS
              go_wp2_with (first | (refine wpList_load_row rfl 24 _ rfl w2.heap.size rfl 24 a (0, 0) _ ha5 Tryd.underlying24 rfl hia ?_) | (refine wpList_store_row rfl 24 _ _ rfl (w.heap.size) a rfl rfl 24 Tryd.zeroCells24 hz5 hia hza ho ?_))
              refine bodyPost_ret (v := .tuple #[.agg a, .int .i64 0]) (results_cell_row2 Tryd.results23 _ _ w.heap.size 24 a (0, 0) _ _ rfl rfl (setRow_heap _ _ _ _ _ _ hz5) Tryd.underlying24 rfl hia) rfl ⟨Or.inl ⟨a, f, rfl, ha, hS.out⟩, below_setRow hbw5 (Nat.le_refl _) _⟩
            · rw [decide_eq_false hS] at hcmp
              have hcmp2 : (tt.toList != s.toList) = true := by rw [bne, hcmp]; rfl
              replace hno := Lib.hid hno
              clear hS
              go_wp2_with (refine wpList_store_row rfl 24 _ _ rfl (w.heap.size) Tryd.zeroCells24 rfl rfl 24 Tryd.zeroCells24 hz5 hiZ rfl hzo ?_)
              refine bodyPost_ret (v := .tuple #[.agg Tryd.zeroCells24, .int .i64 20]) (results_cell_row2 Tryd.results23 _ _ w.heap.size 24 Tryd.zeroCells24 (0, 0) _ _ rfl rfl (setRow_heap _ _ _ _ _ _ hz5) Tryd.underlying24 rfl hiZ) rfl ⟨Or.inr ⟨hno.out, rfl⟩, below_setRow hbw5 (Nat.le_refl _) _⟩
end Go.Proofs.YtbpjfjdndaoekaaDoor
