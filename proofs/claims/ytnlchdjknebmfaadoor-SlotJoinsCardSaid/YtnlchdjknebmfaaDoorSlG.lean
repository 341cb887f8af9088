/- The reference's Ranges: the same runs. Conditions: none. -/
import Derived.Test.YtnlchdjknebmfaaDoorSlF
import Derived.Deep.RegionHeld3
import Derived.Deep.AppendLies
import Derived.StillTactics
set_option linter.unusedVariables false
set_option linter.unusedSimpArgs false
namespace Go.Proofs.YtnlchdjknebmfaaDoor
open Go.RowKit Go.Proofs.YtnlchdjknebmfaaDoorW.PrintWords
theorem rangesV_last (l : List Nat) (n : Nat) : ∃ q a, rangesV (l ++ [n]) = q ++ [(a, n)] := by
  rcases rangesV_snoc l n with ⟨_, h⟩ | ⟨q, a, b, _, h⟩
  · exact ⟨[], n, h⟩
  · split at h
    · exact ⟨q, a, h⟩
    · exact ⟨q ++ [(a, b)], n, h⟩
theorem take_snoc' (l : List Nat) (k : Nat) (h : k < l.length) : l.take (k + 1) = l.take k ++ [l.getD k 0] := by
  rw [List.take_succ_eq_append_getElem h]
  simp [List.getD, h]
/-- a run begins -/
theorem run_start (l : List Nat) (i : Nat) (h : i < l.length) (hb : i = 0 ∨ l.getD i 0 ≠ l.getD (i - 1) 0 + 1) :
    rangesV (l.take (i + 1)) = rangesV (l.take i) ++ [(l.getD i 0, l.getD i 0)] := by
  rw [take_snoc' l i h]
  rcases Nat.eq_zero_or_pos i with rfl | hi
  · rfl
  · have hne := hb.resolve_left (by omega)
    obtain ⟨j, rfl⟩ : ∃ j, i = j + 1 := ⟨i - 1, by omega⟩
    rw [take_snoc' l j (by omega)]
    obtain ⟨q0, a0, e0⟩ := rangesV_last (l.take j) (l.getD j 0)
    rcases rangesV_snoc (l.take j ++ [l.getD j 0]) (l.getD (j + 1) 0) with ⟨h0, _⟩ | ⟨q, a, b, h0, h1⟩
    · rw [e0] at h0; simp at h0
    · rw [e0] at h0
      have hb : b = l.getD j 0 := by
        have := congrArg List.getLast? h0
        simp at this
        exact this.2.symm
      rw [h1, if_neg (by rw [hb]; simp at hne; simp; omega), e0, h0]
/-- a run goes on -/
theorem run_more (l : List Nat) (k : Nat) (h : k + 1 < l.length) (P : List (Nat × Nat)) (a : Nat) (hR : rangesV (l.take (k + 1)) = P ++ [(a, l.getD k 0)]) (he : l.getD (k + 1) 0 = l.getD k 0 + 1) :
    rangesV (l.take (k + 2)) = P ++ [(a, l.getD (k + 1) 0)] := by
  rw [take_snoc' l (k + 1) h]
  rcases rangesV_snoc (l.take (k + 1)) (l.getD (k + 1) 0) with ⟨h0, _⟩ | ⟨q, a', b, h0, h1⟩
  · rw [hR] at h0; simp at h0
  · rw [hR] at h0
    have h2 := congrArg List.reverse h0
    simp at h2
    obtain ⟨⟨e1, e2⟩, e3⟩ := h2
    rw [h1, if_pos (by rw [← e2, he]; simp [List.getD]), e1, e3]
theorem ints_at (l : List Nat) (k : Nat) (h : k < l.length) : (intsN l)[k]? = some (.int .i64 ((l.getD k 0 : Nat) : Int)) := by
  unfold intsN
  rw [List.getElem?_map, List.getElem?_eq_getElem h]
  simp [List.getD, h]
theorem own_drewN' {W : World} {base n : Nat} {e : TypeId} {size : Nat} {v : Value} {xs : List Value} (h : W.ownsRow base e size v n xs) (m : Nat) : (W.drewN m).ownsRow base e size v n xs := h
theorem below_drewN {n : Nat} {w w1 : World} (h : Below n w w1) (k : Nat) : Below n w (w1.drewN k) := by
  induction k with
  | zero => exact h
  | succ k ih => exact below_drew ih
set_option maxHeartbeats 2000000 in
set_option maxRecDepth 100000 in
theorem refRanges_calls (a : Array Value) (f : Nat → Nat) (ha : Words a f) (w : World) : Calls Tryd.prog 24 #[.agg a] w (RgPost w (rangesV (upto f 16384))) := by
  have hsz := ha.size
  have hA := fun W => refAll_calls a f ha W
  have hs1 : (Tryd.prog.info? 30).map (·.size) = some a.size := by rw [ha.size]; exact info30
  have hlen := upto_le f 16384
  have hel : ∀ k, (upto f 16384).getD k 0 < 16384 := by
    intro k
    rw [List.getD_eq_getElem?_getD]
    rcases h : (upto f 16384)[k]? with _ | x
    · simp
    · have := List.mem_of_getElem? h
      unfold upto at this
      have := List.mem_range.1 (List.mem_filter.1 this).1
      simpa using this
  generalize upto f 16384 = l at *
  have hlm : (l.length : Int) ≤ 16384 := by omega
  clear hsz
  go_enter Tryd.func24, Tryd.ntmps24
  go_wp2_with (refine wpList_load_row rfl 30 _ rfl w.heap.size rfl 30 a (0, 0) _ (heapN w _) Tryd.underlying30 rfl hs1 ?_)
  refine (hA _).mono ?_
  rintro e w1 ⟨v, rfl, hl1, hb1⟩
  have hbw1 : Below w.heap.size w w1 := (below_new' w _).trans (hb1.mono (by simp))
  have hl1 := own_weaken hl1 (show w.heap.size ≤ _ by simp)
  obtain ⟨A, c, rfl⟩ := own_slice hl1
  clear hb1 hA
  obtain ⟨i0, hi0, hz0, hz1, hz2⟩ := info_rng'
  go_wp2_with fail
  go_loopw [3, 5, 6] (fun out i _ wr => ∃ m : Nat, m ≤ l.length ∧ i = .int .i64 m ∧ (m = 0 ∨ m = l.length ∨ l.getD m 0 ≠ l.getD (m - 1) 0 + 1) ∧ wr.ownsRow w.heap.size 53 2 out (rangesV (l.take m)).length (flatR (rangesV (l.take m))) ∧ Below w.heap.size w wr ∧ wr.ownsRow w.heap.size 3 1 (.slice A l.length c) l.length (intsN l)) (fun _ i _ _ => l.length - (intOf i).toNat)
  case atStart => exact ⟨0, by omega, rfl, Or.inl rfl, own_nil _ _ _ _, hbw1, hl1⟩
  case round =>
    obtain ⟨m, hm, rfl, hst, hown, hb, hl⟩ := hrel
    clear hl1 hbw1
    have hrl := rangesV_le (l.take m)
    have htl : (l.take m).length ≤ m := List.length_take_le _ _
    by_cases hml : m < l.length
    · obtain ⟨g, cap, hgA, -, -⟩ := hl.form (by omega)
      obtain rfl : A = some ⟨g, 0, none⟩ := by injection hgA
      clear hgA
      have hrun := run_start l m hml (by omega)
      have hst := Lib.hid hst
      have hgo : decide ((m : Int) < (l.length : Int)) = true := decide_eq_true (by omega)
      go_wp2_with fail
      go_loopw [6] (fun k wq => ∃ j : Nat, m ≤ j ∧ j < l.length ∧ k = .int .i64 j ∧ rangesV (l.take (j + 1)) = rangesV (l.take m) ++ [(l.getD m 0, l.getD j 0)] ∧ wq.ownsRow w.heap.size 53 2 u3 (rangesV (l.take m)).length (flatR (rangesV (l.take m))) ∧ Below w.heap.size w wq ∧ wq.ownsRow w.heap.size 3 1 (.slice (some ⟨g, 0, none⟩) l.length c) l.length (intsN l)) (fun k _ => l.length - (intOf k).toNat)
      case atStart => exact ⟨m, by omega, hml, rfl, hrun, hown, hb, hl⟩
      case round =>
        obtain ⟨j, hmj, hjl, rfl, hR, hown2, hb2, hl2⟩ := hrel
        clear hl hown hb hrun hst hgo
        have kj : wr.cell? ⟨g, j, none⟩ = some (.int .i64 ((l.getD j 0 : Nat) : Int)) := (hl2.cellAt j (by omega)).trans (ints_at l j hjl)
        have kj' : j + 1 < l.length → wr.cell? ⟨g, j + 1, none⟩ = some (.int .i64 ((l.getD (j + 1) 0 : Nat) : Int)) := fun h => (hl2.cellAt (j + 1) (by omega)).trans (ints_at l (j + 1) h)
        have w1 : IntKind.i64.wrap ((j : Int) + 1) = (j : Int) + 1 := IntWalk.i64_in _ (by omega)
        have w2 : (0 : Int) ≤ (j : Int) + 1 := by omega
        have w3 : ((j : Int) + 1).toNat = j + 1 := by omega
        have w4 : (j : Int) < (l.length : Int) := by omega
        have hYl := hel j
        have hjv : IntKind.i64.wrap (((l.getD j 0 : Nat) : Int) + 1) = ((l.getD j 0 : Nat) : Int) + 1 := IntWalk.i64_in _ (by omega)
        by_cases hgo2 : j + 1 < l.length ∧ l.getD (j + 1) 0 = l.getD j 0 + 1
        · obtain ⟨hj, he⟩ := hgo2
          have kj2 := kj' hj
          have w5 : (j : Int) + 1 < (l.length : Int) := by omega
          have w6 : decide ((j : Int) + 1 < (l.length : Int)) = true := decide_eq_true w5
          have hmore := Lib.hid (run_more l j hj _ _ hR he)
          have he2 : (((l.getD (j + 1) 0 : Nat) : Int) == ((l.getD j 0 : Nat) : Int) + 1) = true := by rw [beq_iff_eq]; omega
          clear kj' he hR hel
          generalize hX : l.getD (j + 1) 0 = X at *
          generalize hY : l.getD j 0 = Y at *
          replace hX := Lib.hid hX
          go_wp2_with fail
          go_quiet (fail)
          go_wp2_with fail
          case roundEnd =>
            exact ⟨⟨j + 1, by omega, by omega, by go_num, by rw [hX.out]; exact hmore.out, own_drewN' hown2 nq, below_drewN hb2 nq, own_drewN' hl2 nq⟩, by simp [intOf]; omega⟩
        · have hnext := Lib.hid (show j + 1 = 0 ∨ j + 1 = l.length ∨ l.getD (j + 1) 0 ≠ l.getD (j + 1 - 1) 0 + 1 by
            by_cases h : j + 1 = l.length
            · exact Or.inr (Or.inl h)
            · refine Or.inr (Or.inr fun e => hgo2 ⟨by omega, ?_⟩)
              simpa using e)
          have km : wr.cell? ⟨g, m, none⟩ = some (.int .i64 ((l.getD m 0 : Nat) : Int)) := (hl2.cellAt m (by omega)).trans (ints_at l m hml)
          have hmz := hel m
          have hRl : (rangesV (l.take (j + 1))).length = (rangesV (l.take m)).length + 1 := by rw [hR]; simp
          have hR' := Lib.hid hR
          replace hRl := Lib.hid hRl
          have ak := own_type_ne hown2 hl2 (by decide)
          have ak : u3.ownBlock ≠ some g := by
            rcases ak with h | h
            · rw [h]; simp
            · exact h
          have ht : (∃ X : Nat, (wr.cell? ⟨g, j + 1, none⟩ = some (.int .i64 (X : Int)) ∧ decide ((j : Int) + 1 < (l.length : Int)) = true ∧ ((j : Int) + 1 < (l.length : Int)) ∧ ((X : Int) == ((l.getD j 0 : Nat) : Int) + 1) = false)) ∨ decide ((j : Int) + 1 < (l.length : Int)) = false := by
            by_cases hj : j + 1 < l.length
            · refine Or.inl ⟨_, kj' hj, decide_eq_true (by omega), by omega, beq_eq_false_iff_ne.2 fun e => hgo2 ⟨hj, by omega⟩⟩
            · exact Or.inr (decide_eq_false (by omega))
          clear kj' hR hel hgo2
          generalize hX : l.getD m 0 = Z at *
          generalize hY : l.getD j 0 = Y at *
          replace hX := Lib.hid hX
          replace hY := Lib.hid hY
          generalize hP : rangesV (l.take m) = P at *
          rcases ht with ⟨X, kj2, w6, w5, he2⟩ | w6
          all_goals
            go_wp2_with fail
            go_quiet (fail)
            go_wp2_with fail
            have hl3 := own_drewN' hl2 nq
            have hown3 := own_drewN' hown2 nq
            have hb3 := below_drewN hb2 nq
            have km3 : (wr.drewN nq).cell? ⟨g, m, none⟩ = some (.int .i64 (Z : Int)) := km
            have kj3 : (wr.drewN nq).cell? ⟨g, j, none⟩ = some (.int .i64 (Y : Int)) := kj
            generalize wr.drewN nq = wz at *
            have lg : g < wz.heap.size := own_lt hl3 g rfl
            have hsz3 : w.heap.size ≤ wz.heap.size := hb3.size
            clear w1 w3 hjv hl1
            have hz1' : (Z : Int) < 16384 := by omega
            go_region_held3 (fun w' => w'.cell? ⟨g, m, none⟩ = some (.int .i64 (Z : Int)) ∧ w'.cell? ⟨g, j, none⟩ = some (.int .i64 (Y : Int)))
              (first
                | go_keep
                | (go_split_ands
                   refine ⟨?_, ?_⟩
                   · (rw [hgrow.cell_far _ (by simp; omega) (Ne.symm ak)]; assumption)
                   · (rw [hgrow.cell_far _ (by simp; omega) (Ne.symm ak)]; assumption)))
              ((refine step_append_lies _ (by rfl) _ _ _ (by rfl) w.heap.size 53 i0 _ 2 16 Tryd.underlying35 hi0 hz0 hz1 hz2 rfl (by omega) u3 P.length (flatR P) (by rfl) ((hown3.alloc _).drew)
                  ⟨wz.heap.size, 0, none⟩ 1 1 [.int .i64 (Z : Int), .int .i64 (Y : Int)] (by rfl) (by rfl) (World.news_of_block (cs := #[.int .i64 (Z : Int), .int .i64 (Y : Int)]) (t := 53) (fr := (0, 0)) (heap_alloc_new wz _)) (by simp [Value.oneCell'])
                  (by omega) (by unfold maxLen; omega) (by omega) (by simp; omega) (wz.heap.size + 1) (by simp) ?_; intro gg cap w9 hown9 hgrow hat hlt))
            go_wp2_with fail
            have hbA : Below w.heap.size w (wz.alloc (.cells #[.int .i64 (Z : Int), .int .i64 (Y : Int)] 53)).drew := below_drew (hb3.trans ((below_new' wz _).mono hb3.size))
            have hb9 := hbA.grown hgrow (by simp; omega) (fun x hx => own_base hown3 x hx)
            have hl9 := ((hl3.alloc (.cells #[.int .i64 (Z : Int), .int .i64 (Y : Int)] 53)).drew).kept hgrow (Or.inr (by simpa [Value.ownBlock] using Ne.symm ak))
            exact ⟨⟨j + 1, by omega, by go_num, hnext.out, by rw [hR'.out, flatR_append, List.length_append]; exact hown9, hb9, hl9⟩, by simp [intOf]; omega⟩
    · obtain rfl : m = l.length := by omega
      go_wp2_with fail
      exact bodyPost_ret (v := u3) (by simp [results, Tryd.results24, go_sem]) rfl ⟨u3, rfl, by rw [List.take_of_length_le (Nat.le_refl _)] at hown; exact hown, hb⟩
end Go.Proofs.YtnlchdjknebmfaaDoor
