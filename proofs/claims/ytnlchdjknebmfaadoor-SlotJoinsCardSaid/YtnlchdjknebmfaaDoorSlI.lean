/- The reference's Make: the same. Conditions: none. -/
import Derived.Test.YtnlchdjknebmfaaDoorSlH
set_option linter.unusedVariables false
set_option linter.unusedSimpArgs false
namespace Go.Proofs.YtnlchdjknebmfaaDoor
open Go.RowKit Go.Proofs.YtnlchdjknebmfaaDoorW.PrintWords
open SlT
theorem hasN_withW {f : Nat → Nat} (h : ∀ i, f i < 18446744073709551616) (n x : Nat) : hasN (withW f n true) x = (hasN f x || decide (x = n)) := by
  unfold hasN withW
  split
  · rename_i e
    rw [if_pos rfl, bset_bit (h _) (by omega)]
    congr 1
    exact decide_eq_decide.2 ⟨fun e => by omega, fun e => by omega⟩
  · rename_i e
    have : decide (x = n) = false := decide_eq_false (fun h => e (by rw [h]))
    rw [this, Bool.or_false]
set_option maxHeartbeats 4000000 in
set_option maxRecDepth 100000 in
theorem refMake_calls (l : List (Int × Int)) (A : Option Addr) (c : Nat) (hlen : l.length ≤ 9223372036854775806) (w : World) (hR : RdR w A l) : Calls Tryd.prog 25 #[.slice A l.length c] w (MkPost w l) := by
  go_enter Tryd.func25, Tryd.ntmps25
  go_wp2_with fail
  go_loopw [5, 6] (fun i _ wr => ∃ (k : Nat) (a : Array Value) (f : Nat → Nat), k ≤ l.length ∧ i = .int .i64 k ∧ Words a f ∧ (∀ n, n < 16384 → hasN f n = setH (l.take k) n) ∧ okR (l.take k) = true ∧ Below w.heap.size w wr ∧
      wr.heap[w.heap.size]? = some (.cells Tryd.zeroCells30 30 (0, 0)) ∧ wr.heap[w.heap.size + 1]? = some (.cells a 30 (0, 0)) ∧ w.heap.size + 1 < wr.heap.size) (fun i _ _ => l.length - (intOf i).toNat)
  case atStart => exact ⟨0, _, _, by omega, rfl, zero_words, fun n _ => by simp [setH, hasN], rfl, below_alloc (below_new' _ _) _, heap0 w _ _, heap1 w _ _, by simp⟩
  case round =>
    obtain ⟨k, a, f, hk, rfl, ha, hf, hok, hb, h0, h1, hlt⟩ := hrel
    by_cases hkl : k < l.length
    · obtain ⟨p, hp⟩ : ∃ p, l[k]? = some p := ⟨l[k], List.getElem?_eq_getElem hkl⟩
      obtain ⟨g, o, rfl, hg, c1, c2⟩ := hR k p hp
      have c1 := (hb.cell (p := ⟨g, o + k * 2, none⟩) hg).trans c1
      have c2 := (hb.cell (p := ⟨g, o + k * 2 + 1, none⟩) hg).trans c2
      obtain ⟨p1, p2⟩ := p
      have hgo : decide ((k : Int) < (l.length : Int)) = true := decide_eq_true (by omega)
      simp only at c1 c2
      clear hR
      have hf := Lib.hid hf
      have h0' : ∀ n, (wr.drewN n).heap[w.heap.size]? = some (.cells Tryd.zeroCells30 30 (0, 0)) := fun n => h0
      have h1' : ∀ n, (wr.drewN n).heap[w.heap.size + 1]? = some (.cells a 30 (0, 0)) := fun n => h1
      have hb' : ∀ n, Below w.heap.size w (wr.drewN n) := fun n => below_drewN hb n
      have k0 : (0 : Int) ≤ (k : Int) := by omega
      have k1 : (k : Int) < (l.length : Int) := by omega
      by_cases hbad : p1 < 0 ∨ p2 < p1 ∨ 16384 ≤ p2
      · have hpB : okP (p1, p2) = false := by unfold okP; simp only [Bool.and_eq_false_iff, decide_eq_false_iff_not]; omega
        have hres := Lib.hid (okR_not hp hpB)
        clear hpB
        have hiZ : (Tryd.prog.info? 30).map (·.size) = some Tryd.zeroCells30.size := by rw [zero_size]; exact info30
        have hz1 := zero_words.one
        have done : ∀ n, MkPost w l (.returned (.tuple #[.agg Tryd.zeroCells30, .int .i64 20])) ((wr.drewN n).setRow w.heap.size Tryd.zeroCells30) := fun o => by
          unfold MkPost
          rw [hres.out, if_neg (by decide)]
          exact ⟨rfl, below_setRow (hb' o) (Nat.le_refl _) _⟩
        have hb3 : decide (p1 < 0) = true ∨ (decide (p1 < 0) = false ∧ decide (p2 < p1) = true) ∨ (decide (p1 < 0) = false ∧ decide (p2 < p1) = false ∧ decide (16383 < p2) = true) := by
          simp only [decide_eq_true_eq, decide_eq_false_iff_not]; omega
        clear hbad
        rcases hb3 with hb1 | ⟨hb1, hb2⟩ | ⟨hb1, hb2, hb4⟩
        all_goals
          go_wp2_with fail
          go_quiet (fail)
          go_wp2_with (refine wpList_store_row rfl 30 _ _ rfl (w.heap.size) Tryd.zeroCells30 rfl rfl 30 Tryd.zeroCells30 (h0' _) hiZ rfl hz1 ?_)
          refine bodyPost_ret (v := .tuple #[.agg Tryd.zeroCells30, .int .i64 20]) (results_cell_row2 Tryd.results25 _ _ w.heap.size 30 Tryd.zeroCells30 (0, 0) _ _ rfl rfl (setRow_heap _ _ _ _ _ _ (h0' _)) Tryd.underlying30 rfl hiZ) rfl (done _)
      · obtain ⟨q1, rfl⟩ : ∃ q : Nat, p1 = q := ⟨p1.toNat, by omega⟩
        obtain ⟨q2, rfl⟩ : ∃ q : Nat, p2 = q := ⟨p2.toNat, by omega⟩
        have hq12 : q1 ≤ q2 := by omega
        have hq2 : q2 < 16384 := by omega
        have t1 : decide ((q1 : Int) < 0) = false := decide_eq_false (by omega)
        have t2 : decide ((q2 : Int) < (q1 : Int)) = false := decide_eq_false (by omega)
        have t2n : decide (q2 < q1) = false := decide_eq_false (by omega)
        have t3 : decide ((16383 : Int) < (q2 : Int)) = false := decide_eq_false (by omega)
        have hokn : okR (l.take (k + 1)) = true := by
          rw [okR_take l k _ hp, hok]
          unfold okP
          simp only [Bool.true_and, Bool.and_eq_true, decide_eq_true_eq]
          omega
        have hsn := setH_take l k _ hp
        simp only [Int.ofNat_le] at hsn
        have hokn := Lib.hid hokn
        have hsn := Lib.hid hsn
        obtain ⟨wo, rfl⟩ : ∃ wo : World, wo = wr := ⟨_, rfl⟩
        clear hbad
        go_wp2_with fail
        go_quiet (fail)
        have c1' : (wo.drewN nq).cell? ⟨g, o + k * 2, none⟩ = some (.int .i64 (q1 : Int)) := c1
        have c2' : (wo.drewN nq).cell? ⟨g, o + k * 2 + 1, none⟩ = some (.int .i64 (q2 : Int)) := c2
        have hh0 := h0' nq
        have hh1 := h1' nq
        have hhb := hb' nq
        have hhl : wo.heap.size ≤ (wo.drewN nq).heap.size := Nat.le_refl _
        generalize wo.drewN nq = wz at *
        clear h0' h1' hb' c1 c2
        go_wp2_with fail
        go_loopw [6] (fun s7 wr => ∃ (x : Nat) (a' : Array Value) (f' : Nat → Nat), q1 ≤ x ∧ x ≤ q2 + 1 ∧ s7 = .int .i64 x ∧ Words a' f' ∧ (∀ n, n < 16384 → hasN f' n = (setH (l.take k) n || (decide (q1 ≤ n) && decide (n < x)))) ∧ Below w.heap.size w wr ∧
          wr.heap[w.heap.size]? = some (.cells Tryd.zeroCells30 30 (0, 0)) ∧ wr.heap[w.heap.size + 1]? = some (.cells a' 30 (0, 0)) ∧ wo.heap.size ≤ wr.heap.size ∧ wr.cell? ⟨g, o + k * 2 + 1, none⟩ = some (.int .i64 (q2 : Int))) (fun s7 _ => 16384 - (intOf s7).toNat)
        case atStart => exact ⟨q1, a, f, by omega, by omega, rfl, ha, fun n hn => by rw [hf.out n hn]; (have : (decide (q1 ≤ n) && decide (n < q1)) = false := by rw [Bool.and_eq_false_iff, decide_eq_false_iff_not, decide_eq_false_iff_not]; omega); rw [this, Bool.or_false], hhb, hh0, hh1, hhl, c2'⟩
        case round =>
          clear c1' c2' hhl hhb hh0 hh1
          obtain ⟨x, a', f', hx1, hx2, rfl, ha', hf', hb', h0', h1', hl', d2⟩ := hrel
          by_cases hxq : x ≤ q2
          · have hgo2 : decide ((x : Int) ≤ (q2 : Int)) = true := decide_eq_true (by omega)
            have hW := fun W => refWith_calls a' f' ha' x true W
            simp only [show (0 : Int) ≤ (x : Int) ∧ (x : Int) < 16384 from by omega, and_self, if_true, Int.toNat_natCast] at hW
            have hh := Lib.hid (fun n => hasN_withW ha'.lt x n)
            generalize hF : withW f' x true = F at *
            have hf' := Lib.hid hf'
            have hiA : (Tryd.prog.info? 30).map (·.size) = some a'.size := by rw [ha'.size]; exact info30
            go_wp2_with (refine wpList_load_row rfl 30 _ rfl (w.heap.size + 1) rfl 30 a' (0, 0) _ h1' Tryd.underlying30 rfl hiA ?_)
            refine (hW _).mono ?_
            rintro e w2 ⟨a2, rfl, ha2, hb2⟩
            have hlt0 : w.heap.size + 1 < wr.heap.size := by omega
            have g0 := (hb2.block _ (by omega : w.heap.size < wr.heap.size)).trans h0'
            have g1 := (hb2.block _ hlt0).trans h1'
            have hbw2 := hb'.trans (hb2.mono (by omega))
            have hgl : g < wr.heap.size := by omega
            have d3 := (hb2.cell (p := ⟨g, o + k * 2 + 1, none⟩) hgl).trans d2
            have hl2 : wo.heap.size ≤ w2.heap.size := Nat.le_trans hl' hb2.size
            have hi2 : (Tryd.prog.info? 30).map (·.size) = some a2.size := by rw [ha2.size]; exact info30
            have hZ2 : a'.size = a2.size := by rw [ha2.size]; exact ha'.size
            have ho2 := ha2.one
            clear hb2 h0' h1' hb' d2 hW
            go_wp2_with (refine wpList_store_row rfl 30 _ _ rfl (w.heap.size + 1) a2 rfl rfl 30 a' g1 hi2 hZ2 ho2 ?_)
            have G1 := setRow_heap _ _ _ a2 _ _ g1
            have G0 := (setRow_other w2 (w.heap.size + 1) w.heap.size a2 (by omega)).trans g0
            have G2 := (World.cell?_of_block (a := ⟨g, o + k * 2 + 1, none⟩) (setRow_other w2 (w.heap.size + 1) g a2 (by simp; omega))).trans d3
            refine ⟨⟨x + 1, _, F, by omega, by omega, by go_num, ha2, fun n hn => ?_, below_setRow hbw2 (Nat.le_succ _) _, G0, G1, by simpa [World.setRow] using hl2, G2⟩, by simp [intOf]; omega⟩
            rw [hh.out n, hf'.out n hn, Bool.or_assoc]
            congr 1
            rw [Bool.eq_iff_iff]
            simp only [Bool.or_eq_true, Bool.and_eq_true, decide_eq_true_eq]
            omega
          · obtain rfl : x = q2 + 1 := by omega
            have hgo2 : decide (((q2 + 1 : Nat) : Int) ≤ (q2 : Int)) = false := decide_eq_false (by omega)
            go_wp2_with fail
            case roundEnd =>
              refine ⟨⟨k + 1, a', f', by omega, by go_num, ha', fun n hn => ?_, hokn.out, hb', h0', h1', by omega⟩, by simp [intOf]; omega⟩
              rw [hsn.out n, hf' n hn]
              congr 1
              rw [Bool.eq_iff_iff]
              simp only [Bool.and_eq_true, decide_eq_true_eq]
              omega
    · obtain rfl : k = l.length := by omega
      have hi : (Tryd.prog.info? 30).map (·.size) = some a.size := by rw [ha.size]; exact info30
      have hZ : Tryd.zeroCells30.size = a.size := by rw [ha.size]; exact zero_size
      have ho := ha.one
      have hf := Lib.hid hf
      clear hR
      rw [List.take_of_length_le (Nat.le_refl _)] at hok
      go_wp2_with (first | (refine wpList_load_row rfl 30 _ rfl (w.heap.size + 1) rfl 30 a (0, 0) _ h1 Tryd.underlying30 rfl hi ?_) | (refine wpList_store_row rfl 30 _ _ rfl (w.heap.size) a rfl rfl 30 Tryd.zeroCells30 h0 hi hZ ho ?_))
      refine bodyPost_ret (v := .tuple #[.agg a, .int .i64 0]) (results_cell_row2 Tryd.results25 _ _ w.heap.size 30 a (0, 0) _ _ rfl rfl (setRow_heap _ _ _ _ _ _ h0) Tryd.underlying30 rfl hi) rfl ?_
      unfold MkPost
      rw [hok, if_pos rfl]
      exact ⟨⟨a, f, rfl, ha, fun n hn => by rw [hf.out n hn, List.take_of_length_le (Nat.le_refl _)]⟩, below_setRow hb (Nat.le_refl _) _⟩
end Go.Proofs.YtnlchdjknebmfaaDoor
