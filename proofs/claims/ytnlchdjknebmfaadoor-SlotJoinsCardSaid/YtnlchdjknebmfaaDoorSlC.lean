/- The reference's With over words of 64 bits: the same slots. Conditions: none. -/
import Derived.Test.YtnlchdjknebmfaaDoorSlB
import Derived.StillTailTactics
import Derived.Outline
set_option linter.unusedVariables false
set_option linter.unusedSimpArgs false
namespace Go.Proofs.YtnlchdjknebmfaaDoor
open Go.RowKit Go.Proofs.YtnlchdjknebmfaaDoorW.PrintWords
theorem withW_same {f : Nat → Nat} {k : Nat} {b : Bool} (hk : k < 16384) (hx : f (k / 64) < 18446744073709551616) (h : hasW f k = b) : withW f k b = f := by
  rw [hasW_bit f k hk] at h
  funext w
  unfold withW
  by_cases hw : w = k / 64
  · subst hw
    rw [if_pos rfl]
    cases b with
    | true =>
      rw [if_pos rfl]
      apply Nat.eq_of_testBit_eq
      intro i
      rw [bset_bit hx (by omega)]
      by_cases hi : i = k % 64
      · subst hi; rw [h]; simp
      · simp [hi]
    | false =>
      rw [if_neg (by simp)]
      apply Nat.eq_of_testBit_eq
      intro i
      rw [clr_bit hx (by omega)]
      by_cases hi : i = k % 64
      · subst hi; rw [h]; simp
      · simp [hi]
  · rw [if_neg hw]
theorem add_or {x j : Nat} (hx : x < 18446744073709551616) (hj : j < 64) (h : x.testBit j = false) : (x + 2 ^ j) % 18446744073709551616 = x ||| 2 ^ j := by
  have e : BitVec.ofNat 64 x &&& BitVec.ofNat 64 (2 ^ j) = 0#64 := by
    apply BitVec.eq_of_toNat_eq
    rw [BitVec.toNat_and, BitVec.toNat_ofNat, BitVec.toNat_ofNat, Nat.mod_eq_of_lt (by simpa using hx), Nat.mod_eq_of_lt (by simpa using pow_lt64 hj)]
    apply Nat.eq_of_testBit_eq
    intro i
    rw [Nat.testBit_and, Nat.testBit_two_pow]
    by_cases hi : j = i
    · subst hi; rw [h]; simp
    · simp [hi]
  have := congrArg BitVec.toNat (BitVec.add_eq_or_of_and_eq_zero _ _ e)
  rw [BitVec.toNat_add, BitVec.toNat_or, BitVec.toNat_ofNat, BitVec.toNat_ofNat, Nat.mod_eq_of_lt (a := x) (by simpa using hx), Nat.mod_eq_of_lt (a := 2 ^ j) (by simpa using pow_lt64 hj)] at this
  exact this
theorem wrap_mod (n : Int) : IntKind.u64.wrap n = n % 18446744073709551616 := by simp [IntKind.wrap, IntKind.bits, IntKind.signed]
theorem clr_same {x j : Nat} (hx : x < 18446744073709551616) (hj : j < 64) (h : x.testBit j = false) : clr x j = x := by
  apply Nat.eq_of_testBit_eq
  intro i
  rw [clr_bit hx hj]
  by_cases hi : i = j
  · subst hi; rw [h]; simp
  · simp [hi]
theorem sum_set {x j : Nat} (hx : x < 18446744073709551616) (hj : j < 64) (h : x.testBit j = false) : IntKind.u64.wrap ((x : Int) + ((2 ^ j : Nat) : Int)) = (bset x j : Int) := by
  rw [wrap_mod, bset, clr_same hx hj h, ← add_or hx hj h]
  omega
theorem sub_clr {x j : Nat} (hx : x < 18446744073709551616) (hj : j < 64) (h : x.testBit j = true) : IntKind.u64.wrap ((x : Int) - ((2 ^ j : Nat) : Int)) = (clr x j : Int) := by
  have hc : (clr x j).testBit j = false := by rw [clr_bit hx hj]; simp
  have e1 := add_or (clr_lt hx) hj hc
  have e2 : clr x j ||| 2 ^ j = x := by
    apply Nat.eq_of_testBit_eq
    intro i
    have := bset_bit hx hj i
    unfold bset at this
    rw [this]
    by_cases hi : i = j
    · subst hi; rw [h]; simp
    · simp [hi]
  rw [e2] at e1
  have hl := clr_lt (k := j) hx
  rw [wrap_mod]
  generalize 2 ^ j = P at *
  omega
theorem words_set {a : Array Value} {f : Nat → Nat} (ha : Words a f) {k : Nat} (hk : k < 16384) (b : Bool) {D : Nat} (hD : D < 18446744073709551616) (he : D = if b then bset (f (k / 64)) (k % 64) else clr (f (k / 64)) (k % 64)) :
    Words (a.setIfInBounds (k / 64) (.int .u64 (D : Int))) (withW f k b) := by
  have := ha.set (k / 64) (by omega) D hD
  have e : (fun w => if w = k / 64 then D else f w) = withW f k b := by
    funext w; unfold withW
    by_cases hw : w = k / 64
    · subst hw; rw [if_pos rfl, if_pos rfl, he]
    · rw [if_neg hw, if_neg hw]
  rw [e] at this
  exact this
theorem wpList_load_row_g {P : Program} {ops : Array Oper} {rest : List Oper} {o : Oper} {a : Act} {w : World} {Q : Exit → Act → World → Prop} (hw : Region.wanted o (yielded ops a.tmps) = true) (ty : TypeId) (x : Operand) (ho : o.op = .load ty x)
    (g : Nat) (hx : a.eval x = .pointer (some ⟨g, 0, none⟩)) (t : TypeId) (cs : Array Value) (fr : Nat × Nat) (d : TypeDesc) (hg : w.heap[g]? = some (.cells cs t fr))
    (hu : P.underlying ty = some d) (hd : (match d with | .struct _ | .array _ _ => true | _ => false) = true) (hi : (P.info? ty).map (·.size) = some cs.size)
    (h : wpList P ops Q rest (a.put o.dst (.agg cs)) w) : wpList P ops Q (o :: rest) a w :=
  wpList_step fun K hK => by rw [if_pos hw]; exact wp_load_row ty x ho g hx t cs fr d hg hu hd hi (hK _ _ h)
theorem heapN (w : World) (A : Obj) : (w.alloc A).heap[w.heap.size]? = some A := heap_alloc_last w A
set_option maxRecDepth 100000 in
theorem refWith_calls (a : Array Value) (f : Nat → Nat) (ha : Words a f) (n : Int) (b : Bool) (w : World) :
    Calls Tryd.prog 31 #[.agg a, .int .i64 n, .bool b] w fun e w' =>
      ∃ a', e = .returned (.agg a') ∧ Words a' (if 0 ≤ n ∧ n < 16384 then withW f n.toNat b else f) ∧ Below w.heap.size w w' := by
  by_cases h : 0 ≤ n ∧ n < 16384
  · rw [if_pos h]
    obtain ⟨k, rfl⟩ : ∃ k : Nat, n = k := ⟨n.toNat, by omega⟩
    rw [Int.toNat_natCast]
    have hk : k < 16384 := by omega
    have hH := fun W => refHas_calls a f ha k W
    have hs1 : (Tryd.prog.info? 30).map (·.size) = some a.size := by rw [ha.size]; exact info30
    have c1 : ¬ (k : Int) < 0 := by omega
    have c2 : ¬ (16384 : Int) ≤ (k : Int) := by omega
    go_enter Tryd.func31, Tryd.ntmps31
    have hg := ha.get (k / 64) (by omega)
    have hp := power_calls (k % 64) (by omega)
    have hc : ((k % 64 : Nat) : Int) = (k : Int) % 64 := by simp
    rw [hc] at hp
    have hP := pow_lt64 (k := k % 64) (by omega)
    generalize hPe : 2 ^ (k % 64) = P at *
    have hp := fun W => (hp W).mono (R' := fun e w' => e = .returned (.int .u64 (P : Int)) ∧ w' = W) fun _ _ h => ⟨h.1, h.2.symm⟩
    go_wp2_with (refine wpList_load_row_g (by first | rfl | simp [Region.wanted, yielded, c1, c2]) 30 _ rfl w.heap.size rfl 30 a (0, 0) _ (heap0 w _ _) Tryd.underlying30 rfl hs1 ?_)
    refine (hH _).mono ?_
    rintro e w2 ⟨rfl, hb⟩
    have g0 : w2.heap[w.heap.size]? = some (.cells a 30 (0, 0)) := (hb.block _ (by simp; omega)).trans (heap0 w _ _)
    have g1 : w2.heap[w.heap.size + 1]? = some (.cells Tryd.zeroCells30 30 (0, 0)) := (hb.block _ (by simp)).trans (heap1 w _ _)
    have hbw : Below w.heap.size w w2 := (below_alloc (below_alloc (Below.refl _ _) _) _).trans (hb.mono (by simp; omega))
    have hZ : Tryd.zeroCells30.size = a.size := by rw [ha.size]; exact zero_size
    have h1 := ha.one
    cases b with
    | true =>
      cases hB : hasW f k with
      | true =>
        go_wp2_with (first | (refine wpList_load_row rfl 30 _ rfl w.heap.size rfl 30 a (0, 0) _ g0 Tryd.underlying30 rfl hs1 ?_) | (refine wpList_store_row rfl 30 _ _ rfl (w.heap.size + 1) a rfl rfl 30 Tryd.zeroCells30 g1 hs1 hZ h1 ?_))
        refine bodyPost_ret (v := .agg a) (results_cell_row rfl _ _ (w.heap.size + 1) 30 a (0, 0) _ rfl (setRow_heap _ _ _ a _ _ g1) Tryd.underlying30 rfl hs1) rfl ⟨a, rfl, by rw [withW_same hk (ha.lt _) hB]; exact ha, below_setRow hbw (Nat.le_succ _) _⟩
      | false =>
        have q0 : w2.cell? ⟨w.heap.size, k / 64, none⟩ = some (.int .u64 (f (k / 64))) := by
          rw [cell_of_row w2 _ (k / 64) a 30 (0, 0) g0]; exact hg
        have q1 : w2.frozen? ⟨w.heap.size, k / 64, none⟩ = false := by simp [World.frozen?, g0]
        have wk : IntKind.i64.wrap ((k : Int) / 64) = (k : Int) / 64 := by rw [IntKind.wrap_i64]; omega
        have wt : ((k : Int) / 64).toNat = k / 64 := by omega
        have wl : (k : Int) / 64 < 256 := by omega
        have w0 : 0 ≤ (k : Int) / 64 := by omega
        have wm : (k : Int).tmod 64 = (k : Int) % 64 := Int.tmod_eq_emod_of_nonneg (by omega)
        go_wp2_with fail
        have q0' : w2.drew.cell? ⟨w.heap.size, k / 64, none⟩ = some (.int .u64 (f (k / 64))) := q0
        have q1' : w2.drew.frozen? ⟨w.heap.size, k / 64, none⟩ = false := q1
        have hbw' : Below w.heap.size w w2.drew := below_drew hbw
        have g0' : w2.drew.heap[w.heap.size]? = some (.cells a 30 (0, 0)) := g0
        have g1' : w2.drew.heap[w.heap.size + 1]? = some (.cells Tryd.zeroCells30 30 (0, 0)) := g1
        refine wp_region_still_tail 11 (by kernel_rfl) (by kernel_rfl) ?_
        simp only [List.take_succ_cons, List.take_zero, List.drop_succ_cons, List.drop_zero]
        change wpStill _ _ w2.drew (fun a' => wpList _ _ _ _ a' w2.drew) _ _
        generalize w2.drew = w3 at *
        clear q0 q1 hbw g0 g1 hb
        repeat still_step
        still_call (hp w3)
        repeat still_step
        refine wpStill_nil ?_
        have hsum : IntKind.u64.wrap ((f (k / 64) : Int) + (P : Int)) = (bset (f (k / 64)) (k % 64) : Int) := by
          rw [← hPe]; exact sum_set (ha.lt _) (by omega) (by rw [← hasW_bit f k hk]; exact hB)
        have hW : Words (a.setIfInBounds (k / 64) (.int .u64 (bset (f (k / 64)) (k % 64) : Int))) (withW f k true) := words_set ha hk true (bset_lt (ha.lt _) (by omega)) rfl
        generalize bset (f (k / 64)) (k % 64) = D at *
        have G0 := heap_setCell_same w3 w.heap.size (k / 64) a 30 (.int .u64 (D : Int)) g0'
        have G1 : (w3.setCell ⟨w.heap.size, k / 64, none⟩ (.int .u64 (D : Int))).heap[w.heap.size + 1]? = some (.cells Tryd.zeroCells30 30 (0, 0)) := (heap_setCell_other w3 _ _ _ (by simp)).trans g1'
        generalize a.setIfInBounds (k / 64) (.int .u64 (D : Int)) = A at *
        have hAs := hW.size
        have hi : (Tryd.prog.info? 30).map (·.size) = some A.size := by rw [hAs]; exact info30
        have hZ' : Tryd.zeroCells30.size = A.size := by rw [hAs]; exact zero_size
        have h1' := hW.one
        go_wp2_with (first | (refine wpList_load_row rfl 30 _ rfl w.heap.size rfl 30 A (0, 0) _ G0 Tryd.underlying30 rfl hi ?_) | (refine wpList_store_row rfl 30 _ _ rfl (w.heap.size + 1) A rfl rfl 30 Tryd.zeroCells30 G1 hi hZ' h1' ?_))
        refine bodyPost_ret (v := .agg A) (results_cell_row rfl _ _ (w.heap.size + 1) 30 A (0, 0) _ rfl (setRow_heap _ _ _ A _ _ G1) Tryd.underlying30 rfl hi) rfl ⟨A, rfl, hW, below_setRow (below_set hbw' (Nat.le_refl _)) (Nat.le_succ _) _⟩
    | false =>
      cases hB : hasW f k with
      | false =>
        go_wp2_with (first | (refine wpList_load_row rfl 30 _ rfl w.heap.size rfl 30 a (0, 0) _ g0 Tryd.underlying30 rfl hs1 ?_) | (refine wpList_store_row rfl 30 _ _ rfl (w.heap.size + 1) a rfl rfl 30 Tryd.zeroCells30 g1 hs1 hZ h1 ?_))
        refine bodyPost_ret (v := .agg a) (results_cell_row rfl _ _ (w.heap.size + 1) 30 a (0, 0) _ rfl (setRow_heap _ _ _ a _ _ g1) Tryd.underlying30 rfl hs1) rfl ⟨a, rfl, by rw [withW_same hk (ha.lt _) hB]; exact ha, below_setRow hbw (Nat.le_succ _) _⟩
      | true =>
        have q0 : w2.cell? ⟨w.heap.size, k / 64, none⟩ = some (.int .u64 (f (k / 64))) := by
          rw [cell_of_row w2 _ (k / 64) a 30 (0, 0) g0]; exact hg
        have q1 : w2.frozen? ⟨w.heap.size, k / 64, none⟩ = false := by simp [World.frozen?, g0]
        have wk : IntKind.i64.wrap ((k : Int) / 64) = (k : Int) / 64 := by rw [IntKind.wrap_i64]; omega
        have wt : ((k : Int) / 64).toNat = k / 64 := by omega
        have wl : (k : Int) / 64 < 256 := by omega
        have w0 : 0 ≤ (k : Int) / 64 := by omega
        have wm : (k : Int).tmod 64 = (k : Int) % 64 := Int.tmod_eq_emod_of_nonneg (by omega)
        go_wp2_with fail
        have q0' : w2.drew.cell? ⟨w.heap.size, k / 64, none⟩ = some (.int .u64 (f (k / 64))) := q0
        have q1' : w2.drew.frozen? ⟨w.heap.size, k / 64, none⟩ = false := q1
        have hbw' : Below w.heap.size w w2.drew := below_drew hbw
        have g0' : w2.drew.heap[w.heap.size]? = some (.cells a 30 (0, 0)) := g0
        have g1' : w2.drew.heap[w.heap.size + 1]? = some (.cells Tryd.zeroCells30 30 (0, 0)) := g1
        refine wp_region_still_tail 11 (by kernel_rfl) (by kernel_rfl) ?_
        simp only [List.take_succ_cons, List.take_zero, List.drop_succ_cons, List.drop_zero]
        change wpStill _ _ w2.drew (fun a' => wpList _ _ _ _ a' w2.drew) _ _
        generalize w2.drew = w3 at *
        clear q0 q1 hbw g0 g1 hb
        repeat still_step
        still_call (hp w3)
        repeat still_step
        refine wpStill_nil ?_
        have hsum : IntKind.u64.wrap ((f (k / 64) : Int) - (P : Int)) = (clr (f (k / 64)) (k % 64) : Int) := by
          rw [← hPe]; exact sub_clr (ha.lt _) (by omega) (by rw [← hasW_bit f k hk]; exact hB)
        have hW : Words (a.setIfInBounds (k / 64) (.int .u64 (clr (f (k / 64)) (k % 64) : Int))) (withW f k false) := words_set ha hk false (clr_lt (ha.lt _)) rfl
        generalize clr (f (k / 64)) (k % 64) = D at *
        have G0 := heap_setCell_same w3 w.heap.size (k / 64) a 30 (.int .u64 (D : Int)) g0'
        have G1 : (w3.setCell ⟨w.heap.size, k / 64, none⟩ (.int .u64 (D : Int))).heap[w.heap.size + 1]? = some (.cells Tryd.zeroCells30 30 (0, 0)) := (heap_setCell_other w3 _ _ _ (by simp)).trans g1'
        generalize a.setIfInBounds (k / 64) (.int .u64 (D : Int)) = A at *
        have hAs := hW.size
        have hi : (Tryd.prog.info? 30).map (·.size) = some A.size := by rw [hAs]; exact info30
        have hZ' : Tryd.zeroCells30.size = A.size := by rw [hAs]; exact zero_size
        have h1' := hW.one
        go_wp2_with (first | (refine wpList_load_row rfl 30 _ rfl w.heap.size rfl 30 A (0, 0) _ G0 Tryd.underlying30 rfl hi ?_) | (refine wpList_store_row rfl 30 _ _ rfl (w.heap.size + 1) A rfl rfl 30 Tryd.zeroCells30 G1 hi hZ' h1' ?_))
        refine bodyPost_ret (v := .agg A) (results_cell_row rfl _ _ (w.heap.size + 1) 30 A (0, 0) _ rfl (setRow_heap _ _ _ A _ _ G1) Tryd.underlying30 rfl hi) rfl ⟨A, rfl, hW, below_setRow (below_set hbw' (Nat.le_refl _)) (Nat.le_succ _) _⟩
  · rw [if_neg h]
    have hs1 : (Tryd.prog.info? 30).map (·.size) = some a.size := by rw [ha.size]; exact info30
    have hZ : Tryd.zeroCells30.size = a.size := by rw [ha.size]; exact zero_size
    have h1 := ha.one
    by_cases c1 : n < 0
    · go_enter Tryd.func31, Tryd.ntmps31
      go_wp2_with (first | (refine wpList_load_row rfl 30 _ rfl w.heap.size rfl 30 a (0, 0) _ (heap0 w _ _) Tryd.underlying30 rfl hs1 ?_) | (refine wpList_store_row rfl 30 _ _ rfl (w.heap.size + 1) a rfl rfl 30 Tryd.zeroCells30 (heap1 w _ _) hs1 hZ h1 ?_))
      refine bodyPost_ret (v := .agg a) (results_cell_row rfl _ _ (w.heap.size + 1) 30 a (0, 0) _ rfl (setRow_heap _ _ _ a _ _ (heap1 w _ _)) Tryd.underlying30 rfl hs1) rfl ⟨a, rfl, ha, below_setRow (by repeat (first | exact Below.refl _ _ | apply below_alloc)) (Nat.le_succ _) _⟩
    · have c2 : 16384 ≤ n := by omega
      go_enter Tryd.func31, Tryd.ntmps31
      go_wp2_with (first | (refine wpList_load_row rfl 30 _ rfl w.heap.size rfl 30 a (0, 0) _ (heap0 w _ _) Tryd.underlying30 rfl hs1 ?_) | (refine wpList_store_row rfl 30 _ _ rfl (w.heap.size + 1) a rfl rfl 30 Tryd.zeroCells30 (heap1 w _ _) hs1 hZ h1 ?_))
      refine bodyPost_ret (v := .agg a) (results_cell_row rfl _ _ (w.heap.size + 1) 30 a (0, 0) _ rfl (setRow_heap _ _ _ a _ _ (heap1 w _ _)) Tryd.underlying30 rfl hs1) rfl ⟨a, rfl, ha, below_setRow (by repeat (first | exact Below.refl _ _ | apply below_alloc)) (Nat.le_succ _) _⟩
end Go.Proofs.YtnlchdjknebmfaaDoor
