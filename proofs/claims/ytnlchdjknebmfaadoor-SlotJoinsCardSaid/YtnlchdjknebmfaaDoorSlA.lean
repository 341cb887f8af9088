/- Slots as words of 64 bits: one bit put in or out; slot.Has and slot.With. Conditions: none. -/
import Derived.Test.YtnlchdjknebmfaaDoorProg
import Derived.Test.YtnlchdjknebmfaaDoorWWords
import Derived.WalkKit
import Derived.BigQuiet
import Derived.Deep.QuietTactic
import Derived.Deep.WholeRow
import Derived.Lib.Hide
import Derived.WalkMore
import Derived.WalkSpells
import Derived.Laws.BitsLemmas
import Derived.Laws.CopyOwn
import Derived.Outline
set_option linter.unusedVariables false
set_option linter.unusedSimpArgs false
namespace Go.Proofs.YtnlchdjknebmfaaDoor
open Go.RowKit Go.Proofs.YtnlchdjknebmfaaDoorW.PrintWords

/-! ### words of 64 bits -/
theorem wrap64 (n : Int) (h0 : 0 ≤ n) (h1 : n < 2 ^ 64) : IntKind.u64.wrap n = n := by
  have : IntKind.u64.wrap n = n % 18446744073709551616 := by simp [IntKind.wrap, IntKind.bits, IntKind.signed]
  rw [this]
  have : (2 : Int) ^ 64 = 18446744073709551616 := by decide
  omega
theorem and1 (x : Nat) (h : x < 18446744073709551616) : bits .and .u64 (x : Int) 1 = ((x % 2 : Nat) : Int) := by
  have := (bits_nat .u64 64 (by decide) (fun n a b => wrap64 n a b) x 1 (by simpa using h) (by decide)).1
  rw [show ((1 : Nat) : Int) = 1 from rfl, Nat.and_one_is_mod] at this
  exact this
theorem or64 (x y : Nat) (h : x < 18446744073709551616) (h' : y < 18446744073709551616) : bits .or .u64 (x : Int) (y : Int) = ((x ||| y : Nat) : Int) :=
  (bits_nat .u64 64 (by decide) (fun n a b => wrap64 n a b) x y (by simpa using h) (by simpa using h')).2
theorem andNot64 (x y : Nat) (h : x < 18446744073709551616) (h' : y < 18446744073709551616) : bits .andNot .u64 (x : Int) (y : Int) = ((x &&& (18446744073709551615 - y) : Nat) : Int) := by
  have hx : x % 2 ^ 64 = x := Nat.mod_eq_of_lt (by simpa using h)
  have hy : y % 2 ^ 64 = y := Nat.mod_eq_of_lt (by simpa using h')
  show IntKind.u64.wrap ((((BitVec.ofInt 64 (x : Int)) &&& ~~~(BitVec.ofInt 64 (y : Int))).toNat : Nat) : Int) = _
  rw [BitVec.ofInt_natCast, BitVec.ofInt_natCast, BitVec.toNat_and, BitVec.toNat_not, BitVec.toNat_ofNat, BitVec.toNat_ofNat, hx, hy]
  have e : 2 ^ 64 - 1 - y = 18446744073709551615 - y := by simp
  rw [e]
  exact wrap64 _ (Int.natCast_nonneg _) (by
    have h3 : x &&& (18446744073709551615 - y) ≤ x := Nat.and_le_left
    have h4 : x &&& (18446744073709551615 - y) < 2 ^ 64 := Nat.lt_of_le_of_lt h3 (by simpa using h)
    exact_mod_cast h4)

/-- The slots as words: 256 whole numbers below 2^64. -/
structure Words (a : Array Value) (f : Nat → Nat) : Prop where
  size : a.size = 256
  get : ∀ i, i < 256 → a[i]? = some (.int .u64 (f i))
  lt : ∀ i, f i < 18446744073709551616
theorem there_calls (n : Int) (w : World) : Calls Tryd.prog 42 #[.int .i64 n] w fun e w' => e = .returned (.bool (decide (0 ≤ n) && decide (n < 16384))) ∧ w = w' := by
  by_cases h : 0 ≤ n
  · rw [decide_eq_true h, Bool.true_and]
    go_enter Tryd.func42, Tryd.ntmps42
    go_wp2
    go_ret
    exact ⟨rfl, rfl⟩
  · rw [decide_eq_false h, Bool.false_and]
    go_enter Tryd.func42, Tryd.ntmps42
    go_wp2
    go_ret
    exact ⟨rfl, rfl⟩
def hasW (f : Nat → Nat) (n : Int) : Bool := decide (0 ≤ n) && decide (n < 16384) && decide (f (n.toNat / 64) / 2 ^ (n.toNat % 64) % 2 = 1)
set_option maxRecDepth 100000 in
theorem Has_calls (a : Array Value) (f : Nat → Nat) (ha : Words a f) (n : Int) (w : World) :
    Calls Tryd.prog 32 #[.agg a, .int .i64 n] w fun e w' => e = .returned (.bool (hasW f n)) ∧ Below w.heap.size w w' := by
  have ht := there_calls n
  by_cases h : 0 ≤ n ∧ n < 16384
  · obtain ⟨k, rfl⟩ : ∃ k : Nat, n = k := ⟨n.toNat, by omega⟩
    have hk : k < 16384 := by omega
    rw [decide_eq_true h.1, decide_eq_true h.2] at ht
    have hg := ha.get (k / 64) (by omega)
    have hsz := ha.size
    have hx : f (k / 64) / 2 ^ (k % 64) < 18446744073709551616 := Nat.lt_of_le_of_lt (Nat.div_le_self _ _) (ha.lt _)
    have hb := and1 _ hx
    have hc : ((f (k / 64) / 2 ^ (k % 64) : Nat) : Int) = (f (k / 64) : Int) / 2 ^ (k % 64) := by simp
    rw [hc] at hb
    have hE : hasW f k = (((f (k / 64) / 2 ^ (k % 64) % 2 : Nat) : Int) == 1) := by
      unfold hasW
      rw [decide_eq_true h.1, decide_eq_true h.2, Bool.true_and, Bool.true_and, Int.toNat_natCast, Bool.beq_eq_decide_eq]
      congr 1
      exact propext ⟨fun h => by omega, fun h => by omega⟩
    have hd : ((f (k / 64) / 2 ^ (k % 64) % 2 : Nat) : Int) = (f (k / 64) : Int) / 2 ^ (k % 64) % 2 := by simp
    rw [hd] at hE
    rw [hE]
    go_enter Tryd.func32, Tryd.ntmps32
    go_wp2_with (go_at_call 42; refine (ht _).mono ?_; rintro e w2 ⟨rfl, rfl⟩)
    go_ret
    exact ⟨rfl, below_alloc (Below.refl _ _) _⟩
  · have hE : hasW f n = false := by unfold hasW; by_cases h1 : 0 ≤ n <;> by_cases h2 : n < 16384 <;> simp [h1, h2]; omega
    have ht' : (decide (0 ≤ n) && decide (n < 16384)) = false := by by_cases h1 : 0 ≤ n <;> by_cases h2 : n < 16384 <;> simp [h1, h2]; omega
    rw [ht'] at ht
    rw [hE]
    go_enter Tryd.func32, Tryd.ntmps32
    go_wp2_with (go_at_call 42; refine (ht _).mono ?_; rintro e w2 ⟨rfl, rfl⟩)
    go_ret
    exact ⟨rfl, below_alloc (Below.refl _ _) _⟩

/-! ### one bit of a word -/
def clr (x k : Nat) : Nat := x &&& (18446744073709551615 - 2 ^ k)
def bset (x k : Nat) : Nat := clr x k ||| 2 ^ k
theorem pow_lt64 {k : Nat} (h : k < 64) : 2 ^ k < 18446744073709551616 := by
  have := Nat.pow_lt_pow_right (a := 2) (by decide) h
  simpa using this
theorem clr_lt {x k : Nat} (h : x < 18446744073709551616) : clr x k < 18446744073709551616 := Nat.lt_of_le_of_lt Nat.and_le_left h
theorem bset_lt {x k : Nat} (h : x < 18446744073709551616) (hk : k < 64) : bset x k < 18446744073709551616 := by
  have := Nat.or_lt_two_pow (n := 64) (by simpa using clr_lt (k := k) h) (by simpa using pow_lt64 hk)
  simpa [bset] using this
theorem clr_bit {x k : Nat} (h : x < 18446744073709551616) (hk : k < 64) (i : Nat) : (clr x k).testBit i = (x.testBit i && decide (i ≠ k)) := by
  unfold clr
  rw [Nat.testBit_and]
  have e : 18446744073709551615 - 2 ^ k = 2 ^ 64 - (2 ^ k + 1) := by omega
  rw [e, Nat.testBit_two_pow_sub_succ (by simpa using pow_lt64 hk), Nat.testBit_two_pow]
  by_cases hi : i < 64
  · by_cases hik : i = k
    · subst hik; simp
    · have : ¬ k = i := fun e => hik e.symm
      simp [hi, hik, this]
  · have : x.testBit i = false := Nat.testBit_lt_two_pow (Nat.lt_of_lt_of_le (by simpa using h) (Nat.pow_le_pow_right (by decide) (by omega : 64 ≤ i)))
    rw [this]; simp
theorem bset_bit {x k : Nat} (h : x < 18446744073709551616) (hk : k < 64) (i : Nat) : (bset x k).testBit i = (x.testBit i || decide (i = k)) := by
  unfold bset
  rw [Nat.testBit_or, clr_bit h hk, Nat.testBit_two_pow]
  by_cases hik : i = k
  · subst hik; simp
  · have : ¬ k = i := fun e => hik e.symm
    simp [hik, this]
def withW (f : Nat → Nat) (n : Nat) (b : Bool) : Nat → Nat := fun w => if w = n / 64 then (if b then bset (f w) (n % 64) else clr (f w) (n % 64)) else f w
theorem hasW_bit (f : Nat → Nat) (n : Nat) (h : n < 16384) : hasW f n = (f (n / 64)).testBit (n % 64) := by
  unfold hasW
  rw [decide_eq_true (by omega), decide_eq_true (by omega), Bool.true_and, Bool.true_and, Int.toNat_natCast, Nat.testBit_eq_decide_div_mod_eq]
theorem Words.set {a : Array Value} {f : Nat → Nat} (h : Words a f) (i : Nat) (hi : i < 256) (x : Nat) (hx : x < 18446744073709551616) : Words (a.setIfInBounds i (.int .u64 x)) (fun w => if w = i then x else f w) := by
  refine ⟨by simp [h.size], fun j hj => ?_, fun j => ?_⟩
  · rw [Array.getElem?_setIfInBounds]
    by_cases hij : i = j
    · subst hij; simp [h.size, hi]
    · rw [if_neg hij, if_neg (fun e => hij e.symm)]; exact h.get j hj
  · show (if j = i then x else f j) < _
    split
    · exact hx
    · exact h.lt j
theorem Words.one {a : Array Value} {f : Nat → Nat} (h : Words a f) : a.all (·.oneCell') = true := by
  rw [Array.all_eq_true]
  intro i hi
  have := h.get i (by rw [← h.size]; exact hi)
  rw [Array.getElem?_eq_getElem hi] at this
  rw [Option.some.inj this]
  rfl
theorem heap0 (w : World) (A B : Obj) : ((w.alloc A).alloc B).heap[w.heap.size]? = some A := ((below_alloc (Below.refl (w.alloc A).heap.size (w.alloc A)) B).block w.heap.size (by simp)).trans (heap_alloc_last w A)
theorem heap1 (w : World) (A B : Obj) : ((w.alloc A).alloc B).heap[w.heap.size + 1]? = some B := by
  have := heap_alloc_last (w.alloc A) B
  rw [World.size_alloc] at this
  exact this

theorem zero_size : Tryd.zeroCells30.size = 256 := by kernel_rfl
theorem info30 : (Tryd.prog.info? 30).map (·.size) = some 256 := by kernel_rfl
theorem wrap_pow {k : Nat} (hk : k < 64) : IntKind.u64.wrap (2 ^ k) = 2 ^ k := by
  refine wrap64 _ (by have h0 : (0 : Int) ≤ ((2 ^ k : Nat) : Int) := Int.natCast_nonneg _
                      rwa [Int.natCast_pow] at h0) ?_
  have := pow_lt64 hk
  exact_mod_cast this
set_option maxRecDepth 100000 in
theorem With_calls (a : Array Value) (f : Nat → Nat) (ha : Words a f) (n : Int) (b : Bool) (w : World) :
    Calls Tryd.prog 30 #[.agg a, .int .i64 n, .bool b] w fun e w' =>
      ∃ a', e = .returned (.agg a') ∧ Words a' (if 0 ≤ n ∧ n < 16384 then withW f n.toNat b else f) ∧ Below w.heap.size w w' := by
  have ht := there_calls n
  by_cases h : 0 ≤ n ∧ n < 16384
  · rw [if_pos h]
    obtain ⟨k, rfl⟩ : ∃ k : Nat, n = k := ⟨n.toNat, by omega⟩
    rw [Int.toNat_natCast]
    have hk : k < 16384 := by omega
    rw [decide_eq_true h.1, decide_eq_true h.2] at ht
    have hg := ha.get (k / 64) (by omega)
    have hsz := ha.size
    have hwp := wrap_pow (k := k % 64) (by omega)
    have hx := ha.lt (k / 64)
    have hC : bits .andNot .u64 (f (k / 64) : Int) (2 ^ (k % 64)) = (clr (f (k / 64)) (k % 64) : Int) := by
      have := andNot64 (f (k / 64)) (2 ^ (k % 64)) hx (pow_lt64 (by omega))
      rw [Int.natCast_pow] at this
      exact this
    have hD : bits .or .u64 (clr (f (k / 64)) (k % 64) : Int) (2 ^ (k % 64)) = (bset (f (k / 64)) (k % 64) : Int) := by
      have := or64 (clr (f (k / 64)) (k % 64)) (2 ^ (k % 64)) (clr_lt hx) (pow_lt64 (by omega))
      rw [Int.natCast_pow] at this
      exact this
    cases b with
    | false =>
      have hW : Words (a.setIfInBounds (k / 64) (.int .u64 (clr (f (k / 64)) (k % 64)))) (withW f k false) := by
        have := ha.set (k / 64) (by omega) _ (clr_lt (k := k % 64) hx)
        have e : (fun w => if w = k / 64 then clr (f (k / 64)) (k % 64) else f w) = withW f k false := by
          funext w; unfold withW
          by_cases hw : w = k / 64
          · subst hw; simp
          · simp [hw]
        rw [e] at this
        exact this
      clear hD
      generalize clr (f (k / 64)) (k % 64) = C at *
      go_enter Tryd.func30, Tryd.ntmps30
      go_wp2_with (go_at_call 42; refine (ht _).mono ?_; rintro e w2 ⟨rfl, rfl⟩)
      go_region
      generalize hA : a.setIfInBounds (k / 64) (.int .u64 (C : Int)) = A at *
      have hAs := hW.size
      have hg0 : ((w.alloc (Obj.cells A 30)).alloc (Obj.cells Tryd.zeroCells30 30)).drew.heap[w.heap.size]? = some (.cells A 30 (0, 0)) := heap0 w _ _
      have hg1 : ((w.alloc (Obj.cells A 30)).alloc (Obj.cells Tryd.zeroCells30 30)).drew.heap[w.heap.size + 1]? = some (.cells Tryd.zeroCells30 30 (0, 0)) := heap1 w _ _
      have hi : (Tryd.prog.info? 30).map (·.size) = some A.size := by rw [hAs]; exact info30
      have hZ : Tryd.zeroCells30.size = A.size := by rw [hAs]; exact zero_size
      have h1 := hW.one
      go_wp2_with (first | (go_at_call 42; refine (ht _).mono ?_; rintro e w2 ⟨rfl, rfl⟩) | (refine wpList_load_row rfl 30 _ rfl w.heap.size rfl 30 A (0, 0) _ hg0 Tryd.underlying30 rfl hi ?_) | (refine wpList_store_row rfl 30 _ _ rfl (w.heap.size + 1) A rfl rfl 30 Tryd.zeroCells30 hg1 hi hZ h1 ?_))
      refine bodyPost_ret (v := .agg A) (results_cell_row rfl _ _ (w.heap.size + 1) 30 A (0, 0) _ rfl (setRow_heap _ _ _ A _ _ hg1) Tryd.underlying30 rfl hi) rfl ⟨A, rfl, hW, below_setRow (by repeat (first | exact Below.refl _ _ | apply below_drew | apply below_alloc)) (Nat.le_succ _) _⟩
    | true =>
      have hW : Words (a.setIfInBounds (k / 64) (.int .u64 (bset (f (k / 64)) (k % 64)))) (withW f k true) := by
        have := ha.set (k / 64) (by omega) _ (bset_lt (k := k % 64) hx (by omega))
        have e : (fun w => if w = k / 64 then bset (f (k / 64)) (k % 64) else f w) = withW f k true := by
          funext w; unfold withW
          by_cases hw : w = k / 64
          · subst hw; simp
          · simp [hw]
        rw [e] at this
        exact this
      generalize bset (f (k / 64)) (k % 64) = D at *
      generalize clr (f (k / 64)) (k % 64) = C at *
      have hg2 : (a.setIfInBounds (k / 64) (.int .u64 (C : Int)))[k / 64]? = some (.int .u64 (C : Int)) := by
        rw [Array.getElem?_setIfInBounds, if_pos rfl, if_pos (by omega)]
      go_enter Tryd.func30, Tryd.ntmps30
      go_wp2_with (go_at_call 42; refine (ht _).mono ?_; rintro e w2 ⟨rfl, rfl⟩)
      go_region
      go_wp2_with fail
      go_region
      generalize hA : a.setIfInBounds (k / 64) (.int .u64 (D : Int)) = A at *
      have hAs := hW.size
      have hg0 : ((w.alloc (Obj.cells A 30)).alloc (Obj.cells Tryd.zeroCells30 30)).drew.drew.heap[w.heap.size]? = some (.cells A 30 (0, 0)) := heap0 w _ _
      have hg1 : ((w.alloc (Obj.cells A 30)).alloc (Obj.cells Tryd.zeroCells30 30)).drew.drew.heap[w.heap.size + 1]? = some (.cells Tryd.zeroCells30 30 (0, 0)) := heap1 w _ _
      have hi : (Tryd.prog.info? 30).map (·.size) = some A.size := by rw [hAs]; exact info30
      have hZ : Tryd.zeroCells30.size = A.size := by rw [hAs]; exact zero_size
      have h1 := hW.one
      go_wp2_with (first | (go_at_call 42; refine (ht _).mono ?_; rintro e w2 ⟨rfl, rfl⟩) | (refine wpList_load_row rfl 30 _ rfl w.heap.size rfl 30 A (0, 0) _ hg0 Tryd.underlying30 rfl hi ?_) | (refine wpList_store_row rfl 30 _ _ rfl (w.heap.size + 1) A rfl rfl 30 Tryd.zeroCells30 hg1 hi hZ h1 ?_))
      refine bodyPost_ret (v := .agg A) (results_cell_row rfl _ _ (w.heap.size + 1) 30 A (0, 0) _ rfl (setRow_heap _ _ _ A _ _ hg1) Tryd.underlying30 rfl hi) rfl ⟨A, rfl, hW, below_setRow (by repeat (first | exact Below.refl _ _ | apply below_drew | apply below_alloc)) (Nat.le_succ _) _⟩
  · rw [if_neg h]
    have ht' : (decide (0 ≤ n) && decide (n < 16384)) = false := by by_cases h1 : 0 ≤ n <;> by_cases h2 : n < 16384 <;> simp [h1, h2]; omega
    rw [ht'] at ht
    have hW := ha
    have hAs := ha.size
    go_enter Tryd.func30, Tryd.ntmps30
    have hg0 : ((w.alloc (Obj.cells a 30)).alloc (Obj.cells Tryd.zeroCells30 30)).heap[w.heap.size]? = some (.cells a 30 (0, 0)) := heap0 w _ _
    have hg1 : ((w.alloc (Obj.cells a 30)).alloc (Obj.cells Tryd.zeroCells30 30)).heap[w.heap.size + 1]? = some (.cells Tryd.zeroCells30 30 (0, 0)) := heap1 w _ _
    have hi : (Tryd.prog.info? 30).map (·.size) = some a.size := by rw [hAs]; exact info30
    have hZ : Tryd.zeroCells30.size = a.size := by rw [hAs]; exact zero_size
    have h1 := hW.one
    go_wp2_with (first | (go_at_call 42; refine (ht _).mono ?_; rintro e w2 ⟨rfl, rfl⟩) | (refine wpList_load_row rfl 30 _ rfl w.heap.size rfl 30 a (0, 0) _ hg0 Tryd.underlying30 rfl hi ?_) | (refine wpList_store_row rfl 30 _ _ rfl (w.heap.size + 1) a rfl rfl 30 Tryd.zeroCells30 hg1 hi hZ h1 ?_))
    refine bodyPost_ret (v := .agg a) (results_cell_row rfl _ _ (w.heap.size + 1) 30 a (0, 0) _ rfl (setRow_heap _ _ _ a _ _ hg1) Tryd.underlying30 rfl hi) rfl ⟨a, rfl, hW, below_setRow (by repeat (first | exact Below.refl _ _ | apply below_drew | apply below_alloc)) (Nat.le_succ _) _⟩
end Go.Proofs.YtnlchdjknebmfaaDoor
