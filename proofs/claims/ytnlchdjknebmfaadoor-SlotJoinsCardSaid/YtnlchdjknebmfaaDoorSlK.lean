/- slot.Print: the slots' runs as a text. Conditions: the listed variables as laid. -/
import Derived.Test.YtnlchdjknebmfaaDoorSlJ
set_option linter.unusedVariables false
set_option linter.unusedSimpArgs false
namespace Go.Proofs.YtnlchdjknebmfaaDoor
open Go.RowKit Go.Proofs.YtnlchdjknebmfaaDoorW.PrintWords
open SlS SlT
/-! ### two sets of slots compared -/
def eqW (f g : Nat → Nat) : Bool := (List.range 256).all fun i => f i == g i
theorem eqW_true {f g : Nat → Nat} (h : eqW f g = true) : ∀ i, i < 256 → f i = g i := fun i hi => by
  unfold eqW at h
  rw [List.all_eq_true] at h
  simpa using h i (List.mem_range.2 hi)
theorem eqW_self {f g : Nat → Nat} (h : ∀ i, i < 256 → f i = g i) : eqW f g = true := by
  unfold eqW
  rw [List.all_eq_true]
  intro i hi
  simpa using h i (List.mem_range.1 hi)
theorem size64 (w : World) : (sizeOf 28).run Tryd.prog w = .ok 1 w := by kernel_rfl
theorem eqInN {P : Program} (t e : TypeId) (n : Nat) (ht : P.underlying t = some (.array n e)) (he : P.underlying e = some (.int .u64)) (hsz : ∀ w, (sizeOf e).run P w = .ok 1 w) (hn : n ≤ 256)
    (d : Nat) {a b : Array Value} {f g : Nat → Nat} (ha : Words a f) (hb : Words b g) (w : World) : (Op.equalIn (d + 2) t (.agg a) (.agg b)).run P w = .ok ((List.range n).all fun i => f i == g i) w := by
  rw [List.range_eq_range', Op.equalIn]
  simp only [Sem.run_bind, run_underlying ht, Result.andThen_ok, hsz, Std.Legacy.Range.forIn_eq_forIn_range', Std.Legacy.Range.size, Nat.sub_zero, Nat.add_sub_cancel, Nat.div_one]
  have hl : ∀ i ∈ List.range' 0 n 1, i < n := fun i hi => by simpa using (List.mem_range'_1.1 hi).2
  generalize List.range' 0 n 1 = l at hl ⊢
  induction l with
  | nil => simp
  | cons i l ih =>
    have hi : i < n := hl i (by simp)
    have px : (part e a (i * 1)).run P w = .ok (.int .u64 (f i : Int)) w := by
      have := ha.get i (by omega)
      simp [part, isAgg, run_underlying he, this]
    have py : (part e b (i * 1)).run P w = .ok (.int .u64 (g i : Int)) w := by
      have := hb.get i (by omega)
      simp [part, isAgg, run_underlying he, this]
    have pe : (Op.equalIn (d + 1) e (.int .u64 (f i : Int)) (.int .u64 (g i : Int))).run P w = .ok (f i == g i) w := by
      rw [run_equalIn_int w d e .u64 .u64 _ _ he]
      congr 1
      rw [Bool.eq_iff_iff]
      simp
      omega
    simp only [List.forIn_cons, Sem.run_bind, px, py, pe, Result.andThen_ok, List.all_cons]
    cases hb : (f i == g i)
    · simp
    · simp only [Bool.not_true, Bool.false_eq_true, if_false, Sem.run_pure, Result.andThen_ok, Bool.true_and]
      exact ih fun j hj => hl j (by simp [hj])
theorem eqInW (d : Nat) {a b : Array Value} {f g : Nat → Nat} (ha : Words a f) (hb : Words b g) (w : World) : (Op.equalIn (d + 2) 30 (.agg a) (.agg b)).run Tryd.prog w = .ok (eqW f g) w :=
  eqInN 30 28 256 Tryd.underlying30 Tryd.underlying28 size64 (Nat.le_refl _) d ha hb w
theorem eqlW {a b : Array Value} {f g : Nat → Nat} (ha : Words a f) (hb : Words b g) (w : World) : (binOp .eql 30 (.agg a) (.agg b)).run Tryd.prog w = .ok (.bool (eqW f g)) w := by
  rw [run_eql_struct, eqInW 9998 ha hb w]
  rfl
theorem words_ext {a b : Array Value} {f g : Nat → Nat} (ha : Words a f) (hb : Words b g) (h : ∀ n, n < 16384 → hasN f n = hasN g n) : a = b ∧ ∀ i, i < 256 → f i = g i := by
  have hfg : ∀ i, i < 256 → f i = g i := by
    intro i hi
    apply Nat.eq_of_testBit_eq
    intro j
    by_cases hj : j < 64
    · have := h (64 * i + j) (by omega)
      unfold hasN at this
      rw [show (64 * i + j) / 64 = i by omega, show (64 * i + j) % 64 = j by omega] at this
      exact this
    · have h1 : (f i).testBit j = false := Nat.testBit_lt_two_pow (Nat.lt_of_lt_of_le (by simpa using ha.lt i) (Nat.pow_le_pow_right (by decide) (by omega : 64 ≤ j)))
      have h2 : (g i).testBit j = false := Nat.testBit_lt_two_pow (Nat.lt_of_lt_of_le (by simpa using hb.lt i) (Nat.pow_le_pow_right (by decide) (by omega : 64 ≤ j)))
      rw [h1, h2]
  refine ⟨?_, hfg⟩
  apply Array.ext (by rw [ha.size, hb.size])
  intro i h1 h2
  have hi : i < 256 := by rw [← ha.size]; exact h1
  have e1 := ha.get i hi
  have e2 := hb.get i hi
  rw [Array.getElem?_eq_getElem h1] at e1
  rw [Array.getElem?_eq_getElem h2] at e2
  rw [hfg i hi] at e1
  rw [Option.some.inj e1, Option.some.inj e2]
theorem eqW_iff {a b : Array Value} {f g : Nat → Nat} (ha : Words a f) (hb : Words b g) : eqW f g = true ↔ ∀ n, n < 16384 → hasN f n = hasN g n := by
  constructor
  · intro h n hn
    unfold hasN
    rw [eqW_true h (n / 64) (by omega)]
  · intro h
    exact eqW_self (words_ext ha hb h).2
theorem printH_zero : printH (hasN fun _ => 0) = [] := by
  have e : (List.range 16384).filter (hasN fun _ => 0) = [] := by
    rw [List.filter_eq_nil_iff]
    intro n _
    simp [hasN]
  unfold printH rngH
  rw [e]
  rfl
/-! ### the walk -/
def strV (l : List UInt8) : Value := .string ⟨l.toArray⟩
def partsV (rs : List (Nat × Nat)) : List Value := rs.map fun p => strV (rangeT p)
theorem info_str : ∃ i0, Tryd.prog.info? 9 = some i0 ∧ i0.zero = some (.string ByteArray.empty) ∧ i0.size = 1 ∧ i0.bytes = 16 := info_parts (by kernel_rfl)
theorem one_str (s : ByteArray) : ∀ u ∈ [Value.string s], u.oneCell' = true := fun u h => by
  rw [List.mem_singleton.1 h]; rfl
theorem flatR_at (rs : List (Nat × Nat)) (k : Nat) (p : Nat × Nat) (h : rs[k]? = some p) : (flatR rs)[k * 2]? = some (.int .i64 (p.1 : Int)) ∧ (flatR rs)[k * 2 + 1]? = some (.int .i64 (p.2 : Int)) := by
  induction rs generalizing k with
  | nil => simp at h
  | cons q rs ih =>
    have e : flatR (q :: rs) = .int .i64 (q.1 : Int) :: .int .i64 (q.2 : Int) :: flatR rs := rfl
    rw [e]
    cases k with
    | zero => simp at h; subst h; exact ⟨rfl, rfl⟩
    | succ k =>
      have := ih k (by simpa using h)
      rw [show (k + 1) * 2 = k * 2 + 1 + 1 by omega]
      simpa using this
set_option maxHeartbeats 4000000 in
set_option maxRecDepth 100000 in
theorem Print_calls (a : Array Value) (f : Nat → Nat) (ha : Words a f) (w : World) (hE : Env w) : Calls Tryd.prog 26 #[.agg a] w fun e w' => e = .returned (.string ⟨(printH (hasN f)).toArray⟩) ∧ Below w.heap.size w w' := by
  have hq := fun W => eqlW ha zero_words W
  have hs1 : (Tryd.prog.info? 30).map (·.size) = some a.size := by rw [ha.size]; exact info30
  cases hz : eqW f (fun _ => 0) with
  | true =>
    have hp := Lib.hid (printH_congr ((eqW_iff ha zero_words).1 hz))
    rw [hz] at hq
    go_enter Tryd.func26, Tryd.ntmps26
    go_wp2_with (refine wpList_load_row rfl 30 _ rfl w.heap.size rfl 30 a (0, 0) _ (heapN w _) Tryd.underlying30 rfl hs1 ?_)
    go_ret
    exact ⟨by rw [hp.out, printH_zero]; rfl, below_new' w _⟩
  | false =>
    rw [hz] at hq
    have hR := fun W => Ranges_calls a f ha W
    have hord := rngH_ord (hasN f)
    have hpl := printH_len (hasN f)
    have hrl := rng_len_le (hasN f)
    change ∀ W, Calls Tryd.prog 21 #[Value.agg a] W (RgPost W (rngH (hasN f))) at hR
    unfold printH at *
    generalize rngH (hasN f) = rs at *
    clear hz
    go_enter Tryd.func26, Tryd.ntmps26
    go_wp2_with (refine wpList_load_row rfl 30 _ rfl w.heap.size rfl 30 a (0, 0) _ (heapN w _) Tryd.underlying30 rfl hs1 ?_)
    refine (hR _).mono ?_
    rintro e w1 ⟨v, rfl, hl1, hb1⟩
    have hbw1 : Below w.heap.size w w1 := (below_new' w _).trans (hb1.mono (by simp))
    have hl1 := own_weaken hl1 (show w.heap.size ≤ _ by simp)
    obtain ⟨A, c, rfl⟩ := own_slice hl1
    clear hb1 hR hq
    obtain ⟨i0, hi0, hz0, hz1, hz2⟩ := info_str
    go_wp2_with fail
    go_loopw [3, 5, 6, 13] (fun out _ _ i wr => ∃ k : Nat, k ≤ rs.length ∧ i = .int .i64 k ∧ wr.ownsRow w.heap.size 9 1 out k (partsV (rs.take k)) ∧ Below w.heap.size w wr ∧ wr.ownsRow w.heap.size 53 2 (.slice A rs.length c) rs.length (flatR rs)) (fun _ _ _ i _ => rs.length - (intOf i).toNat)
    case atStart => exact ⟨0, by omega, rfl, own_nil _ _ _ _, hbw1, hl1⟩
    case round =>
      obtain ⟨k, hk, rfl, hown, hb, hl⟩ := hrel
      clear hl1 hbw1
      by_cases hkl : k < rs.length
      · obtain ⟨g, cap, hgA, -, -⟩ := hl.form (by omega)
        obtain rfl : A = some ⟨g, 0, none⟩ := by injection hgA
        clear hgA
        obtain ⟨p, hp⟩ : ∃ p, rs[k]? = some p := ⟨rs[k], List.getElem?_eq_getElem hkl⟩
        obtain ⟨hp12, hp2⟩ := hord p (List.mem_of_getElem? hp)
        obtain ⟨f1, f2⟩ := flatR_at rs k p hp
        have c1 := (hl.cellAt (k * 2) (by omega)).trans f1
        have c2 := (hl.cellAt (k * 2 + 1) (by omega)).trans f2
        have hnext := Lib.hid (show partsV (rs.take (k + 1)) = partsV (rs.take k) ++ [strV (rangeT p)] by unfold partsV; rw [List.take_add_one, hp]; simp)
        have hgo : decide ((k : Int) < (rs.length : Int)) = true := decide_eq_true (by omega)
        have hEr := hE.below hb
        have hI1 := fun W h => Itoa_calls p.1 (by omega) W h
        have hI2 := fun W h => Itoa_calls p.2 hp2 W h
        have hT : rangeT p = Lib.decDigits p.1 ++ if p.1 < p.2 then 45 :: Lib.decDigits p.2 else [] := rfl
        have hd1 := dig_len_le 4 p.1 (by omega)
        have hd2 := dig_len_le 4 p.2 (by omega)
        clear f1 f2
        generalize rangeT p = T at *
        generalize Lib.decDigits p.1 = D1 at *
        generalize Lib.decDigits p.2 = D2 at *
        generalize p.1 = p1 at *
        generalize p.2 = p2 at *
        have hs1 : (⟨D1.toArray⟩ : ByteArray).size ≤ 5 := by rw [size_mk]; exact hd1
        have hs2 : (⟨D2.toArray⟩ : ByteArray).size ≤ 5 := by rw [size_mk]; exact hd2
        have hT := Lib.hid hT
        obtain ⟨wo, rfl⟩ : ∃ wo : World, wo = wr := ⟨_, rfl⟩
        go_wp2_with fail
        refine (hI1 _ (hEr.below (below_new' _ _))).mono ?_
        rintro e w2 ⟨rfl, hb2⟩
        have d1 : w2.cell? ⟨wo.heap.size, 0, none⟩ = some (.int .i64 (p1 : Int)) := (hb2.cell (p := ⟨wo.heap.size, 0, none⟩) (by simp)).trans (by simp [go_sem])
        have d2 : w2.cell? ⟨wo.heap.size, 1, none⟩ = some (.int .i64 (p2 : Int)) := (hb2.cell (p := ⟨wo.heap.size, 1, none⟩) (by simp)).trans (by simp [go_sem])
        have hb12 := (below_new' wo (.cells #[.int .i64 (p1 : Int), .int .i64 (p2 : Int)] 53)).trans (hb2.mono (by simp))
        have hbw2 := hb.trans (hb12.mono hb.size)
        have hown2 := pw_own_below hown hb12
        have hl2 := pw_own_below hl hb12
        have hE2 := hEr.below hb12
        have hlt2 : wo.heap.size < w2.heap.size := by have := hb2.size; simp at this; omega
        have hc5 : ∀ o : Obj, w.heap.size ≤ (w2.alloc o).heap.size := fun o => by have := hbw2.size; simp; omega
        clear hI1 hb2 hb12 hown hl hb hEr c1 c2 hE
        by_cases h12 : p1 < p2
        · have h12' : decide ((p1 : Int) < (p2 : Int)) = true := decide_eq_true (by omega)
          have h12n : decide (p1 < p2) = true := decide_eq_true h12
          rw [if_pos h12] at hT
          go_wp2_with fail
          refine (hI2 _ hE2).mono ?_
          rintro e w3 ⟨rfl, hb3⟩
          have hbw3 := hbw2.trans (hb3.mono hbw2.size)
          have hown3 := pw_own_below hown2 hb3
          have hl3 := pw_own_below hl2 hb3
          have hc5' : ∀ o : Obj, w.heap.size ≤ (w3.alloc o).heap.size := fun o => by have := hbw3.size; simp; omega
          have hS : (⟨D1.toArray⟩ : ByteArray) ++ ((⟨#[45]⟩ : ByteArray) ++ ⟨D2.toArray⟩) = ⟨T.toArray⟩ := by
            rw [hT.out]
            have e1 : (⟨#[45]⟩ : ByteArray) ++ ⟨D2.toArray⟩ = ⟨(45 :: D2).toArray⟩ := ba_append [45] D2
            rw [e1, ba_append]
          replace hS := Lib.hid hS
          clear hI2 hb3 hown2 hl2 hbw2 hE2 hc5 d1 d2
          go_wp2_with (at_builtin; refine wpList_append_own _ rfl _ _ 54 rfl w.heap.size 9 i0 (.string ByteArray.empty) 1 16 Tryd.underlying54 hi0 hz0 hz1 hz2 rfl (by decide) _ _ _ rfl (hown3.alloc _) ⟨w3.heap.size, 0, none⟩ 1 1 [.string ((⟨D1.toArray⟩ : ByteArray) ++ ((⟨#[45]⟩ : ByteArray) ++ ⟨D2.toArray⟩))] rfl rfl (news1 _ _ _) (one_str _) (by unfold maxLen; omega) (by omega) (hc5' _) ?_; intro v' w4 hown4 hgrow _)
          have hbA := hbw3.trans ((below_new' w3 (.cells #[.string ((⟨D1.toArray⟩ : ByteArray) ++ ((⟨#[45]⟩ : ByteArray) ++ ⟨D2.toArray⟩))] 9)).mono hbw3.size)
          have hb9 := hbA.grown hgrow (by have := hbw3.size; simp; omega) (fun x hx => own_base hown3 x hx)
          have hl9 := (hl3.alloc (.cells #[.string ((⟨D1.toArray⟩ : ByteArray) ++ ((⟨#[45]⟩ : ByteArray) ++ ⟨D2.toArray⟩))] 9)).kept hgrow (own_type_ne hl3 hown3 (by decide))
          exact ⟨⟨k + 1, by omega, by go_num, by rw [hnext.out]; rw [hS.out] at hown4; exact hown4, hb9, hl9⟩, by simp [intOf]; omega⟩
        · have h12' : decide ((p1 : Int) < (p2 : Int)) = false := decide_eq_false (by omega)
          have h12n : decide (p1 < p2) = false := decide_eq_false h12
          go_wp2_with (at_builtin; refine wpList_append_own _ rfl _ _ 54 rfl w.heap.size 9 i0 (.string ByteArray.empty) 1 16 Tryd.underlying54 hi0 hz0 hz1 hz2 rfl (by decide) _ _ _ rfl (hown2.alloc _) ⟨w2.heap.size, 0, none⟩ 1 1 [.string ⟨D1.toArray⟩] rfl rfl (news1 _ _ _) (one_str _) (by unfold maxLen; omega) (by omega) (hc5 _) ?_; intro v' w3 hown3 hgrow _)
          have hbA := hbw2.trans ((below_new' w2 (.cells #[.string ⟨D1.toArray⟩] 9)).mono hbw2.size)
          have hb9 := hbA.grown hgrow (by have := hbw2.size; simp; omega) (fun x hx => own_base hown2 x hx)
          have hl9 := (hl2.alloc (.cells #[.string ⟨D1.toArray⟩] 9)).kept hgrow (own_type_ne hl2 hown2 (by decide))
          exact ⟨⟨k + 1, by omega, by go_num, by rw [hnext.out, hT.out, if_neg h12, List.append_nil]; exact hown3, hb9, hl9⟩, by simp [intOf]; omega⟩
      · obtain rfl : k = rs.length := by omega
        have hgo : decide ((rs.length : Int) < (rs.length : Int)) = false := decide_eq_false (by omega)
        rw [List.take_of_length_le (Nat.le_refl _)] at hown
        have hown : wr.ownsRow w.heap.size 9 1 u3 rs.length (partsV rs) := hown
        obtain ⟨A2, c2, rfl⟩ := own_slice hown
        rcases Nat.eq_zero_or_pos rs.length with h0 | h0
        · have hj := Tryd.strings_Join_none A2 c2 ⟨#[32]⟩ wr
          have hn : rs = [] := List.length_eq_zero_iff.1 h0
          subst hn
          go_wp2_with fail
          refine hj.mono ?_
          rintro e w2 ⟨rfl, rfl⟩
          go_wp2_with fail
          go_ret
          exact ⟨rfl, hb⟩
        · obtain ⟨g2, cap2, hgA, hlt2, -⟩ := hown.form h0
          obtain rfl : A2 = some ⟨g2, 0, none⟩ := by injection hgA
          have hxs : ((rs.map fun p => (⟨(rangeT p).toArray⟩ : ByteArray)).map (·.data.toList)) = rs.map rangeT := by
            rw [List.map_map]; exact List.map_congr_left fun p _ => rfl
          have hj := Tryd.strings_Join g2 0 c2 (rs.map fun p => (⟨(rangeT p).toArray⟩ : ByteArray)) ⟨#[32]⟩ wr (fun j x hx => by
              have hjl : j < rs.length := by
                rcases Nat.lt_or_ge j rs.length with h | h
                · exact h
                · rw [List.getElem?_eq_none (by simpa using h)] at hx; cases hx
              rw [Nat.zero_add, hown.cellAt j (by omega)]
              unfold partsV strV
              rw [List.getElem?_map] at hx ⊢
              obtain ⟨p, hp, rfl⟩ := Option.map_eq_some_iff.1 hx
              rw [hp]; rfl) (own_lt hown g2 rfl) (by simp; omega) (by have := own_cap hown; simpa using this) (by rw [hxs]; exact Nat.le_trans hpl (by omega))
          rw [hxs, List.length_map] at hj
          have hj := hj.mono (R' := fun e w' => e = .returned (.string ⟨(printV rs).toArray⟩) ∧ Below wr.heap.size wr w') (fun _ _ h => h)
          go_wp2_with fail
          refine hj.mono ?_
          rintro e w2 ⟨rfl, hb2⟩
          go_wp2_with fail
          go_ret
          exact ⟨rfl, hb.trans (hb2.mono hb.size)⟩
end Go.Proofs.YtnlchdjknebmfaaDoor
