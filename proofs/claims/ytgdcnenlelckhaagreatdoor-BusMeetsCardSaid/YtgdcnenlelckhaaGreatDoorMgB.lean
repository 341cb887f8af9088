/- Numbers of slots: how they are written, how they are read; a sum of a key's bytes. slot.Print: the slots' runs as a text. The reference's Print: the same text. slot.Parse: of a text that is written for a set of slots that set, else a refusal. The reference's Parse: the same. The sum of a key's bytes, by halves of bytes and bit by bit; slot.Of and the reference's Of. Conditions: the listed variables as laid; texts within the form's reach; the listed variables as laid; texts within the form's reach. -/
import Derived.Test.YtgdcnenlelckhaaGreatDoorMgA
import Derived.Test.YtgdcnenlelckhaaGreatDoorMgV
import Derived.Lib.ItoaLen
import Derived.Lib.ItoaMem
import Derived.Lib.LaidTab
set_option linter.unusedVariables false
set_option linter.unusedSimpArgs false
namespace Go.Proofs.YtgdcnenlelckhaaGreatDoor
open Go.RowKit Go.Proofs.YtgdcnenlelckhaaGreatDoorW.PrintWords
open SlS SlT
theorem w64 {x : Int} (h1 : -9223372036854775808 ≤ x) (h2 : x ≤ 9223372036854775807) : Go.RowKit.wrap64 x = x := by
  unfold Go.RowKit.wrap64; omega
theorem ba_ext {a b : ByteArray} (h : a.data.toList = b.data.toList) : a = b := ByteArray.ext (Array.toList_inj.1 h)
theorem ba_append (a b : List UInt8) : (⟨a.toArray⟩ : ByteArray) ++ ⟨b.toArray⟩ = ⟨(a ++ b).toArray⟩ := by
  apply ba_ext
  rw [ByteArray.data_append]
  simp
theorem size_mk (l : List UInt8) : (⟨l.toArray⟩ : ByteArray).size = l.length := List.size_toArray
theorem ret_str {a b : ByteArray} (h : a = b) : Ending.returned (.string a) = .returned (.string b) := by rw [h]
/-! ### strconv -/
theorem Atoi_ok (s : ByteArray) (hs : s.size ≤ 140737488351232) (v : Int) (h : Lib.atoiAll s.data.toList = .ok v) (w : World) :
    Calls Tryz.prog 92 #[.string s] w fun e w' => e = .returned (.tuple #[.int .i64 v, .nilIface]) ∧ Below w.heap.size w w' :=
  (Tryz.strconv_Atoi_ok s (by omega) v h w).mono fun e w' h => ⟨h.1, by
    rcases h.2 with rfl | ⟨t, rfl⟩
    · exact Below.refl _ _
    · exact Lib.bytesWorld_below _ _ _⟩
theorem Atoi_bad (s : ByteArray) (hs : s.size ≤ 140737488351232) (h : ∀ v, Lib.atoiAll s.data.toList ≠ .ok v) (w : World) (hE : Env w) :
    Calls Tryz.prog 92 #[.string s] w fun e w' => ∃ v N, e = .returned (.tuple #[.int .i64 v, .iface 178 (.pointer (some ⟨N, 0, none⟩))]) ∧ Below w.heap.size w w' := by
  cases e : Lib.atoiAll s.data.toList with
  | ok v => exact absurd e (h v)
  | range =>
    obtain ⟨a, ha⟩ := hE.rng
    exact (Tryz.strconv_Atoi_range_var s (by omega) e _ _ w ha).mono fun e w' ⟨N, h1, _, _, h2⟩ => ⟨_, N, h1, h2⟩
  | _ =>
    obtain ⟨a, ha⟩ := hE.syn
    exact (Any.strconv_Atoi_syntax_var Tryz.laysC172 s (by omega) e _ _ w ha).mono fun e w' ⟨N, h1, _, _, h2⟩ => ⟨_, N, h1, h2⟩
theorem below_grow (w : World) (k : Nat) (os : Array Obj) : Below w.heap.size w (Sort.grow (w.drewN k) os) := by
  have hh : (w.drewN k).heap = w.heap := rfl
  refine ⟨rfl, rfl, rfl, ?_, fun i hi => ?_⟩
  · show w.heap.size ≤ ((w.drewN k).heap ++ os).size
    rw [hh, Array.size_append]; omega
  · show ((w.drewN k).heap ++ os)[i]? = _
    rw [hh, Array.getElem?_append_left hi]
theorem Itoa_calls (n : Nat) (h1 : n < 16384) (w : World) (hE : Env w) :
    Calls Tryz.prog 93 #[.int .i64 (n : Int)] w fun e w' => e = .returned (.string ⟨(Lib.decDigits n).toArray⟩) ∧ Below w.heap.size w w' :=
  (Tryz.strconv_Itoa n (by omega) (by omega) w hE.pow).mono fun e w' ⟨h, k, os, hw⟩ => ⟨by rw [h, itoa_nat], by rw [hw]; exact below_grow w k os⟩
theorem number_calls (s : ByteArray) (hs : s.size ≤ 140737488351232) (w : World) (hE : Env w) :
    Calls Tryz.prog 76 #[.string s] w fun e w' => e = .returned (.int .i64 (numS s.data.toList)) ∧ Below w.heap.size w w' := by
  have hsz : s.data.toList.length = s.size := Array.length_toList
  by_cases hv : ∃ v, Lib.atoiAll s.data.toList = .ok v
  · obtain ⟨v, hv⟩ := hv
    have ha := fun W => Atoi_ok s hs v hv W
    have hN : numS s.data.toList = if s.size ≤ 5 then v else -1 := by unfold numS; rw [hv, hsz]
    rw [hN]
    have hvb := Lib.atoiAll_bounds hv
    clear hv hN hsz
    by_cases h5 : s.size ≤ 5
    · rw [if_pos h5]
      have h5' : ¬ (5 : Int) < (s.size : Int) := by omega
      go_enter Tryz.func76, Tryz.ntmps76
      go_wp2_with (go_at_call 92; refine (ha _).mono ?_; rintro e w2 ⟨rfl, hb2⟩)
      go_ret
      exact ⟨rfl, hb2⟩
    · rw [if_neg h5]
      have h5' : (5 : Int) < (s.size : Int) := by omega
      go_enter Tryz.func76, Tryz.ntmps76
      go_wp2_with (go_at_call 92; refine (ha _).mono ?_; rintro e w2 ⟨rfl, hb2⟩)
      go_ret
      exact ⟨rfl, hb2⟩
  · have ha := fun W h => Atoi_bad s hs (fun v e => hv ⟨v, e⟩) W h
    have hN : numS s.data.toList = -1 := by
      unfold numS
      split
      · rename_i v e; exact absurd ⟨v, e⟩ hv
      · rfl
    rw [hN]
    clear hv hN hsz
    go_enter Tryz.func76, Tryz.ntmps76
    go_wp2_with (go_at_call 92; refine (ha _ hE).mono ?_; rintro e w2 ⟨v, N, rfl, hb2⟩)
    go_ret
    exact ⟨rfl, hb2⟩
/-! ### decimal -/
theorem decimal_eq : ∀ (d n : Nat), n < 10 ^ (d + 1) → n < 9223372036854775000 → RDm.marshalyardref02_decimal.f (d + 1) (n : Int) = some ⟨(Lib.decDigits n).toArray⟩
  | d, n, h, hb => by
    by_cases h10 : n < 10
    · rw [RDm.marshalyardref02_decimal.f, if_pos (by omega), w64 (by omega) (by omega)]
      have e : (48 + (n : Int)) % 256 = ((48 + n : Nat) : Int) := by omega
      rw [e, Lib.decDigits, dif_pos h10]
      rfl
    · match d, h with
      | 0, h => exact absurd (by simpa using h) h10
      | d + 1, h =>
        have hq : Int.tdiv (n : Int) 10 = ((n / 10 : Nat) : Int) := by norm_cast
        have hr : Int.tmod (n : Int) 10 = ((n % 10 : Nat) : Int) := by norm_cast
        rw [RDm.marshalyardref02_decimal.f, if_neg (by omega), hq, hr, w64 (by omega) (by omega), decimal_eq d (n / 10) (by rw [Nat.pow_succ] at h; omega) (by omega), w64 (by omega) (by omega)]
        simp only [Option.bind_some]
        have e : (48 + ((n % 10 : Nat) : Int)) % 256 = ((48 + n % 10 : Nat) : Int) := by omega
        rw [e]
        have hs : strOfNums [((48 + n % 10 : Nat) : Int)] = ⟨[UInt8.ofNat (48 + n % 10)].toArray⟩ := by
          simp only [strOfNums, List.map_cons, List.map_nil, Int.toNat_natCast]
        rw [hs, ba_append, Lib.decDigits.eq_1 n, dif_neg h10, if_pos]
        have hl := dig_len_le 18 (n / 10) (by omega)
        rw [size_mk, size_mk]
        simp
        omega
theorem decimal_calls (n : Nat) (h1 : n < 16384) (w : World) : Calls Tryz.prog 87 #[.int .i64 (n : Int)] w fun e w' => e = .returned (.string ⟨(Lib.decDigits n).toArray⟩) ∧ Below w.heap.size w w' :=
  RDm.marshalyardref02_decimal.calls 5 n _ w (decimal_eq 4 n (by omega) (by omega))
end Go.Proofs.YtgdcnenlelckhaaGreatDoor

namespace Go.Proofs.YtgdcnenlelckhaaGreatDoor
open Go.RowKit Go.Proofs.YtgdcnenlelckhaaGreatDoorW.PrintWords
open SlS SlT
/-! ### two sets of slots compared -/
def eqW (f g : Nat → Nat) : Bool := (List.range 256).all fun i => f i == g i
theorem eqW_true {f g : Nat → Nat} (h : eqW f g = true) : ∀ i, i < 256 → f i = g i := fun i hi => by
  unfold eqW at h
  rw [List.all_eq_true] at h
  simpa using h i (List.mem_range.2 hi)
theorem eqW_self {f g : Nat → Nat} (h : ∀ i, i < 256 → f i = g i) : eqW f g = true := by
  unfold eqW
  rw [List.all_eq_true]
  intro i hi
  simpa using h i (List.mem_range.1 hi)
theorem size64 (w : World) : (sizeOf 41).run Tryz.prog w = .ok 1 w := by kernel_rfl
theorem eqInN {P : Program} (t e : TypeId) (n : Nat) (ht : P.underlying t = some (.array n e)) (he : P.underlying e = some (.int .u64)) (hsz : ∀ w, (sizeOf e).run P w = .ok 1 w) (hn : n ≤ 256)
    (d : Nat) {a b : Array Value} {f g : Nat → Nat} (ha : Words a f) (hb : Words b g) (w : World) : (Op.equalIn (d + 2) t (.agg a) (.agg b)).run P w = .ok ((List.range n).all fun i => f i == g i) w := by
  rw [List.range_eq_range', Op.equalIn]
  simp only [Sem.run_bind, run_underlying ht, Result.andThen_ok, hsz, Std.Legacy.Range.forIn_eq_forIn_range', Std.Legacy.Range.size, Nat.sub_zero, Nat.add_sub_cancel, Nat.div_one]
  have hl : ∀ i ∈ List.range' 0 n 1, i < n := fun i hi => by simpa using (List.mem_range'_1.1 hi).2
  generalize List.range' 0 n 1 = l at hl ⊢
  induction l with
  | nil => simp
  | cons i l ih =>
    have hi : i < n := hl i (by simp)
    have px : (part e a (i * 1)).run P w = .ok (.int .u64 (f i : Int)) w := by
      have := ha.get i (by omega)
      simp [part, isAgg, run_underlying he, this]
    have py : (part e b (i * 1)).run P w = .ok (.int .u64 (g i : Int)) w := by
      have := hb.get i (by omega)
      simp [part, isAgg, run_underlying he, this]
    have pe : (Op.equalIn (d + 1) e (.int .u64 (f i : Int)) (.int .u64 (g i : Int))).run P w = .ok (f i == g i) w := by
      rw [run_equalIn_int w d e .u64 .u64 _ _ he]
      congr 1
      rw [Bool.eq_iff_iff]
      simp
      omega
    simp only [List.forIn_cons, Sem.run_bind, px, py, pe, Result.andThen_ok, List.all_cons]
    cases hb : (f i == g i)
    · simp
    · simp only [Bool.not_true, Bool.false_eq_true, if_false, Sem.run_pure, Result.andThen_ok, Bool.true_and]
      exact ih fun j hj => hl j (by simp [hj])
theorem eqInW (d : Nat) {a b : Array Value} {f g : Nat → Nat} (ha : Words a f) (hb : Words b g) (w : World) : (Op.equalIn (d + 2) 43 (.agg a) (.agg b)).run Tryz.prog w = .ok (eqW f g) w :=
  eqInN 43 41 256 Tryz.underlying43 Tryz.underlying41 size64 (Nat.le_refl _) d ha hb w
theorem eqlW {a b : Array Value} {f g : Nat → Nat} (ha : Words a f) (hb : Words b g) (w : World) : (binOp .eql 43 (.agg a) (.agg b)).run Tryz.prog w = .ok (.bool (eqW f g)) w := by
  rw [run_eql_struct, eqInW 9998 ha hb w]
  rfl
theorem words_ext {a b : Array Value} {f g : Nat → Nat} (ha : Words a f) (hb : Words b g) (h : ∀ n, n < 16384 → hasN f n = hasN g n) : a = b ∧ ∀ i, i < 256 → f i = g i := by
  have hfg : ∀ i, i < 256 → f i = g i := by
    intro i hi
    apply Nat.eq_of_testBit_eq
    intro j
    by_cases hj : j < 64
    · have := h (64 * i + j) (by omega)
      unfold hasN at this
      rw [show (64 * i + j) / 64 = i by omega, show (64 * i + j) % 64 = j by omega] at this
      exact this
    · have h1 : (f i).testBit j = false := Nat.testBit_lt_two_pow (Nat.lt_of_lt_of_le (by simpa using ha.lt i) (Nat.pow_le_pow_right (by decide) (by omega : 64 ≤ j)))
      have h2 : (g i).testBit j = false := Nat.testBit_lt_two_pow (Nat.lt_of_lt_of_le (by simpa using hb.lt i) (Nat.pow_le_pow_right (by decide) (by omega : 64 ≤ j)))
      rw [h1, h2]
  refine ⟨?_, hfg⟩
  apply Array.ext (by rw [ha.size, hb.size])
  intro i h1 h2
  have hi : i < 256 := by rw [← ha.size]; exact h1
  have e1 := ha.get i hi
  have e2 := hb.get i hi
  rw [Array.getElem?_eq_getElem h1] at e1
  rw [Array.getElem?_eq_getElem h2] at e2
  rw [hfg i hi] at e1
  rw [Option.some.inj e1, Option.some.inj e2]
theorem eqW_iff {a b : Array Value} {f g : Nat → Nat} (ha : Words a f) (hb : Words b g) : eqW f g = true ↔ ∀ n, n < 16384 → hasN f n = hasN g n := by
  constructor
  · intro h n hn
    unfold hasN
    rw [eqW_true h (n / 64) (by omega)]
  · intro h
    exact eqW_self (words_ext ha hb h).2
theorem printH_zero : printH (hasN fun _ => 0) = [] := by
  have e : (List.range 16384).filter (hasN fun _ => 0) = [] := by
    rw [List.filter_eq_nil_iff]
    intro n _
    simp [hasN]
  unfold printH rngH
  rw [e]
  rfl
/-! ### the walk -/
def strV (l : List UInt8) : Value := .string ⟨l.toArray⟩
def partsV (rs : List (Nat × Nat)) : List Value := rs.map fun p => strV (rangeT p)
theorem info_str : ∃ i0, Tryz.prog.info? 9 = some i0 ∧ i0.zero = some (.string ByteArray.empty) ∧ i0.size = 1 ∧ i0.bytes = 16 := info_parts (by kernel_rfl)
theorem one_str (s : ByteArray) : ∀ u ∈ [Value.string s], u.oneCell' = true := fun u h => by
  rw [List.mem_singleton.1 h]; rfl
theorem flatR_at (rs : List (Nat × Nat)) (k : Nat) (p : Nat × Nat) (h : rs[k]? = some p) : (flatR rs)[k * 2]? = some (.int .i64 (p.1 : Int)) ∧ (flatR rs)[k * 2 + 1]? = some (.int .i64 (p.2 : Int)) := by
  induction rs generalizing k with
  | nil => simp at h
  | cons q rs ih =>
    have e : flatR (q :: rs) = .int .i64 (q.1 : Int) :: .int .i64 (q.2 : Int) :: flatR rs := rfl
    rw [e]
    cases k with
    | zero => simp at h; subst h; exact ⟨rfl, rfl⟩
    | succ k =>
      have := ih k (by simpa using h)
      rw [show (k + 1) * 2 = k * 2 + 1 + 1 by omega]
      simpa using this
set_option maxHeartbeats 4000000 in
set_option maxRecDepth 100000 in
theorem Print_calls (a : Array Value) (f : Nat → Nat) (ha : Words a f) (w : World) (hE : Env w) : Calls Tryz.prog 78 #[.agg a] w fun e w' => e = .returned (.string ⟨(printH (hasN f)).toArray⟩) ∧ Below w.heap.size w w' := by
  have hq := fun W => eqlW ha zero_words W
  have hs1 : (Tryz.prog.info? 43).map (·.size) = some a.size := by rw [ha.size]; exact info30
  cases hz : eqW f (fun _ => 0) with
  | true =>
    have hp := Lib.hid (printH_congr ((eqW_iff ha zero_words).1 hz))
    rw [hz] at hq
    go_enter Tryz.func78, Tryz.ntmps78
    go_wp2_with (refine wpList_load_row rfl 43 _ rfl w.heap.size rfl 43 a (0, 0) _ (heapN w _) Tryz.underlying43 rfl hs1 ?_)
    go_ret
    exact ⟨by rw [hp.out, printH_zero]; rfl, below_new' w _⟩
  | false =>
    rw [hz] at hq
    have hR := fun W => Ranges_calls a f ha W
    have hord := rngH_ord (hasN f)
    have hpl := printH_len (hasN f)
    have hrl := rng_len_le (hasN f)
    change ∀ W, Calls Tryz.prog 84 #[Value.agg a] W (RgPost W (rngH (hasN f))) at hR
    unfold printH at *
    generalize rngH (hasN f) = rs at *
    clear hz
    go_enter Tryz.func78, Tryz.ntmps78
    go_wp2_with (refine wpList_load_row rfl 43 _ rfl w.heap.size rfl 43 a (0, 0) _ (heapN w _) Tryz.underlying43 rfl hs1 ?_)
    refine (hR _).mono ?_
    rintro e w1 ⟨v, rfl, hl1, hb1⟩
    have hbw1 : Below w.heap.size w w1 := (below_new' w _).trans (hb1.mono (by simp))
    have hl1 := own_weaken hl1 (show w.heap.size ≤ _ by simp)
    obtain ⟨A, c, rfl⟩ := own_slice hl1
    clear hb1 hR hq
    obtain ⟨i0, hi0, hz0, hz1, hz2⟩ := info_str
    go_wp2_with fail
    go_loopw [3, 5, 6, 13] (fun out _ _ i wr => ∃ k : Nat, k ≤ rs.length ∧ i = .int .i64 k ∧ wr.ownsRow w.heap.size 9 1 out k (partsV (rs.take k)) ∧ Below w.heap.size w wr ∧ wr.ownsRow w.heap.size 117 2 (.slice A rs.length c) rs.length (flatR rs)) (fun _ _ _ i _ => rs.length - (intOf i).toNat)
    case atStart => exact ⟨0, by omega, rfl, own_nil _ _ _ _, hbw1, hl1⟩
    case round =>
      obtain ⟨k, hk, rfl, hown, hb, hl⟩ := hrel
      clear hl1 hbw1
      by_cases hkl : k < rs.length
      · obtain ⟨g, cap, hgA, -, -⟩ := hl.form (by omega)
        obtain rfl : A = some ⟨g, 0, none⟩ := by injection hgA
        clear hgA
        obtain ⟨p, hp⟩ : ∃ p, rs[k]? = some p := ⟨rs[k], List.getElem?_eq_getElem hkl⟩
        obtain ⟨hp12, hp2⟩ := hord p (List.mem_of_getElem? hp)
        obtain ⟨f1, f2⟩ := flatR_at rs k p hp
        have c1 := (hl.cellAt (k * 2) (by omega)).trans f1
        have c2 := (hl.cellAt (k * 2 + 1) (by omega)).trans f2
        have hnext := Lib.hid (show partsV (rs.take (k + 1)) = partsV (rs.take k) ++ [strV (rangeT p)] by unfold partsV; rw [List.take_add_one, hp]; simp)
        have hgo : decide ((k : Int) < (rs.length : Int)) = true := decide_eq_true (by omega)
        have hEr := hE.below hb
        have hI1 := fun W h => Itoa_calls p.1 (by omega) W h
        have hI2 := fun W h => Itoa_calls p.2 hp2 W h
        have hT : rangeT p = Lib.decDigits p.1 ++ if p.1 < p.2 then 45 :: Lib.decDigits p.2 else [] := rfl
        have hd1 := dig_len_le 4 p.1 (by omega)
        have hd2 := dig_len_le 4 p.2 (by omega)
        clear f1 f2
        generalize rangeT p = T at *
        generalize Lib.decDigits p.1 = D1 at *
        generalize Lib.decDigits p.2 = D2 at *
        generalize p.1 = p1 at *
        generalize p.2 = p2 at *
        have hs1 : (⟨D1.toArray⟩ : ByteArray).size ≤ 5 := by rw [size_mk]; exact hd1
        have hs2 : (⟨D2.toArray⟩ : ByteArray).size ≤ 5 := by rw [size_mk]; exact hd2
        have hT := Lib.hid hT
        obtain ⟨wo, rfl⟩ : ∃ wo : World, wo = wr := ⟨_, rfl⟩
        go_wp2_with fail
        refine (hI1 _ (hEr.below (below_new' _ _))).mono ?_
        rintro e w2 ⟨rfl, hb2⟩
        have d1 : w2.cell? ⟨wo.heap.size, 0, none⟩ = some (.int .i64 (p1 : Int)) := (hb2.cell (p := ⟨wo.heap.size, 0, none⟩) (by simp)).trans (by simp [go_sem])
        have d2 : w2.cell? ⟨wo.heap.size, 1, none⟩ = some (.int .i64 (p2 : Int)) := (hb2.cell (p := ⟨wo.heap.size, 1, none⟩) (by simp)).trans (by simp [go_sem])
        have hb12 := (below_new' wo (.cells #[.int .i64 (p1 : Int), .int .i64 (p2 : Int)] 117)).trans (hb2.mono (by simp))
        have hbw2 := hb.trans (hb12.mono hb.size)
        have hown2 := pw_own_below hown hb12
        have hl2 := pw_own_below hl hb12
        have hE2 := hEr.below hb12
        have hlt2 : wo.heap.size < w2.heap.size := by have := hb2.size; simp at this; omega
        have hc5 : ∀ o : Obj, w.heap.size ≤ (w2.alloc o).heap.size := fun o => by have := hbw2.size; simp; omega
        clear hI1 hb2 hb12 hown hl hb hEr c1 c2 hE
        by_cases h12 : p1 < p2
        · have h12' : decide ((p1 : Int) < (p2 : Int)) = true := decide_eq_true (by omega)
          have h12n : decide (p1 < p2) = true := decide_eq_true h12
          rw [if_pos h12] at hT
          go_wp2_with fail
          refine (hI2 _ hE2).mono ?_
          rintro e w3 ⟨rfl, hb3⟩
          have hbw3 := hbw2.trans (hb3.mono hbw2.size)
          have hown3 := pw_own_below hown2 hb3
          have hl3 := pw_own_below hl2 hb3
          have hc5' : ∀ o : Obj, w.heap.size ≤ (w3.alloc o).heap.size := fun o => by have := hbw3.size; simp; omega
          have hS : (⟨D1.toArray⟩ : ByteArray) ++ ((⟨#[45]⟩ : ByteArray) ++ ⟨D2.toArray⟩) = ⟨T.toArray⟩ := by
            rw [hT.out]
            have e1 : (⟨#[45]⟩ : ByteArray) ++ ⟨D2.toArray⟩ = ⟨(45 :: D2).toArray⟩ := ba_append [45] D2
            rw [e1, ba_append]
          replace hS := Lib.hid hS
          clear hI2 hb3 hown2 hl2 hbw2 hE2 hc5 d1 d2
          go_wp2_with (at_builtin; refine wpList_append_own _ rfl _ _ 131 rfl w.heap.size 9 i0 (.string ByteArray.empty) 1 16 Tryz.underlying131 hi0 hz0 hz1 hz2 rfl (by decide) _ _ _ rfl (hown3.alloc _) ⟨w3.heap.size, 0, none⟩ 1 1 [.string ((⟨D1.toArray⟩ : ByteArray) ++ ((⟨#[45]⟩ : ByteArray) ++ ⟨D2.toArray⟩))] rfl rfl (news1 _ _ _) (one_str _) (by unfold maxLen; omega) (by omega) (hc5' _) ?_; intro v' w4 hown4 hgrow _)
          have hbA := hbw3.trans ((below_new' w3 (.cells #[.string ((⟨D1.toArray⟩ : ByteArray) ++ ((⟨#[45]⟩ : ByteArray) ++ ⟨D2.toArray⟩))] 9)).mono hbw3.size)
          have hb9 := hbA.grown hgrow (by have := hbw3.size; simp; omega) (fun x hx => own_base hown3 x hx)
          have hl9 := (hl3.alloc (.cells #[.string ((⟨D1.toArray⟩ : ByteArray) ++ ((⟨#[45]⟩ : ByteArray) ++ ⟨D2.toArray⟩))] 9)).kept hgrow (own_type_ne hl3 hown3 (by decide))
          exact ⟨⟨k + 1, by omega, by go_num, by rw [hnext.out]; rw [hS.out] at hown4; exact hown4, hb9, hl9⟩, by simp [intOf]; omega⟩
        · have h12' : decide ((p1 : Int) < (p2 : Int)) = false := decide_eq_false (by omega)
          have h12n : decide (p1 < p2) = false := decide_eq_false h12
          go_wp2_with (at_builtin; refine wpList_append_own _ rfl _ _ 131 rfl w.heap.size 9 i0 (.string ByteArray.empty) 1 16 Tryz.underlying131 hi0 hz0 hz1 hz2 rfl (by decide) _ _ _ rfl (hown2.alloc _) ⟨w2.heap.size, 0, none⟩ 1 1 [.string ⟨D1.toArray⟩] rfl rfl (news1 _ _ _) (one_str _) (by unfold maxLen; omega) (by omega) (hc5 _) ?_; intro v' w3 hown3 hgrow _)
          have hbA := hbw2.trans ((below_new' w2 (.cells #[.string ⟨D1.toArray⟩] 9)).mono hbw2.size)
          have hb9 := hbA.grown hgrow (by have := hbw2.size; simp; omega) (fun x hx => own_base hown2 x hx)
          have hl9 := (hl2.alloc (.cells #[.string ⟨D1.toArray⟩] 9)).kept hgrow (own_type_ne hl2 hown2 (by decide))
          exact ⟨⟨k + 1, by omega, by go_num, by rw [hnext.out, hT.out, if_neg h12, List.append_nil]; exact hown3, hb9, hl9⟩, by simp [intOf]; omega⟩
      · obtain rfl : k = rs.length := by omega
        have hgo : decide ((rs.length : Int) < (rs.length : Int)) = false := decide_eq_false (by omega)
        rw [List.take_of_length_le (Nat.le_refl _)] at hown
        have hown : wr.ownsRow w.heap.size 9 1 u3 rs.length (partsV rs) := hown
        obtain ⟨A2, c2, rfl⟩ := own_slice hown
        rcases Nat.eq_zero_or_pos rs.length with h0 | h0
        · have hj := Tryz.strings_Join_none A2 c2 ⟨#[32]⟩ wr
          have hn : rs = [] := List.length_eq_zero_iff.1 h0
          subst hn
          go_wp2_with fail
          refine hj.mono ?_
          rintro e w2 ⟨rfl, rfl⟩
          go_wp2_with fail
          go_ret
          exact ⟨rfl, hb⟩
        · obtain ⟨g2, cap2, hgA, hlt2, -⟩ := hown.form h0
          obtain rfl : A2 = some ⟨g2, 0, none⟩ := by injection hgA
          have hxs : ((rs.map fun p => (⟨(rangeT p).toArray⟩ : ByteArray)).map (·.data.toList)) = rs.map rangeT := by
            rw [List.map_map]; exact List.map_congr_left fun p _ => rfl
          have hj := Tryz.strings_Join g2 0 c2 (rs.map fun p => (⟨(rangeT p).toArray⟩ : ByteArray)) ⟨#[32]⟩ wr (fun j x hx => by
              have hjl : j < rs.length := by
                rcases Nat.lt_or_ge j rs.length with h | h
                · exact h
                · rw [List.getElem?_eq_none (by simpa using h)] at hx; cases hx
              rw [Nat.zero_add, hown.cellAt j (by omega)]
              unfold partsV strV
              rw [List.getElem?_map] at hx ⊢
              obtain ⟨p, hp, rfl⟩ := Option.map_eq_some_iff.1 hx
              rw [hp]; rfl) (own_lt hown g2 rfl) (by simp; omega) (by have := own_cap hown; simpa using this) (by rw [hxs]; exact Nat.le_trans hpl (by omega))
          rw [hxs, List.length_map] at hj
          have hj := hj.mono (R' := fun e w' => e = .returned (.string ⟨(printV rs).toArray⟩) ∧ Below wr.heap.size wr w') (fun _ _ h => h)
          go_wp2_with fail
          refine hj.mono ?_
          rintro e w2 ⟨rfl, hb2⟩
          go_wp2_with fail
          go_ret
          exact ⟨rfl, hb.trans (hb2.mono hb.size)⟩
end Go.Proofs.YtgdcnenlelckhaaGreatDoor

namespace Go.Proofs.YtgdcnenlelckhaaGreatDoor
open Go.RowKit Go.Proofs.YtgdcnenlelckhaaGreatDoorW.PrintWords
open SlS SlT
def bI (l : List UInt8) : List Int := l.map fun b => (b.toNat : Int)
theorem bI_append (l r : List UInt8) : bI (l ++ r) = bI l ++ bI r := by simp [bI]
theorem bI_len (l : List UInt8) : (bI l).length = l.length := by simp [bI]
theorem bI_of (l : List UInt8) : bytesOf ⟨l.toArray⟩ = bI l := by simp [bytesOf, bI]
theorem str_bI (l : List UInt8) : strOfNums (bI l) = ⟨l.toArray⟩ := by
  unfold strOfNums bI
  congr 2
  rw [List.map_map]
  have e : ((fun (n : Int) => UInt8.ofNat n.toNat) ∘ fun (b : UInt8) => (b.toNat : Int)) = id := by funext b; simp
  rw [e, List.map_id]
theorem print_snoc (rs : List (Nat × Nat)) (k : Nat) (p : Nat × Nat) (h : rs[k]? = some p) : printV (rs.take (k + 1)) = printV (rs.take k) ++ (if k = 0 then [] else [32]) ++ rangeT p := by
  rw [List.take_add_one, h]
  unfold printV
  cases rs with
  | nil => simp at h
  | cons q rs =>
    cases k with
    | zero => simp at h; subst h; simp [Lib.join_one, Lib.join_nil]
    | succ k =>
      simp only [List.take_succ_cons, List.map_cons, List.cons_append, List.map_append, Option.toList_some, List.map_nil]
      rw [Lib.join_cons, Lib.join_cons]
      simp [Lib.joinTail]
theorem join_le (ps qs : List (List UInt8)) : (Lib.join ps [32]).length ≤ (Lib.join (ps ++ qs) [32]).length := by
  cases ps with
  | nil => simp [Lib.join]
  | cons x r =>
    rw [List.cons_append, Lib.join_cons, Lib.join_cons]
    simp [Lib.joinTail]
theorem print_take_le (rs : List (Nat × Nat)) (k : Nat) : (printV (rs.take k)).length ≤ (printV rs).length := by
  unfold printV
  have e : rs.map rangeT = (rs.take k).map rangeT ++ (rs.drop k).map rangeT := by rw [← List.map_append, List.take_append_drop]
  rw [e]
  exact join_le _ _
theorem info_u8 : (Tryz.prog.info? 5).map (fun i => (i.zero, i.size, i.bytes)) = some (some (.int .u8 0), 1, 1) := by kernel_rfl
theorem nums_app1 (xs : List Int) (z : Int) : nums .u8 (xs ++ [z]) = nums .u8 xs ++ [.int .u8 z] := by simp [nums]
/-- one byte more -/
theorem app_byte {w0 W : World} (base : Nat) {ops : Array Oper} {rest : List Oper} {o : Oper} {a : Act} {Q : Exit → Act → World → Prop} (hgd : o.guard = none) (s x : Operand)
    (ho : o.op = .call { callee := .builtin .append, args := #[s, x], argTypes := #[126, 126] })
    (v : Value) (xs : List Int) (z : Int) (hs : a.eval s = v) (hx : a.eval x = .slice (some ⟨W.heap.size, 0, none⟩) 1 1)
    (HO : W.ownsRow base 5 1 v xs.length (nums .u8 xs)) (HB : Below base w0 W) (hbase : base ≤ W.heap.size) (hl : xs.length + 1 ≤ 140737488355328)
    (h : ∀ v1 w1, w1.ownsRow base 5 1 v1 (xs ++ [z]).length (nums .u8 (xs ++ [z])) → Below base w0 w1 → (W.alloc (.cells #[.int .u8 z] 5)).grownBy w1 v.ownBlock → wpList Tryz.prog ops Q rest (a.put o.dst v1) w1) :
    wpList Tryz.prog ops Q (o :: rest) a (W.alloc (.cells #[.int .u8 z] 5)) := by
  obtain ⟨i0, hi0, hz0, hz1, hz2⟩ := info_parts info_u8
  refine wpList_append_own _ hgd s x 126 ho base 5 i0 (.int .u8 0) 1 1 Tryz.underlying126 hi0 hz0 hz1 hz2 rfl (by decide) v xs.length (nums .u8 xs) hs (HO.alloc _) ⟨W.heap.size, 0, none⟩ 1 1 [.int .u8 z] hx rfl (news1 _ _ _) (one_int _ _) (by unfold maxLen; omega) (by omega) (by simp; omega) ?_
  intro v1 w1 hown hg _
  have hbA : Below base w0 (W.alloc (.cells #[.int .u8 z] 5)) := HB.trans ((below_new' W _).mono hbase)
  refine h v1 w1 ?_ (hbA.grown hg (by simp; omega) (own_base HO)) hg
  rw [nums_app1, List.length_append]
  exact hown
set_option maxHeartbeats 4000000 in
set_option maxRecDepth 100000 in
theorem refPrint_calls (a : Array Value) (f : Nat → Nat) (ha : Words a f) (w : World) : Calls Tryz.prog 68 #[.agg a] w fun e w' => e = .returned (.string ⟨(printH (hasN f)).toArray⟩) ∧ Below w.heap.size w w' := by
  have hs1 : (Tryz.prog.info? 43).map (·.size) = some a.size := by rw [ha.size]; exact info30
  have hR := fun W => refRanges_calls a f ha W
  have hord := rngH_ord (hasN f)
  have hpl := printH_len (hasN f)
  have hrl := rng_len_le (hasN f)
  change ∀ W, Calls Tryz.prog 33 #[Value.agg a] W (RgPost W (rngH (hasN f))) at hR
  unfold printH at *
  generalize rngH (hasN f) = rs at *
  go_enter Tryz.func68, Tryz.ntmps68
  go_wp2_with (refine wpList_load_row rfl 43 _ rfl w.heap.size rfl 43 a (0, 0) _ (heapN w _) Tryz.underlying43 rfl hs1 ?_)
  refine (hR _).mono ?_
  rintro e w1 ⟨v, rfl, hl1, hb1⟩
  have hbw1 : Below w.heap.size w w1 := (below_new' w _).trans (hb1.mono (by simp))
  have hl1 := own_weaken hl1 (show w.heap.size ≤ _ by simp)
  obtain ⟨A, c, rfl⟩ := own_slice hl1
  clear hb1 hR
  go_wp2_with fail
  go_loopw [3, 5] (fun out i wr => ∃ k : Nat, k ≤ rs.length ∧ i = .int .i64 k ∧ wr.ownsRow w.heap.size 5 1 out (bI (printV (rs.take k))).length (nums .u8 (bI (printV (rs.take k)))) ∧ Below w.heap.size w wr ∧ wr.ownsRow w.heap.size 117 2 (.slice A rs.length c) rs.length (flatR rs)) (fun _ i _ => rs.length - (intOf i).toNat)
  case atStart => exact ⟨0, by omega, rfl, own_nil _ _ _ _, hbw1, hl1⟩
  case round =>
    obtain ⟨k, hk, rfl, hown, hb, hl⟩ := hrel
    clear hl1 hbw1
    have hpk := print_take_le rs k
    by_cases hkl : k < rs.length
    · obtain ⟨g, cap, hgA, -, -⟩ := hl.form (by omega)
      obtain rfl : A = some ⟨g, 0, none⟩ := by injection hgA
      clear hgA
      obtain ⟨p, hp⟩ : ∃ p, rs[k]? = some p := ⟨rs[k], List.getElem?_eq_getElem hkl⟩
      obtain ⟨hp12, hp2⟩ := hord p (List.mem_of_getElem? hp)
      obtain ⟨f1, f2⟩ := flatR_at rs k p hp
      have hcells : ∀ W : World, W.ownsRow w.heap.size 117 2 (.slice (some ⟨g, 0, none⟩) rs.length c) rs.length (flatR rs) → W.cell? ⟨g, k * 2, none⟩ = some (.int .i64 (p.1 : Int)) ∧ W.cell? ⟨g, k * 2 + 1, none⟩ = some (.int .i64 (p.2 : Int)) := fun W h =>
        ⟨(h.cellAt (k * 2) (by omega)).trans f1, (h.cellAt (k * 2 + 1) (by omega)).trans f2⟩
      have hnext := Lib.hid (print_snoc rs k p hp)
      have hgo : decide ((k : Int) < (rs.length : Int)) = true := decide_eq_true (by omega)
      have hD1 := fun W => decimal_calls p.1 (by omega) W
      have hD2 := fun W => decimal_calls p.2 hp2 W
      have hT : rangeT p = Lib.decDigits p.1 ++ if p.1 < p.2 then 45 :: Lib.decDigits p.2 else [] := rfl
      have hd1 := dig_len_le 4 p.1 (by omega)
      have hd2 := dig_len_le 4 p.2 (by omega)
      clear f1 f2
      generalize rangeT p = T at *
      generalize Lib.decDigits p.1 = D1 at *
      generalize Lib.decDigits p.2 = D2 at *
      generalize p.1 = p1 at *
      generalize p.2 = p2 at *
      have hs1 : (⟨D1.toArray⟩ : ByteArray).size ≤ 5 := by rw [size_mk]; exact hd1
      have hs2 : (⟨D2.toArray⟩ : ByteArray).size ≤ 5 := by rw [size_mk]; exact hd2
      replace hT := Lib.hid hT
      generalize hP : printV (rs.take k) = P at *
      have hPl := bI_len P
      have hBs := hb.size
      replace hcells := Lib.hid hcells
      have hlt : (p1 < p2 ∧ decide ((p1 : Int) < (p2 : Int)) = true) ∨ (¬ p1 < p2 ∧ decide ((p1 : Int) < (p2 : Int)) = false) := by
        by_cases h : p1 < p2
        · exact Or.inl ⟨h, decide_eq_true (by omega)⟩
        · exact Or.inr ⟨h, decide_eq_false (by omega)⟩
      replace hlt : (p1 < p2 ∧ decide (p1 < p2) = true) ∨ (¬ p1 < p2 ∧ decide (p1 < p2) = false) := by
        by_cases h : p1 < p2
        · exact Or.inl ⟨h, decide_eq_true h⟩
        · exact Or.inr ⟨h, decide_eq_false h⟩
      replace hP := Lib.hid hP
      have k0 : (0 : Int) ≤ (k : Int) := by omega
      have k1 : (k : Int) < (rs.length : Int) := by omega
      rcases Nat.eq_zero_or_pos k with hk0 | hk0
      · have hk1 : decide ((0 : Int) < (k : Int)) = false := decide_eq_false (by omega)
        have hk1n : decide (0 < k) = false := decide_eq_false (by omega)
        replace hk0 := Lib.hid hk0
        obtain ⟨c3, c4⟩ := hcells.out wr hl
        go_wp2_with fail
        refine (hD1 _).mono ?_
        rintro e w2 ⟨rfl, hb2⟩
        have ho2 := pw_own_below hown hb2
        have hl2 := pw_own_below hl hb2
        have hbw2 := hb.trans (hb2.mono hb.size)
        have hsz2 := hbw2.size
        clear hb2 hD1
        go_wp2_with (at_builtin; refine print_append_str w.heap.size rfl (.tmp 19) (.tmp 25) 126 9 5 rfl Tryz.underlying126 Tryz.underlying9 info_u8 u3 (bI P) ⟨D1.toArray⟩ rfl rfl ho2 hbw2 hsz2 (by first | omega | (simp; omega)) ?_; intro v3 w3 ho3 hb3 hg3; have hl3 := hl2.kept hg3 (own_type_ne hl2 ho2 (by decide)); obtain ⟨c5, c6⟩ := hcells.out w3 hl3)
        have e3 : (bI P) ++ bytesOf ⟨D1.toArray⟩ = bI (P ++ D1) := by rw [bI_of]; simp [bI]
        rw [e3] at ho3
        clear e3
        go_quiet (fail)
        have ho4 := own_drewN' ho3 nq
        have hl4 := own_drewN' hl3 nq
        have hb4 := below_drewN hb3 nq
        have c7 : (w3.drewN nq).cell? ⟨g, k * 2 + 1, none⟩ = some (.int .i64 (p2 : Int)) := c6
        generalize w3.drewN nq = w4 at *
        have hsz4 := hb4.size
        have hQ4 := bI_len (P ++ D1)
        simp only [List.length_append, List.length_cons, List.length_nil] at hQ4
        clear c5 c6 hg3 hl3 hb3 ho3 hl2 hbw2 ho2
        rcases hlt with ⟨hlt, h12⟩ | ⟨hlt, h12⟩
        · rw [if_pos hlt] at hT
          go_wp2_with (at_builtin; refine app_byte w.heap.size rfl (.tmp 38) (.tmp 39) rfl v3 (bI (P ++ D1)) 45 rfl rfl ho4 hb4 hsz4 (by omega) ?_; intro v5 w5 ho5 hb5 hg5; have hl5 := (hl4.alloc (.cells #[.int .u8 45] 5)).kept hg5 (own_type_ne hl4 ho4 (by decide)); obtain ⟨c5, c8⟩ := hcells.out w5 hl5)
          refine (hD2 _).mono ?_
          rintro e w6 ⟨rfl, hb6⟩
          have ho6 := pw_own_below ho5 hb6
          have hl6 := pw_own_below hl5 hb6
          have hbw6 := hb5.trans (hb6.mono hb5.size)
          have hsz6 := hbw6.size
          have e6 : (bI (P ++ D1) ++ [45]).length = P.length + D1.length + 1 := by rw [List.length_append, hQ4]; first | (simp; done) | (simp; omega)
          clear hb6 hD2 c5 c8 c7 ho4 hb4 hl4
          go_wp2_with (at_builtin; refine print_append_str w.heap.size rfl (.tmp 41) (.tmp 47) 126 9 5 rfl Tryz.underlying126 Tryz.underlying9 info_u8 v5 (bI (P ++ D1) ++ [45]) ⟨D2.toArray⟩ rfl rfl ho6 hbw6 hsz6 (by omega) ?_; intro v7 w7 ho7 hb7 hg7; have hl7 := hl6.kept hg7 (own_type_ne hl6 ho6 (by decide)))
          have e7 : bI (P ++ D1) ++ [45] ++ bytesOf ⟨D2.toArray⟩ = bI (printV (rs.take (k + 1))) := by rw [bI_of, hnext.out, hT.out, if_pos hk0.out]; simp [bI]
          rw [e7] at ho7
          exact ⟨⟨k + 1, by omega, by go_num, ho7, hb7, hl7⟩, by simp [intOf]; omega⟩
        · rw [if_neg hlt] at hT
          go_wp2_with fail
          have e7 : bI (P ++ D1) = bI (printV (rs.take (k + 1))) := by rw [hnext.out, hT.out, if_pos hk0.out]; simp [bI]
          rw [e7] at ho4
          exact ⟨⟨k + 1, by omega, by go_num, ho4, hb4, hl4⟩, by simp [intOf]; omega⟩
      · have hk1 : decide ((0 : Int) < (k : Int)) = true := decide_eq_true (by omega)
        have hk1n : decide (0 < k) = true := decide_eq_true hk0
        have hne : ¬ k = 0 := by omega
        go_wp2_with (at_builtin; refine app_byte w.heap.size rfl (.tmp 16) (.tmp 17) rfl u3 (bI P) 32 rfl rfl hown hb hb.size (by omega) ?_; intro v1 w1 ho1 hb1 hg1; have hl1 := (hl.alloc (.cells #[.int .u8 32] 5)).kept hg1 (own_type_ne hl hown (by decide)); obtain ⟨c3, c4⟩ := hcells.out w1 hl1)
        refine (hD1 _).mono ?_
        rintro e w2 ⟨rfl, hb2⟩
        have ho2 := pw_own_below ho1 hb2
        have hl2 := pw_own_below hl1 hb2
        have hbw2 := hb1.trans (hb2.mono hb1.size)
        have hsz2 := hbw2.size
        clear hb2 hD1
        go_wp2_with (at_builtin; refine print_append_str w.heap.size rfl (.tmp 19) (.tmp 25) 126 9 5 rfl Tryz.underlying126 Tryz.underlying9 info_u8 v1 (bI P ++ [32]) ⟨D1.toArray⟩ rfl rfl ho2 hbw2 hsz2 (by first | omega | (simp; omega)) ?_; intro v3 w3 ho3 hb3 hg3; have hl3 := hl2.kept hg3 (own_type_ne hl2 ho2 (by decide)); obtain ⟨c5, c6⟩ := hcells.out w3 hl3)
        have e3 : (bI P ++ [32]) ++ bytesOf ⟨D1.toArray⟩ = bI (P ++ [32] ++ D1) := by rw [bI_of]; simp [bI]
        rw [e3] at ho3
        clear e3
        go_quiet (fail)
        have ho4 := own_drewN' ho3 nq
        have hl4 := own_drewN' hl3 nq
        have hb4 := below_drewN hb3 nq
        have c7 : (w3.drewN nq).cell? ⟨g, k * 2 + 1, none⟩ = some (.int .i64 (p2 : Int)) := c6
        generalize w3.drewN nq = w4 at *
        have hsz4 := hb4.size
        have hQ4 := bI_len (P ++ [32] ++ D1)
        simp only [List.length_append, List.length_cons, List.length_nil] at hQ4
        clear c5 c6 hg3 hl3 hb3 ho3 hl2 hbw2 ho2
        rcases hlt with ⟨hlt, h12⟩ | ⟨hlt, h12⟩
        · rw [if_pos hlt] at hT
          go_wp2_with (at_builtin; refine app_byte w.heap.size rfl (.tmp 38) (.tmp 39) rfl v3 (bI (P ++ [32] ++ D1)) 45 rfl rfl ho4 hb4 hsz4 (by omega) ?_; intro v5 w5 ho5 hb5 hg5; have hl5 := (hl4.alloc (.cells #[.int .u8 45] 5)).kept hg5 (own_type_ne hl4 ho4 (by decide)); obtain ⟨c5, c8⟩ := hcells.out w5 hl5)
          refine (hD2 _).mono ?_
          rintro e w6 ⟨rfl, hb6⟩
          have ho6 := pw_own_below ho5 hb6
          have hl6 := pw_own_below hl5 hb6
          have hbw6 := hb5.trans (hb6.mono hb5.size)
          have hsz6 := hbw6.size
          have e6 : (bI (P ++ [32] ++ D1) ++ [45]).length = P.length + D1.length + 2 := by rw [List.length_append, hQ4]; first | (simp; done) | (simp; omega)
          clear hb6 hD2 c5 c8 c7 ho4 hb4 hl4
          go_wp2_with (at_builtin; refine print_append_str w.heap.size rfl (.tmp 41) (.tmp 47) 126 9 5 rfl Tryz.underlying126 Tryz.underlying9 info_u8 v5 (bI (P ++ [32] ++ D1) ++ [45]) ⟨D2.toArray⟩ rfl rfl ho6 hbw6 hsz6 (by omega) ?_; intro v7 w7 ho7 hb7 hg7; have hl7 := hl6.kept hg7 (own_type_ne hl6 ho6 (by decide)))
          have e7 : bI (P ++ [32] ++ D1) ++ [45] ++ bytesOf ⟨D2.toArray⟩ = bI (printV (rs.take (k + 1))) := by rw [bI_of, hnext.out, hT.out, if_neg hne]; simp [bI]
          rw [e7] at ho7
          exact ⟨⟨k + 1, by omega, by go_num, ho7, hb7, hl7⟩, by simp [intOf]; omega⟩
        · rw [if_neg hlt] at hT
          go_wp2_with fail
          have e7 : bI (P ++ [32] ++ D1) = bI (printV (rs.take (k + 1))) := by rw [hnext.out, hT.out, if_neg hne]; simp [bI]
          rw [e7] at ho4
          exact ⟨⟨k + 1, by omega, by go_num, ho4, hb4, hl4⟩, by simp [intOf]; omega⟩
    · obtain rfl : k = rs.length := by omega
      have hgo : decide ((rs.length : Int) < (rs.length : Int)) = false := decide_eq_false (by omega)
      rw [List.take_of_length_le (Nat.le_refl _)] at hown
      have hcv := own_string (P := Tryz.prog) (dst := 9) (src := 126) Tryz.underlying126 Tryz.underlying5 Tryz.underlying9 hown
      go_wp2_with fail
      go_ret
      exact ⟨ret_str (str_bI _), hb⟩
end Go.Proofs.YtgdcnenlelckhaaGreatDoor

namespace Go.Proofs.YtgdcnenlelckhaaGreatDoor
open Go.RowKit Go.Proofs.YtgdcnenlelckhaaGreatDoorW.PrintWords
open SlS SlT
theorem fieldsGoD_len : ∀ (f : Nat) (l cur : List UInt8), ∀ x ∈ Lib.fieldsGoD f cur l, x.length ≤ cur.length + l.length
  | 0, l, cur, x, hx => by
    unfold Lib.fieldsGoD at hx
    split at hx
    · cases hx
    · rw [List.mem_singleton.1 hx]; omega
  | f + 1, l, cur, x, hx => by
    unfold Lib.fieldsGoD at hx
    split at hx
    · split at hx
      · cases hx
      · rw [List.mem_singleton.1 hx]; omega
    · split at hx
      · rcases List.mem_append.1 hx with hx | hx
        · split at hx
          · cases hx
          · rw [List.mem_singleton.1 hx]; omega
        · have := fieldsGoD_len f _ [] x hx
          simp at this; omega
      · have := fieldsGoD_len f _ _ x hx
        simp at this; omega
theorem fieldsD_len (l x : List UInt8) (h : x ∈ Lib.fieldsD l) : x.length ≤ l.length := by
  have := fieldsGoD_len _ l [] x h
  simpa using this
theorem fieldsGoD_count : ∀ (f : Nat) (l cur : List UInt8), (Lib.fieldsGoD f cur l).length ≤ f + 1
  | 0, l, cur => by unfold Lib.fieldsGoD; split <;> simp
  | f + 1, l, cur => by
    unfold Lib.fieldsGoD
    split
    · split <;> simp
    · split
      · have := fieldsGoD_count f (l.drop (Lib.decodeL l).2) []
        rw [List.length_append]
        split <;> simp <;> omega
      · have := fieldsGoD_count f (l.drop (Lib.decodeL l).2) (cur ++ l.take (Lib.decodeL l).2)
        omega
theorem fieldsD_count (l : List UInt8) : (Lib.fieldsD l).length ≤ l.length + 2 := fieldsGoD_count _ l []
theorem cut_len (x : List UInt8) : (Lib.cut x [45]).1.length ≤ x.length ∧ (Lib.cut x [45]).2.1.length ≤ x.length := by
  unfold Lib.cut
  split
  · simp; omega
  · simp
def flatI (l : List (Int × Int)) : List Value := l.flatMap fun p => [.int .i64 p.1, .int .i64 p.2]
theorem flatI_append (l r : List (Int × Int)) : flatI (l ++ r) = flatI l ++ flatI r := by simp [flatI]
theorem flatI_len (l : List (Int × Int)) : (flatI l).length = l.length * 2 := by
  induction l with
  | nil => rfl
  | cons p r ih => simp [flatI] at ih ⊢; omega
theorem flatI_at (rs : List (Int × Int)) (k : Nat) (p : Int × Int) (h : rs[k]? = some p) : (flatI rs)[k * 2]? = some (.int .i64 p.1) ∧ (flatI rs)[k * 2 + 1]? = some (.int .i64 p.2) := by
  induction rs generalizing k with
  | nil => simp at h
  | cons q rs ih =>
    have e : flatI (q :: rs) = .int .i64 q.1 :: .int .i64 q.2 :: flatI rs := rfl
    rw [e]
    cases k with
    | zero => simp at h; subst h; exact ⟨rfl, rfl⟩
    | succ k =>
      have := ih k (by simpa using h)
      rw [show (k + 1) * 2 = k * 2 + 1 + 1 by omega]
      simpa using this
theorem rd_of_own {w : World} {base c : Nat} {A : Option Addr} {l : List (Int × Int)} (h : w.ownsRow base 117 2 (.slice A l.length c) l.length (flatI l)) : RdR w A l := fun k p hk => by
  have hkl : k < l.length := (List.getElem?_eq_some_iff.1 hk).1
  obtain ⟨g, cap, hgA, -, hlt⟩ := h.form (by omega)
  obtain rfl : A = some ⟨g, 0, none⟩ := by injection hgA
  obtain ⟨f1, f2⟩ := flatI_at l k p hk
  refine ⟨g, 0, rfl, hlt, ?_, ?_⟩
  · rw [Nat.zero_add, h.cellAt (k * 2) (by omega)]; exact f1
  · rw [Nat.zero_add, h.cellAt (k * 2 + 1) (by omega)]; exact f2
theorem flatI_intR (rs : List (Nat × Nat)) : flatI (intR rs) = flatR rs := by
  unfold flatI intR flatR
  rw [List.flatMap_map]
theorem rd_of_rng {w : World} {base c : Nat} {A : Option Addr} {rs : List (Nat × Nat)} (h : w.ownsRow base 117 2 (.slice A rs.length c) rs.length (flatR rs)) : RdR w A (intR rs) := by
  have e : (intR rs).length = rs.length := by simp [intR]
  refine rd_of_own (base := base) (c := c) ?_
  rw [e, flatI_intR]; exact h
/-- just a text that is written for a set of slots is read, as that set -/
def PsPost (w : World) (s : List UInt8) (e : Ending) (w' : World) : Prop :=
  ((∃ a f, e = .returned (.tuple #[.agg a, .int .i64 0]) ∧ Words a f ∧ printH (hasN f) = s) ∨ ((∀ H, printH H ≠ s) ∧ e = .returned (.tuple #[.agg Tryz.zeroCells43, .int .i64 20]))) ∧ Below w.heap.size w w'
def one34 (x : List UInt8) : ByteArray := ⟨x.toArray⟩
/-- one piece read: the loop's round -/
theorem str_eq_list (a b : ByteArray) : (a.toList == b.toList) = decide (a.data.toList = b.data.toList) := by
  rw [ByteArray.toList_eq, ByteArray.toList_eq, Bool.beq_eq_decide_eq]
set_option maxHeartbeats 4000000 in
set_option maxRecDepth 100000 in
theorem Parse_calls (s : ByteArray) (hs : s.size ≤ 140737488351232) (w : World) (hE : Env w) : Calls Tryz.prog 50 #[.string s] w (PsPost w s.data.toList) := by
  have hsz : s.data.toList.length = s.size := Array.length_toList
  have hiZ : (Tryz.prog.info? 43).map (·.size) = some Tryz.zeroCells43.size := by rw [zero_size]; exact info30
  have hzo := zero_words.one
  by_cases hlong : 98304 < s.size
  · have hno := Lib.hid (show ∀ H, printH H ≠ s.data.toList from fun H e => by have := printH_len H; rw [e, hsz] at this; omega)
    have hl2 : (98304 : Int) < (s.size : Int) := by omega
    go_enter Tryz.func50, Tryz.ntmps50
    go_wp2_with (refine wpList_store_row rfl 43 _ _ rfl (w.heap.size) Tryz.zeroCells43 rfl rfl 43 Tryz.zeroCells43 (heapN w _) hiZ rfl hzo ?_)
    refine bodyPost_ret (v := .tuple #[.agg Tryz.zeroCells43, .int .i64 20]) (results_cell_row2 Tryz.results50 _ _ w.heap.size 43 Tryz.zeroCells43 (0, 0) _ _ rfl rfl (setRow_heap _ _ _ _ _ _ (heapN w _)) Tryz.underlying43 rfl hiZ) rfl ⟨Or.inr ⟨hno.out, rfl⟩, below_setRow (below_new' w _) (Nat.le_refl _) _⟩
  · have hl2 : ¬ (98304 : Int) < (s.size : Int) := by omega
    have hF := fun W h1 h2 => Tryz.strings_Fields_any s W (by omega) h1 h2
    have hfl := fieldsD_len s.data.toList
    have hfc := fieldsD_count s.data.toList
    have hrd : readS s.data.toList = (Lib.fieldsD s.data.toList).map pieceV := rfl
    have hrl : (readS s.data.toList).length = (Lib.fieldsD s.data.toList).length := by rw [hrd, List.length_map]
    generalize hfs : Lib.fieldsD s.data.toList = fs at *
    replace hrd := Lib.hid hrd
    replace hrl := Lib.hid hrl
    replace hfl : ∀ x ∈ fs, x.length ≤ s.size := fun x hx => by rw [← hsz]; exact hfl x hx
    have hfc2 : fs.length ≤ 98306 := by omega
    replace hfl := Lib.hid hfl
    clear hfs hfc
    replace hsz := Lib.hid hsz
    go_enter Tryz.func50, Tryz.ntmps50
    go_wp2_with fail
    refine (hF _ (hE.below (below_new' _ _)).spc (hE.below (below_new' _ _)).whs).mono ?_
    rintro e w1 ⟨F, rfl, -, hF1, hb1⟩
    have hbw1 : Below w.heap.size w w1 := (below_new' w _).trans (hb1.mono (by simp))
    have hz1 : w1.heap[w.heap.size]? = some (.cells Tryz.zeroCells43 43 (0, 0)) := (hb1.block _ (by simp)).trans (heapN w _)
    have hlt1 : w.heap.size < w1.heap.size := by have := hb1.size; simp at this; omega
    have hF1 := own_weaken hF1 (show w.heap.size + 1 ≤ _ by simp)
    clear hb1 hF
    obtain ⟨i0, hi0, hz0, hzz1, hz2⟩ := info_rng'
    go_wp2_with fail
    go_loopw [4, 19] (fun out i wr => ∃ k : Nat, k ≤ fs.length ∧ i = .int .i64 k ∧ wr.ownsRow (w.heap.size + 1) 117 2 out k (flatI ((fs.take k).map pieceV)) ∧ Below w.heap.size w wr ∧ wr.heap[w.heap.size]? = some (.cells Tryz.zeroCells43 43 (0, 0)) ∧ w.heap.size < wr.heap.size ∧
      wr.ownsRow (w.heap.size + 1) 9 1 (.slice (some ⟨F, 0, none⟩) fs.length fs.length) fs.length (fs.map fun x => .string ⟨x.toArray⟩)) (fun _ i _ => fs.length - (intOf i).toNat)
    case atStart => exact ⟨0, by omega, rfl, own_nil _ _ _ _, hbw1, hz1, hlt1, hF1⟩
    case round =>
      obtain ⟨k, hk, rfl, hown, hb, hz, hlt, hF⟩ := hrel
      clear hF1 hbw1 hz1 hlt1
      by_cases hkl : k < fs.length
      · obtain ⟨x, hx⟩ : ∃ x, fs[k]? = some x := ⟨fs[k], List.getElem?_eq_getElem hkl⟩
        have hxl := hfl.out x (List.mem_of_getElem? hx)
        have hnext := Lib.hid (show flatI ((fs.take (k + 1)).map pieceV) = flatI ((fs.take k).map pieceV) ++ [.int .i64 (pieceV x).1, .int .i64 (pieceV x).2] by rw [List.take_add_one, hx]; simp [flatI])
        have c1 : wr.cell? ⟨F, k, none⟩ = some (.string ⟨x.toArray⟩) := by
          rw [hF.cellAt k (by omega), List.getElem?_map, hx]; rfl
        have hgo : decide ((k : Int) < (fs.length : Int)) = true := decide_eq_true (by omega)
        have hEr := hE.below hb
        obtain ⟨mx, hmx⟩ := hEr.mx
        have hC := Tryz.strings_Cut ⟨x.toArray⟩ ⟨#[45]⟩ mx wr (by rw [size_mk]; omega) hmx
        have hcl := cut_len x
        have e1 : (⟨x.toArray⟩ : ByteArray).data.toList = x := rfl
        have e2 : (⟨#[45]⟩ : ByteArray).data.toList = [45] := rfl
        rw [e1, e2] at hC
        have hpv : pieceV x = (numS (Lib.cut x [45]).1, numS (if (Lib.cut x [45]).2.2 then (Lib.cut x [45]).2.1 else (Lib.cut x [45]).1)) := rfl
        rw [hpv] at hnext
        generalize Lib.cut x [45] = C at *
        obtain ⟨C1, C2, C3⟩ := C
        simp only at hC hnext hcl
        have hN1 := fun W h => number_calls ⟨C1.toArray⟩ (by rw [size_mk]; omega) W h
        have hN2 := fun W h => number_calls ⟨C2.toArray⟩ (by rw [size_mk]; omega) W h
        have e3 : (⟨C1.toArray⟩ : ByteArray).data.toList = C1 := rfl
        have e4 : (⟨C2.toArray⟩ : ByteArray).data.toList = C2 := rfl
        rw [e3] at hN1
        rw [e4] at hN2
        generalize hn1 : numS C1 = n1 at *
        replace hn1 := Lib.hid hn1
        clear e1 e2 e3 e4 hpv hmx hcl hx hE
        obtain ⟨wo, rfl⟩ : ∃ wo : World, wo = wr := ⟨_, rfl⟩
        go_wp2_with fail
        refine hC.mono ?_
        rintro e w2 ⟨rfl, nd, rfl⟩
        have hown := own_drewN' hown nd
        have hF := own_drewN' hF nd
        have hz : (wo.drewN nd).heap[w.heap.size]? = some (.cells Tryz.zeroCells43 43 (0, 0)) := hz
        have hlt : w.heap.size < (wo.drewN nd).heap.size := hlt
        have hb := below_drewN hb nd
        have hEr : Env (wo.drewN nd) := hEr.below (below_drewN (Below.refl _ _) nd)
        clear hC c1
        generalize wo.drewN nd = w2 at *
        cases C3 with
        | true =>
          rw [if_pos rfl] at hnext
          go_wp2_with fail
          refine (hN1 _ hEr).mono ?_
          rintro e w3 ⟨rfl, hb3⟩
          have hE3 := hEr.below hb3
          have hown3 := pw_own_below hown hb3
          have hF3 := pw_own_below hF hb3
          have hz3 : w3.heap[w.heap.size]? = some (.cells Tryz.zeroCells43 43 (0, 0)) := (hb3.block _ hlt).trans hz
          have hlt3 : w.heap.size < w3.heap.size := Nat.lt_of_lt_of_le hlt hb3.size
          have hbw3 := hb.trans (hb3.mono hb.size)
          clear hown hF hz hlt hb hEr hb3
          go_wp2_with fail
          refine (hN2 _ hE3).mono ?_
          rintro e w4 ⟨rfl, hb4⟩
          have hown4 := pw_own_below hown3 hb4
          have hF4 := pw_own_below hF3 hb4
          have hz4 : w4.heap[w.heap.size]? = some (.cells Tryz.zeroCells43 43 (0, 0)) := (hb4.block _ hlt3).trans hz3
          have hlt4 : w.heap.size < w4.heap.size := Nat.lt_of_lt_of_le hlt3 hb4.size
          have hbw4 := hbw3.trans (hb4.mono hbw3.size)
          clear hown3 hF3 hz3 hlt3 hbw3 hE3 hb4 hN1 hN2
          generalize numS C2 = n2 at *
          have hnI := flatI_len ((fs.take k).map pieceV)
          have hc5 : w.heap.size + 1 ≤ (w4.alloc (.cells #[.int .i64 n1, .int .i64 n2] 117)).heap.size := by simp; omega
          go_wp2_with (at_builtin; refine wpList_append_own _ rfl _ _ 88 rfl (w.heap.size + 1) 117 i0 (.agg #[.int .i64 0, .int .i64 0]) 2 16 Tryz.underlying88 hi0 hz0 hzz1 hz2 rfl (by decide) _ _ _ rfl (hown4.alloc _) ⟨w4.heap.size, 0, none⟩ 1 1 [.int .i64 n1, .int .i64 n2] rfl rfl (news2 _ _ _ _) (two_int _ _ _) (by unfold maxLen; omega) (by omega) hc5 ?_; intro v' w5 hown5 hgrow _)
          obtain ⟨k1, k2, k3⟩ := grown_keep hbw4 hz4 hlt4 hown4 hgrow
          have hF5 := (hF4.alloc (.cells #[.int .i64 n1, .int .i64 n2] 117)).kept hgrow (own_type_ne hF4 hown4 (by decide))
          exact ⟨⟨k + 1, by omega, by go_num, by rw [hnext.out]; exact hown5, k1, k2, k3, hF5⟩, by simp [intOf]; omega⟩
        | false =>
          rw [if_neg (by decide)] at hnext
          go_wp2_with fail
          refine (hN1 _ hEr).mono ?_
          rintro e w3 ⟨rfl, hb3⟩
          have hE3 := hEr.below hb3
          have hown3 := pw_own_below hown hb3
          have hF3 := pw_own_below hF hb3
          have hz3 : w3.heap[w.heap.size]? = some (.cells Tryz.zeroCells43 43 (0, 0)) := (hb3.block _ hlt).trans hz
          have hlt3 : w.heap.size < w3.heap.size := Nat.lt_of_lt_of_le hlt hb3.size
          have hbw3 := hb.trans (hb3.mono hb.size)
          clear hown hF hz hlt hb hEr hb3
          go_wp2_with fail
          refine (hN1 _ hE3).mono ?_
          rintro e w4 ⟨rfl, hb4⟩
          have hown4 := pw_own_below hown3 hb4
          have hF4 := pw_own_below hF3 hb4
          have hz4 : w4.heap[w.heap.size]? = some (.cells Tryz.zeroCells43 43 (0, 0)) := (hb4.block _ hlt3).trans hz3
          have hlt4 : w.heap.size < w4.heap.size := Nat.lt_of_lt_of_le hlt3 hb4.size
          have hbw4 := hbw3.trans (hb4.mono hbw3.size)
          clear hown3 hF3 hz3 hlt3 hbw3 hE3 hb4 hN1 hN2
          rw [hn1.out] at hnext
          have hnI := flatI_len ((fs.take k).map pieceV)
          have hc5 : w.heap.size + 1 ≤ (w4.alloc (.cells #[.int .i64 n1, .int .i64 n1] 117)).heap.size := by simp; omega
          go_wp2_with (at_builtin; refine wpList_append_own _ rfl _ _ 88 rfl (w.heap.size + 1) 117 i0 (.agg #[.int .i64 0, .int .i64 0]) 2 16 Tryz.underlying88 hi0 hz0 hzz1 hz2 rfl (by decide) _ _ _ rfl (hown4.alloc _) ⟨w4.heap.size, 0, none⟩ 1 1 [.int .i64 n1, .int .i64 n1] rfl rfl (news2 _ _ _ _) (two_int _ _ _) (by unfold maxLen; omega) (by omega) hc5 ?_; intro v' w5 hown5 hgrow _)
          obtain ⟨k1, k2, k3⟩ := grown_keep hbw4 hz4 hlt4 hown4 hgrow
          have hF5 := (hF4.alloc (.cells #[.int .i64 n1, .int .i64 n1] 117)).kept hgrow (own_type_ne hF4 hown4 (by decide))
          exact ⟨⟨k + 1, by omega, by go_num, by rw [hnext.out]; exact hown5, k1, k2, k3, hF5⟩, by simp [intOf]; omega⟩
      · obtain rfl : k = fs.length := by omega
        have hgo : decide ((fs.length : Int) < (fs.length : Int)) = false := decide_eq_false (by omega)
        have hown : wr.ownsRow (w.heap.size + 1) 117 2 u4 fs.length (flatI (readS s.data.toList)) := by rw [List.take_of_length_le (Nat.le_refl _), ← hrd.out] at hown; exact hown
        obtain ⟨A, c, rfl⟩ := own_slice hown
        have hlen := hrl.out
        have hEr := hE.below hb
        have hiff := read_iff (rd := fun s => some (readS s)) readS_rd s.data.toList
        have hlim : 16384 < fs.length → ∀ H, printH H ≠ s.data.toList := fun h H e => by
          obtain ⟨l, e2, _, _⟩ := read_back (rd := fun s => some (readS s)) readS_rd H
          have e3 := readS_print (rngH H) (rngH_ord H)
          have e4 : printV (rngH H) = s.data.toList := e
          rw [e4] at e3
          have e5 := rng_len_le H
          have e6 : (intR (rngH H)).length = (rngH H).length := by simp [intR]
          rw [e3] at hlen
          omega
        have hM := fun W (hW : Below wr.heap.size wr W) => Make_calls (readS s.data.toList) A c (by omega) W ((rd_of_own (base := w.heap.size + 1) (c := c) (by rw [hlen]; exact hown)).below hW)
        rw [hlen] at hM
        generalize readS s.data.toList = l at *
        clear hF hown hlen hrd hrl
        go_wp2_with fail
        refine (hM _ (Below.refl _ _)).mono ?_
        rintro e w2 ⟨hP, hb2⟩
        have hz2' : w2.heap[w.heap.size]? = some (.cells Tryz.zeroCells43 43 (0, 0)) := (hb2.block _ hlt).trans hz
        have hlt2 : w.heap.size < w2.heap.size := Nat.lt_of_lt_of_le hlt hb2.size
        have hbw2 := hb.trans (hb2.mono hb.size)
        have hE2 := hEr.below hb2
        clear hM hb2 hz hlt hb hEr
        cases hok : okR l with
        | false =>
          rw [hok, if_neg (by decide)] at hP
          subst hP
          have hno : ∀ H, printH H ≠ s.data.toList := fun H e => by
            obtain ⟨l', e1, e2, _⟩ := hiff.1 ⟨H, e⟩
            simp at e1
            subst e1
            rw [hok] at e2; cases e2
          replace hno := Lib.hid hno
          clear hiff hlim
          have hz3 : ((w2.alloc (.cells Tryz.zeroCells43 43)).setRow w2.heap.size Tryz.zeroCells43).heap[w.heap.size]? = some (.cells Tryz.zeroCells43 43 (0, 0)) := (setRow_other _ _ _ _ (by omega)).trans (((below_new' w2 _).block _ hlt2).trans hz2')
          have hbw3 : Below w.heap.size w ((w2.alloc (.cells Tryz.zeroCells43 43)).setRow w2.heap.size Tryz.zeroCells43) := below_setRow (hbw2.trans ((below_new' w2 _).mono hbw2.size)) hbw2.size _
          go_wp2_with (first | (refine wpList_store_row rfl 43 _ _ rfl (w2.heap.size) Tryz.zeroCells43 rfl rfl 43 Tryz.zeroCells43 (heapN w2 _) hiZ rfl hzo ?_) | (refine wpList_store_row rfl 43 _ _ rfl (w.heap.size) Tryz.zeroCells43 rfl rfl 43 Tryz.zeroCells43 hz3 hiZ rfl hzo ?_))
          refine bodyPost_ret (v := .tuple #[.agg Tryz.zeroCells43, .int .i64 20]) (results_cell_row2 Tryz.results50 _ _ w.heap.size 43 Tryz.zeroCells43 (0, 0) _ _ rfl rfl (setRow_heap _ _ _ _ _ _ hz3) Tryz.underlying43 rfl hiZ) rfl ⟨Or.inr ⟨hno.out, rfl⟩, below_setRow hbw3 (Nat.le_refl _) _⟩
        | true =>
          rw [hok, if_pos rfl] at hP
          obtain ⟨a, f, rfl, ha, hfl2⟩ := hP
          have hpr := printH_congr hfl2
          have hia : (Tryz.prog.info? 43).map (·.size) = some a.size := by rw [ha.size]; exact info30
          have hza : Tryz.zeroCells43.size = a.size := by rw [ha.size]; exact zero_size
          have ho := ha.one
          have hz3 : ((w2.alloc (.cells Tryz.zeroCells43 43)).setRow w2.heap.size a).heap[w.heap.size]? = some (.cells Tryz.zeroCells43 43 (0, 0)) := (setRow_other _ _ _ _ (by omega)).trans (((below_new' w2 _).block _ hlt2).trans hz2')
          have hbn : Below w2.heap.size w2 ((w2.alloc (.cells Tryz.zeroCells43 43)).setRow w2.heap.size a) := below_setRow (below_new' w2 _) (Nat.le_refl _) _
          have hbw3 : Below w.heap.size w ((w2.alloc (.cells Tryz.zeroCells43 43)).setRow w2.heap.size a) := hbw2.trans (hbn.mono hbw2.size)
          have hE3 := hE2.below hbn
          have ha3 : ((w2.alloc (.cells Tryz.zeroCells43 43)).setRow w2.heap.size a).heap[w2.heap.size]? = some (.cells a 43 (0, 0)) := setRow_heap _ _ _ _ _ _ (heapN w2 _)
          have hl3 : w2.heap.size < ((w2.alloc (.cells Tryz.zeroCells43 43)).setRow w2.heap.size a).heap.size := by simp [World.setRow]
          clear hfl2 hbn hbw2 hE2 hz2'
          by_cases h16 : 16384 < fs.length
          · have hno := Lib.hid (hlim h16)
            have h16' : (16384 : Int) < (fs.length : Int) := by omega
            have h16n : decide (16384 < fs.length) = true := decide_eq_true h16
            clear hlim hiff hpr
            go_wp2_with (first | (refine wpList_store_row rfl 43 _ _ rfl (w2.heap.size) a rfl rfl 43 Tryz.zeroCells43 (heapN w2 _) hia hza ho ?_) | (refine wpList_store_row rfl 43 _ _ rfl (w.heap.size) Tryz.zeroCells43 rfl rfl 43 Tryz.zeroCells43 hz3 hiZ rfl hzo ?_))
            refine bodyPost_ret (v := .tuple #[.agg Tryz.zeroCells43, .int .i64 20]) (results_cell_row2 Tryz.results50 _ _ w.heap.size 43 Tryz.zeroCells43 (0, 0) _ _ rfl rfl (setRow_heap _ _ _ _ _ _ hz3) Tryz.underlying43 rfl hiZ) rfl ⟨Or.inr ⟨hno.out, rfl⟩, below_setRow hbw3 (Nat.le_refl _) _⟩
          · have h16' : ¬ (16384 : Int) < (fs.length : Int) := by omega
            have h16n : decide (16384 < fs.length) = false := decide_eq_false h16
            have hPr := fun W h => Print_calls a f ha W h
            have hsame : (printH (hasN f) = s.data.toList) ∨ ((∀ H, printH H ≠ s.data.toList) ∧ printH (hasN f) ≠ s.data.toList) := by
              by_cases h : printH (hasN f) = s.data.toList
              · exact Or.inl h
              · refine Or.inr ⟨fun H e => ?_, h⟩
                obtain ⟨l', e1, e2, e3⟩ := hiff.1 ⟨H, e⟩
                simp at e1
                subst e1
                rw [hpr] at h
                exact h e3
            clear hlim hiff hpr
            have hpe : (⟨(printH (hasN f)).toArray⟩ : ByteArray).data.toList = printH (hasN f) := rfl
            have hcmp := str_eq_list ⟨(printH (hasN f)).toArray⟩ s
            rw [hpe] at hcmp
            clear hpe
            generalize hTT : (⟨(printH (hasN f)).toArray⟩ : ByteArray) = tt at *
            replace hTT := Lib.hid hTT
            go_wp2_with (first | (refine wpList_store_row rfl 43 _ _ rfl (w2.heap.size) a rfl rfl 43 Tryz.zeroCells43 (heapN w2 _) hia hza ho ?_) | (refine wpList_load_row_g (by first | rfl | simp [Region.wanted, yielded, h16', h16n]) 43 _ rfl w2.heap.size rfl 43 a (0, 0) _ ha3 Tryz.underlying43 rfl hia ?_))
            refine (hPr _ hE3).mono ?_
            rintro e w5 ⟨rfl, hb5⟩
            have hz5 := (hb5.block _ (show w.heap.size < _ by omega)).trans hz3
            have ha5 := (hb5.block _ hl3).trans ha3
            have hbw5 := hbw3.trans (hb5.mono hbw3.size)
            generalize hW3 : (w2.alloc (.cells Tryz.zeroCells43 43)).setRow w2.heap.size a = w3 at *
            clear hW3 hPr hb5 hE3 hz3 ha3 hbw3
            rcases hsame with hS | ⟨hno, hS⟩
            · rw [decide_eq_true hS] at hcmp
              have hcmp2 : (tt.toList != s.toList) = false := by rw [bne, hcmp]; rfl
              replace hS := Lib.hid hS
              go_wp2_with (first | (refine wpList_load_row rfl 43 _ rfl w2.heap.size rfl 43 a (0, 0) _ ha5 Tryz.underlying43 rfl hia ?_) | (refine wpList_store_row rfl 43 _ _ rfl (w.heap.size) a rfl rfl 43 Tryz.zeroCells43 hz5 hia hza ho ?_))
              refine bodyPost_ret (v := .tuple #[.agg a, .int .i64 0]) (results_cell_row2 Tryz.results50 _ _ w.heap.size 43 a (0, 0) _ _ rfl rfl (setRow_heap _ _ _ _ _ _ hz5) Tryz.underlying43 rfl hia) rfl ⟨Or.inl ⟨a, f, rfl, ha, hS.out⟩, below_setRow hbw5 (Nat.le_refl _) _⟩
            · rw [decide_eq_false hS] at hcmp
              have hcmp2 : (tt.toList != s.toList) = true := by rw [bne, hcmp]; rfl
              replace hno := Lib.hid hno
              clear hS
              go_wp2_with (refine wpList_store_row rfl 43 _ _ rfl (w.heap.size) Tryz.zeroCells43 rfl rfl 43 Tryz.zeroCells43 hz5 hiZ rfl hzo ?_)
              refine bodyPost_ret (v := .tuple #[.agg Tryz.zeroCells43, .int .i64 20]) (results_cell_row2 Tryz.results50 _ _ w.heap.size 43 Tryz.zeroCells43 (0, 0) _ _ rfl rfl (setRow_heap _ _ _ _ _ _ hz5) Tryz.underlying43 rfl hiZ) rfl ⟨Or.inr ⟨hno.out, rfl⟩, below_setRow hbw5 (Nat.le_refl _) _⟩
end Go.Proofs.YtgdcnenlelckhaaGreatDoor

namespace Go.Proofs.YtgdcnenlelckhaaGreatDoor
open Go.RowKit Go.Proofs.YtgdcnenlelckhaaGreatDoorW.PrintWords
open SlS SlT
theorem refRd_fuel : ∀ (k k' : Nat) (t : List UInt8) (m : Bool) (l : List (Nat × Nat)), t.length < k → t.length < k' → refRd k t m l = refRd k' t m l
  | 0, _, t, _, _, h, _ => absurd h (by omega)
  | _, 0, t, _, _, _, h => absurd h (by omega)
  | k + 1, k' + 1, [], m, l, _, _ => by rw [refRd, refRd]
  | k + 1, k' + 1, c :: r, m, l, h, h' => by
    rw [refRd, refRd]
    have hd := digs_le (c :: r) 0
    by_cases h0 : (digs 0 (c :: r)).2.length = (c :: r).length
    · rw [if_pos h0, if_pos h0]
    · rw [if_neg h0, if_neg h0]
      generalize digs 0 (c :: r) = D at *
      obtain ⟨n, t⟩ := D
      cases t with
      | nil => rfl
      | cons d q =>
        simp only at hd h0 ⊢
        simp only [List.length_cons] at h h' hd h0
        exact refRd_fuel k k' q _ _ (by omega) (by omega)
def rdC (t : List UInt8) (m : Bool) (l : List (Nat × Nat)) : Option (List (Nat × Nat)) := refRd (t.length + 1) t m l
theorem rdC_nil (m : Bool) (l : List (Nat × Nat)) : rdC [] m l = some l := rfl
theorem rdC_bad {t : List UInt8} (m : Bool) (l : List (Nat × Nat)) (ht : t ≠ []) (h : (digs 0 t).2.length = t.length) : rdC t m l = none := by
  cases t with
  | nil => exact absurd rfl ht
  | cons c r =>
    unfold rdC
    rw [refRd, if_pos h]
theorem rdC_end {t : List UInt8} (m : Bool) (l : List (Nat × Nat)) (ht : t ≠ []) {n : Nat} (h : digs 0 t = (n, [])) : rdC t m l = some (nextL m l n) := by
  cases t with
  | nil => exact absurd rfl ht
  | cons c r =>
    unfold rdC
    rw [refRd, h]
    simp
theorem rdC_step {t : List UInt8} (m : Bool) (l : List (Nat × Nat)) {n : Nat} {d : UInt8} {q : List UInt8} (h : digs 0 t = (n, d :: q)) (hl : (d :: q).length < t.length) : rdC t m l = rdC q (decide (d = 45)) (nextL m l n) := by
  cases t with
  | nil => simp at hl
  | cons c r =>
    unfold rdC
    rw [refRd, h]
    simp only
    rw [if_neg (by omega)]
    simp only [List.length_cons] at hl
    exact refRd_fuel _ _ _ _ _ (by simp only [List.length_cons]; omega) (by omega)
def mi (L : List UInt8) (i : Nat) : Bool := decide (0 < i) && decide (L.getD (i - 1) 0 = 45)
theorem drop_cons' (L : List UInt8) (k : Nat) (h : k < L.length) : L.drop k = L.getD k 0 :: L.drop (k + 1) := by
  rw [List.drop_eq_getElem_cons h]
  simp [List.getD, h]
theorem digs_go {n : Nat} {c : UInt8} {r : List UInt8} (h : 48 ≤ c.toNat ∧ c.toNat ≤ 57 ∧ n < 100000) : digs n (c :: r) = digs (n * 10 + (c.toNat - 48)) r := by rw [digs, if_pos h]
theorem digs_stop {n : Nat} {c : UInt8} {r : List UInt8} (h : ¬ (48 ≤ c.toNat ∧ c.toNat ≤ 57 ∧ n < 100000)) : digs n (c :: r) = (n, c :: r) := by rw [digs, if_neg h]
/-- the next state of the reader, behind the digits -/
theorem rd_next (L : List UInt8) (i k n : Nat) (rs : List (Nat × Nat)) (hik : i < k) (hk : k ≤ L.length) (hD : digs 0 (L.drop i) = (n, L.drop k)) :
    rdC (L.drop i) (mi L i) rs = rdC (L.drop (k + 1)) (mi L (k + 1)) (nextL (mi L i) rs n) := by
  have hne : L.drop i ≠ [] := by
    intro e
    have := congrArg List.length e
    rw [List.length_drop] at this
    simp at this
    omega
  by_cases h : k < L.length
  · rw [drop_cons' L k h] at hD
    rw [rdC_step _ _ hD (by rw [List.length_drop]; simp; omega)]
    have : mi L (k + 1) = decide (L.getD k 0 = 45) := by unfold mi; simp
    rw [this]
  · have e1 : L.drop k = [] := List.drop_eq_nil_of_le (by omega)
    have e2 : L.drop (k + 1) = [] := List.drop_eq_nil_of_le (by omega)
    rw [e1] at hD
    rw [rdC_end _ _ hne hD, e2, rdC_nil]
theorem nextL_len (m : Bool) (l : List (Nat × Nat)) (n : Nat) : (nextL m l n).length ≤ l.length + 1 := by
  unfold nextL
  split
  · rename_i h
    rcases List.eq_nil_or_concat l with rfl | ⟨q, p, rfl⟩
    · simp at h
    · obtain ⟨a, b⟩ := p
      rw [List.concat_eq_append, setLast_snoc]; simp
  · simp
theorem noRead {L : List UInt8} (h : refReadN L = none) : ∀ H, printH H ≠ L := fun H e => by
  have := refRead_print (rngH H) (rngH_ord H)
  have e2 : printV (rngH H) = L := e
  rw [e2] at this
  unfold refRead at this
  rw [h] at this
  cases this
theorem rngs_I (rs : List (Nat × Nat)) : (intR rs).length = rs.length := by simp [intR]
set_option maxHeartbeats 4000000 in
set_option maxRecDepth 100000 in
theorem refParse_calls (s : ByteArray) (hs : s.size ≤ 4294967296) (w : World) : Calls Tryz.prog 43 #[.string s] w (PsPost w s.data.toList) := by
  have hsz : s.data.toList.length = s.size := Array.length_toList
  have hiZ : (Tryz.prog.info? 43).map (·.size) = some Tryz.zeroCells43.size := by rw [zero_size]; exact info30
  have hzo := zero_words.one
  have hget : ∀ k (h : k < s.size), s.data.toList.getD k 0 = s[k] := fun k h => by
    rw [List.getD_eq_getElem?_getD, List.getElem?_eq_getElem (by rw [hsz]; exact h)]
    simp [ByteArray.getElem_eq_getElem_data]
  have hR0 : rdC (s.data.toList.drop 0) (mi s.data.toList 0) [] = refReadN s.data.toList := rfl
  have hPost : ∀ (e : Ending) (w' : World), PsPost w s.data.toList e w' → PsPost w s.data.toList e w' := fun _ _ h => h
  generalize hL : s.data.toList = L at *
  generalize hR : refReadN L = R at *
  replace hL := Lib.hid hL
  replace hR := Lib.hid hR
  replace hget := Lib.hid hget
  replace hR0 := Lib.hid hR0
  obtain ⟨i0, hi0, hz0, hzz1, hz2⟩ := info_rng'
  clear hPost
  go_enter Tryz.func43, Tryz.ntmps43
  go_wp2_with fail
  go_loopw [4, 5, 6, 7] (fun out i _ _ wr => ∃ (m : Nat) (rs : List (Nat × Nat)), m ≤ s.size + 1 ∧ i = .int .i64 m ∧ rdC (L.drop m) (mi L m) rs = R ∧ rs.length ≤ m ∧ wr.ownsRow (w.heap.size + 1) 117 2 out rs.length (flatR rs) ∧ Below w.heap.size w wr ∧
    wr.heap[w.heap.size]? = some (.cells Tryz.zeroCells43 43 (0, 0)) ∧ w.heap.size < wr.heap.size) (fun _ i _ _ _ => s.size + 1 - (intOf i).toNat)
  case atStart => exact ⟨0, [], by omega, rfl, hR0.out, by simp, own_nil _ _ _ _, below_new' w _, heapN w _, by simp⟩
  case round =>
    obtain ⟨m, rs, hm, rfl, hrd, hrl, hown, hb, hz, hlt⟩ := hrel
    by_cases hml : m < s.size
    · have hgo : decide ((m : Int) < (s.size : Int)) = true := decide_eq_true (by omega)
      replace hrd := Lib.hid hrd
      go_wp2_with fail
      go_loop [6, 7] (fun n k => ∃ (kk nn : Nat), m ≤ kk ∧ kk ≤ s.size ∧ k = .int .i64 kk ∧ n = .int .i64 nn ∧ nn < 1000000 ∧ digs nn (L.drop kk) = digs 0 (L.drop m)) (fun _ k => s.size - (intOf k).toNat)
      case atStart => exact ⟨m, 0, by omega, by omega, rfl, rfl, by omega, rfl⟩
      case round =>
        obtain ⟨k, n, hmk, hks, rfl, rfl, hn, hd⟩ := hrel
        have hDk : k = s.size → digs n (L.drop k) = (n, L.drop k) := fun h => by
          have e : L.drop k = [] := List.drop_eq_nil_of_le (by omega)
          rw [e]; rfl
        have hcons : ∀ h : k < s.size, L.drop k = s[k] :: L.drop (k + 1) := fun h => by rw [drop_cons' L k (by omega), hget.out k h]
        by_cases hgo2 : ∃ h : k < s.size, 48 ≤ s[k].toNat ∧ s[k].toNat ≤ 57 ∧ n < 100000
        · obtain ⟨hk, h48, h57, h5⟩ := hgo2
          have hst := digs_go (r := L.drop (k + 1)) ⟨h48, h57, h5⟩
          rw [← hcons hk, hd] at hst
          replace hst := Lib.hid hst
          have b1 : (k : Int) < (s.size : Int) := by omega
          have b2 : (48 : Int) ≤ (s[k].toNat : Int) := by omega
          have b3 : (s[k].toNat : Int) ≤ 57 := by omega
          have b4 : (n : Int) < 100000 := by omega
          clear hDk hcons hd
          go_wp2_with fail
          case roundEnd =>
            refine ⟨⟨k + 1, n * 10 + (s[k].toNat - 48), by omega, by omega, by go_num, ?_, by omega, hst.out.symm⟩, by simp [intOf]; omega⟩
            congr 1
            omega
        · have hD : digs 0 (L.drop m) = (n, L.drop k) := by
            rw [← hd]
            by_cases h : k < s.size
            · rw [hcons h]
              exact digs_stop fun hh => hgo2 ⟨h, hh⟩
            · exact hDk (by omega)
          have hex : (k = s.size) ∨ (∃ h : k < s.size, ¬ 48 ≤ s[k].toNat) ∨ (∃ h : k < s.size, 48 ≤ s[k].toNat ∧ ¬ s[k].toNat ≤ 57) ∨ (∃ h : k < s.size, 48 ≤ s[k].toNat ∧ s[k].toNat ≤ 57 ∧ ¬ n < 100000) := by
            by_cases h : k < s.size
            · by_cases h1 : 48 ≤ s[k].toNat
              · by_cases h2 : s[k].toNat ≤ 57
                · by_cases h3 : n < 100000
                  · exact absurd ⟨h, h1, h2, h3⟩ hgo2
                  · exact Or.inr (Or.inr (Or.inr ⟨h, h1, h2, h3⟩))
                · exact Or.inr (Or.inr (Or.inl ⟨h, h1, h2⟩))
              · exact Or.inr (Or.inl ⟨h, h1⟩)
            · exact Or.inl (by omega)
          have hfact : (k = s.size ∧ decide ((k : Int) < (s.size : Int)) = false) ∨ (∃ (h : k < s.size) (c : UInt8), s[k] = c ∧ (c.toNat : Int) < 48) ∨ (∃ (h : k < s.size) (c : UInt8), s[k] = c ∧ (48 : Int) ≤ (c.toNat : Int) ∧ (57 : Int) < (c.toNat : Int)) ∨ (∃ (h : k < s.size) (c : UInt8), s[k] = c ∧ (48 : Int) ≤ (c.toNat : Int) ∧ (c.toNat : Int) ≤ 57 ∧ decide ((n : Int) < 100000) = false) := by
            rcases hex with h | ⟨h, h1⟩ | ⟨h, h1, h2⟩ | ⟨h, h1, h2, h3⟩
            · exact Or.inl ⟨h, decide_eq_false (by omega)⟩
            · exact Or.inr (Or.inl ⟨h, _, rfl, by omega⟩)
            · exact Or.inr (Or.inr (Or.inl ⟨h, _, rfl, by omega, by omega⟩))
            · exact Or.inr (Or.inr (Or.inr ⟨h, _, rfl, by omega, by omega, decide_eq_false (by omega)⟩))
          clear hex hgo2 hDk hcons hd
          by_cases hkm : k = m
          · subst hkm
            have hno := Lib.hid (show ∀ H, printH H ≠ L from noRead (hR.out.trans (hrd.out.symm.trans (rdC_bad _ _ (by
              intro e
              have := congrArg List.length e
              rw [List.length_drop] at this
              simp at this
              omega) (by rw [hD])))))
            replace hD := Lib.hid hD
            rcases hfact with ⟨h, h0⟩ | ⟨h, c, hc, h0⟩ | ⟨h, c, hc, h0, h1⟩ | ⟨h, c, hc, h0, h1, h2⟩
            · exact absurd h (by omega)
            all_goals
              go_wp2_with (refine wpList_store_row rfl 43 _ _ rfl (w.heap.size) Tryz.zeroCells43 rfl rfl 43 Tryz.zeroCells43 hz hiZ rfl hzo ?_)
              refine bodyPost_ret (v := .tuple #[.agg Tryz.zeroCells43, .int .i64 20]) (results_cell_row2 Tryz.results43 _ _ w.heap.size 43 Tryz.zeroCells43 (0, 0) _ _ rfl rfl (setRow_heap _ _ _ _ _ _ hz) Tryz.underlying43 rfl hiZ) rfl ⟨Or.inr ⟨hno.out, rfl⟩, below_setRow hb (Nat.le_refl _) _⟩
          · have hnx := rd_next L m k n rs (by omega) (by omega) hD
            rw [hrd.out] at hnx
            replace hnx := Lib.hid hnx
            replace hD := Lib.hid hD
            have hmk2 : m < k := by omega
            have hkmb : ((k : Int) == (m : Int)) = false := beq_eq_false_iff_ne.2 (by omega)
            have hkmn : (k == m) = false := beq_eq_false_iff_ne.2 (by omega)
            have hcl : rs = [] ∨ ∃ q x y, rs = q ++ [(x, y)] := by
              rcases List.eq_nil_or_concat rs with h | ⟨q, p, h⟩
              · exact Or.inl h
              · obtain ⟨x, y⟩ := p
                exact Or.inr ⟨q, x, y, by rw [h, List.concat_eq_append]⟩
            have hflag : (mi L m = true ∧ rs ≠ [] ∧ ∃ (h0 : 0 < m) (hx : m - 1 < s.size), ((s[m - 1].toNat : Int) == 45) = true) ∨ (nextL (mi L m) rs n = rs ++ [(n, n)] ∧ (m = 0 ∨ (∃ (h0 : 0 < m) (hx : m - 1 < s.size), ((s[m - 1].toNat : Int) == 45) = false) ∨ (∃ (h0 : 0 < m) (hx : m - 1 < s.size), ((s[m - 1].toNat : Int) == 45) = true ∧ rs = []))) := by
              have hmi : ∀ (h0 : 0 < m) (hx : m - 1 < s.size), mi L m = ((s[m - 1].toNat : Int) == 45) := fun h0 hx => by
                unfold mi
                rw [decide_eq_true h0, Bool.true_and, hget.out (m - 1) hx, Bool.eq_iff_iff]
                simp only [decide_eq_true_eq, beq_iff_eq]
                constructor
                · intro e; rw [e]; rfl
                · intro e; exact UInt8.toNat_inj.mp (by show s[m - 1].toNat = 45; omega)
              rcases Nat.eq_zero_or_pos m with h0 | h0
              · refine Or.inr ⟨?_, Or.inl h0⟩
                subst h0; rfl
              · have hx : m - 1 < s.size := by omega
                cases hb45 : ((s[m - 1].toNat : Int) == 45) with
                | false =>
                  refine Or.inr ⟨?_, Or.inr (Or.inl ⟨h0, hx, hb45⟩)⟩
                  rw [hmi h0 hx, hb45]; rfl
                | true =>
                  by_cases hr : rs = []
                  · refine Or.inr ⟨?_, Or.inr (Or.inr ⟨h0, hx, hb45, hr⟩)⟩
                    subst hr
                    unfold nextL
                    simp
                  · exact Or.inl ⟨by rw [hmi h0 hx, hb45], hr, h0, hx, hb45⟩
            rcases hflag with ⟨hmt, hrn, h0m, hxm, h45⟩ | ⟨hnl, hwhy⟩
            · obtain ⟨q, x, y, rfl⟩ := hcl.resolve_left hrn
              rw [hmt] at hnx
              have hnl : nextL true (q ++ [(x, y)]) n = q ++ [(x, n)] := by
                unfold nextL
                rw [setLast_snoc]; simp
              rw [hnl] at hnx
              have hown4 : wr.ownsRow (w.heap.size + 1) 117 2 u4 (q.length + 1) (flatR (q ++ [(x, y)])) := by simpa using hown
              have hql : q.length + 1 ≤ m := by simpa using hrl
              clear hown hrn hmt hnl hcl hrd hrl
              obtain ⟨A, c4, rfl⟩ := own_slice hown4
              obtain ⟨g, cap, hgA, -, -⟩ := hown4.form (by omega)
              obtain rfl : A = some ⟨g, 0, none⟩ := by injection hgA
              obtain ⟨s1, s2⟩ := hown4.stored (q.length * 2 + 1) (.int .i64 (n : Int))
              have hfro := hown4.frozenAt (q.length * 2 + 1)
              have hcell : wr.cell? ⟨g, q.length * 2 + 1, none⟩ = some (.int .i64 (y : Int)) := by
                rw [hown4.cellAt _ (by omega)]; exact flatR_last q x y
              have i1 : ((q.length + 1 : Nat) : Int) - 1 = (q.length : Int) := by omega
              have hm1 : decide (0 < m) = true := decide_eq_true h0m
              obtain ⟨b, hb45⟩ : ∃ b, s[m - 1] = b := ⟨_, rfl⟩
              rw [hb45] at h45
              rw [flatR_set] at s1
              clear hgA
              rcases hfact with ⟨h, h0⟩ | ⟨h, c, hc, h0⟩ | ⟨h, c, hc, h0, h1⟩ | ⟨h, c, hc, h0, h1, h2⟩
              all_goals
                go_wp2_with fail
                obtain ⟨k1, k2, k3⟩ := grown_keep' hb hz hlt (own_base hown4 g rfl) s2
                exact ⟨⟨k + 1, q ++ [(x, n)], by omega, by go_num, hnx.out.symm, by simp; omega, by simpa using s1, k1, k2, k3⟩, by simp [intOf]; omega⟩
            · rw [hnl] at hnx
              clear hnl hcl hrd
              have hc5 : w.heap.size + 1 ≤ (wr.alloc (.cells #[.int .i64 (n : Int), .int .i64 (n : Int)] 117)).heap.size := by simp; omega
              obtain ⟨A, c4, rfl⟩ := own_slice hown
              have hwhy2 : (decide (0 < m) = false) ∨ ((0 < m ∧ decide (0 < m) = true) ∧ ∃ (hx : m - 1 < s.size) (b : UInt8), s[m - 1] = b ∧ ((b.toNat : Int) == 45) = false) ∨ ((0 < m ∧ decide (0 < m) = true) ∧ (∃ (hx : m - 1 < s.size) (b : UInt8), s[m - 1] = b ∧ ((b.toNat : Int) == 45) = true) ∧ decide (0 < rs.length) = false) := by
                rcases hwhy with h | ⟨h0, hx, h⟩ | ⟨h0, hx, h, hr⟩
                · exact Or.inl (decide_eq_false (by omega))
                · exact Or.inr (Or.inl ⟨⟨h0, decide_eq_true h0⟩, hx, _, rfl, h⟩)
                · exact Or.inr (Or.inr ⟨⟨h0, decide_eq_true h0⟩, ⟨hx, _, rfl, h⟩, by rw [hr]; rfl⟩)
              clear hwhy
              rcases hfact with ⟨h, h0⟩ | ⟨h, c, hc, h0⟩ | ⟨h, c, hc, h0, h1⟩ | ⟨h, c, hc, h0, h1, h2⟩
              all_goals
                rcases hwhy2 with g0 | ⟨⟨g4, g0⟩, g1, b, hb45, g2⟩ | ⟨⟨g4, g0⟩, ⟨g1, b, hb45, g2⟩, g3⟩
                all_goals
                  go_wp2_with (at_builtin; refine wpList_append_own _ rfl _ _ 88 rfl (w.heap.size + 1) 117 i0 (.agg #[.int .i64 0, .int .i64 0]) 2 16 Tryz.underlying88 hi0 hz0 hzz1 hz2 rfl (by decide) _ _ _ rfl (hown.alloc _) ⟨wr.heap.size, 0, none⟩ 1 1 [.int .i64 (n : Int), .int .i64 (n : Int)] rfl rfl (news2 _ _ _ _) (two_int _ _ _) (by unfold maxLen; omega) (by omega) hc5 ?_; intro v' w5 hown5 hgrow _)
                  obtain ⟨k1, k2, k3⟩ := grown_keep hb hz hlt hown hgrow
                  exact ⟨⟨k + 1, rs ++ [(n, n)], by omega, by go_num, hnx.out.symm, by simp; omega, by rw [flatR_append, List.length_append]; exact hown5, k1, k2, k3⟩, by simp [intOf]; omega⟩
    · have hgo : decide ((m : Int) < (s.size : Int)) = false := decide_eq_false (by omega)
      have hRv : refReadN L = some rs := by
        rw [hR.out, ← hrd, show L.drop m = [] from List.drop_eq_nil_of_le (by omega), rdC_nil]
      obtain ⟨A, c, rfl⟩ := own_slice hown
      have hiff := read_iff (rd := refRead) refRead_print L
      have hrv : refRead L = some (intR rs) := by unfold refRead; rw [hRv]; rfl
      rw [hrv] at hiff
      have hM := fun W (hW : Below wr.heap.size wr W) => refMake_calls (intR rs) A c (by rw [rngs_I]; omega) W ((rd_of_rng (base := w.heap.size + 1) (c := c) hown).below hW)
      rw [rngs_I] at hM
      generalize intR rs = l at *
      clear hrv hRv hrd hown hR0 hget
      go_wp2_with fail
      refine (hM _ (Below.refl _ _)).mono ?_
      rintro e w2 ⟨hP, hb2⟩
      have hz2' : w2.heap[w.heap.size]? = some (.cells Tryz.zeroCells43 43 (0, 0)) := (hb2.block _ hlt).trans hz
      have hlt2 : w.heap.size < w2.heap.size := Nat.lt_of_lt_of_le hlt hb2.size
      have hbw2 := hb.trans (hb2.mono hb.size)
      clear hM hb2 hz hlt hb
      cases hok : okR l with
      | false =>
        rw [hok, if_neg (by decide)] at hP
        subst hP
        have hno : ∀ H, printH H ≠ L := fun H e => by
          obtain ⟨l', e1, e2, _⟩ := hiff.1 ⟨H, e⟩
          simp at e1
          subst e1
          rw [hok] at e2; cases e2
        replace hno := Lib.hid hno
        clear hiff
        have hz3 : ((w2.alloc (.cells Tryz.zeroCells43 43)).setRow w2.heap.size Tryz.zeroCells43).heap[w.heap.size]? = some (.cells Tryz.zeroCells43 43 (0, 0)) := (setRow_other _ _ _ _ (by omega)).trans (((below_new' w2 _).block _ hlt2).trans hz2')
        have hbw3 : Below w.heap.size w ((w2.alloc (.cells Tryz.zeroCells43 43)).setRow w2.heap.size Tryz.zeroCells43) := below_setRow (hbw2.trans ((below_new' w2 _).mono hbw2.size)) hbw2.size _
        go_wp2_with (first | (refine wpList_store_row rfl 43 _ _ rfl (w2.heap.size) Tryz.zeroCells43 rfl rfl 43 Tryz.zeroCells43 (heapN w2 _) hiZ rfl hzo ?_) | (refine wpList_store_row rfl 43 _ _ rfl (w.heap.size) Tryz.zeroCells43 rfl rfl 43 Tryz.zeroCells43 hz3 hiZ rfl hzo ?_))
        refine bodyPost_ret (v := .tuple #[.agg Tryz.zeroCells43, .int .i64 20]) (results_cell_row2 Tryz.results43 _ _ w.heap.size 43 Tryz.zeroCells43 (0, 0) _ _ rfl rfl (setRow_heap _ _ _ _ _ _ hz3) Tryz.underlying43 rfl hiZ) rfl ⟨Or.inr ⟨hno.out, rfl⟩, below_setRow hbw3 (Nat.le_refl _) _⟩
      | true =>
        rw [hok, if_pos rfl] at hP
        obtain ⟨a, f, rfl, ha, hfl2⟩ := hP
        have hpr := printH_congr hfl2
        have hia : (Tryz.prog.info? 43).map (·.size) = some a.size := by rw [ha.size]; exact info30
        have hza : Tryz.zeroCells43.size = a.size := by rw [ha.size]; exact zero_size
        have ho := ha.one
        have hz3 : ((w2.alloc (.cells Tryz.zeroCells43 43)).setRow w2.heap.size a).heap[w.heap.size]? = some (.cells Tryz.zeroCells43 43 (0, 0)) := (setRow_other _ _ _ _ (by omega)).trans (((below_new' w2 _).block _ hlt2).trans hz2')
        have hbn : Below w2.heap.size w2 ((w2.alloc (.cells Tryz.zeroCells43 43)).setRow w2.heap.size a) := below_setRow (below_new' w2 _) (Nat.le_refl _) _
        have hbw3 : Below w.heap.size w ((w2.alloc (.cells Tryz.zeroCells43 43)).setRow w2.heap.size a) := hbw2.trans (hbn.mono hbw2.size)
        have ha3 : ((w2.alloc (.cells Tryz.zeroCells43 43)).setRow w2.heap.size a).heap[w2.heap.size]? = some (.cells a 43 (0, 0)) := setRow_heap _ _ _ _ _ _ (heapN w2 _)
        have hl3 : w2.heap.size < ((w2.alloc (.cells Tryz.zeroCells43 43)).setRow w2.heap.size a).heap.size := by simp [World.setRow]
        clear hfl2 hbn hbw2 hz2'
        have hPr := fun W => refPrint_calls a f ha W
        have hsame : (printH (hasN f) = L) ∨ ((∀ H, printH H ≠ L) ∧ printH (hasN f) ≠ L) := by
          by_cases h : printH (hasN f) = L
          · exact Or.inl h
          · refine Or.inr ⟨fun H e => ?_, h⟩
            obtain ⟨l', e1, e2, e3⟩ := hiff.1 ⟨H, e⟩
            simp at e1
            subst e1
            rw [hpr] at h
            exact h e3
        clear hiff hpr
        have hpe : (⟨(printH (hasN f)).toArray⟩ : ByteArray).data.toList = printH (hasN f) := rfl
        have hcmp := str_eq_list ⟨(printH (hasN f)).toArray⟩ s
        rw [hpe, hL.out] at hcmp
        clear hpe
        generalize hTT : (⟨(printH (hasN f)).toArray⟩ : ByteArray) = tt at *
        replace hTT := Lib.hid hTT
        go_wp2_with (first | (refine wpList_store_row rfl 43 _ _ rfl (w2.heap.size) a rfl rfl 43 Tryz.zeroCells43 (heapN w2 _) hia hza ho ?_) | (refine wpList_load_row_g (by first | rfl | simp [Region.wanted, yielded]) 43 _ rfl w2.heap.size rfl 43 a (0, 0) _ ha3 Tryz.underlying43 rfl hia ?_))
        refine (hPr _).mono ?_
        rintro e w5 ⟨rfl, hb5⟩
        have hz5 := (hb5.block _ (show w.heap.size < _ by omega)).trans hz3
        have ha5 := (hb5.block _ hl3).trans ha3
        have hbw5 := hbw3.trans (hb5.mono hbw3.size)
        generalize hW3 : (w2.alloc (.cells Tryz.zeroCells43 43)).setRow w2.heap.size a = w3 at *
        clear hW3 hPr hb5 hz3 ha3 hbw3
        rcases hsame with hS | ⟨hno, hS⟩
        · rw [decide_eq_true hS] at hcmp
          have hcmp2 : (tt.toList != s.toList) = false := by rw [bne, hcmp]; rfl
          replace hS := Lib.hid hS
          go_wp2_with (first | (refine wpList_load_row rfl 43 _ rfl w2.heap.size rfl 43 a (0, 0) _ ha5 Tryz.underlying43 rfl hia ?_) | (refine wpList_store_row rfl 43 _ _ rfl (w.heap.size) a rfl rfl 43 Tryz.zeroCells43 hz5 hia hza ho ?_))
          refine bodyPost_ret (v := .tuple #[.agg a, .int .i64 0]) (results_cell_row2 Tryz.results43 _ _ w.heap.size 43 a (0, 0) _ _ rfl rfl (setRow_heap _ _ _ _ _ _ hz5) Tryz.underlying43 rfl hia) rfl ⟨Or.inl ⟨a, f, rfl, ha, hS.out⟩, below_setRow hbw5 (Nat.le_refl _) _⟩
        · rw [decide_eq_false hS] at hcmp
          have hcmp2 : (tt.toList != s.toList) = true := by rw [bne, hcmp]; rfl
          replace hno := Lib.hid hno
          clear hS
          go_wp2_with (refine wpList_store_row rfl 43 _ _ rfl (w.heap.size) Tryz.zeroCells43 rfl rfl 43 Tryz.zeroCells43 hz5 hiZ rfl hzo ?_)
          refine bodyPost_ret (v := .tuple #[.agg Tryz.zeroCells43, .int .i64 20]) (results_cell_row2 Tryz.results43 _ _ w.heap.size 43 Tryz.zeroCells43 (0, 0) _ _ rfl rfl (setRow_heap _ _ _ _ _ _ hz5) Tryz.underlying43 rfl hiZ) rfl ⟨Or.inr ⟨hno.out, rfl⟩, below_setRow hbw5 (Nat.le_refl _) _⟩
end Go.Proofs.YtgdcnenlelckhaaGreatDoor

namespace Go.Proofs.YtgdcnenlelckhaaGreatDoor
open Go.RowKit Go.Proofs.YtgdcnenlelckhaaGreatDoorW.PrintWords
def halvesN : List Nat := [0, 4129, 8258, 12387, 16516, 20645, 24774, 28903, 33032, 37161, 41290, 45419, 49548, 53677, 57806, 61935]
def nib (c : Nat) : Nat := (c * 16 % 65536) ^^^ halvesN.getD (c / 4096) 0
def bit1 (c : Nat) : Nat := if 32768 ≤ c then (c * 2 % 65536) ^^^ 4129 else c * 2
def stepV (c : Nat) (x : UInt8) : Nat := nib (nib (c ^^^ (x.toNat * 256)))
def sumV (c : Nat) (l : List UInt8) : Nat := l.foldl stepV c
theorem nib_all : ((List.range 256).all fun a => (List.range 256).all fun b => decide (nib (a * 256 + b) = bit1 (bit1 (bit1 (bit1 (a * 256 + b))))) && decide (nib (a * 256 + b) < 65536)) = true := by decide +kernel
theorem nib_eq {c : Nat} (h : c < 65536) : nib c = bit1 (bit1 (bit1 (bit1 c))) ∧ nib c < 65536 := by
  have := nib_all
  rw [List.all_eq_true] at this
  have := this (c / 256) (List.mem_range.2 (by omega))
  rw [List.all_eq_true] at this
  have := this (c % 256) (List.mem_range.2 (by omega))
  rw [show c / 256 * 256 + c % 256 = c by omega] at this
  simp only [Bool.and_eq_true, decide_eq_true_eq] at this
  exact this
theorem xor16 {a b : Nat} (h1 : a < 65536) (h2 : b < 65536) : a ^^^ b < 65536 := Nat.xor_lt_two_pow (n := 16) h1 h2
theorem step_lt {c : Nat} (h : c < 65536) (x : UInt8) : stepV c x < 65536 := by
  have hx := x.toNat_lt
  exact (nib_eq (nib_eq (xor16 h (by omega))).2).2
theorem sum_lt (l : List UInt8) : ∀ {c : Nat}, c < 65536 → sumV c l < 65536 := by
  induction l with
  | nil => intro c h; exact h
  | cons x l ih => intro c h; exact ih (step_lt h x)
theorem sum_snoc (c : Nat) (l : List UInt8) (x : UInt8) : sumV c (l ++ [x]) = stepV (sumV c l) x := by simp [sumV, List.foldl_append]
theorem wrap16 (n : Int) : IntKind.u16.wrap n = n % 65536 := by simp [IntKind.wrap, IntKind.bits, IntKind.signed]
theorem bits_xor16 (a b : Nat) (h1 : a < 65536) (h2 : b < 65536) : bits .xor .u16 (a : Int) (b : Int) = ((a ^^^ b : Nat) : Int) := by
  show IntKind.u16.wrap ((((BitVec.ofInt 16 (a : Int)) ^^^ (BitVec.ofInt 16 (b : Int))).toNat : Nat) : Int) = _
  rw [BitVec.ofInt_natCast, BitVec.ofInt_natCast, BitVec.toNat_xor, BitVec.toNat_ofNat, BitVec.toNat_ofNat, Nat.mod_eq_of_lt (by simpa using h1), Nat.mod_eq_of_lt (by simpa using h2), wrap16]
  have := xor16 h1 h2
  omega
set_option maxHeartbeats 1000000 in
theorem More_calls (c : Nat) (hc : c < 65536) (g cap : Nat) (l : List UInt8) (w : World) (hl : l.length ≤ 9223372036854775807) (hcells : ∀ j, j < l.length → w.cell? ⟨g, j, none⟩ = some (.int .u8 ((l.getD j 0).toNat : Int))) (hE : Env w) :
    Calls Tryz.prog 106 #[.int .u16 (c : Int), .slice (some ⟨g, 0, none⟩) l.length cap] w fun e w' => e = .returned (.int .u16 ((sumV c l : Nat) : Int)) ∧ w = w' := by
  have htab : ∀ i, i < 16 → w.cell? ⟨3, i, none⟩ = some (.int .u16 ((halvesN.getD i 0 : Nat) : Int)) := fun i hi => by
    rw [hE.hlv.cell gHlv i hi]
    have : ∀ i, i < 16 → halvesTab.getD i 0 = ((halvesN.getD i 0 : Nat) : Int) := by decide
    rw [this i hi]
  replace htab := Lib.hid htab
  replace hcells := Lib.hid hcells
  go_enter Tryz.func106, Tryz.ntmps106
  go_wp2_with fail
  go_loop [0, 9] (fun s i => ∃ k : Nat, k ≤ l.length ∧ i = .int .i64 k ∧ s = .int .u16 ((sumV c (l.take k) : Nat) : Int)) (fun _ i => l.length - (intOf i).toNat)
  case atStart => exact ⟨0, by omega, rfl, rfl⟩
  case round =>
    obtain ⟨k, hk, rfl, rfl⟩ := hrel
    have hs := sum_lt (l.take k) hc
    by_cases hkl : k < l.length
    · have hcell := hcells.out k hkl
      have hx := (l.getD k 0).toNat_lt
      have hnext : sumV c (l.take (k + 1)) = nib (nib (sumV c (l.take k) ^^^ ((l.getD k 0).toNat * 256))) := by
        rw [List.take_succ_eq_append_getElem hkl, sum_snoc]
        simp [stepV, List.getD, hkl]
      generalize sumV c (l.take k) = S at *
      generalize (l.getD k 0).toNat = X at *
      have hX : X < 256 := by omega
      have e1 : IntKind.u16.wrap (X : Int) = (X : Int) := by rw [wrap16]; omega
      have e2 : IntKind.u16.wrap ((X : Int) * 256) = ((X * 256 : Nat) : Int) := by rw [wrap16]; omega
      have hY : X * 256 < 65536 := by omega
      generalize X * 256 = Y at *
      have e3 := bits_xor16 S Y hs hY
      have hC := xor16 hs hY
      generalize S ^^^ Y = C at *
      have e4 : IntKind.u16.wrap ((C : Int) * 16) = ((C * 16 % 65536 : Nat) : Int) := by rw [wrap16]; omega
      have c1 := htab.out (C / 4096) (by omega)
      have hH : ∀ i, i < 16 → halvesN.getD i 0 < 65536 := by decide
      have hH1 := hH (C / 4096) (by omega)
      have e6 := bits_xor16 (C * 16 % 65536) (halvesN.getD (C / 4096) 0) (by omega) hH1
      have hN1 : (C * 16 % 65536) ^^^ halvesN.getD (C / 4096) 0 = nib C := rfl
      rw [hN1] at e6
      have hn1 := (nib_eq hC).2
      have b1 : (0 : Int) ≤ (C : Int) / 4096 := by omega
      have b2 : (C : Int) / 4096 < 16 := by omega
      clear hN1
      generalize nib C = D at *
      generalize C * 16 % 65536 = C16 at *
      generalize halvesN.getD (C / 4096) 0 = H1 at *
      have e7 : IntKind.u16.wrap ((D : Int) * 16) = ((D * 16 % 65536 : Nat) : Int) := by rw [wrap16]; omega
      have c2 := htab.out (D / 4096) (by omega)
      have e9 := bits_xor16 (D * 16 % 65536) (halvesN.getD (D / 4096) 0) (by omega) (hH (D / 4096) (by omega))
      have hN2 : (D * 16 % 65536) ^^^ halvesN.getD (D / 4096) 0 = nib D := rfl
      rw [hN2] at e9
      have b3 : (0 : Int) ≤ (D : Int) / 4096 := by omega
      have b4 : (D : Int) / 4096 < 16 := by omega
      clear hN2 hH
      generalize nib D = E at *
      generalize D * 16 % 65536 = D16 at *
      generalize halvesN.getD (D / 4096) 0 = H2 at *
      replace hnext := Lib.hid hnext
      go_wp2_with fail
      case roundEnd => exact ⟨⟨k + 1, by omega, by go_num, by rw [hnext.out]⟩, by simp [intOf]; omega⟩
    · obtain rfl : k = l.length := by omega
      go_wp2_with fail
      go_ret
      exact ⟨rfl, rfl⟩
/-! ### bit by bit -/
theorem bit1_lt {c : Nat} (h : c < 65536) : bit1 c < 65536 := by
  unfold bit1
  split
  · exact xor16 (by omega) (by decide)
  · omega
theorem l1_step (k c : Nat) (hc : c < 65536) (xs : List Int) (i : Int) (j : Nat) (hj : j < 8) :
    RSm.marshalyardref01_More.l1 (k + 1) (c : Int) xs i (j : Int) = RSm.marshalyardref01_More.l1 k ((bit1 c : Nat) : Int) xs i ((j + 1 : Nat) : Int) := by
  rw [RSm.marshalyardref01_More.l1, if_pos (by omega), w64 (x := (j : Int) + 1) (by omega) (by omega)]
  have hw : IntKind.u16.wrap ((c : Int) * 2) = ((c * 2 % 65536 : Nat) : Int) := by rw [wrap16]; omega
  rw [hw]
  unfold bit1
  by_cases h : 32768 ≤ c
  · have := bits_xor16 (c * 2 % 65536) 4129 (by omega) (by decide)
    rw [if_pos (by omega), if_pos h]
    rw [show ((4129 : Nat) : Int) = 4129 from rfl] at this
    rw [this]
    rfl
  · rw [if_neg (by omega), if_neg h, show c * 2 % 65536 = c * 2 by omega]
    rfl
theorem l1_all (k c : Nat) (hc : c < 65536) (xs : List Int) (i : Int) :
    RSm.marshalyardref01_More.l1 (k + 9) (c : Int) xs i 0 = RSm.marshalyardref01_More.l0 k ((nib (nib c) : Nat) : Int) xs (Go.RowKit.wrap64 (i + 1)) := by
  have b1 := bit1_lt hc
  have b2 := bit1_lt b1
  have b3 := bit1_lt b2
  have b4 := bit1_lt b3
  have b5 := bit1_lt b4
  have b6 := bit1_lt b5
  have b7 := bit1_lt b6
  have e0 := l1_step (k + 8) c hc xs i 0 (by omega)
  rw [show ((0 : Nat) : Int) = 0 from rfl] at e0
  rw [e0, l1_step (k + 7) _ b1 xs i 1 (by omega), l1_step (k + 6) _ b2 xs i 2 (by omega), l1_step (k + 5) _ b3 xs i 3 (by omega), l1_step (k + 4) _ b4 xs i 4 (by omega),
    l1_step (k + 3) _ b5 xs i 5 (by omega), l1_step (k + 2) _ b6 xs i 6 (by omega), l1_step (k + 1) _ b7 xs i 7 (by omega)]
  rw [RSm.marshalyardref01_More.l1, if_neg (by decide)]
  have n1 := nib_eq hc
  have n2 := nib_eq n1.2
  rw [n2.1, n1.1]
theorem l0_all (l : List UInt8) : ∀ (d i k c : Nat), d = l.length - i → i ≤ l.length → l.length ≤ 9223372036854775806 → c < 65536 → 10 * d + 1 ≤ k →
    RSm.marshalyardref01_More.l0 k (c : Int) (l.map fun b => (b.toNat : Int)) (i : Int) = some ((sumV c (l.drop i) : Nat) : Int) := by
  intro d
  induction d with
  | zero =>
    intro i k c hd hi hl hc hk
    obtain ⟨k, rfl⟩ : ∃ q, k = q + 1 := ⟨k - 1, by omega⟩
    rw [RSm.marshalyardref01_More.l0, if_neg (by rw [List.length_map]; omega), List.drop_eq_nil_of_le (by omega)]
    rfl
  | succ d ih =>
    intro i k c hd hi hl hc hk
    obtain ⟨k, rfl⟩ : ∃ q, k = q + 9 + 1 := ⟨k - 10, by omega⟩
    have hil : i < l.length := by omega
    have hx := (l[i]).toNat_lt
    have hrd : rd (l.map fun b => (b.toNat : Int)) (i : Int) = ((l[i]).toNat : Int) := by
      unfold rd
      simp [List.getD, hil]
    have hw1 : IntKind.u16.wrap (((l[i]).toNat : Int)) = ((l[i]).toNat : Int) := by rw [wrap16]; omega
    have hw2 : IntKind.u16.wrap (((l[i]).toNat : Int) * 256) = (((l[i]).toNat * 256 : Nat) : Int) := by rw [wrap16]; omega
    rw [RSm.marshalyardref01_More.l0, if_pos (by rw [List.length_map]; omega), if_pos (by omega), hrd, hw1, hw2, bits_xor16 _ _ hc (by omega), l1_all k _ (xor16 hc (by omega)), w64 (by omega) (by omega)]
    have := ih (i + 1) k (stepV c l[i]) (by omega) (by omega) hl (step_lt hc _) (by omega)
    rw [List.drop_eq_getElem_cons hil]
    exact this
theorem f_all (l : List UInt8) (hl : l.length ≤ 9223372036854775806) : RSm.marshalyardref01_More.f (10 * l.length + 1) 0 (l.map fun b => (b.toNat : Int)) = some ((sumV 0 l : Nat) : Int) := by
  have h := l0_all l l.length 0 (10 * l.length + 1) 0 (by omega) (by omega) hl (by decide) (by omega)
  rw [List.drop_zero] at h
  exact h
theorem refMore_calls (A : Option Addr) (cap : Nat) (l : List UInt8) (w : World) (hl : l.length ≤ 9223372036854775806) (hcap : l.length ≤ cap) (hr : ReadsInt w .u8 A l.length (l.map fun b => (b.toNat : Int))) :
    Calls Tryz.prog 88 #[.int .u16 0, .slice A l.length cap] w fun e w' => e = .returned (.int .u16 ((sumV 0 l : Nat) : Int)) ∧ Below w.heap.size w w' := by
  have h := RSm.marshalyardref01_More.calls (10 * l.length + 1) 0 A cap (l.map fun b => (b.toNat : Int)) ((sumV 0 l : Nat) : Int) w
    (by rw [List.length_map]; exact Kd.C_of_reads (d := (0 : Int)) (h1 := fun _ => rfl) hr) (by rw [List.length_map]; exact hcap) (f_all l hl)
  rw [List.length_map] at h
  exact h.mono fun e w' hh => ⟨hh.1, hh.2.below⟩
/-- bytes of a string, as a slice of the call's own -/
theorem bytes_at (W : World) (T : List UInt8) (hT : T.length ≤ 9223372036854775807) : ReadsInt (Lib.bytesWorld W 5 ⟨T.toArray⟩) .u8 (some ⟨W.heap.size, 0, none⟩) T.length (T.map fun b => (b.toNat : Int)) := by
  have := bytes_reads W 5 ⟨T.toArray⟩ (by rw [size_mk]; exact hT)
  rw [size_mk] at this
  exact this
theorem bytes_cell (W : World) (T : List UInt8) (j : Nat) (hj : j < T.length) : (Lib.bytesWorld W 5 ⟨T.toArray⟩).cell? ⟨W.heap.size, j, none⟩ = some (.int .u8 ((T.getD j 0).toNat : Int)) := by
  rw [Lib.bytesWorld_cell W 5 ⟨T.toArray⟩ j (by rw [size_mk]; exact hj)]
theorem conv_bytes (T : List UInt8) (W : World) : (convert 9 126 (.string ⟨T.toArray⟩)).run Tryz.prog W = .ok (.slice (some ⟨W.heap.size, 0, none⟩) T.length (grownCap W T.length 0 5)) (Lib.bytesWorld W 5 ⟨T.toArray⟩) := by
  have := print_bytes (P := Tryz.prog) 9 126 5 Tryz.underlying9 Tryz.underlying126 Tryz.underlying5 ⟨T.toArray⟩ W
  rw [size_mk] at this
  exact this
theorem Sum_calls (g cap : Nat) (l : List UInt8) (w : World) (hl : l.length ≤ 9223372036854775807) (hcells : ∀ j, j < l.length → w.cell? ⟨g, j, none⟩ = some (.int .u8 ((l.getD j 0).toNat : Int))) (hE : Env w) :
    Calls Tryz.prog 95 #[.slice (some ⟨g, 0, none⟩) l.length cap] w fun e w' => e = .returned (.int .u16 ((sumV 0 l : Nat) : Int)) ∧ w = w' := by
  have hM := More_calls 0 (by decide) g cap l w hl hcells hE
  replace hcells := Lib.hid hcells
  go_enter Tryz.func95, Tryz.ntmps95
  go_wp2_with fail
  refine hM.mono ?_
  rintro e w2 ⟨rfl, rfl⟩
  go_wp2_with fail
  go_ret
  exact ⟨rfl, rfl⟩
theorem refSum_calls (A : Option Addr) (cap : Nat) (l : List UInt8) (w : World) (hl : l.length ≤ 9223372036854775806) (hcap : l.length ≤ cap) (hr : ReadsInt w .u8 A l.length (l.map fun b => (b.toNat : Int))) :
    Calls Tryz.prog 71 #[.slice A l.length cap] w fun e w' => e = .returned (.int .u16 ((sumV 0 l : Nat) : Int)) ∧ Below w.heap.size w w' := by
  have hM := refMore_calls A cap l w hl hcap hr
  replace hr := Lib.hid hr
  go_enter Tryz.func71, Tryz.ntmps71
  go_wp2_with fail
  refine hM.mono ?_
  rintro e w2 ⟨rfl, hb⟩
  go_wp2_with fail
  go_ret
  exact ⟨rfl, hb⟩
theorem ret_int {k : IntKind} {a b : Int} (h : a = b) : Ending.returned (.int k a) = .returned (.int k b) := by rw [h]
end Go.Proofs.YtgdcnenlelckhaaGreatDoor
