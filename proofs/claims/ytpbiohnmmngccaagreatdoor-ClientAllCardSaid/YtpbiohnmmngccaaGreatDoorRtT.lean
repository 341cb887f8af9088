/- Walks of route.word, route.Text and the reference's Text: what they come to. Conditions: whole numbers of 64 bits; the listed variables as laid. -/
import Derived.Test.YtpbiohnmmngccaaGreatDoorRtR
import Derived.Test.YtpbiohnmmngccaaGreatDoorBase
import Derived.Test.YtpbiohnmmngccaaGreatDoorWWords
import Derived.WalkKit
import Derived.BigQuiet
import Derived.Deep.QuietTactic
import Derived.Lib.Hide
import Derived.Deep.RegionHeld3
set_option linter.unusedVariables false
set_option linter.unusedSimpArgs false
namespace Go.Proofs.YtpbiohnmmngccaaGreatDoor
open Go.RowKit Go.Proofs.YtpbiohnmmngccaaGreatDoorW.PrintWords
open RtS

abbrev I64 (n : Int) : Prop := -9223372036854775808 ≤ n ∧ n ≤ 9223372036854775807

theorem below_grow (w : World) (k : Nat) (os : Array Obj) : Below w.heap.size w (Sort.grow (w.drewN k) os) := by
  have hh : (w.drewN k).heap = w.heap := rfl
  refine ⟨rfl, rfl, rfl, ?_, fun i hi => ?_⟩
  · show w.heap.size ≤ ((w.drewN k).heap ++ os).size
    rw [hh, Array.size_append]; omega
  · show ((w.drewN k).heap ++ os)[i]? = _
    rw [hh, Array.getElem?_append_left hi]
theorem Itoa_calls (n : Int) (h0 : -9223372036854775808 ≤ n) (h1 : n ≤ 9223372036854775807) (w : World) (hE : Env w) :
    Calls Tryz.prog 46 #[.int .i64 n] w fun e w' => e = .returned (.string ⟨(Lib.itoa n).toArray⟩) ∧ Below w.heap.size w w' :=
  (Tryz.strconv_Itoa n h0 h1 w hE.pow).mono fun e w' ⟨h, k, os, hw⟩ => ⟨h, by rw [hw]; exact below_grow w k os⟩

set_option maxHeartbeats 1000000 in
theorem word_calls (k : Int) (w : World) :
    Calls Tryz.prog 31 #[.int .i64 k] w fun e w' => e = .returned (.tuple #[.string ⟨(wordV k).toArray⟩, .int .i64 (moreV k : Nat)]) ∧ w = w' := by
  have fin : ∀ (a b : List UInt8) (x y : Nat), a = b → x = y → (Ending.returned (.tuple #[.string ⟨a.toArray⟩, .int .i64 x])) = .returned (.tuple #[.string ⟨b.toArray⟩, .int .i64 y]) := by
    rintro a b x y rfl rfl; rfl
  by_cases h2 : k = 2
  · subst h2
    go_enter Tryz.func31, Tryz.ntmps31
    go_wp2
    go_ret2
    exact ⟨fin [77, 79, 86, 69, 68] _ 2 _ rfl rfl, rfl⟩
  · by_cases h3 : k = 3
    · subst h3
      go_enter Tryz.func31, Tryz.ntmps31
      go_wp2
      go_ret2
      exact ⟨fin [65, 83, 75] _ 3 _ rfl rfl, rfl⟩
    · by_cases h4 : k = 4
      · subst h4
        go_enter Tryz.func31, Tryz.ntmps31
        go_wp2
        go_ret2
        exact ⟨fin [84, 82, 89, 65, 71, 65, 73, 78] _ 0 _ rfl rfl, rfl⟩
      · by_cases h5 : k = 5
        · subst h5
          go_enter Tryz.func31, Tryz.ntmps31
          go_wp2
          go_ret2
          exact ⟨fin [67, 82, 79, 83, 83, 83, 76, 79, 84] _ 0 _ rfl rfl, rfl⟩
        · by_cases h6 : k = 6
          · subst h6
            go_enter Tryz.func31, Tryz.ntmps31
            go_wp2
            go_ret2
            exact ⟨fin [67, 76, 85, 83, 84, 69, 82, 68, 79, 87, 78] _ 0 _ rfl rfl, rfl⟩
          · have hw : Hid (wordV k = []) := by show _ = _; unfold wordV; rw [if_neg h2, if_neg h3, if_neg h4, if_neg h5, if_neg h6]
            have hm : Hid (moreV k = 0) := by show _ = _; unfold moreV; rw [if_neg h2, if_neg h3]
            have b2 : (k == 2) = false := by rw [beq_eq_false_iff_ne]; exact h2
            have b3 : (k == 3) = false := by rw [beq_eq_false_iff_ne]; exact h3
            have b4 : (k == 4) = false := by rw [beq_eq_false_iff_ne]; exact h4
            have b5 : (k == 5) = false := by rw [beq_eq_false_iff_ne]; exact h5
            have b6 : (k == 6) = false := by rw [beq_eq_false_iff_ne]; exact h6
            clear h2 h3 h4 h5 h6
            go_enter Tryz.func31, Tryz.ntmps31
            go_wp2
            go_ret2
            exact ⟨fin [] _ 0 _ hw.out.symm hm.out.symm, rfl⟩

theorem itoa_len (n : Int) (hn : I64 n) : (⟨(Lib.itoa n).toArray⟩ : ByteArray).size ≤ 21 := by
  have := Lib.itoa_length_le n hn.1 hn.2
  rw [R04P.size_mk]; exact this

theorem str3 (a b c : List UInt8) : Value.string (⟨(a ++ b).toArray⟩ ++ ((⟨#[32]⟩ : ByteArray) ++ ⟨c.toArray⟩)) = .string ⟨(a ++ (b ++ 32 :: c)).toArray⟩ := by
  have e1 : ((⟨#[32]⟩ : ByteArray) ++ ⟨c.toArray⟩) = ⟨(32 :: c).toArray⟩ := R04P.ba_append [32] c
  rw [e1, R04P.ba_append, List.append_assoc]
set_option maxHeartbeats 1000000 in
theorem Text_calls (k s n t : Int) (hs : I64 s) (hn : I64 n) (ht : I64 t) (w : World) (hE : Env w) :
    Calls Tryz.prog 33 #[.agg #[.int .i64 k, .int .i64 s, .int .i64 n, .int .i64 t]] w fun e w' => e = .returned (.string ⟨(textV k s n t).toArray⟩) ∧ Below w.heap.size w w' := by
  have hw := word_calls k
  have hm3 : moreV k ≤ 3 := by unfold moreV; split <;> (try split) <;> omega
  have hT : Hid (textV k s n t = wordV k ++ joinT (([s, n, t].take (moreV k)).map Lib.itoa)) := rfl
  have hwl : (wordV k).length ≤ 11 := by unfold wordV; repeat' split
                                         all_goals decide
  generalize wordV k = W0 at *
  generalize moreV k = m at *
  generalize textV k s n t = T at *
  go_enter Tryz.func33, Tryz.ntmps33
  go_wp2_with (go_at_call 31; refine (hw _).mono ?_; rintro e w1 ⟨rfl, rfl⟩)
  go_loopw [3, 25] (fun acc i wr => ∃ j : Nat, j ≤ m ∧ i = .int .i64 j ∧ acc = .string ⟨(W0 ++ joinT (([s, n, t].take j).map Lib.itoa)).toArray⟩ ∧ Below w.heap.size w wr ∧
      (∀ x, x < 3 → wr.cell? ⟨w.heap.size + 1, x, none⟩ = some (.int .i64 ([s, n, t].getD x 0)))) (fun _ i _ => m - (intOf i).toNat)
  case atStart =>
    refine ⟨0, Nat.zero_le _, rfl, by simp [joinT], by repeat (first | exact Below.refl _ _ | apply below_alloc | apply pw_below_drewN), ?_⟩
    intro x hx
    have : x = 0 ∨ x = 1 ∨ x = 2 := by omega
    rcases this with rfl | rfl | rfl <;> simp [go_sem]
  case round =>
    obtain ⟨j, hj, rfl, rfl, hb, hcell⟩ := hrel
    by_cases hjm : j < m
    · have hck := hcell j (by omega)
      have hv : I64 ([s, n, t].getD j 0) := by
        have : j = 0 ∨ j = 1 ∨ j = 2 := by omega
        rcases this with rfl | rfl | rfl
        · exact hs
        · exact hn
        · exact ht
      have hI := Itoa_calls _ hv.1 hv.2
      have hil : (Lib.itoa ([s, n, t].getD j 0)).length ≤ 21 := Lib.itoa_length_le _ hv.1 hv.2
      have hstep : Hid (joinT (([s, n, t].take (j + 1)).map Lib.itoa) = joinT (([s, n, t].take j).map Lib.itoa) ++ (32 :: Lib.itoa ([s, n, t].getD j 0))) := by
        show _ = _
        have : j = 0 ∨ j = 1 ∨ j = 2 := by omega
        rcases this with rfl | rfl | rfl <;> simp [joinT]
      generalize [s, n, t].getD j 0 = x at *
      generalize hacc : joinT (([s, n, t].take j).map Lib.itoa) = acc at *
      have Hcell := Lib.hid hcell
      have Hacc := Lib.hid hacc
      clear hcell hacc
      go_wp2_with fail
      refine (hI _ (hE.below hb)).mono ?_
      rintro e w1 ⟨rfl, hb1⟩
      have hb2 := hb.trans (hb1.mono hb.size)
      have hl2 : acc.length ≤ 66 := by
        rw [← Hacc.out]
        have l0 := itoa_len s hs
        have l1 := itoa_len n hn
        have l2 := itoa_len t ht
        rw [R04P.size_mk] at l0 l1 l2
        have : j = 0 ∨ j = 1 ∨ j = 2 := by omega
        rcases this with rfl | rfl | rfl <;> simp [joinT] <;> omega
      have Hb2 := Lib.hid hb2
      clear hb2
      go_wp2
      go_roundw
      case rel =>
        refine ⟨j + 1, by omega, by go_num, ?_, Hb2.out, ?_⟩
        · rw [hstep.out]
          exact str3 W0 acc (Lib.itoa x)
        · intro y hy
          rw [hb1.cell (p := ⟨w.heap.size + 1, y, none⟩) (World.block_lt_of_cell? wr _ (Hcell.out y hy))]
          exact Hcell.out y hy
      case measure => simp [intOf]; omega
    · obtain rfl : j = m := by omega
      go_wp2
      go_ret
      exact ⟨by rw [hT.out]; rfl, hb⟩

theorem Digits_calls (n : Int) (hn : I64 n) (w : World) :
    Calls Tryz.prog 47 #[.int .i64 n] w fun e w' => e = .returned (.string ⟨(Lib.itoa n).toArray⟩) ∧ Below w.heap.size w w' :=
  RR04.marshalyardref04_Digits.calls 19 n _ w (R04P.digits_eq n 19 hn.1 hn.2 (by omega))

theorem tailstr (a b : List UInt8) : ((((⟨#[32]⟩ : ByteArray) ++ ⟨a.toArray⟩) ++ (⟨#[32]⟩ : ByteArray)) ++ ⟨b.toArray⟩) = ⟨(joinT [a, b]).toArray⟩ := by
  have e1 : ((⟨#[32]⟩ : ByteArray) ++ ⟨a.toArray⟩) = ⟨(32 :: a).toArray⟩ := R04P.ba_append [32] a
  have e2 : (⟨(32 :: a).toArray⟩ : ByteArray) ++ (⟨#[32]⟩ : ByteArray) = ⟨(32 :: a ++ [32]).toArray⟩ := R04P.ba_append (32 :: a) [32]
  rw [e1, e2, R04P.ba_append]
  simp [joinT]
theorem tail3 (a b c : List UInt8) : ((⟨(joinT [a, b]).toArray⟩ : ByteArray) ++ (⟨#[32]⟩ : ByteArray)) ++ ⟨c.toArray⟩ = ⟨(joinT [a, b, c]).toArray⟩ := by
  have e2 : (⟨(joinT [a, b]).toArray⟩ : ByteArray) ++ (⟨#[32]⟩ : ByteArray) = ⟨(joinT [a, b] ++ [32]).toArray⟩ := R04P.ba_append _ [32]
  rw [e2, R04P.ba_append]
  simp [joinT]
theorem ret_str {a b : ByteArray} (h : a = b) : Ending.returned (.string a) = .returned (.string b) := by rw [h]

theorem keep4 {w W W2 : World} {B : Nat} {z a b c : Option Value} (hS : W.cell? ⟨B, 0, none⟩ = z ∧ W.cell? ⟨B, 1, none⟩ = a ∧ W.cell? ⟨B, 2, none⟩ = b ∧ W.cell? ⟨B, 3, none⟩ = c ∧ B < W.heap.size ∧ Below B w W) (hb : Below W.heap.size W W2) :
    W2.cell? ⟨B, 0, none⟩ = z ∧ W2.cell? ⟨B, 1, none⟩ = a ∧ W2.cell? ⟨B, 2, none⟩ = b ∧ W2.cell? ⟨B, 3, none⟩ = c ∧ B < W2.heap.size ∧ Below B w W2 := by
  obtain ⟨h0, h1, h2, h3, hl, hB⟩ := hS
  exact ⟨(hb.cell (p := ⟨B, 0, none⟩) hl).trans h0, (hb.cell (p := ⟨B, 1, none⟩) hl).trans h1, (hb.cell (p := ⟨B, 2, none⟩) hl).trans h2, (hb.cell (p := ⟨B, 3, none⟩) hl).trans h3, Nat.lt_of_lt_of_le hl hb.size, hB.trans (hb.mono (Nat.le_of_lt hl))⟩
set_option maxHeartbeats 1000000 in
theorem refText_calls (k s n t : Int) (hs : I64 s) (hn : I64 n) (ht : I64 t) (w : World) :
    Calls Tryz.prog 34 #[.agg #[.int .i64 k, .int .i64 s, .int .i64 n, .int .i64 t]] w fun e w' => e = .returned (.string ⟨(textV k s n t).toArray⟩) ∧ Below w.heap.size w w' := by
  have d1 := Digits_calls s hs
  have d2 := Digits_calls n hn
  have d3 := Digits_calls t ht
  have l1 : (Lib.itoa s).length ≤ 21 := Lib.itoa_length_le _ hs.1 hs.2
  have l2 : (Lib.itoa n).length ≤ 21 := Lib.itoa_length_le _ hn.1 hn.2
  have l3 : (Lib.itoa t).length ≤ 21 := Lib.itoa_length_le _ ht.1 ht.2
  have hx : ∀ k', textV k' s n t = wordV k' ++ joinT (([s, n, t].take (moreV k')).map Lib.itoa) := fun _ => rfl
  by_cases h2 : k = 2
  · have hT : Hid (textV k s n t = [77, 79, 86, 69, 68] ++ joinT [Lib.itoa s, Lib.itoa n]) := by show _ = _; subst h2; rfl
    generalize textV k s n t = T at *
    subst h2
    generalize Lib.itoa s = S1 at *
    generalize Lib.itoa n = S2 at *
    generalize Lib.itoa t = S3 at *
    clear hx
    go_enter Tryz.func34, Tryz.ntmps34
    have f1 : 1 + S1.length ≤ 9223372036854775807 := by omega
    have f2 : 1 + S1.length + 1 ≤ 9223372036854775807 := by omega
    have f3 : 1 + S1.length + 1 + S2.length ≤ 9223372036854775807 := by omega
    have g1 : ¬ 9223372036854775807 < 1 + S1.length := by omega
    have g2 : ¬ 9223372036854775807 < 1 + S1.length + 1 := by omega
    have g3 : ¬ 9223372036854775807 < 1 + S1.length + 1 + S2.length := by omega
    have j2 : (joinT [S1, S2]).length ≤ 44 := by simp [joinT]; omega
    go_wp2_with fail
    go_region_held3 (fun w' => w'.cell? ⟨w.heap.size, 0, none⟩ = some (.int .i64 2) ∧ w'.cell? ⟨w.heap.size, 1, none⟩ = some (.int .i64 s) ∧ w'.cell? ⟨w.heap.size, 2, none⟩ = some (.int .i64 n) ∧ w'.cell? ⟨w.heap.size, 3, none⟩ = some (.int .i64 t) ∧ w.heap.size < w'.heap.size ∧ Below w.heap.size w w')
      (first | exact keep4 (by assumption) hb | exact ⟨by simp [go_sem], by simp [go_sem], by simp [go_sem], by simp [go_sem], by simp [go_sem], below_drew (below_alloc (Below.refl _ _) _)⟩)
      (first | (go_at_call 47; (first | (with_reducible refine (d1 _).mono ?_) | (with_reducible refine (d2 _).mono ?_)); rintro e w2 ⟨rfl, hb⟩))
    rw [tailstr]
    go_split_ands
    have hbw : Below w.heap.size w w2 := by assumption
    have hlw : w.heap.size < w2.heap.size := by assumption
    go_wp2
    go_ret
    exact ⟨by rw [hT.out]; exact ret_str (R04P.ba_append [77, 79, 86, 69, 68] _), hbw⟩
  · by_cases h3 : k = 3
    · have hT : Hid (textV k s n t = [65, 83, 75] ++ joinT [Lib.itoa s, Lib.itoa n, Lib.itoa t]) := by show _ = _; subst h3; rfl
      generalize textV k s n t = T at *
      subst h3
      generalize Lib.itoa s = S1 at *
      generalize Lib.itoa n = S2 at *
      generalize Lib.itoa t = S3 at *
      clear hx
      go_enter Tryz.func34, Tryz.ntmps34
      have f1 : 1 + S1.length ≤ 9223372036854775807 := by omega
      have f2 : 1 + S1.length + 1 ≤ 9223372036854775807 := by omega
      have f3 : 1 + S1.length + 1 + S2.length ≤ 9223372036854775807 := by omega
      have g1 : ¬ 9223372036854775807 < 1 + S1.length := by omega
      have g2 : ¬ 9223372036854775807 < 1 + S1.length + 1 := by omega
      have g3 : ¬ 9223372036854775807 < 1 + S1.length + 1 + S2.length := by omega
      have j2 : (joinT [S1, S2]).length ≤ 44 := by simp [joinT]; omega
      go_wp2_with fail
      go_region_held3 (fun w' => w'.cell? ⟨w.heap.size, 0, none⟩ = some (.int .i64 3) ∧ w'.cell? ⟨w.heap.size, 1, none⟩ = some (.int .i64 s) ∧ w'.cell? ⟨w.heap.size, 2, none⟩ = some (.int .i64 n) ∧ w'.cell? ⟨w.heap.size, 3, none⟩ = some (.int .i64 t) ∧ w.heap.size < w'.heap.size ∧ Below w.heap.size w w')
        (first | exact keep4 (by assumption) hb | exact ⟨by simp [go_sem], by simp [go_sem], by simp [go_sem], by simp [go_sem], by simp [go_sem], below_drew (below_alloc (Below.refl _ _) _)⟩)
        (first | (go_at_call 47; (first | (with_reducible refine (d1 _).mono ?_) | (with_reducible refine (d2 _).mono ?_)); rintro e w2 ⟨rfl, hb⟩))
      rw [tailstr]
      go_split_ands
      have hbw : Below w.heap.size w w2 := by assumption
      have hlw : w.heap.size < w2.heap.size := by assumption
      go_wp2_with fail
      refine (d3 _).mono ?_
      rintro e w5 ⟨rfl, hb5⟩
      have j3 : (joinT [S1, S2] ++ [32]).length ≤ 45 := by simp; omega
      go_wp2
      go_ret
      refine ⟨?_, hbw.trans (hb5.mono (Nat.le_of_lt hlw))⟩
      rw [hT.out]
      refine ret_str ?_
      have e1 : (⟨#[65, 83, 75]⟩ : ByteArray) ++ ⟨(joinT [S1, S2]).toArray⟩ = ⟨([65, 83, 75] ++ joinT [S1, S2]).toArray⟩ := R04P.ba_append [65, 83, 75] _
      have e2 : (⟨([65, 83, 75] ++ joinT [S1, S2]).toArray⟩ : ByteArray) ++ (⟨#[32]⟩ : ByteArray) = ⟨(([65, 83, 75] ++ joinT [S1, S2]) ++ [32]).toArray⟩ := R04P.ba_append _ [32]
      rw [e1, e2, R04P.ba_append]
      simp [joinT]
    · have hT : Hid (textV k s n t = wordV k) := by
        show _ = _
        rw [hx]
        have : moreV k = 0 := by unfold moreV; rw [if_neg h2, if_neg h3]
        rw [this]; simp [joinT]
      have b2 : (k == 2) = false := by rw [beq_eq_false_iff_ne]; exact h2
      have b3 : (k == 3) = false := by rw [beq_eq_false_iff_ne]; exact h3
      generalize textV k s n t = T at *
      generalize Lib.itoa s = S1 at *
      generalize Lib.itoa n = S2 at *
      generalize Lib.itoa t = S3 at *
      clear hx
      have f1 : 1 + S1.length ≤ 9223372036854775807 := by omega
      have f2 : 1 + S1.length + 1 ≤ 9223372036854775807 := by omega
      have f3 : 1 + S1.length + 1 + S2.length ≤ 9223372036854775807 := by omega
      have g1 : ¬ 9223372036854775807 < 1 + S1.length := by omega
      have g2 : ¬ 9223372036854775807 < 1 + S1.length + 1 := by omega
      have g3 : ¬ 9223372036854775807 < 1 + S1.length + 1 + S2.length := by omega
      by_cases h4 : k = 4
      · subst h4
        clear b2 b3 h2 h3
        go_enter Tryz.func34, Tryz.ntmps34
        go_wp2_with fail
        go_region_held3 (fun w' => w'.cell? ⟨w.heap.size, 0, none⟩ = some (.int .i64 4) ∧ w'.cell? ⟨w.heap.size, 1, none⟩ = some (.int .i64 s) ∧ w'.cell? ⟨w.heap.size, 2, none⟩ = some (.int .i64 n) ∧ w'.cell? ⟨w.heap.size, 3, none⟩ = some (.int .i64 t) ∧ w.heap.size < w'.heap.size ∧ Below w.heap.size w w')
          (first | exact keep4 (by assumption) hb | exact ⟨by simp [go_sem], by simp [go_sem], by simp [go_sem], by simp [go_sem], by simp [go_sem], below_drew (below_alloc (Below.refl _ _) _)⟩)
          (first | (go_at_call 47; (first | (with_reducible refine (d1 _).mono ?_) | (with_reducible refine (d2 _).mono ?_)); rintro e w2 ⟨rfl, hb⟩))
        rw [tailstr]
        go_split_ands
        have hbw : Below w.heap.size w w2 := by assumption
        go_wp2
        go_ret
        exact ⟨by rw [hT.out]; rfl, hbw⟩
      · have b4 : (k == 4) = false := by rw [beq_eq_false_iff_ne]; exact h4
        by_cases h5 : k = 5
        · subst h5
          clear b2 b3 h2 h3
          go_enter Tryz.func34, Tryz.ntmps34
          go_wp2_with fail
          go_region_held3 (fun w' => w'.cell? ⟨w.heap.size, 0, none⟩ = some (.int .i64 5) ∧ w'.cell? ⟨w.heap.size, 1, none⟩ = some (.int .i64 s) ∧ w'.cell? ⟨w.heap.size, 2, none⟩ = some (.int .i64 n) ∧ w'.cell? ⟨w.heap.size, 3, none⟩ = some (.int .i64 t) ∧ w.heap.size < w'.heap.size ∧ Below w.heap.size w w')
            (first | exact keep4 (by assumption) hb | exact ⟨by simp [go_sem], by simp [go_sem], by simp [go_sem], by simp [go_sem], by simp [go_sem], below_drew (below_alloc (Below.refl _ _) _)⟩)
            (first | (go_at_call 47; (first | (with_reducible refine (d1 _).mono ?_) | (with_reducible refine (d2 _).mono ?_)); rintro e w2 ⟨rfl, hb⟩))
          rw [tailstr]
          go_split_ands
          have hbw : Below w.heap.size w w2 := by assumption
          go_wp2
          go_ret
          exact ⟨by rw [hT.out]; rfl, hbw⟩
        · have b5 : (k == 5) = false := by rw [beq_eq_false_iff_ne]; exact h5
          by_cases h6 : k = 6
          · subst h6
            clear b2 b3 h2 h3
            go_enter Tryz.func34, Tryz.ntmps34
            go_wp2_with fail
            go_region_held3 (fun w' => w'.cell? ⟨w.heap.size, 0, none⟩ = some (.int .i64 6) ∧ w'.cell? ⟨w.heap.size, 1, none⟩ = some (.int .i64 s) ∧ w'.cell? ⟨w.heap.size, 2, none⟩ = some (.int .i64 n) ∧ w'.cell? ⟨w.heap.size, 3, none⟩ = some (.int .i64 t) ∧ w.heap.size < w'.heap.size ∧ Below w.heap.size w w')
              (first | exact keep4 (by assumption) hb | exact ⟨by simp [go_sem], by simp [go_sem], by simp [go_sem], by simp [go_sem], by simp [go_sem], below_drew (below_alloc (Below.refl _ _) _)⟩)
              (first | (go_at_call 47; (first | (with_reducible refine (d1 _).mono ?_) | (with_reducible refine (d2 _).mono ?_)); rintro e w2 ⟨rfl, hb⟩))
            rw [tailstr]
            go_split_ands
            have hbw : Below w.heap.size w w2 := by assumption
            go_wp2
            go_ret
            exact ⟨by rw [hT.out]; rfl, hbw⟩
          · have b6 : (k == 6) = false := by rw [beq_eq_false_iff_ne]; exact h6
            have hWV : wordV k = [] := by unfold wordV; rw [if_neg h2, if_neg h3, if_neg h4, if_neg h5, if_neg h6]
            have hT2 : Hid (T = []) := by show _ = _; rw [hT.out, hWV]
            clear h2 h3 h4 h5 h6 hT hWV
            go_enter Tryz.func34, Tryz.ntmps34
            go_wp2_with fail
            go_region_held3 (fun w' => w'.cell? ⟨w.heap.size, 0, none⟩ = some (.int .i64 k) ∧ w'.cell? ⟨w.heap.size, 1, none⟩ = some (.int .i64 s) ∧ w'.cell? ⟨w.heap.size, 2, none⟩ = some (.int .i64 n) ∧ w'.cell? ⟨w.heap.size, 3, none⟩ = some (.int .i64 t) ∧ w.heap.size < w'.heap.size ∧ Below w.heap.size w w')
              (first | exact keep4 (by assumption) hb | exact ⟨by simp [go_sem], by simp [go_sem], by simp [go_sem], by simp [go_sem], by simp [go_sem], below_drew (below_alloc (Below.refl _ _) _)⟩)
              (first | (go_at_call 47; (first | (with_reducible refine (d1 _).mono ?_) | (with_reducible refine (d2 _).mono ?_)); rintro e w2 ⟨rfl, hb⟩))
            rw [tailstr]
            go_split_ands
            have hbw : Below w.heap.size w w2 := by assumption
            go_wp2
            go_ret
            exact ⟨by rw [hT2.out]; rfl, hbw⟩
end Go.Proofs.YtpbiohnmmngccaaGreatDoor
