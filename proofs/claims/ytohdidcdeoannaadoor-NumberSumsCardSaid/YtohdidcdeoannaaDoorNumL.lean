/- The laws of the layer 'number': what each call of a law comes to. Conditions: arguments of their kinds, texts within the form's reach, the library's listed variables as laid. -/
import Derived.Test.YtohdidcdeoannaaDoorNumW
import Derived.Test.YtohdidcdeoannaaDoorNumP
import Derived.BigGuard
set_option linter.unusedVariables false
set_option linter.unusedSimpArgs false
namespace Go.Proofs.YtohdidcdeoannaaDoor
open Go.RowKit Go.Lib Go.Proofs.YtohdidcdeoannaaDoor.RNum

abbrev I64 (n : Int) : Prop := -9223372036854775808 ≤ n ∧ n ≤ 9223372036854775807

theorem drawn_below {w w' : World} (h : Go.Proofs.YtohdidcdeoannaaDoorW.PrintWords.Drawn0 w w') : Below w.heap.size w w' := h.below

theorem refParse_calls (s : ByteArray) (hs : s.size ≤ 140737488351232) (w : World) :
    Calls Tryd.prog 11 #[.string s] w fun e w' => e = .returned (.tuple #[.int .i64 (Dec.parseV s.data.toList).1, .int .i64 (Dec.parseV s.data.toList).2]) ∧ Below w.heap.size w w' :=
  marshalyardref05_Parse.calls (2 * s.size + 41) s _ _ w (NumP.refParse_eq s hs _ (by omega))
theorem Clamp_calls (a b m : Int) (ha : I64 a) (hb : I64 b) (hm : I64 m) (w : World) :
    Calls Tryd.prog 15 #[.int .i64 a, .int .i64 b, .int .i64 m] w fun e w' => e = .returned (.tuple #[.int .i64 (NumP.clampV a b m).1, .int .i64 (NumP.clampV a b m).2]) ∧ Below w.heap.size w w' :=
  number_Clamp.calls a b m _ _ w (NumP.clamp_eq a b m ha hb hm)
theorem refClamp_calls (a b m : Int) (ha : I64 a) (hb : I64 b) (hm : I64 m) (w : World) :
    Calls Tryd.prog 16 #[.int .i64 a, .int .i64 b, .int .i64 m] w fun e w' => e = .returned (.tuple #[.int .i64 (NumP.clampV a b m).1, .int .i64 (NumP.clampV a b m).2]) ∧ Below w.heap.size w w' :=
  (marshalyardref05_Clamp.calls (4 * m.toNat + 2) a b m _ _ w (NumP.refClamp_eq a b m ha hb hm.2 _ (by omega))).mono fun _ _ h => ⟨h.1, h.2.below⟩
theorem Add_calls (a b : Int) (ha : I64 a) (hb : I64 b) (w : World) :
    Calls Tryd.prog 17 #[.int .i64 a, .int .i64 b] w fun e w' => e = .returned (.tuple #[.int .i64 (NumP.addV a b).1, .int .i64 (NumP.addV a b).2]) ∧ Below w.heap.size w w' :=
  (number_Add.calls a b _ _ w (NumP.add_eq a b ha hb)).mono fun _ _ h => ⟨h.1, h.2.below⟩
theorem refAdd_calls (a b : Int) (ha : I64 a) (hb : I64 b) (w : World) :
    Calls Tryd.prog 18 #[.int .i64 a, .int .i64 b] w fun e w' => e = .returned (.tuple #[.int .i64 (NumP.addV a b).1, .int .i64 (NumP.addV a b).2]) ∧ Below w.heap.size w w' :=
  (marshalyardref05_Add.calls 2 a b _ _ w (NumP.refAdd_eq a b ha hb 2 (by omega))).mono fun _ _ h => ⟨h.1, h.2.below⟩
theorem Digits_calls (n : Int) (hn : I64 n) (w : World) :
    Calls Tryd.prog 14 #[.int .i64 n] w fun e w' => e = .returned (.string ⟨(Lib.itoa n).toArray⟩) ∧ Below w.heap.size w w' :=
  marshalyardref04_Digits.calls 19 n _ w (NumP.digits_eq n 19 hn.1 hn.2 (by omega))

theorem itoa_m5 : Lib.itoa (-5) = [45, 53] := by
  have := Lib.itoa_neg 5 (by omega)
  rw [Lib.decDigits_one (by omega)] at this
  exact this

theorem parse_m5 : Dec.parseV [45, 53] = (-5, 0) := by decide
theorem clamp_m2 : NumP.clampV (-2) 9 3 = (1, 3) := by decide

set_option maxHeartbeats 1000000 in
theorem alive_calls (w : World) (hE : Env w) : Calls Tryd.prog 12 #[] w fun e w' => e = .returned (.bool true) ∧ Below w.heap.size w w' := by
  have h1 : ∀ w, Env w → Calls Tryd.prog 10 #[.string ⟨#[45, 53]⟩] w fun e w' => e = .returned (.tuple #[.int .i64 (-5), .int .i64 0]) ∧ Below w.heap.size w w' := by
    intro w hE
    have := Parse_calls ⟨#[45, 53]⟩ (by decide) w hE
    rw [show (⟨#[45, 53]⟩ : ByteArray).data.toList = [45, 53] from rfl, parse_m5] at this
    exact this
  have h2 : ∀ w, Calls Tryd.prog 15 #[.int .i64 (-2), .int .i64 9, .int .i64 3] w fun e w' => e = .returned (.tuple #[.int .i64 1, .int .i64 3]) ∧ Below w.heap.size w w' := by
    intro w
    have := Clamp_calls (-2) 9 3 (by decide) (by decide) (by decide) w
    rw [clamp_m2] at this
    exact this
  have h3 : ∀ w, Env w → Calls Tryd.prog 13 #[.int .i64 (-5)] w fun e w' => e = .returned (.string ⟨#[45, 53]⟩) ∧ Below w.heap.size w w' := by
    intro w hE
    have := Print_calls (-5) (by decide) (by decide) w hE
    rw [itoa_m5] at this
    exact this
  go_enter Tryd.func12, Tryd.ntmps12
  go_wp2_with (go_at_call 10; refine (h1 _ hE).mono ?_; rintro e w1 ⟨rfl, hb1⟩)
  go_wp2_with (go_at_call 15; refine (h2 _).mono ?_; rintro e w2 ⟨rfl, hb2⟩)
  go_wp2_with (go_at_call 13; refine (h3 _ ((hE.below hb1).below hb2)).mono ?_; rintro e w3 ⟨rfl, hb3⟩)
  go_ret
  exact ⟨rfl, (hb1.trans (hb2.mono hb1.size)).trans (hb3.mono (Nat.le_trans hb1.size hb2.size))⟩

set_option maxHeartbeats 1000000 in
theorem NumberParses_walk (s : ByteArray) (hs : s.size ≤ 140737488351232) (w : World) (hE : Env w) :
    Calls Tryd.prog 3 #[.string s] w fun e w' => e = .returned (.bool true) ∧ Below w.heap.size w w' := by
  have h1 := Parse_calls s hs w hE
  have h2 := refParse_calls s hs
  generalize (Dec.parseV s.data.toList).1 = v at *
  generalize (Dec.parseV s.data.toList).2 = f at *
  go_enter Tryd.func3, Tryd.ntmps3
  go_wp2_with (go_at_call 10; refine h1.mono ?_; rintro e w1 ⟨rfl, hb1⟩)
  go_wp2_with (go_at_call 11; refine (h2 _).mono ?_; rintro e w2 ⟨rfl, hb2⟩)
  go_wp2_with (go_at_call 12; refine (alive_calls _ ((hE.below hb1).below hb2)).mono ?_; rintro e w3 ⟨rfl, hb3⟩)
  go_ret
  exact ⟨by simp, (hb1.trans (hb2.mono hb1.size)).trans (hb3.mono (Nat.le_trans hb1.size hb2.size))⟩

theorem parseV_itoa (n : Int) (hn : I64 n) : Dec.parseV (Lib.itoa n) = (n, 0) := by
  unfold Dec.parseV
  obtain ⟨h1, h2⟩ := Dec.form_itoa n
  rw [if_pos h1, h2, if_pos hn]
theorem itoa_size (n : Int) (hn : I64 n) : (⟨(Lib.itoa n).toArray⟩ : ByteArray).size ≤ 140737488351232 := by
  have := Lib.itoa_length_le n hn.1 hn.2
  rw [NumP.size_mk]; omega

set_option maxHeartbeats 1000000 in
theorem NumberPrints_walk (n : Int) (hn : I64 n) (w : World) (hE : Env w) :
    Calls Tryd.prog 4 #[.int .i64 n] w fun e w' => e = .returned (.bool true) ∧ Below w.heap.size w w' := by
  have h1 := Print_calls n hn.1 hn.2 w hE
  have h2 := Parse_calls ⟨(Lib.itoa n).toArray⟩ (itoa_size n hn)
  have h3 := Digits_calls n hn
  have hl : (⟨(Lib.itoa n).toArray⟩ : ByteArray).data.toList = Lib.itoa n := rfl
  rw [hl, parseV_itoa n hn] at h2
  clear hl
  generalize (⟨(Lib.itoa n).toArray⟩ : ByteArray) = s at *
  go_enter Tryd.func4, Tryd.ntmps4
  go_wp2_with (go_at_call 13; refine h1.mono ?_; rintro e w1 ⟨rfl, hb1⟩)
  go_wp2_with (go_at_call 10; refine (h2 _ (hE.below hb1)).mono ?_; rintro e w2 ⟨rfl, hb2⟩)
  go_wp2_with (go_at_call 12; refine (alive_calls _ ((hE.below hb1).below hb2)).mono ?_; rintro e w3 ⟨rfl, hb3⟩)
  go_wp2_with (go_at_call 14; refine (h3 _).mono ?_; rintro e w4 ⟨rfl, hb4⟩)
  go_ret
  exact ⟨by simp, ((hb1.trans (hb2.mono hb1.size)).trans (hb3.mono (Nat.le_trans hb1.size hb2.size))).trans (hb4.mono (Nat.le_trans (Nat.le_trans hb1.size hb2.size) hb3.size))⟩

theorem parseV_cases (l : List UInt8) : ((Dec.parseV l).2 = 0 ∧ Lib.itoa (Dec.parseV l).1 = l ∧ I64 (Dec.parseV l).1) ∨ ((Dec.parseV l).2 == 0) = false := by
  unfold Dec.parseV
  by_cases h1 : Dec.form l = true
  · rw [if_pos h1]
    by_cases h2 : -9223372036854775808 ≤ Dec.numVal l ∧ Dec.numVal l ≤ 9223372036854775807
    · rw [if_pos h2]
      exact Or.inl ⟨rfl, Dec.itoa_numVal h1, h2⟩
    · rw [if_neg h2]; exact Or.inr rfl
  · rw [if_neg h1]; exact Or.inr rfl

set_option maxHeartbeats 1000000 in
theorem NumberAgain_walk (s : ByteArray) (hs : s.size ≤ 140737488351232) (w : World) (hE : Env w) :
    Calls Tryd.prog 5 #[.string s] w fun e w' => e = .returned (.bool true) ∧ Below w.heap.size w w' := by
  have h1 := Parse_calls s hs w hE
  rcases parseV_cases s.data.toList with ⟨e0, hi, hr⟩ | e0
  · rw [e0] at h1
    have h3 := Print_calls _ hr.1 hr.2
    rw [hi] at h3
    rw [show (⟨s.data.toList.toArray⟩ : ByteArray) = s from rfl] at h3
    generalize (Dec.parseV s.data.toList).1 = v at *
    clear hi e0 hr
    go_enter Tryd.func5, Tryd.ntmps5
    go_wp2_with (go_at_call 10; refine h1.mono ?_; rintro e w1 ⟨rfl, hb1⟩)
    go_wp2_with (go_at_call 12; refine (alive_calls _ (hE.below hb1)).mono ?_; rintro e w2 ⟨rfl, hb2⟩)
    go_wp2_with (go_at_call 13; refine (h3 _ ((hE.below hb1).below hb2)).mono ?_; rintro e w3 ⟨rfl, hb3⟩)
    go_ret
    exact ⟨by simp, (hb1.trans (hb2.mono hb1.size)).trans (hb3.mono (Nat.le_trans hb1.size hb2.size))⟩
  · have e1 : (!((Dec.parseV s.data.toList).2 == 0)) = true := by rw [e0]; rfl
    generalize (Dec.parseV s.data.toList).1 = v at *
    generalize (Dec.parseV s.data.toList).2 = f at *
    have e2 : (f != 0) = true := e1
    clear e1
    go_enter Tryd.func5, Tryd.ntmps5
    go_wp2_with (go_at_call 10; refine h1.mono ?_; rintro e w1 ⟨rfl, hb1⟩)
    go_wp2_with (go_at_call 12; refine (alive_calls _ (hE.below hb1)).mono ?_; rintro e w2 ⟨rfl, hb2⟩)
    go_ret
    exact ⟨by simp, (hb1.trans (hb2.mono hb1.size))⟩

theorem clampV_good (a b m : Int) : 0 ≤ (NumP.clampV a b m).1 ∧ (NumP.clampV a b m).1 ≤ (NumP.clampV a b m).2 ∧ (NumP.clampV a b m).2 ≤ max m 0 := by
  unfold NumP.clampV
  generalize NumP.plc a m = A
  generalize NumP.plc b m = B
  by_cases h1 : m < 1
  · rw [if_pos h1]
    exact ⟨Int.le_refl _, Int.le_refl _, by simp only; omega⟩
  · rw [if_neg h1]
    by_cases h2 : (if B < m - 1 then B else m - 1) < (if A < 0 then 0 else A)
    · rw [if_pos h2]
      exact ⟨Int.le_refl _, Int.le_refl _, by simp only; omega⟩
    · rw [if_neg h2]
      refine ⟨?_, ?_, ?_⟩
      · show (0 : Int) ≤ if A < 0 then 0 else A
        split <;> omega
      · show (if A < 0 then 0 else A) ≤ (if B < m - 1 then B else m - 1) + 1
        omega
      · show (if B < m - 1 then B else m - 1) + 1 ≤ max m 0
        split <;> omega

theorem max_le_range {m : Int} (hm : I64 m) : I64 (max m 0) := by
  unfold I64 at *
  omega

set_option maxHeartbeats 1000000 in
theorem NumberClamps_walk (a b m : Int) (ha : I64 a) (hb : I64 b) (hm : I64 m) (w : World) (hE : Env w) :
    Calls Tryd.prog 6 #[.int .i64 a, .int .i64 b, .int .i64 m] w fun e w' => e = .returned (.bool true) ∧ Below w.heap.size w w' := by
  have h1 := Clamp_calls a b m ha hb hm w
  have h2 := refClamp_calls a b m ha hb hm
  obtain ⟨g1, g2, g3⟩ := clampV_good a b m
  generalize (NumP.clampV a b m).1 = c at *
  generalize (NumP.clampV a b m).2 = d at *
  obtain ⟨m1, m2⟩ := hm
  clear ha hb
  by_cases hbig : 3000 < m
  · go_enter Tryd.func6, Tryd.ntmps6
    go_wp2_with (go_at_call 15; refine h1.mono ?_; rintro e w1 ⟨rfl, hb1⟩)
    go_wp2_with (go_at_call 12; refine (alive_calls _ (hE.below hb1)).mono ?_; rintro e w2 ⟨rfl, hb2⟩)
    go_ret
    exact ⟨rfl, (hb1.trans (hb2.mono hb1.size))⟩
  · go_enter Tryd.func6, Tryd.ntmps6
    go_wp2_with (go_at_call 15; refine h1.mono ?_; rintro e w1 ⟨rfl, hb1⟩)
    go_wp2_with (go_at_call 16; refine (h2 _).mono ?_; rintro e w2 ⟨rfl, hb2⟩)
    go_wp2_with (go_at_call 12; refine (alive_calls _ ((hE.below hb1).below hb2)).mono ?_; rintro e w3 ⟨rfl, hb3⟩)
    go_ret
    exact ⟨by simp, (hb1.trans (hb2.mono hb1.size)).trans (hb3.mono (Nat.le_trans hb1.size hb2.size))⟩

set_option maxHeartbeats 1000000 in
theorem NumberAdds_walk (a b : Int) (ha : I64 a) (hb : I64 b) (w : World) (hE : Env w) :
    Calls Tryd.prog 8 #[.int .i64 a, .int .i64 b] w fun e w' => e = .returned (.bool true) ∧ Below w.heap.size w w' := by
  have h1 := Add_calls a b ha hb w
  have h2 := refAdd_calls a b ha hb
  have h3 := Add_calls b a hb ha
  have hc : NumP.addV b a = NumP.addV a b := by unfold NumP.addV; rw [Int.add_comm b a]
  rw [hc] at h3
  clear hc
  generalize (NumP.addV a b).1 = c at *
  generalize (NumP.addV a b).2 = d at *
  obtain ⟨a1, a2⟩ := ha
  obtain ⟨b1, b2⟩ := hb
  go_enter Tryd.func8, Tryd.ntmps8
  go_wp2_with fail
  refine h1.mono ?_
  rintro e w1 ⟨rfl, hb1⟩
  go_wp2_with fail
  refine (h2 _).mono ?_
  rintro e w2 ⟨rfl, hb2⟩
  go_wp2_with fail
  refine (h3 _).mono ?_
  rintro e w3 ⟨rfl, hb3⟩
  go_wp2_with fail
  refine (alive_calls _ (((hE.below hb1).below hb2).below hb3)).mono ?_
  rintro e w4 ⟨rfl, hb4⟩
  go_wp2_with fail
  go_ret
  exact ⟨by simp, ((hb1.trans (hb2.mono hb1.size)).trans (hb3.mono (Nat.le_trans hb1.size hb2.size))).trans (hb4.mono (Nat.le_trans (Nat.le_trans hb1.size hb2.size) hb3.size))⟩

set_option maxHeartbeats 1000000 in
theorem NumberWhole_walk (m : Int) (hm : I64 m) (w : World) (hE : Env w) :
    Calls Tryd.prog 7 #[.int .i64 m] w fun e w' => e = .returned (.bool true) ∧ Below w.heap.size w w' := by
  obtain ⟨m1, m2⟩ := hm
  have h1 := Clamp_calls 0 (-1) m (by decide) (by decide) ⟨m1, m2⟩
  by_cases hlt : m < 1
  · have e1 : NumP.clampV 0 (-1) m = (0, 0) := by unfold NumP.clampV; rw [if_pos hlt]
    rw [e1] at h1
    clear e1
    go_enter Tryd.func7, Tryd.ntmps7
    go_wp2_with fail
    refine (h1 _).mono ?_
    rintro e w1 ⟨rfl, hb1⟩
    go_wp2_with fail
    refine (alive_calls _ (hE.below hb1)).mono ?_
    rintro e w2 ⟨rfl, hb2⟩
    go_wp2_with fail
    go_ret
    exact ⟨rfl, (hb1.trans (hb2.mono hb1.size))⟩
  · have e1 : NumP.clampV 0 (-1) m = (0, m) := by
      unfold NumP.clampV NumP.plc
      rw [if_neg hlt]
      simp only [show ((-1 : Int) < 0) from by omega, show ¬ ((0 : Int) < 0) from by omega, if_true, if_false]
      rw [if_neg (show ¬ (-1 + m < m - 1) by omega), if_neg (by omega), show m - 1 + 1 = m from by omega]
    have h2 := Clamp_calls (-m) (m - 1) m (by unfold I64; omega) (by unfold I64; omega) ⟨m1, m2⟩
    have e2 : NumP.clampV (-m) (m - 1) m = (0, m) := by
      unfold NumP.clampV NumP.plc
      rw [if_neg hlt, if_neg (show ¬ m - 1 < 0 by omega), if_pos (show -m < 0 by omega), if_neg (show ¬ (m - 1 < m - 1) by omega), show -m + m = 0 from by omega, if_neg (show ¬ (0 : Int) < 0 by omega), if_neg (show ¬ m - 1 < 0 by omega), show m - 1 + 1 = m from by omega]
    rw [e1] at h1
    rw [e2] at h2
    clear e1 e2
    go_enter Tryd.func7, Tryd.ntmps7
    go_wp2_with fail
    refine (h1 _).mono ?_
    rintro e w1 ⟨rfl, hb1⟩
    go_wp2_with fail
    refine (h2 _).mono ?_
    rintro e w2 ⟨rfl, hb2⟩
    go_wp2_with fail
    refine (alive_calls _ ((hE.below hb1).below hb2)).mono ?_
    rintro e w3 ⟨rfl, hb3⟩
    go_wp2_with fail
    go_ret
    exact ⟨by simp, (hb1.trans (hb2.mono hb1.size)).trans (hb3.mono (Nat.le_trans hb1.size hb2.size))⟩

theorem addV_cases (a b : Int) : (NumP.addV a b = (a + b, 0) ∧ I64 (a + b)) ∨ (NumP.addV a b = (0, 51) ∧ ¬ I64 (a + b)) := by
  unfold NumP.addV
  by_cases h : a + b < -9223372036854775808 ∨ 9223372036854775807 < a + b
  · rw [if_pos h]; exact Or.inr ⟨rfl, by unfold I64; omega⟩
  · rw [if_neg h]; exact Or.inl ⟨rfl, by unfold I64; omega⟩

set_option maxHeartbeats 1000000 in
theorem NumberSums_walk (a b c : Int) (ha : I64 a) (hb : I64 b) (hc : I64 c) (w : World) (hE : Env w) :
    Calls Tryd.prog 9 #[.int .i64 a, .int .i64 b, .int .i64 c] w fun e w' => e = .returned (.bool true) ∧ Below w.heap.size w w' := by
  have h1 := Add_calls a b ha hb
  have h2 := Add_calls b c hb hc
  rcases addV_cases a b with ⟨e1, r1⟩ | ⟨e1, r1⟩
  · rcases addV_cases b c with ⟨e2, r2⟩ | ⟨e2, r2⟩
    · have h3 := Add_calls (a + b) c r1 hc
      have h4 := Add_calls a (b + c) ha r2
      have hs : NumP.addV a (b + c) = NumP.addV (a + b) c := by unfold NumP.addV; rw [Int.add_assoc]
      rw [hs] at h4
      rw [e1] at h1
      rw [e2] at h2
      clear hs e1 e2
      generalize (NumP.addV (a + b) c).1 = x at *
      generalize (NumP.addV (a + b) c).2 = y at *
      generalize a + b = u at *
      generalize b + c = v at *
      go_enter Tryd.func9, Tryd.ntmps9
      go_wp2_with fail
      refine (h1 _).mono ?_
      rintro e w1 ⟨rfl, hb1⟩
      go_wp2_with fail
      refine (h2 _).mono ?_
      rintro e w2 ⟨rfl, hb2⟩
      go_wp2_with fail
      refine (h3 _).mono ?_
      rintro e w3 ⟨rfl, hb3⟩
      go_wp2_with fail
      refine (h4 _).mono ?_
      rintro e w4 ⟨rfl, hb4⟩
      go_wp2_with fail
      refine (alive_calls _ ((((hE.below hb1).below hb2).below hb3).below hb4)).mono ?_
      rintro e w5 ⟨rfl, hb5⟩
      go_wp2_with fail
      go_ret
      have s2 := Nat.le_trans hb1.size hb2.size
      have s3 := Nat.le_trans s2 hb3.size
      have s4 := Nat.le_trans s3 hb4.size
      exact ⟨by simp, (((hb1.trans (hb2.mono hb1.size)).trans (hb3.mono s2)).trans (hb4.mono s3)).trans (hb5.mono s4)⟩
    · rw [e1] at h1
      rw [e2] at h2
      clear e1 e2 r2 r1
      generalize a + b = u at *
      go_enter Tryd.func9, Tryd.ntmps9
      go_wp2_with fail
      refine (h1 _).mono ?_
      rintro e w1 ⟨rfl, hb1⟩
      go_wp2_with fail
      refine (h2 _).mono ?_
      rintro e w2 ⟨rfl, hb2⟩
      go_wp2_with fail
      refine (alive_calls _ ((hE.below hb1).below hb2)).mono ?_
      rintro e w3 ⟨rfl, hb3⟩
      go_wp2_with fail
      go_ret
      exact ⟨by simp, (hb1.trans (hb2.mono hb1.size)).trans (hb3.mono (Nat.le_trans hb1.size hb2.size))⟩
  · rw [e1] at h1
    clear e1 r1
    generalize (NumP.addV b c).1 = x at *
    generalize (NumP.addV b c).2 = y at *
    go_enter Tryd.func9, Tryd.ntmps9
    go_wp2_with fail
    refine (h1 _).mono ?_
    rintro e w1 ⟨rfl, hb1⟩
    go_wp2_with fail
    refine (h2 _).mono ?_
    rintro e w2 ⟨rfl, hb2⟩
    go_wp2_with fail
    refine (alive_calls _ ((hE.below hb1).below hb2)).mono ?_
    rintro e w3 ⟨rfl, hb3⟩
    go_wp2_with fail
    go_ret
    exact ⟨by simp, (hb1.trans (hb2.mono hb1.size)).trans (hb3.mono (Nat.le_trans hb1.size hb2.size))⟩
end Go.Proofs.YtohdidcdeoannaaDoor
