/- Behind an error a parser tells it always. Conditions: the listed variables as laid; texts within the machine's reach. -/
import Derived.Test.YtmdekodoicnmbaaDoorRsQ
import Derived.Lib.ConvBytes
set_option linter.unusedVariables false
set_option linter.unusedSimpArgs false
namespace Go.Proofs.YtmdekodoicnmbaaDoor
open Go.RowKit Go.Proofs.YtmdekodoicnmbaaDoorW.PrintWords
theorem conv_in (s : ByteArray) (W : World) : (convert 9 26 (.string s)).run Tryd.prog W = .ok (.slice (some ⟨W.heap.size, 0, none⟩) s.data.toList.length (grownCap W s.data.toList.length 0 5)) (Lib.bytesWorld W 5 s) := by
  have e : s.data.toList.length = s.size := Array.length_toList
  rw [e]
  exact Lib.run_convert_string_bytes W 9 26 5 s Tryd.underlying9 Tryd.underlying26 Tryd.underlying5
theorem below_bytes (w W : World) (h : Below w.heap.size w W) (s : ByteArray) : Below w.heap.size w (Lib.bytesWorld W 5 s) :=
  ⟨h.os, h.tape, h.output, by rw [Lib.bytesWorld_size]; have := h.size; omega, fun k hk => (Lib.bytesWorld_at_old W 5 s k (Nat.lt_of_lt_of_le hk h.size)).trans (h.block k hk)⟩
theorem rd_bytes (W : World) (s : ByteArray) (hs : s.size ≤ 140737488351232) : RdB (Lib.bytesWorld W 5 s) (some ⟨W.heap.size, 0, none⟩) (grownCap W s.data.toList.length 0 5) s.data.toList := by
  have e : s.data.toList.length = s.size := Array.length_toList
  have hm : grownCap W s.data.toList.length 0 5 ≤ maxLen := grownCap_le_maxLen W _ 0 5 (by unfold maxLen; omega)
  refine ⟨grownCap_ge W _ 0 5, by unfold maxLen at hm; omega, Or.inr ⟨_, _, rfl, by rw [Lib.bytesWorld_size]; omega, fun j hj => ?_⟩⟩
  rw [Nat.zero_add]
  exact Lib.bytesWorld_cell W 5 s j (by omega)
theorem all_end : ∀ (m : Nat) (b : List UInt8) (acc : List (List ByteArray)), b.length < m → (allV m b 0 acc).2.2.2 = (allV m b 0 acc).2.1 ∧ ((allV m b 0 acc).2.1 ≠ 0 → (allV m b 0 acc).2.2.1 = [])
  | 0, b, acc, h => by omega
  | m + 1, b, acc, h => by
    simp only [allV]
    cases hn : nextV b 0 with
    | stop E b' => exact ⟨rfl, fun h0 => by simp only; exact if_neg h0⟩
    | got args rest =>
      have := (next_got hn).1
      exact all_end m rest _ (by omega)
theorem all_stuck (m : Nat) (E : Int) (hE : E ≠ 0) : allV (m + 1) [] E [] = ([], E, [], E) := by
  simp only [allV, nextV, if_neg hE]
set_option maxHeartbeats 4000000 in
set_option maxRecDepth 100000 in
theorem RespAgain_walk (s more : ByteArray) (hs : s.size ≤ 140737488351232) (hm : more.size ≤ 140737488351232) (w : World) (hE : Env w) :
    Calls Tryd.prog 3 #[.string s, .string more] w fun e w' => e = .returned (.bool true) ∧ Below w.heap.size w w' := by
  have esz : s.data.toList.length = s.size := Array.length_toList
  have msz : more.data.toList.length = more.size := Array.length_toList
  by_cases hn : 20000 < s.size
  · have hgo : decide ((20000 : Int) < (s.size : Int)) = true := decide_eq_true (by omega)
    go_enter Tryd.func3, Tryd.ntmps3
    go_wp2_with fail
    refine (New_calls _).mono ?_
    rintro e w1 ⟨rfl, hp1, hb1⟩
    go_wp2_with fail
    refine (alive_calls _ (hE.below hb1)).mono ?_
    rintro e w2 ⟨rfl, hb2⟩
    have hb2' := hb1.trans (hb2.mono hb1.size)
    go_wp2_with fail
    go_ret
    exact ⟨rfl, hb2'⟩
  · have hgo : decide ((20000 : Int) < (s.size : Int)) = false := decide_eq_false (by omega)
    go_enter Tryd.func3, Tryd.ntmps3
    go_wp2_with fail
    refine (New_calls _).mono ?_
    rintro e w1 ⟨rfl, hp1, hb1⟩
    have hcv := conv_in s w1
    have hrd := Lib.hid (rd_bytes w1 s hs)
    have hb1a := below_bytes w w1 hb1 s
    have hp1a := Lib.hid (hp1.keep (below_bytes w1 w1 (Below.refl _ _) s))
    clear hp1 hb1
    go_wp2_with fail
    refine (Feed_calls _ w.heap.size [] 0 hp1a.out w1.heap.size 0 _ s.data.toList hrd.out (by simp; omega)).mono ?_
    rintro e w2 ⟨rfl, hp2, hk2⟩
    rw [if_pos rfl, List.nil_append] at hp2
    have hb2 := Keeps.base hb1a (Nat.le_refl _) hk2
    have hA := all_calls w hE w2 hb2 w.heap.size (Nat.le_refl _) s.data.toList 0 hp2 (by omega) (s.size + 1) (by omega)
    have hend := all_end (s.size + 1) s.data.toList [] (by omega)
    generalize allV (s.size + 1) s.data.toList 0 [] = R at hA hend
    obtain ⟨L, E0, b2, E⟩ := R
    replace hend : E = E0 ∧ (E0 ≠ 0 → b2 = []) := hend
    obtain ⟨rfl, hend⟩ := hend
    have ec : ((s.size + 1 : Nat) : Int) = (s.size : Int) + 1 := by omega
    rw [ec] at hA
    clear hp1a hb1a hrd hcv hk2 hp2
    go_wp2_with fail
    refine hA.mono ?_
    rintro e w3 ⟨A, c, rfl, hR, hp3, hk3⟩
    have hb3 := Keeps.base hb2 (Nat.le_refl _) hk3
    clear hA hk3 hb2 hR
    by_cases h0 : E = 0
    · subst h0
      go_wp2_with fail
      refine (alive_calls _ (hE.below hb3)).mono ?_
      rintro e w4 ⟨rfl, hb4⟩
      have hb4' := hb3.trans (hb4.mono hb3.size)
      go_wp2_with fail
      go_ret
      exact ⟨rfl, hb4'⟩
    · obtain rfl : b2 = [] := hend h0
      have hz : (E == 0) = false := by rw [beq_eq_false_iff_ne]; exact h0
      have hcv2 := conv_in more w3
      have hrd2 := Lib.hid (rd_bytes w3 more hm)
      have hb3a := below_bytes w w3 hb3 more
      have hp3a := Lib.hid (hp3.keep (below_bytes w3 w3 (Below.refl _ _) more))
      clear hp3 hb3 hend
      go_wp2_with fail
      refine (Feed_calls _ w.heap.size [] E hp3a.out w3.heap.size 0 _ more.data.toList hrd2.out (by simp; omega)).mono ?_
      rintro e w4 ⟨rfl, hp4, hk4⟩
      rw [if_neg h0] at hp4
      have hb4 := Keeps.base hb3a (Nat.le_refl _) hk4
      have hA := all_calls w hE w4 hb4 w.heap.size (Nat.le_refl _) [] E hp4 (by decide) 2 (by decide)
      rw [all_stuck 1 E h0] at hA
      clear hp3a hb3a hrd2 hcv2 hk4 hp4
      go_wp2_with fail
      refine hA.mono ?_
      rintro e w5 ⟨A5, c5, rfl, hR5, hp5, hk5⟩
      have hb5 := Keeps.base hb4 (Nat.le_refl _) hk5
      clear hA hk5 hb4 hR5
      go_wp2_with fail
      refine (alive_calls _ (hE.below hb5)).mono ?_
      rintro e w6 ⟨rfl, hb6⟩
      have hb6' := hb5.trans (hb6.mono hb5.size)
      have hp6 := hp5.keep hb6
      go_wp2_with fail
      refine (Left_calls w6 w.heap.size [] E hp6).mono ?_
      rintro e w7 ⟨rfl, rfl⟩
      go_wp2_with fail
      go_ret
      exact ⟨rfl, hb6'⟩
end Go.Proofs.YtmdekodoicnmbaaDoor
