/- The reference's Tag: the same. Conditions: none. -/
import Derived.Test.YtpbiohnmmngccaaGreatDoorClO
set_option linter.unusedVariables false
set_option linter.unusedSimpArgs false
namespace Go.Proofs.YtpbiohnmmngccaaGreatDoor
open Go.RowKit Go.Proofs.YtpbiohnmmngccaaGreatDoorW.PrintWords
theorem tag_none {l : List UInt8} (h : (123 : UInt8) ∉ l) : tagV l = l := by
  unfold tagV
  rw [cut_miss l 123 h]
  simp
theorem tag_open {p q : List UInt8} (h : (123 : UInt8) ∉ p) (h2 : (125 : UInt8) ∉ q) : tagV (p ++ 123 :: q) = p ++ 123 :: q := by
  unfold tagV
  rw [cut_hit p 123 h, cut_miss q 125 h2]
  simp
theorem tag_found {p x r : List UInt8} (h : (123 : UInt8) ∉ p) (h2 : (125 : UInt8) ∉ x) : tagV (p ++ 123 :: (x ++ 125 :: r)) = if x.isEmpty then p ++ 123 :: (x ++ 125 :: r) else x := by
  unfold tagV
  rw [cut_hit p 123 h, cut_hit x 125 h2]
  cases x <;> simp
theorem take_get (L : List UInt8) (k : Nat) (h : k < L.length) : L.take (k + 1) = L.take k ++ [L[k]] := by
  rw [List.take_succ_eq_append_getElem h]
theorem split_at (L : List UInt8) (k : Nat) (h : k < L.length) : L = L.take k ++ L[k] :: L.drop (k + 1) := by
  rw [← List.drop_eq_getElem_cons h, List.take_append_drop]
theorem get_data (s : ByteArray) (k : Nat) (h : k < s.size) : s.data.toList[k]'(by rw [show s.data.toList.length = s.size from Array.length_toList]; exact h) = s[k] := by
  simp [ByteArray.getElem_eq_getElem_data]
theorem get_data' (s : ByteArray) (k : Nat) (h : k < s.size) : s.data.toList[k]? = some s[k] := by
  rw [← get_data s k h]
  exact List.getElem?_eq_getElem _
theorem mid_take (L : List UInt8) (i k : Nat) (hik : i ≤ k) (h : k < L.length) : (L.drop i).take (k + 1 - i) = (L.drop i).take (k - i) ++ [L[k]] := by
  rw [show k + 1 - i = (k - i) + 1 by omega, List.take_succ_eq_append_getElem (by rw [List.length_drop]; omega)]
  simp only [List.getElem_drop]
  congr 2
  congr 1
  omega
theorem mid_split (L : List UInt8) (i k : Nat) (hik : i ≤ k) (h : k < L.length) : L.drop i = (L.drop i).take (k - i) ++ L[k] :: L.drop (k + 1) := by
  have e := split_at (L.drop i) (k - i) (by rw [List.length_drop]; omega)
  have e1 : (L.drop i)[k - i]'(by rw [List.length_drop]; omega) = L[k] := by
    simp only [List.getElem_drop]
    congr 1
    omega
  have e2 : (L.drop i).drop (k - i + 1) = L.drop (k + 1) := by rw [List.drop_drop]; congr 1; omega
  rw [e1, e2] at e
  exact e
theorem ext_mid (s : ByteArray) (i k : Nat) : s.extract i k = ⟨((s.data.toList.drop i).take (k - i)).toArray⟩ := by
  rw [Lib.extract_eq]
set_option maxHeartbeats 1000000 in
theorem refTag_calls (s : ByteArray) (hs : s.size ≤ 9223372036854775807) (w : World) : Calls Tryz.prog 42 #[.string s] w fun e w' => e = .returned (.string ⟨(tagV s.data.toList).toArray⟩) ∧ Below w.heap.size w w' := by
  have hsz : s.data.toList.length = s.size := Array.length_toList
  have hmk := Lib.hid (str_mk s)
  have hget := Lib.hid (get_data' s)
  have hext := Lib.hid (ext_mid s)
  generalize hL : s.data.toList = L at *
  replace hL := Lib.hid hL
  go_enter Tryz.func42, Tryz.ntmps42
  go_wp2_with fail
  go_loop [3, 4] (fun i _ => ∃ m : Nat, m ≤ s.size ∧ i = .int .i64 m ∧ (123 : UInt8) ∉ L.take m) (fun i _ => s.size - (intOf i).toNat)
  case atStart => exact ⟨0, by omega, rfl, by simp⟩
  case round =>
    obtain ⟨m, hm, rfl, hno⟩ := hrel
    by_cases hml : m < s.size
    · have hLm : L[m]'(by omega) = s[m] := Option.some.inj ((List.getElem?_eq_getElem (by omega)).symm.trans (hget.out m hml))
      have hsp := split_at L m (by omega)
      have htk := take_get L m (by omega)
      rw [hLm] at hsp htk
      obtain ⟨c, hc⟩ : ∃ c, s[m] = c := ⟨_, rfl⟩
      rw [hc] at hsp htk
      clear hLm
      replace hsp := Lib.hid hsp
      replace htk := Lib.hid htk
      replace hno := Lib.hid hno
      have m1 : (m : Int) < (s.size : Int) := by omega
      by_cases h123 : c = 123
      · subst h123
        have hcb : (((123 : UInt8).toNat : Int) == 123) = true := rfl
        go_wp2_with fail
        go_loop [4] (fun k => ∃ j : Nat, m + 1 ≤ j ∧ j ≤ s.size ∧ k = .int .i64 j ∧ (125 : UInt8) ∉ (L.drop (m + 1)).take (j - (m + 1))) (fun k => s.size - (intOf k).toNat)
        case atStart => exact ⟨m + 1, by omega, by omega, by go_num, by simp⟩
        case round =>
          obtain ⟨j, hj1, hj2, rfl, hno2⟩ := hrel
          by_cases hjl : j < s.size
          · have hLj : L[j]'(by omega) = s[j] := Option.some.inj ((List.getElem?_eq_getElem (by omega)).symm.trans (hget.out j hjl))
            have hsp2 := mid_split L (m + 1) j (by omega) (by omega)
            have htk2 := mid_take L (m + 1) j (by omega) (by omega)
            rw [hLj] at hsp2 htk2
            obtain ⟨d, hd⟩ : ∃ d, s[j] = d := ⟨_, rfl⟩
            rw [hd] at hsp2 htk2
            clear hLj
            replace hsp2 := Lib.hid hsp2
            replace htk2 := Lib.hid htk2
            replace hno2 := Lib.hid hno2
            have j1 : (j : Int) < (s.size : Int) := by omega
            by_cases h125 : d = 125
            · subst h125
              have hdb : (((125 : UInt8).toNat : Int) == 125) = true := rfl
              have hV : tagV L = if ((L.drop (m + 1)).take (j - (m + 1))).isEmpty then L else (L.drop (m + 1)).take (j - (m + 1)) := by
                have := tag_found (p := L.take m) (x := (L.drop (m + 1)).take (j - (m + 1))) (r := L.drop (j + 1)) hno.out hno2.out
                rw [← hsp2.out, ← hsp.out] at this
                exact this
              replace hV := Lib.hid hV
              by_cases hgt : m + 1 < j
              · have g1 : decide (m + 1 < j) = true := decide_eq_true hgt
                have g2 : ((L.drop (m + 1)).take (j - (m + 1))).isEmpty = false := by
                  rw [List.isEmpty_eq_false_iff]
                  intro e
                  have := congrArg List.length e
                  simp at this
                  omega
                replace g2 := Lib.hid g2
                have g3 : (m : Int) + 1 < (j : Int) := by omega
                go_wp2_with fail
                go_ret
                exact ⟨by rw [hV.out, g2.out, hext.out]; rfl, Below.refl _ _⟩
              · obtain rfl : j = m + 1 := by omega
                have g2 : ((L.drop (m + 1)).take (m + 1 - (m + 1))).isEmpty = true := by simp
                replace g2 := Lib.hid g2
                go_wp2_with fail
                go_ret
                exact ⟨by rw [hV.out, g2.out]; exact ret_str hmk.out.symm, Below.refl _ _⟩
            · have hdb : ((d.toNat : Int) == 125) = false := beq_eq_false_iff_ne.2 fun e => h125 (UInt8.toNat_inj.mp (by show d.toNat = 125; omega))
              go_wp2_with fail
              case roundEnd =>
                refine ⟨⟨j + 1, by omega, by omega, by go_num, ?_⟩, by simp [intOf]; omega⟩
                rw [htk2.out, List.mem_append, not_or]
                exact ⟨hno2.out, by simpa using Ne.symm h125⟩
          · obtain rfl : j = s.size := by omega
            have hV : tagV L = L := by
              have h2 : (125 : UInt8) ∉ L.drop (m + 1) := by
                rw [List.take_of_length_le (by rw [List.length_drop]; omega)] at hno2
                exact hno2
              have := tag_open (p := L.take m) hno.out h2
              rw [← hsp.out] at this
              exact this
            replace hV := Lib.hid hV
            go_wp2_with fail
            go_ret
            exact ⟨by rw [hV.out]; exact ret_str hmk.out.symm, Below.refl _ _⟩
      · have hcb : ((c.toNat : Int) == 123) = false := beq_eq_false_iff_ne.2 fun e => h123 (UInt8.toNat_inj.mp (by show c.toNat = 123; omega))
        go_wp2_with fail
        case roundEnd =>
          refine ⟨⟨m + 1, by omega, by go_num, ?_⟩, by simp [intOf]; omega⟩
          rw [htk.out, List.mem_append, not_or]
          exact ⟨hno.out, by simpa using Ne.symm h123⟩
    · obtain rfl : m = s.size := by omega
      have hV : tagV L = L := tag_none (by rw [List.take_of_length_le (by omega)] at hno; exact hno)
      replace hV := Lib.hid hV
      go_wp2_with fail
      go_ret
      exact ⟨by rw [hV.out]; exact ret_str hmk.out.symm, Below.refl _ _⟩
end Go.Proofs.YtpbiohnmmngccaaGreatDoor
