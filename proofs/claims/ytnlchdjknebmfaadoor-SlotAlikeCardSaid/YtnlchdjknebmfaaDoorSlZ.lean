/- SlotAlike: keys of which the same counts are in one slot. Conditions: the listed variables as laid. -/
import Derived.Test.YtnlchdjknebmfaaDoorSlV
set_option linter.unusedVariables false
set_option linter.unusedSimpArgs false
namespace Go.Proofs.YtnlchdjknebmfaaDoor
open Go.RowKit Go.Proofs.YtnlchdjknebmfaaDoorW.PrintWords
open SlS SlT
theorem tag_in {a t b : List UInt8} (ha : (123 : UInt8) ∉ a) (ht : (125 : UInt8) ∉ t) (hne : t.isEmpty = false) : tagV (a ++ 123 :: (t ++ 125 :: b)) = t := by
  rw [tag_found ha ht, hne]; rfl
theorem sliceCell (S : ByteArray) (W : World) (j : Nat) (hj : j < S.size) : (Lib.bytesWorld W 5 S).cell? ⟨W.heap.size, j, none⟩ = some (.int .u8 ((S.data.toList.getD j 0).toNat : Int)) := by
  have h2 : j < S.data.toList.length := by rw [show S.data.toList.length = S.size from Array.length_toList]; exact hj
  have := (Lib.bytesWorld_cell W 5 S j hj)
  rw [this]
  try simp [List.getD, List.getElem?_eq_getElem h2]
theorem app_list (a b : ByteArray) : (a ++ b).data.toList = a.data.toList ++ b.data.toList := by rw [ByteArray.data_append]; simp
set_option maxRecDepth 100000 in
set_option maxHeartbeats 2000000 in
theorem SlotAlike_walk (t a b : ByteArray) (ht : t.size ≤ 140737488351232) (ha : a.size ≤ 140737488351232) (hb : b.size ≤ 140737488351232) (w : World) (hE : Env w) : Calls Tryd.prog 5 #[.string t, .string a, .string b] w fun e w' => e = .returned (.bool true) ∧ Below w.heap.size w w' := by
  have hS : (a ++ t).size = a.size + t.size := by rw [ByteArray.size_append]
  have kb := fun W => print_bytes (P := Tryd.prog) 9 26 5 Tryd.underlying9 Tryd.underlying26 Tryd.underlying5 (a ++ t) W
  have hcell := fun W j hj => sliceCell (a ++ t) W j hj
  have hlist := app_list a t
  have hsz : (a ++ t).data.toList.length = (a ++ t).size := Array.length_toList
  have hO1 := fun W h => Of_calls t (by omega) W h
  have hO2 : (∀ j, j < (a ++ t).data.toList.length → (a ++ t).data.toList.getD j 0 ≠ 123 ∧ (a ++ t).data.toList.getD j 0 ≠ 125) → t.data.toList.isEmpty = false → ∀ W, Env W → Calls Tryd.prog 17 #[.string (a ++ (⟨#[123]⟩ : ByteArray) ++ t ++ (⟨#[125]⟩ : ByteArray) ++ b)] W fun e w' => e = .returned (.int .i64 ((ofV t.data.toList : Nat) : Int)) ∧ Below W.heap.size W w' := by
    intro hno hne W h
    have hc := Of_calls (a ++ (⟨#[123]⟩ : ByteArray) ++ t ++ (⟨#[125]⟩ : ByteArray) ++ b) (by
      simp only [ByteArray.size_append]
      have e1 : (⟨#[123]⟩ : ByteArray).size = 1 := rfl
      have e2 : (⟨#[125]⟩ : ByteArray).size = 1 := rfl
      omega) W h
    have hnot : ∀ x ∈ (a ++ t).data.toList, x ≠ 123 ∧ x ≠ 125 := by
      intro x hx
      obtain ⟨j, hj, rfl⟩ := List.getElem_of_mem hx
      have := hno j hj
      rw [List.getD_eq_getElem?_getD, List.getElem?_eq_getElem hj] at this
      exact this
    rw [hlist] at hnot
    have h1 : (123 : UInt8) ∉ a.data.toList := fun hm => (hnot 123 (List.mem_append_left _ hm)).1 rfl
    have h2 : (125 : UInt8) ∉ t.data.toList := fun hm => (hnot 125 (List.mem_append_right _ hm)).2 rfl
    have e : (a ++ (⟨#[123]⟩ : ByteArray) ++ t ++ (⟨#[125]⟩ : ByteArray) ++ b).data.toList = a.data.toList ++ 123 :: (t.data.toList ++ 125 :: b.data.toList) := by
      simp only [app_list]
      simp
    have hof : ofV (a ++ (⟨#[123]⟩ : ByteArray) ++ t ++ (⟨#[125]⟩ : ByteArray) ++ b).data.toList = ofV t.data.toList := by
      unfold ofV
      rw [e, tag_in h1 h2 hne, tag_free h2]
    rw [hof] at hc
    exact hc
  have hsum1 : (a ++ t).size ≤ 281474976710656 := by omega
  have hemp : t.toList.isEmpty = t.data.toList.isEmpty := by rw [ByteArray.toList_eq]
  replace hS := Lib.hid hS
  generalize hN : (a ++ t).size = n at *
  replace hN := Lib.hid hN
  replace hO2 := Lib.hid hO2
  replace hcell := Lib.hid hcell
  replace hlist := Lib.hid hlist
  have hb0 := bytes_below (w := w) (Below.refl w.heap.size w) (Nat.le_refl _) 5 (a ++ t)
  have hbb := hE.below hb0
  go_enter Tryd.func5, Tryd.ntmps5
  go_wp2_with fail
  generalize hL : (a ++ t).data.toList = L at *
  replace hL := Lib.hid hL
  go_loop [8, 14] (fun _ i => ∃ k : Nat, k ≤ n ∧ i = .int .i64 k ∧ ∀ j, j < k → L.getD j 0 ≠ 123 ∧ L.getD j 0 ≠ 125) (fun _ i => n - (intOf i).toNat)
  case atStart => exact ⟨0, by omega, rfl, fun j hj => absurd hj (by omega)⟩
  case round =>
    obtain ⟨k, hk, rfl, hno⟩ := hrel
    replace hno := Lib.hid hno
    by_cases hkl : k < n
    · have hc := hcell.out w k hkl
      generalize hx : L.getD k 0 = x at *
      replace hx := Lib.hid hx
      have hgo : decide ((k : Int) < (n : Int)) = true := decide_eq_true (by omega)
      by_cases h1 : x = 123
      · have hb1 : ((x.toNat : Int) == 123) = true := by rw [h1]; rfl
        clear h1
        go_wp2_with fail
        refine (alive_calls _ hbb).mono ?_
        rintro e w1 ⟨rfl, hb1⟩
        go_wp2_with fail
        go_ret
        exact ⟨rfl, hb0.trans (hb1.mono hb0.size)⟩
      · have hb1 : ((x.toNat : Int) == 123) = false := beq_eq_false_iff_ne.2 fun e => h1 (UInt8.toNat_inj.mp (by show x.toNat = 123; omega))
        by_cases h2 : x = 125
        · have hb2 : ((x.toNat : Int) == 125) = true := by rw [h2]; rfl
          clear h1 h2
          go_wp2_with fail
          refine (alive_calls _ hbb).mono ?_
          rintro e w1 ⟨rfl, hb1⟩
          go_wp2_with fail
          go_ret
          exact ⟨rfl, hb0.trans (hb1.mono hb0.size)⟩
        · have hb2 : ((x.toNat : Int) == 125) = false := beq_eq_false_iff_ne.2 fun e => h2 (UInt8.toNat_inj.mp (by show x.toNat = 125; omega))
          go_wp2_with fail
          case roundEnd =>
            refine ⟨⟨k + 1, by omega, by go_num, fun j hj => ?_⟩, by simp [intOf]; omega⟩
            by_cases hjk : j = k
            · subst hjk; rw [hx.out]; exact ⟨h1, h2⟩
            · exact hno.out j (by omega)
    · obtain rfl : k = n := by omega
      have hgo : decide ((k : Int) < (k : Int)) = false := decide_eq_false (by omega)
      have hO3 := hO2.out (fun j hj => hno.out j (by omega))
      cases hE2 : t.data.toList.isEmpty with
      | true =>
        rw [hE2] at hemp
        have hemp2 : t.toList = [] := List.isEmpty_iff.1 hemp
        clear hO3 hO1
        go_wp2_with fail
        refine (alive_calls _ hbb).mono ?_
        rintro e w1 ⟨rfl, hb1⟩
        go_wp2_with fail
        go_ret
        exact ⟨rfl, hb0.trans (hb1.mono hb0.size)⟩
      | false =>
        rw [hE2] at hemp
        replace hO3 := hO3 hE2
        clear hE2
        go_wp2_with fail
        refine (alive_calls _ hbb).mono ?_
        rintro e w1 ⟨rfl, hb1⟩
        have hbw := hb0.trans (hb1.mono hb0.size)
        clear hb1
        go_wp2_with fail
        refine (hO3 _ (hE.below hbw)).mono ?_
        rintro e w2 ⟨rfl, hb2⟩
        have hbw2 := hbw.trans (hb2.mono hbw.size)
        go_wp2_with fail
        refine (hO1 _ (hE.below hbw2)).mono ?_
        rintro e w3 ⟨rfl, hb3⟩
        have hbw3 := hbw2.trans (hb3.mono hbw2.size)
        clear hb2 hb3 hbw hbw2
        go_wp2_with fail
        go_ret
        exact ⟨by simp, hbw3⟩
end Go.Proofs.YtnlchdjknebmfaaDoor
