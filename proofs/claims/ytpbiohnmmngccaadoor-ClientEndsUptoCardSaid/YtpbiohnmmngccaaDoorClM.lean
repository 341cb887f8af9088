/- A row of texts copied; where a call goes; how it is sent. Conditions: the listed variables as laid. -/
import Derived.Test.YtpbiohnmmngccaaDoorClS
import Derived.Deep.RegionHeld3
set_option linter.unusedVariables false
set_option linter.unusedSimpArgs false
namespace Go.Proofs.YtpbiohnmmngccaaDoor
open Go Go.RowKit Go.Maps Go.Proofs.YtpbiohnmmngccaaDoorW.PrintWords
theorem own_strs {W : World} {base : Nat} {v : Value} {l : List ByteArray} (h : W.ownsRow base 9 1 v l.length (l.map Value.string)) :
    ∃ A c, v = .slice A l.length c ∧ l.length ≤ c ∧ Kd.string.C W A l.length l ∧ T9 W A := by
  obtain ⟨A, c, h1, h2, h3⟩ := Kd.R_reads (d := Kd.string) (e := 9) (ok := fun _ => True) (base := base) ⟨fun _ _ => trivial, _, h, Kd.reps_scalar l⟩
  refine ⟨A, c, h1, h2, h3, fun ad hA => ?_⟩
  subst hA
  have := own_typed h ad.block (by rw [h1]; rfl)
  obtain ⟨cells, hc⟩ := this
  exact ⟨cells, _, hc⟩
theorem Clone_calls (A : Option Addr) (c : Nat) (l : List ByteArray) (hl : l.length ≤ 1000000) (w : World) (hr : Kd.string.C w A l.length l) (hc : l.length ≤ c) :
    Calls Tryd.prog 16 #[.slice A l.length c] w fun e w' => ∃ A' c', e = .returned (.slice A' l.length c') ∧ Kd.string.C w' A' l.length l ∧ l.length ≤ c' ∧ T9 w' A' ∧ Below w.heap.size w w' := by
  by_cases h0 : 0 < l.length
  · obtain ⟨g, o, rfl, hg, hcs⟩ := str_cells hr h0
    refine (Tryd.slices_Clone_string g o l.length c l w (Nat.le_refl _) (by omega) (fun j hj => ?_)).mono ?_
    · rw [hcs j l[j] (List.getElem?_eq_getElem hj), List.getD_eq_getElem?_getD, List.getElem?_eq_getElem hj]; rfl
    · rintro e w' ⟨v', rfl, ho, -, hb⟩
      rw [List.take_length] at ho
      obtain ⟨A', c', rfl, h1, h2, h3⟩ := own_strs ho
      exact ⟨A', c', rfl, h2, h1, h3, hb⟩
  · obtain rfl : l = [] := by cases l <;> simp_all
    cases A with
    | none =>
      refine (Tryd.slices_Clone_string_nil 0 c w).mono ?_
      rintro e w' ⟨rfl, rfl⟩
      exact ⟨none, 0, rfl, Kd.C_of_reads (d := (⟨#[]⟩ : ByteArray)) ⟨rfl, Nat.zero_le _, fun h => absurd h (Nat.lt_irrefl 0)⟩, Nat.le_refl _, fun ad h => (by cases h), Below.refl _ _⟩
    | some a =>
      refine (Tryd.slices_Clone_string_zero a c w).mono ?_
      rintro e w' ⟨v', rfl, ho, -, hb⟩
      obtain ⟨A', c', rfl, h1, h2, h3⟩ := own_strs (l := []) ho
      exact ⟨A', c', rfl, h2, h1, h3, hb⟩
def ownerV (s : CS) : Int := match keyV s.args with
  | none => s.home
  | some k => whereV s (ofV k.data.toList)
theorem of_lt (l : List UInt8) : ofV l < 16384 := Nat.mod_lt _ (by decide)
set_option maxHeartbeats 1000000 in
theorem owner_calls (m g : Nat) (s : CS) (hbig : ∀ x ∈ s.args, x.size ≤ 9223372036854775807) (w : World) (h : Cl m g s w) (hE : Env w) :
    Calls Tryd.prog 18 #[.pointer (some ⟨g, 0, none⟩)] w fun e w' => e = .returned (.int .i64 (ownerV s)) ∧ Below w.heap.size w w' := by
  obtain ⟨A, c, hb, hr, hc, -⟩ := h.box
  obtain ⟨c0, c1, c2, c3, c4⟩ := cl_cells hb
  have hK := Keys_calls A c s.args hc w hr hE
  have hg := h.lt.2
  clear hb hr
  go_enter Tryd.func18, Tryd.ntmps18
  go_wp2_with fail
  refine hK.mono ?_
  rintro e w1 ⟨A1, c1', ks, rfl, hC, hcl, hkh, hb1⟩
  have h1 := h.below hb1
  have c0' := (hb1.cell (p := ⟨g, 0, none⟩) hg).trans c0
  clear hK c0 c1 c2 c3 c4
  cases hk : keyV s.args with
  | none =>
    have ho : ownerV s = s.home := by unfold ownerV; rw [hk]
    rw [hk] at hkh
    obtain rfl : ks = [] := by cases ks <;> simp_all
    go_wp2_with fail
    go_ret
    exact ⟨by rw [ho]; rfl, hb1⟩
  | some k =>
    have ho : ownerV s = whereV s (ofV k.data.toList) := by unfold ownerV; rw [hk]
    rw [hk] at hkh
    cases ks with
    | nil => simp at hkh
    | cons y t =>
      obtain rfl : y = k := by simpa using hkh
      obtain ⟨g1, o1, rfl, hg1, hcs⟩ := str_cells hC (by simp)
      have hcy := hcs 0 y rfl
      rw [Nat.add_zero] at hcy
      have hne : ((((t.length : Int) + 1)) == 0) = false := by rw [beq_eq_false_iff_ne]; omega
      have hsz : y.size ≤ 9223372036854775807 := by
        unfold keyV at hk
        split at hk
        · exact hbig y (List.mem_of_getElem? hk)
        · cases hk
      have hO := Of_calls y hsz w1 (hE.below hb1)
      have hlt := of_lt y.data.toList
      replace ho := Lib.hid ho
      replace h1 := Lib.hid h1
      clear hcs hC hkh
      go_wp2_with fail
      refine hO.mono ?_
      rintro e w2 ⟨rfl, hb2⟩
      have hb2' := hb1.trans (hb2.mono hb1.size)
      have h2 := h1.out.below hb2
      generalize ofV y.data.toList = sl at *
      clear hO
      have hW := Where_calls m g s (sl : Int) ⟨by omega, by omega⟩ w2 h2
      replace h2 := Lib.hid h2
      go_wp2_with fail
      refine hW.mono ?_
      rintro e w3 ⟨rfl, rfl⟩
      go_wp2_with fail
      go_ret
      exact ⟨by rw [ho.out]; rfl, hb2'⟩
end Go.Proofs.YtpbiohnmmngccaaDoor
