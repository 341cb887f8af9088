/- Rows of rows of texts as they come in. Conditions: none. -/
import Derived.Test.YtmdekodoicnmbaaDoorRsV
import Derived.Test.YtmdekodoicnmbaaDoorRsZ
set_option linter.unusedVariables false
set_option linter.unusedSimpArgs false
namespace Go.Proofs.YtmdekodoicnmbaaDoor
open Go Go.ChangeShapes Go.WideShapes Go.ChangeAt Go.RowKit Go.Deep Go.Proofs.YtmdekodoicnmbaaDoorW.PrintWords
section
variable {H : Type} {enc : TypeId × Value → H} {W : World} {b : Nat} {v : Value} {d : DataW H} {p : List MemPlace}
theorem open_strs0 {fuel : Nat} (hf : DataW.trod enc Tryd.prog W 0 (fun _ => true) true fuel 33 [v] = some (d, p)) :
    ∃ A c l, v = .slice A (l : List ByteArray).length c ∧ Kd.string.C W A l.length l ∧ l.length ≤ c := by
  rcases open_strings Tryd.underlying33 Tryd.underlying9 (by kernel_rfl) hf with ⟨h0, -⟩ | ⟨a, len', cap', ss, hcs, -, hl, hm, hlen, hx, hcell, -⟩
  · simp only [List.cons.injEq, and_true] at h0
    subst h0
    exact ⟨none, 0, [], rfl, Kd.C_of_reads (d := (⟨#[]⟩ : ByteArray)) ⟨rfl, by decide, fun h => absurd h (by decide)⟩, Nat.le_refl _⟩
  · simp only [List.cons.injEq, and_true] at hcs
    subst hcs
    simp only [if_true] at hlen
    have hmx : cap' ≤ 9223372036854775807 := by unfold maxLen at hm; omega
    have hxl : (ss.take len').length = len' := by simp; omega
    refine ⟨some a, cap', ss.take len', by rw [hxl], Kd.C_of_reads (d := ByteArray.empty) ⟨rfl, by omega, fun _ => ⟨a, rfl, fun j hj => ?_⟩⟩, by omega⟩
    rw [hxl] at hj
    have e : (ss.take len').getD j ByteArray.empty = ss.getD j ByteArray.empty := by
      simp [List.getD_eq_getElem?_getD, List.getElem?_take, hj]
    rw [e]
    exact hcell j (by omega)
theorem open_lists (hv : Value.okWide Tryd.prog W .any b 27 v) (h : DataW.Trod enc Tryd.prog W 0 (fun _ => true) true 27 v d p) :
    ∃ A c l, v = .slice A (l : List (List ByteArray)).length c ∧ kLists.C W A l.length l ∧ l.length ≤ c := by
  obtain ⟨A0, len0, cap0, rfl⟩ := okWide_slice Tryd.underlying27 hv
  obtain ⟨fuel, hf⟩ := h
  have hf' : DataW.trod enc Tryd.prog W 0 (fun _ => true) true fuel 27 [.slice A0 len0 cap0] = some (d, p) := hf
  rcases open_slice1 Tryd.underlying27 (by kernel_rfl) hf' with ⟨h0, -⟩ | ⟨a, len, cap, m, n, V, D, Pl, hcs, -, hl, hm, hmm, -, hx⟩
  · simp only [List.cons.injEq, Value.slice.injEq, and_true] at h0
    obtain ⟨rfl, rfl, rfl⟩ := h0
    exact ⟨none, 0, [], rfl, ⟨rfl, by decide, fun h => absurd h (by decide)⟩, Nat.le_refl _⟩
  · simp only [List.cons.injEq, Value.slice.injEq, and_true] at hcs
    obtain ⟨rfl, rfl, rfl⟩ := hcs
    simp only [if_true] at hmm
    have hmx : cap0 ≤ 9223372036854775807 := by unfold maxLen at hm; omega
    obtain ⟨L, hL⟩ := choose_lt (α := List ByteArray) (p := fun i x => ∃ A c, V i = .slice A x.length c ∧ Kd.string.C W A x.length x ∧ x.length ≤ c) (n := len0) (fun i hi => by
      obtain ⟨-, h2⟩ := hx i (by omega)
      obtain ⟨A, c, l, e, hC, hc⟩ := open_strs0 h2
      exact ⟨l, A, c, e, hC, hc⟩)
    have hxl : ((List.range len0).map L).length = len0 := by simp
    refine ⟨some a, cap0, (List.range len0).map L, by rw [hxl], ⟨rfl, by rw [hxl]; omega, fun _ => ⟨a, rfl, fun j x hj => ?_⟩⟩, by rw [hxl]; exact hl⟩
    obtain ⟨hjl, hjx⟩ := List.getElem?_eq_some_iff.1 hj
    rw [hxl] at hjl
    simp only [List.getElem_map, List.getElem_range] at hjx
    subst hjx
    obtain ⟨A, c, e, hC, hc⟩ := hL j hjl
    refine ⟨[V j], rfl, ⟨A, c, by rw [e], hc, hC⟩, fun i u hu => ?_⟩
    obtain ⟨hi, rfl⟩ := List.getElem?_eq_some_iff.1 hu
    have hi0 : i = 0 := by simp at hi; omega
    subst hi0
    have := (hx j (by omega)).1
    have hsz : kLists.sz = 1 := rfl
    rw [hsz, Nat.mul_one, Nat.add_zero]
    exact this
end
end Go.Proofs.YtmdekodoicnmbaaDoor
