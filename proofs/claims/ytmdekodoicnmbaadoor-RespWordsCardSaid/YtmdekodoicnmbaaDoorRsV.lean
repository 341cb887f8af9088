/- Rows of texts as they come in. Conditions: none. -/
import Derived.Test.YtmdekodoicnmbaaDoorRsU
import Derived.Test.YtmdekodoicnmbaaDoorRows
import Derived.ProofKit
import Derived.OpenShut
import Derived.Carry
import Derived.SliceStrings
import Derived.Deep.Slices
set_option linter.unusedVariables false
set_option linter.unusedSimpArgs false
namespace Go.Proofs.YtmdekodoicnmbaaDoor
open Go Go.ChangeShapes Go.WideShapes Go.ChangeAt Go.RowKit Go.Deep Go.Proofs.YtmdekodoicnmbaaDoorW.PrintWords
section
variable {H : Type} {enc : TypeId × Value → H} {W : World} {b : Nat} {v : Value} {d : DataW H} {p : List MemPlace}
def sizes (l : List ByteArray) : Nat := (l.map fun x => x.size + 1).sum
theorem bulk_strs : ∀ l : List ByteArray, Rows.uptoBulkAll (strs (H := H) l) = sizes l
  | [] => by simp [strs, Rows.uptoBulkAll, sizes]
  | x :: l => by
    have ih := bulk_strs l
    have e : x.data.toList.length = x.size := Array.length_toList
    simp only [strs, List.map_cons, Rows.uptoBulkAll, Rows.uptoBulk] at ih ⊢
    rw [ih, e]
    simp [sizes]
theorem open_strs (hv : Value.okWide Tryd.prog W .any b 33 v) (h : DataW.Trod enc Tryd.prog W 0 (fun _ => true) true 33 v d p) :
    ∃ A c l, v = .slice A (l : List ByteArray).length c ∧ Kd.string.C W A l.length l ∧ l.length ≤ c ∧ sizes l ≤ Rows.uptoBulk d := by
  obtain ⟨A0, len, cap, rfl⟩ := okWide_slice Tryd.underlying33 hv
  obtain ⟨fuel, hf⟩ := h
  have hf' : DataW.trod enc Tryd.prog W 0 (fun _ => true) true fuel 33 [.slice A0 len cap] = some (d, p) := hf
  rcases open_strings Tryd.underlying33 Tryd.underlying9 (by kernel_rfl) hf' with ⟨h0, -⟩ | ⟨a, len', cap', ss, hcs, -, hl, hm, hlen, hx, hcell, -⟩
  · simp only [List.cons.injEq, Value.slice.injEq, and_true] at h0
    obtain ⟨rfl, rfl, rfl⟩ := h0
    exact ⟨none, 0, [], rfl, Kd.C_of_reads (d := (⟨#[]⟩ : ByteArray)) ⟨rfl, by decide, fun h => absurd h (by decide)⟩, Nat.le_refl _, by simp [sizes]⟩
  · simp only [List.cons.injEq, Value.slice.injEq, and_true] at hcs
    obtain ⟨rfl, rfl, rfl⟩ := hcs
    simp only [if_true] at hlen
    have hmx : cap ≤ 9223372036854775807 := by unfold maxLen at hm; omega
    have hxl : (ss.take len).length = len := by simp; omega
    refine ⟨some a, cap, ss.take len, by rw [hxl], Kd.C_of_reads (d := ByteArray.empty) ⟨rfl, by omega, fun _ => ⟨a, rfl, fun j hj => ?_⟩⟩, by omega, ?_⟩
    · rw [hxl] at hj
      have e : (ss.take len).getD j ByteArray.empty = ss.getD j ByteArray.empty := by
        simp [List.getD_eq_getElem?_getD, List.getElem?_take, hj]
      rw [e]
      exact hcell j (by omega)
    · have hd : d = .slice (strs (ss.take len)) (strs (ss.drop len)) := congrArg Prod.fst hx
      rw [hd]
      simp only [Rows.uptoBulk, bulk_strs]
      omega
theorem up_le {gs : List (DataW H)} {n : Nat} (h : n ≤ Rows.uptoBulk d) (hup : Rows.uptoSmall H (d :: gs) = true) : n ≤ 1048576 := by
  have := of_decide_eq_true hup
  simp only [Rows.uptoBulkAll] at this
  omega
end
theorem argsB_sizes : ∀ l : List ByteArray, sizes l ≤ 1048576 → (argsB l).length ≤ 25 * sizes l
  | [], _ => by simp [argsB, sizes]
  | x :: l, h => by
    have e : sizes (x :: l) = x.size + 1 + sizes l := by simp [sizes]
    have ih := argsB_sizes l (by omega)
    have hd := dec_len 18 x.size (by omega)
    have e2 : x.data.toList.length = x.size := Array.length_toList
    have e3 : (argsB (x :: l)).length = (argV x.data.toList).length + (argsB l).length := by simp [argsB]
    have e4 : (argV x.data.toList).length = (Lib.decDigits x.size).length + x.size + 5 := by unfold argV; rw [e2]; simp [e2]; omega
    omega
theorem RespWrites_walk (A : Option Addr) (c : Nat) (xs : List ByteArray) (w : World) (hE : Env w) (hr : Kd.string.C w A xs.length xs) (hc : xs.length ≤ c) (hs : sizes xs ≤ 1048576) :
    Calls Tryd.prog 4 #[.slice A xs.length c] w fun e w' => e = .returned (.bool true) ∧ Below w.heap.size w w' := by
  refine Writes_calls A c xs w hE hr hc ?_
  have h1 := argsB_sizes xs hs
  have h0 : xs.length ≤ 1048576 := by
    have : ∀ l : List ByteArray, l.length ≤ sizes l := by
      intro l
      induction l with
      | nil => simp [sizes]
      | cons x l ih => have e : sizes (x :: l) = x.size + 1 + sizes l := by simp [sizes]
                       rw [e, List.length_cons]; omega
    have := this xs
    omega
  have hd := dec_len 18 xs.length (by omega)
  have hcl : (cmdV xs).length = (Lib.decDigits xs.length).length + 3 + (argsB xs).length := by unfold cmdV; simp; omega
  omega
end Go.Proofs.YtmdekodoicnmbaaDoor
