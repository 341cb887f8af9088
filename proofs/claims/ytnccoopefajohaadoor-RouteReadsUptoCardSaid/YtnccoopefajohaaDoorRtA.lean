/- The law's own check of one decision: it holds. Conditions: the listed variables as laid. -/
import Derived.Test.YtnccoopefajohaaDoorRtV
import Derived.Test.YtnccoopefajohaaDoorRtP
import Derived.Outline
set_option linter.unusedVariables false
set_option linter.unusedSimpArgs false
namespace Go.Proofs.YtnccoopefajohaaDoor
open Go.RowKit Go.Proofs.YtnccoopefajohaaDoorW.PrintWords
open RtS RtR R04P
theorem refDecide_calls (a0 a1 a2 a3 a4 a5 : Int) (A6 A7 A8 : Option Addr) (c6 c7 c8 : Nat) (l6 : List Int) (l7 l8 : List Bool) (w : World)
    (hr6 : Kd.C (Kd.int .i64) w A6 l6.length l6) (hc6 : l6.length ≤ c6) (hm6 : l6.length ≤ 9223372036854775807)
    (hr7 : Kd.C Kd.bool w A7 l7.length l7) (hc7 : l7.length ≤ c7) (hr8 : Kd.C Kd.bool w A8 l8.length l8) (hc8 : l8.length ≤ c8) :
    Calls Tryd.prog 11 #[.agg #[.int .i64 a0, .int .i64 a1, .int .i64 a2, .int .i64 a3, .int .i64 a4, .int .i64 a5, .slice A6 l6.length c6, .slice A7 l7.length c7, .slice A8 l8.length c8]] w
      fun e w' => e = .returned (decV (decideV a0 a1 a2 a3 a4 a5 l6 l7 l8)) ∧ Below w.heap.size w w' :=
  RRt.marshalyardref17_Decide.calls (l6.length + 5) _ _ _ _ _ _ A6 c6 l6 A7 c7 l7 A8 c8 l8 _ _ _ _ w hr6 hc6 hr7 hc7 hr8 hc8 (RtP.refDecide_eq a0 a1 a2 a3 a4 a5 l6 l7 l8 (by omega) _ (by omega))

theorem readAsk : readV [65, 83, 75, 32, 53, 32, 51, 32, 55] = (3, 5, 3, 7, true) := by
  have e : textV 3 5 3 7 = [65, 83, 75, 32, 53, 32, 51, 32, 55] := by decide +kernel
  rw [← e]
  exact readV_text ⟨by decide, by decide, by decide, by decide, by decide, by decide⟩

set_option maxRecDepth 100000 in
theorem alive_calls (w : World) (hE : Env w) : Calls Tryd.prog 9 #[] w fun e w' => e = .returned (.bool true) ∧ Below w.heap.size w w' := by
  have hD : Calls Tryd.prog 10 #[.agg #[.int .i64 1, .int .i64 2, .int .i64 (-1), .int .i64 (-1), .int .i64 0, .int .i64 0, .slice (some ⟨w.heap.size, 0, none⟩) 1 1, .slice none 0 0, .slice none 0 0]]
      (w.alloc (Obj.cells #[Value.int IntKind.i64 5] 3)) fun e w' => e = .returned (.agg #[.int .i64 2, .int .i64 5, .int .i64 2, .int .i64 0]) ∧ Below (w.alloc (Obj.cells #[Value.int IntKind.i64 5] 3)).heap.size (w.alloc (Obj.cells #[Value.int IntKind.i64 5] 3)) w' := by
    refine Decide_calls 1 2 (-1) (-1) 0 0 (some ⟨w.heap.size, 0, none⟩) none none 1 0 0 [5] [] [] _ ?_ ?_ ?_ ?_ ?_ ?_ ?_
    · refine Kd.C_of_reads (d := (0 : Int)) (h1 := fun _ => rfl) ⟨rfl, by decide, fun _ => ⟨_, rfl, fun j hj => ?_⟩⟩
      obtain rfl : j = 0 := by simp at hj; omega
      simp [go_sem]
    · decide
    · decide
    · exact ⟨rfl, Nat.zero_le _, fun h => absurd h (Nat.lt_irrefl _)⟩
    · decide
    · exact ⟨rfl, Nat.zero_le _, fun h => absurd h (Nat.lt_irrefl _)⟩
    · decide
  have hR := fun W h => Read_calls ⟨#[65, 83, 75, 32, 53, 32, 51, 32, 55]⟩ (by decide) W h
  rw [show (⟨#[65, 83, 75, 32, 53, 32, 51, 32, 55]⟩ : ByteArray).data.toList = [65, 83, 75, 32, 53, 32, 51, 32, 55] from rfl, readAsk] at hR
  have hT := fun W h => Text_calls 2 5 2 0 ⟨by decide, by decide⟩ ⟨by decide, by decide⟩ ⟨by decide, by decide⟩ W h
  rw [show textV 2 5 2 0 = [77, 79, 86, 69, 68, 32, 53, 32, 50] by decide +kernel] at hT
  go_enter Tryd.func9, Tryd.ntmps9
  go_wp2_with fail
  refine hD.mono ?_
  rintro e w1 ⟨rfl, hb1⟩
  have hb : Below w.heap.size w w1 := (below_alloc (Below.refl _ _) _).trans (hb1.mono (by simp))
  have hE1 := hE.below hb
  clear hD hb1
  go_wp2_with fail
  refine (hR _ (hE1.below (by repeat (first | exact Below.refl _ _ | apply below_alloc)))).mono ?_
  rintro e w2 ⟨rfl, hb2⟩
  have hb' : Below w.heap.size w w2 := (below_alloc hb _).trans (hb2.mono (below_alloc hb _).size)
  have hE2 := hE.below hb'
  have d0 : w2.cell? ⟨w1.heap.size, 0, none⟩ = some (.int .i64 2) := (hb2.cell (p := ⟨w1.heap.size, 0, none⟩) (by simp)).trans (by simp [go_sem])
  have d1 : w2.cell? ⟨w1.heap.size, 1, none⟩ = some (.int .i64 5) := (hb2.cell (p := ⟨w1.heap.size, 1, none⟩) (by simp)).trans (by simp [go_sem])
  have d2 : w2.cell? ⟨w1.heap.size, 2, none⟩ = some (.int .i64 2) := (hb2.cell (p := ⟨w1.heap.size, 2, none⟩) (by simp)).trans (by simp [go_sem])
  have d3 : w2.cell? ⟨w1.heap.size, 3, none⟩ = some (.int .i64 0) := (hb2.cell (p := ⟨w1.heap.size, 3, none⟩) (by simp)).trans (by simp [go_sem])
  have hlt : w1.heap.size < w2.heap.size := by have := hb2.size; simp at this; omega
  have hne : w1.heap.size ≠ w2.heap.size := by omega
  clear hR hb2
  go_wp2_with fail
  refine (hT _ (hE2.below (by repeat (first | exact Below.refl _ _ | apply below_alloc)))).mono ?_
  rintro e w3 ⟨rfl, hb3⟩
  have hbb : Below w.heap.size w w3 := (below_alloc hb' _).trans (hb3.mono (below_alloc hb' _).size)
  have g0 : w3.cell? ⟨w2.heap.size, 0, none⟩ = some (.int .i64 3) := (hb3.cell (p := ⟨w2.heap.size, 0, none⟩) (by simp)).trans (by simp [go_sem])
  have g1 : w3.cell? ⟨w2.heap.size, 1, none⟩ = some (.int .i64 5) := (hb3.cell (p := ⟨w2.heap.size, 1, none⟩) (by simp)).trans (by simp [go_sem])
  have g2 : w3.cell? ⟨w2.heap.size, 2, none⟩ = some (.int .i64 3) := (hb3.cell (p := ⟨w2.heap.size, 2, none⟩) (by simp)).trans (by simp [go_sem])
  have g3 : w3.cell? ⟨w2.heap.size, 3, none⟩ = some (.int .i64 7) := (hb3.cell (p := ⟨w2.heap.size, 3, none⟩) (by simp)).trans (by simp [go_sem])
  clear hT hb3 hb' hb
  go_wp2
  go_ret
  exact ⟨rfl, hbb⟩
end Go.Proofs.YtnccoopefajohaaDoor
