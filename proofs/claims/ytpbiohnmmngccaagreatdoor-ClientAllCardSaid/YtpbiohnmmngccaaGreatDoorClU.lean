/- The table of commands, as a list; a name in great letters: table.upper. Conditions: utf8's tables as laid; texts below 2^45 bytes. -/
import Derived.Test.YtpbiohnmmngccaaGreatDoorClQ
import Derived.Shelf.Strings.MapAny
set_option linter.unusedVariables false
set_option linter.unusedSimpArgs false
namespace Go.Proofs.YtpbiohnmmngccaaGreatDoor
open Go.RowKit Go.Proofs.YtpbiohnmmngccaaGreatDoorW.PrintWords
structure Spec where
  name : List UInt8
  least : Int
  most : Int
  first : Int
  last : Int
  step : Int
  writes : Bool
def specs : List Spec := [
  ⟨[80, 73, 78, 71], 0, 0, 0, 0, 0, false⟩,
  ⟨[69, 67, 72, 79], 1, 1, 0, 0, 0, false⟩,
  ⟨[71, 69, 84], 1, 1, 1, 1, 1, false⟩,
  ⟨[83, 69, 84], 2, 2, 1, 1, 1, true⟩,
  ⟨[68, 69, 76], 1, 31, 1, (-1), 1, true⟩,
  ⟨[69, 88, 73, 83, 84, 83], 1, 31, 1, (-1), 1, false⟩,
  ⟨[84, 89, 80, 69], 1, 1, 1, 1, 1, false⟩,
  ⟨[65, 80, 80, 69, 78, 68], 2, 2, 1, 1, 1, true⟩,
  ⟨[83, 84, 82, 76, 69, 78], 1, 1, 1, 1, 1, false⟩,
  ⟨[73, 78, 67, 82, 66, 89], 2, 2, 1, 1, 1, true⟩,
  ⟨[77, 71, 69, 84], 1, 31, 1, (-1), 1, false⟩,
  ⟨[77, 83, 69, 84], 2, 31, 1, (-1), 2, true⟩,
  ⟨[72, 83, 69, 84], 3, 31, 1, 1, 1, true⟩,
  ⟨[72, 71, 69, 84], 2, 2, 1, 1, 1, false⟩,
  ⟨[72, 68, 69, 76], 2, 31, 1, 1, 1, true⟩,
  ⟨[72, 76, 69, 78], 1, 1, 1, 1, 1, false⟩,
  ⟨[72, 65, 76, 76], 1, 1, 1, 1, 1, false⟩,
  ⟨[76, 80, 85, 83, 72], 2, 31, 1, 1, 1, true⟩,
  ⟨[82, 80, 85, 83, 72], 2, 31, 1, 1, 1, true⟩,
  ⟨[76, 80, 79, 80], 1, 1, 1, 1, 1, true⟩,
  ⟨[82, 80, 79, 80], 1, 1, 1, 1, 1, true⟩,
  ⟨[76, 76, 69, 78], 1, 1, 1, 1, 1, false⟩,
  ⟨[76, 73, 78, 68, 69, 88], 2, 2, 1, 1, 1, false⟩,
  ⟨[76, 82, 65, 78, 71, 69], 3, 3, 1, 1, 1, false⟩,
  ⟨[76, 84, 82, 73, 77], 3, 3, 1, 1, 1, true⟩,
  ⟨[83, 65, 68, 68], 2, 31, 1, 1, 1, true⟩,
  ⟨[83, 82, 69, 77], 2, 31, 1, 1, 1, true⟩,
  ⟨[83, 72, 65, 83], 2, 2, 1, 1, 1, false⟩,
  ⟨[83, 65, 76, 76], 1, 1, 1, 1, 1, false⟩,
  ⟨[83, 67, 65, 82, 68], 1, 1, 1, 1, 1, false⟩,
  ⟨[83, 85, 78, 73, 79, 78], 1, 31, 1, (-1), 1, false⟩,
  ⟨[83, 73, 78, 84, 69, 82], 1, 31, 1, (-1), 1, false⟩,
  ⟨[83, 68, 73, 70, 70], 1, 31, 1, (-1), 1, false⟩,
  ⟨[80, 83, 69, 84], 2, 2, 1, 1, 1, true⟩,
  ⟨[80, 71, 69, 84], 1, 1, 1, 1, 1, false⟩,
  ⟨[80, 65, 68, 68], 2, 2, 1, 1, 1, true⟩,
  ⟨[80, 77, 85, 76], 2, 2, 1, 1, 1, true⟩,
  ⟨[80, 84, 85, 82, 78], 2, 2, 1, 1, 1, true⟩,
  ⟨[80, 78, 79, 82, 77], 1, 1, 1, 1, 1, false⟩,
  ⟨[69, 88, 80, 73, 82, 69], 2, 2, 1, 1, 1, true⟩,
  ⟨[84, 84, 76], 1, 1, 1, 1, 1, false⟩,
  ⟨[80, 69, 82, 83, 73, 83, 84], 1, 1, 1, 1, 1, true⟩,
  ⟨[68, 85, 77, 80], 1, 1, 1, 1, 1, false⟩,
  ⟨[82, 69, 83, 84, 79, 82, 69], 3, 3, 1, 1, 1, true⟩,
  ⟨[75, 69, 89, 83, 76, 79, 84], 1, 1, 0, 0, 0, false⟩,
  ⟨[67, 79, 85, 78, 84], 1, 1, 0, 0, 0, false⟩,
  ⟨[75, 69, 89, 83], 2, 2, 0, 0, 0, false⟩]
def Spec.cells (s : Spec) : List Value := [.string ⟨s.name.toArray⟩, .int .i64 s.least, .int .i64 s.most, .int .i64 s.first, .int .i64 s.last, .int .i64 s.step, .bool s.writes]
def specC : Array Value := (specs.flatMap Spec.cells).toArray
def up1 (x : Int) : Int := if 97 ≤ x ∧ x ≤ 122 then x - 32 else x
def upperV (l : List UInt8) : List UInt8 := Lib.mapD up1 l
theorem up1_calls (x : Nat) (hx : x ≤ 1114111) (W : World) : Calls Tryz.prog 81 #[.int .i32 (x : Int)] W fun e w' => e = .returned (.int .i32 (up1 x)) ∧ ∃ q, w' = W.drewN q := by
  by_cases h1 : 97 ≤ x
  · have d1 : decide ((97 : Int) ≤ (x : Int)) = true := decide_eq_true (by omega)
    by_cases h2 : x ≤ 122
    · have d2 : decide ((x : Int) ≤ 122) = true := decide_eq_true (by omega)
      have hu : up1 x = (x : Int) - 32 := by unfold up1; rw [if_pos (by omega)]
      have hw : IntKind.i32.wrap ((x : Int) - 32) = (x : Int) - 32 := by simp [IntKind.wrap, IntKind.bits, IntKind.signed]; omega
      rw [hu]
      go_enter Tryz.func81, Tryz.ntmps81
      go_wp2_with fail
      go_ret
      exact ⟨rfl, 0, rfl⟩
    · have d2 : decide ((x : Int) ≤ 122) = false := decide_eq_false (by omega)
      have hu : up1 x = (x : Int) := by unfold up1; rw [if_neg (by omega)]
      rw [hu]
      go_enter Tryz.func81, Tryz.ntmps81
      go_wp2_with fail
      go_ret
      exact ⟨rfl, 0, rfl⟩
  · have d1 : decide ((97 : Int) ≤ (x : Int)) = false := decide_eq_false (by omega)
    have hu : up1 x = (x : Int) := by unfold up1; rw [if_neg (by omega)]
    rw [hu]
    go_enter Tryz.func81, Tryz.ntmps81
    go_wp2_with fail
    go_ret
    exact ⟨rfl, 0, rfl⟩
theorem upper_calls (s : ByteArray) (hs : s.size < 35184372088832) (w : World) (hE : Env w) :
    Calls Tryz.prog 68 #[.string s] w fun e w' => e = .returned (.string ⟨(upperV s.data.toList).toArray⟩) ∧ Below w.heap.size w w' := by
  have hM := Tryz.strings_Map_runes 81 #[] (enters_of Tryz.func81 (by kernel_rfl) rfl) up1 s w hs (fun W x hx _ => (up1_calls x hx W)) (fun x hx => by unfold up1; split <;> omega) hE.utf
  go_enter Tryz.func68, Tryz.ntmps68
  go_wp2_with fail
  refine hM.mono ?_
  rintro e w2 ⟨rfl, hb⟩
  go_wp2_with fail
  go_ret
  exact ⟨rfl, hb⟩
end Go.Proofs.YtpbiohnmmngccaaGreatDoor
