/- A line's words; an argument. Conditions: the listed variables as laid; texts within the machine's reach. -/
import Derived.Test.YtmdekodoicnmbaaDoorRsD
set_option linter.unusedVariables false
set_option linter.unusedSimpArgs false
namespace Go.Proofs.YtmdekodoicnmbaaDoor
open Go.RowKit Go.Proofs.YtmdekodoicnmbaaDoorW.PrintWords
def blankP (x : Nat) : Bool := decide (x = 32) || decide (x = 9)
def trimL (l : List UInt8) : List UInt8 := Lib.trimSuffix (Lib.trimSuffix l [10]) [13]
def wordsV (l : List UInt8) : List ByteArray := Lib.goFieldsP blankP ⟨(trimL l).toArray⟩
def WdPost (w : World) (xs : List ByteArray) (e : Ending) (w' : World) : Prop :=
  (if 32 < xs.length then e = .returned (.tuple #[.slice none 0 0, .int .i64 30]) else ∃ A, e = .returned (.tuple #[.slice (some ⟨A, 0, none⟩) xs.length xs.length, .int .i64 0]) ∧ w'.ownsRow w.heap.size 9 1 (.slice (some ⟨A, 0, none⟩) xs.length xs.length) xs.length (xs.map Value.string)) ∧ Below w.heap.size w w'
theorem blank_calls (x : Nat) (W : World) : Calls Tryd.prog 29 #[.int .i32 (x : Int)] W fun e w' => e = .returned (.bool (blankP x)) ∧ ∃ q, w' = W.drewN q := by
  unfold blankP
  by_cases h1 : x = 32
  · subst h1
    go_enter Tryd.func29, Tryd.ntmps29
    go_wp2_with fail
    go_ret
    exact ⟨rfl, 0, rfl⟩
  · have e1 : ((x : Int) == 32) = false := by simp; omega
    by_cases h2 : x = 9
    · subst h2
      go_enter Tryd.func29, Tryd.ntmps29
      go_wp2_with fail
      go_ret
      exact ⟨rfl, 0, rfl⟩
    · have e2 : ((x : Int) == 9) = false := by simp; omega
      go_enter Tryd.func29, Tryd.ntmps29
      go_wp2_with fail
      go_ret
      exact ⟨by simp [h1, h2], 0, rfl⟩
theorem trim_len (l p : List UInt8) : (Lib.trimSuffix l p).length ≤ l.length := by
  unfold Lib.trimSuffix
  split
  · simp
  · exact Nat.le_refl _
set_option maxHeartbeats 2000000 in
set_option maxRecDepth 100000 in
theorem words_calls (A : Option Addr) (c : Nat) (l : List UInt8) (hs : l.length ≤ 4096) (w : World) (h : RdB w A c l) :
    Calls Tryd.prog 21 #[.slice A l.length c] w (WdPost w (wordsV l)) := by
  have hconv := conv_str h
  have hT1 := fun W => Tryd.strings_TrimSuffix ⟨l.toArray⟩ ⟨#[10]⟩ W (by rw [size_mk]; omega)
  have e1 : (⟨l.toArray⟩ : ByteArray).data.toList = l := rfl
  have e2 : (⟨#[10]⟩ : ByteArray).data.toList = [10] := rfl
  have e3 : (⟨#[13]⟩ : ByteArray).data.toList = [13] := rfl
  rw [e1, e2] at hT1
  have hl1 := trim_len l [10]
  have hT2 := fun W => Tryd.strings_TrimSuffix ⟨(Lib.trimSuffix l [10]).toArray⟩ ⟨#[13]⟩ W (by rw [size_mk]; omega)
  have e4 : (⟨(Lib.trimSuffix l [10]).toArray⟩ : ByteArray).data.toList = Lib.trimSuffix l [10] := rfl
  rw [e4, e3] at hT2
  have hl2 := trim_len (Lib.trimSuffix l [10]) [13]
  have hW : wordsV l = Lib.goFieldsP blankP ⟨(Lib.trimSuffix (Lib.trimSuffix l [10]) [13]).toArray⟩ := rfl
  have hF := fun W => Tryd.strings_FieldsFunc 29 #[] (enters_of Tryd.func29 (by kernel_rfl) rfl) blankP ⟨(Lib.trimSuffix (Lib.trimSuffix l [10]) [13]).toArray⟩ W (by rw [size_mk]; omega) (fun W' x _ => blank_calls x W')
  rw [← hW] at hF
  generalize wordsV l = xs at *
  generalize (⟨(Lib.trimSuffix (Lib.trimSuffix l [10]) [13]).toArray⟩ : ByteArray) = T3 at *
  generalize (⟨(Lib.trimSuffix l [10]).toArray⟩ : ByteArray) = T2 at *
  generalize (⟨l.toArray⟩ : ByteArray) = T1 at *
  clear e1 e2 e3 e4 hl1 hl2 hW h
  go_enter Tryd.func21, Tryd.ntmps21
  go_wp2_with fail
  refine (hT1 _).mono ?_
  rintro e w2 ⟨rfl, rfl⟩
  go_wp2_with fail
  refine (hT2 _).mono ?_
  rintro e w3 ⟨rfl, rfl⟩
  go_wp2_with fail
  refine (hF _).mono ?_
  rintro e w4 ⟨F, rfl, -, hown, hb⟩
  by_cases h32 : 32 < xs.length
  · have hgo : (32 : Int) < (xs.length : Int) := by omega
    replace hown := Lib.hid hown
    go_wp2_with fail
    go_ret2
    unfold WdPost
    rw [if_pos h32]
    exact ⟨rfl, hb⟩
  · have hgo : ¬ (32 : Int) < (xs.length : Int) := by omega
    replace hown := Lib.hid hown
    go_wp2_with fail
    go_ret2
    unfold WdPost
    rw [if_neg h32]
    exact ⟨⟨F, rfl, hown.out⟩, hb⟩
end Go.Proofs.YtmdekodoicnmbaaDoor
