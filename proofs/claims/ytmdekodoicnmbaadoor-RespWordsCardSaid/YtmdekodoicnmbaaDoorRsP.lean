/- The stream that every law reads first. Conditions: none. -/
import Derived.Test.YtmdekodoicnmbaaDoorRsN
set_option linter.unusedVariables false
set_option linter.unusedSimpArgs false
namespace Go.Proofs.YtmdekodoicnmbaaDoor
open Go.RowKit Go.Proofs.YtmdekodoicnmbaaDoorW.PrintWords
def pingB : List UInt8 := [42, 49, 13, 10, 36, 52, 13, 10, 80, 73, 78, 71, 13, 10, 103, 101, 116, 32, 97, 10]
def pingS : ByteArray := ⟨#[80, 73, 78, 71]⟩
def getS : ByteArray := ⟨#[103, 101, 116]⟩
def aS : ByteArray := ⟨#[97]⟩
theorem dec1 : Lib.decDigits 1 = [49] := by rw [Lib.decDigits, dif_pos (by decide)]; rfl
theorem dec4 : Lib.decDigits 4 = [52] := by rw [Lib.decDigits, dif_pos (by decide)]; rfl
theorem ping_cmd : cmdV [pingS] = [42, 49, 13, 10, 36, 52, 13, 10, 80, 73, 78, 71, 13, 10] := by
  have e1 : cmdV [pingS] = [42] ++ Lib.decDigits 1 ++ [13, 10] ++ (([36] ++ Lib.decDigits 4 ++ [13, 10] ++ [80, 73, 78, 71] ++ [13, 10]) ++ []) := rfl
  rw [e1, dec1, dec4]
  rfl
theorem ping_eq : pingB = cmdV [pingS] ++ [103, 101, 116, 32, 97, 10] := by rw [ping_cmd]; rfl
theorem one_ping : oneV pingB = .read [pingS] 14 := by
  rw [ping_eq, oneV_back [pingS] _ (by decide) (by decide), ping_cmd]
  rfl
theorem words_get : wordsV [103, 101, 116, 32, 97, 10] = [getS, aS] := by decide
theorem lk_get : lkV [103, 101, 116, 32, 97, 10] = 5 := by decide
theorem one_get : oneV [103, 101, 116, 32, 97, 10] = .read [getS, aS] 6 := by
  unfold oneV
  rw [if_neg (by simp), lk_get, if_neg (by decide), if_pos (by decide)]
  have e : List.take ((5 : Int).toNat + 1) [(103 : UInt8), 101, 116, 32, 97, 10] = [103, 101, 116, 32, 97, 10] := rfl
  rw [e, words_get, if_neg (by decide)]
  rfl
theorem ping_drop : pingB.drop 14 = [103, 101, 116, 32, 97, 10] := by decide
theorem next_ping : nextV pingB 0 = .got [pingS] [103, 101, 116, 32, 97, 10] := by
  unfold nextV
  rw [if_pos rfl]
  have e : pingB.length + 1 = 20 + 1 := rfl
  rw [e, nextF, one_ping]
  simp only
  rw [if_neg (by simp), ping_drop]
theorem next_get : nextV [103, 101, 116, 32, 97, 10] 0 = .got [getS, aS] [] := by
  unfold nextV
  rw [if_pos rfl]
  simp only [List.length_cons, nextF, one_get]
  rw [if_neg (by simp)]
  rfl
theorem next_none : nextV [] 0 = .stop 0 [] := by
  unfold nextV
  rw [if_pos rfl]
  simp [nextF, oneV]
theorem all_ping : allV 9 pingB 0 [] = ([[pingS], [getS, aS]], 0, [], 0) := by
  simp only [allV, next_ping, next_get, next_none]
  rfl
end Go.Proofs.YtmdekodoicnmbaaDoor
