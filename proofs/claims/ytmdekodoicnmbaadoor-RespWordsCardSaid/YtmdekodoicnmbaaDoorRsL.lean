/- A command written. Conditions: the listed variables as laid; texts within the machine's reach. -/
import Derived.Test.YtmdekodoicnmbaaDoorRsK
import Derived.Test.YtmdekodoicnmbaaDoorRRpx2
set_option linter.unusedVariables false
set_option linter.unusedSimpArgs false
namespace Go.Proofs.YtmdekodoicnmbaaDoor
open Go.RowKit Go.Proofs.YtmdekodoicnmbaaDoorW.PrintWords
def argV (s : List UInt8) : List UInt8 := [36] ++ Lib.decDigits s.length ++ [13, 10] ++ s ++ [13, 10]
def argsB (xs : List ByteArray) : List UInt8 := xs.flatMap fun x => argV x.data.toList
def cmdV (xs : List ByteArray) : List UInt8 := [42] ++ Lib.decDigits xs.length ++ [13, 10] ++ argsB xs
theorem argsB_snoc (xs : List ByteArray) (x : ByteArray) : argsB (xs ++ [x]) = argsB xs ++ argV x.data.toList := by simp [argsB]
theorem argsB_take (xs : List ByteArray) (k : Nat) (x : ByteArray) (h : xs[k]? = some x) : argsB (xs.take (k + 1)) = argsB (xs.take k) ++ argV x.data.toList := by
  rw [List.take_add_one, h]
  exact argsB_snoc _ _
theorem argsB_split (xs : List ByteArray) (k : Nat) : argsB xs = argsB (xs.take k) ++ argsB (xs.drop k) := by
  have : xs = xs.take k ++ xs.drop k := (List.take_append_drop k xs).symm
  have h : ∀ a b : List ByteArray, argsB (a ++ b) = argsB a ++ argsB b := fun a b => by simp [argsB]
  rw [← h, List.take_append_drop]
theorem argsB_len (xs : List ByteArray) (k : Nat) : (argsB (xs.take k)).length ≤ (argsB xs).length := by
  rw [argsB_split xs k]
  simp
theorem ba_append (a b : List UInt8) : (⟨a.toArray⟩ : ByteArray) ++ ⟨b.toArray⟩ = ⟨(a ++ b).toArray⟩ := by
  apply ByteArray.ext
  apply Array.toList_inj.1
  rw [ByteArray.data_append]
  simp
theorem itoa_dec (n : Nat) : Lib.itoa (n : Int) = Lib.decDigits n := by
  unfold Lib.itoa
  split
  · omega
  · simp
theorem spot_none {w : World} {b o : Nat} {sp : Option Nat} {v : Value} (h : w.cell? ⟨b, o, sp⟩ = some v) : sp = none := by
  cases sp with
  | none => rfl
  | some x =>
    unfold World.cell? at h
    split at h <;> simp at h
theorem str_cells {w : World} {A : Option Addr} {xs : List ByteArray} (h : Kd.string.C w A xs.length xs) (hn : 0 < xs.length) : ∃ g o, A = some ⟨g, o, none⟩ ∧ g < w.heap.size ∧ ∀ j x, xs[j]? = some x → w.cell? ⟨g, o + j, none⟩ = some (.string x) := by
  obtain ⟨ad, rfl, hc⟩ := (Kd.reads_of_C (d := (⟨#[]⟩ : ByteArray)) h).2.2 hn
  obtain ⟨g, o, sp⟩ := ad
  have h0 := hc 0 hn
  obtain rfl : sp = none := by
    have e : (Addr.add ⟨g, o, sp⟩ 0) = ⟨g, o, sp⟩ := by simp [Addr.add]
    rw [e] at h0
    exact spot_none h0
  rw [Addr.add_mid] at h0
  refine ⟨g, o, rfl, World.block_lt_of_cell? w _ h0, fun j x hj => ?_⟩
  have hjl := (List.getElem?_eq_some_iff.1 hj).1
  have := hc j hjl
  rw [Addr.add_mid] at this
  rw [this, List.getD_eq_getElem?_getD, hj]
  rfl
theorem dec_len : ∀ (d n : Nat), n < 10 ^ (d + 1) → (Lib.decDigits n).length ≤ d + 1
  | d, n, h => by
    rw [Lib.decDigits]
    split
    · simp
    · rename_i h10
      match d, h with
      | 0, h => exact absurd (by simpa using h) h10
      | d + 1, h =>
        have := dec_len d (n / 10) (by rw [Nat.pow_succ] at h; omega)
        simp
        omega
theorem IsB.below {B b : Nat} {bs : List Value} {W W' : World} (h : Lib.IsBuilder 44 5 B b bs W) (hb : Below W.heap.size W W') : Lib.IsBuilder 44 5 B b bs W' := by
  have key : ∀ p, Lib.BuilderAt 44 5 B b p bs W → Lib.BuilderAt 44 5 B b p bs W' := fun p h => by
    have hlt := h.lt
    obtain ⟨h1, v, h2, h3, h4⟩ := h
    exact ⟨h1, v, (hb.block _ hlt).trans h2, pw_own_below h3 hb, h4⟩
  rcases h with h | h
  · exact Or.inl (key _ h)
  · exact Or.inr (key _ h)
theorem cellsB (l : List UInt8) (s : ByteArray) : Lib.byteCells l ++ Lib.strCells s = Lib.byteCells (l ++ s.data.toList) := by
  simp [Lib.byteCells, Lib.strCells]
set_option maxHeartbeats 4000000 in
set_option maxRecDepth 100000 in
theorem Command_calls (A : Option Addr) (c : Nat) (xs : List ByteArray) (w : World) (hr : Kd.string.C w A xs.length xs) (hc : xs.length ≤ c) (hlen : (cmdV xs).length ≤ 140737488355328) (hn : xs.length ≤ 1000000) (hE : Env w) :
    Calls Tryd.prog 12 #[.slice A xs.length c] w fun e w' => e = .returned (.string ⟨(cmdV xs).toArray⟩) ∧ Below w.heap.size w w' := by
  have hcl : (cmdV xs).length = (Lib.decDigits xs.length).length + 3 + (argsB xs).length := by unfold cmdV; simp; omega
  have hI := fun W h => Itoa_calls (xs.length : Int) (by omega) (by omega) W h
  rw [itoa_dec] at hI
  have hD0 := dec_len 18 xs.length (by omega)
  have hDd : ∃ D : ByteArray, D = ⟨(Lib.decDigits xs.length).toArray⟩ := ⟨_, rfl⟩
  obtain ⟨D, hD⟩ := hDd
  have hDs : D.size ≤ 19 := by rw [hD, size_mk]; exact hD0
  rw [← hD] at hI
  have hs1 : ((⟨#[42]⟩ : ByteArray) ++ D ++ ⟨#[13, 10]⟩).data.toList = [42] ++ Lib.decDigits xs.length ++ [13, 10] := by
    rw [hD]
    simp [ByteArray.data_append]
  have hsz1 : ((⟨#[42]⟩ : ByteArray) ++ D ++ ⟨#[13, 10]⟩).size = D.size + 3 := by
    simp [ByteArray.size_append]
    have e1 : (⟨#[42]⟩ : ByteArray).size = 1 := rfl
    have e2 : (⟨#[13, 10]⟩ : ByteArray).size = 2 := rfl
    omega
  have hB0 : Lib.IsBuilder 44 5 w.heap.size w.heap.size [] (w.alloc (.cells #[.pointer none, .slice none 0 0] 44)) :=
    Or.inl ⟨Nat.le_refl _, .slice none 0 0, heap_alloc_new w _, own_nil _ _ _ _, by simp [Value.ownBlock]⟩
  have hb0 : Below w.heap.size w (w.alloc (.cells #[.pointer none, .slice none 0 0] 44)) := below_alloc (Below.refl _ _) _
  replace hD := Lib.hid hD
  replace hs1 := Lib.hid hs1
  replace hcl := Lib.hid hcl
  have hsumA : ¬ 9223372036854775807 < (⟨#[42]⟩ : ByteArray).size + D.size := by have e1 : (⟨#[42]⟩ : ByteArray).size = 1 := rfl; omega
  go_enter Tryd.func12, Tryd.ntmps12
  go_wp2_with fail
  refine (hI _ (hE.below hb0)).mono ?_
  rintro e w1 ⟨rfl, hb1⟩
  have hB1 := IsB.below hB0 hb1
  have hbw1 := hb0.trans (hb1.mono hb0.size)
  clear hB0 hb1 hb0
  have hlen0 : ([] : List Value).length + ((⟨#[42]⟩ : ByteArray) ++ D ++ ⟨#[13, 10]⟩).size ≤ 140737488355328 := by rw [hsz1]; simp; omega
  replace hlen0 := Lib.hid hlen0
  go_wp2_with fail
  refine (WriteString_calls w.heap.size w.heap.size [] _ _ hB1 ?hl hbw1.size).mono ?_
  case hl => exact hlen0.out
  rintro e w2 ⟨rfl, hB2, hb2⟩
  have hbw2 := hbw1.trans hb2
  have hB3 : Lib.IsBuilder 44 5 w.heap.size w.heap.size (Lib.byteCells ([42] ++ Lib.decDigits xs.length ++ [13, 10] ++ argsB (xs.take 0))) w2 := by
    have h := cellsB [] ((⟨#[42]⟩ : ByteArray) ++ D ++ ⟨#[13, 10]⟩)
    rw [hs1.out] at h
    have e0 : Lib.byteCells [] = [] := rfl
    rw [e0] at h
    rw [h] at hB2
    have e1 : argsB (xs.take 0) = [] := by simp [argsB]
    rw [e1, List.append_nil]
    exact Or.inr hB2
  clear hB2 hB1 hb2 hbw1 hI
  have hHL : ([42] ++ Lib.decDigits xs.length ++ [13, 10] : List UInt8).length = (Lib.decDigits xs.length).length + 3 := by simp
  have hfin : [42] ++ Lib.decDigits xs.length ++ [13, 10] ++ argsB (xs.take xs.length) = cmdV xs := by rw [List.take_of_length_le (Nat.le_refl _)]; rfl
  generalize ([42] ++ Lib.decDigits xs.length ++ [13, 10] : List UInt8) = HD at *
  replace hfin := Lib.hid hfin
  replace hHL := Lib.hid hHL
  go_wp2_with fail
  go_loopw [14] (fun s14 wr => ∃ k : Nat, k ≤ xs.length ∧ s14 = .int .i64 k ∧ Lib.IsBuilder 44 5 w.heap.size w.heap.size (Lib.byteCells (HD ++ argsB (xs.take k))) wr ∧ Below w.heap.size w wr) (fun s14 _ => xs.length - (intOf s14).toNat)
  case atStart => exact ⟨0, by omega, rfl, hB3, hbw2⟩
  case round =>
    obtain ⟨k, hk, rfl, hB, hb⟩ := hrel
    clear hB3 hbw2
    by_cases hkn : k < xs.length
    · have hgo : decide ((k : Int) < (xs.length : Int)) = true := decide_eq_true (by omega)
      obtain ⟨x, hx⟩ : ∃ x, xs[k]? = some x := ⟨xs[k], List.getElem?_eq_getElem hkn⟩
      obtain ⟨g, o, rfl, hg, hcells⟩ := str_cells hr (by omega)
      have hcx := (hb.cell (p := ⟨g, o + k, none⟩) hg).trans (hcells k x hx)
      have hnext := argsB_take xs k x hx
      have htot := argsB_len xs (k + 1)
      rw [hnext, List.length_append] at htot
      have hav : argV x.data.toList = [36] ++ Lib.decDigits x.data.toList.length ++ [13, 10] ++ x.data.toList ++ [13, 10] := rfl
      have hxl : x.data.toList.length = x.size := Array.length_toList
      have havl : (argV x.data.toList).length = (Lib.decDigits x.size).length + x.size + 5 := by rw [hav, hxl]; simp; omega
      have hcl2 := hcl.out
      have hI2 := fun W h => Itoa_calls (x.size : Int) (by omega) (by omega) W h
      rw [itoa_dec] at hI2
      have hD2 := dec_len 18 x.size (by omega)
      obtain ⟨D2, hDD⟩ : ∃ D : ByteArray, D = ⟨(Lib.decDigits x.size).toArray⟩ := ⟨_, rfl⟩
      have hD2s : D2.size = (Lib.decDigits x.size).length := by rw [hDD, size_mk]
      rw [← hDD] at hI2
      have e1 : (⟨#[36]⟩ : ByteArray).size = 1 := rfl
      have e2 : (⟨#[13, 10]⟩ : ByteArray).size = 2 := rfl
      have hs2 : ((⟨#[36]⟩ : ByteArray) ++ D2 ++ ⟨#[13, 10]⟩ ++ x ++ ⟨#[13, 10]⟩).data.toList = argV x.data.toList := by
        rw [hav, hxl, hDD]
        simp [ByteArray.data_append]
      have hsz2 : ((⟨#[36]⟩ : ByteArray) ++ D2 ++ ⟨#[13, 10]⟩ ++ x ++ ⟨#[13, 10]⟩).size = D2.size + x.size + 5 := by
        simp only [ByteArray.size_append, e1, e2]
        omega
      have q1 : ¬ 9223372036854775807 < (⟨#[36]⟩ : ByteArray).size + D2.size := by rw [e1]; omega
      have q2 : ¬ 9223372036854775807 < ((⟨#[36]⟩ : ByteArray) ++ D2).size + (⟨#[13, 10]⟩ : ByteArray).size := by simp only [ByteArray.size_append, e1, e2]; omega
      have q3 : ¬ 9223372036854775807 < ((⟨#[36]⟩ : ByteArray) ++ D2 ++ ⟨#[13, 10]⟩).size + x.size := by simp only [ByteArray.size_append, e1, e2]; omega
      have q4 : ¬ 9223372036854775807 < ((⟨#[36]⟩ : ByteArray) ++ D2 ++ ⟨#[13, 10]⟩ ++ x).size + (⟨#[13, 10]⟩ : ByteArray).size := by simp only [ByteArray.size_append, e1, e2]; omega
      have hlen2 : (Lib.byteCells (HD ++ argsB (xs.take k))).length + ((⟨#[36]⟩ : ByteArray) ++ D2 ++ ⟨#[13, 10]⟩ ++ x ++ ⟨#[13, 10]⟩).size ≤ 140737488355328 := by
        rw [Lib.byteCells_length, hsz2, List.length_append, hHL.out]
        omega
      have hk0 : (0 : Int) ≤ (k : Int) := by omega
      clear hav hDD hcells hx hsz2 htot e1 e2
      replace hnext := Lib.hid hnext
      replace hs2 := Lib.hid hs2
      replace havl := Lib.hid havl
      replace hxl := Lib.hid hxl
      replace hcl2 := Lib.hid hcl2
      replace hD2s := Lib.hid hD2s
      replace hlen2 := Lib.hid hlen2
      go_wp2_with fail
      refine (hI2 _ (hE.below hb)).mono ?_
      rintro e w3 ⟨rfl, hb3⟩
      have hB4 := IsB.below hB hb3
      have hbw3 := hb.trans (hb3.mono hb.size)
      clear hB hb3 hI2 hcx
      go_wp2_with fail
      refine (WriteString_calls w.heap.size w.heap.size _ _ _ hB4 ?hl2 hbw3.size).mono ?_
      case hl2 => exact hlen2.out
      rintro e w4 ⟨rfl, hB5, hb4⟩
      rw [cellsB, hs2.out, List.append_assoc, ← hnext.out] at hB5
      have hbw4 := hbw3.trans hb4
      clear hB4 hb4 hbw3 hlen2
      go_wp2_with fail
      exact ⟨⟨k + 1, by omega, by go_num, Or.inr hB5, hbw4⟩, by simp [intOf]; omega⟩
    · obtain rfl : k = xs.length := by omega
      have hgo : decide ((xs.length : Int) < (xs.length : Int)) = false := decide_eq_false (by omega)
      rw [hfin.out] at hB
      have hSt := Tryd.Builder_String_any w.heap.size w.heap.size (cmdV xs) wr hB hb.size
      clear hB
      go_wp2_with fail
      refine hSt.mono ?_
      rintro e w5 ⟨rfl, hb5⟩
      have hbw5 := hb.trans hb5
      go_wp2_with fail
      go_ret
      exact ⟨rfl, hbw5⟩
end Go.Proofs.YtmdekodoicnmbaaDoor
