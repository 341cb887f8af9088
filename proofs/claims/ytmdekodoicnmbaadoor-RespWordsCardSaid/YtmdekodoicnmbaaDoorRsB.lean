/- Slices of bytes that read as a list; a line of them. Conditions: none. -/
import Derived.Test.YtmdekodoicnmbaaDoorRsA
import Derived.Lib.IndexLaws
set_option linter.unusedVariables false
set_option linter.unusedSimpArgs false
namespace Go.Proofs.YtmdekodoicnmbaaDoor
open Go.RowKit Go.Proofs.YtmdekodoicnmbaaDoorW.PrintWords
/-- A slice of bytes reads as this list. -/
def RdB (W : World) (A : Option Addr) (c : Nat) (l : List UInt8) : Prop :=
  l.length ≤ c ∧ c ≤ 9223372036854775807 ∧ ((A = none ∧ c = 0) ∨ ∃ g o, A = some ⟨g, o, none⟩ ∧ g < W.heap.size ∧ ∀ j, j < l.length → W.cell? ⟨g, o + j, none⟩ = some (.int .u8 ((l.getD j 0).toNat : Int)))
theorem RdB.below {W W' : World} {A : Option Addr} {c : Nat} {l : List UInt8} (h : RdB W A c l) (hb : Below W.heap.size W W') : RdB W' A c l := by
  obtain ⟨h1, h2, h3⟩ := h
  refine ⟨h1, h2, ?_⟩
  rcases h3 with h3 | ⟨g, o, hA, hg, hc⟩
  · exact Or.inl h3
  · exact Or.inr ⟨g, o, hA, Nat.lt_of_lt_of_le hg hb.size, fun j hj => (hb.cell (p := ⟨g, o + j, none⟩) hg).trans (hc j hj)⟩
theorem RdB.nil (W : World) : RdB W none 0 [] := ⟨Nat.le_refl _, by decide, Or.inl ⟨rfl, rfl⟩⟩
theorem info_b : ∃ i, Tryd.prog.info? 5 = some i ∧ i.size = 1 := by obtain ⟨i, h1, _, h2, _⟩ := info_u8; exact ⟨i, h1, h2⟩
/-- from a place on -/
theorem cut_from (A : Option Addr) (c : Nat) (l : List UInt8) (k : Nat) (hk : k ≤ l.length) (hc : l.length ≤ c) :
    ∃ A' : Option Addr, (∀ W : World, (Instr.slice 26 (.slice A l.length c) (some (.int .i64 (k : Int))) none none).run Tryd.prog W = .ok (.slice A' (l.length - k) (c - k)) W) ∧ ∀ W, RdB W A c l → RdB W A' (c - k) (l.drop k) := by
  obtain ⟨i, hi, hs⟩ := info_b
  obtain ⟨A', h1, h2⟩ := print_cut_of (P := Tryd.prog) (Value.int .u8) (0 : Int) 26 5 .i64 Tryd.underlying26 hi hs A l.length c k hk
  refine ⟨if c = k then A else A.map (·.add k), fun W => ?_, fun W hW => ?_⟩
  · have hel : Tryd.prog.elem 26 = 5 := by simp [Program.elem, Tryd.underlying26]
    have hu : Tryd.prog.underlying 26 = some (.slice (Tryd.prog.elem 26)) := by rw [hel]; exact Tryd.underlying26
    rw [run_slice_l W 26 A l.length c hu .i64 k (by omega) (by omega), hel]
    simp [sizeOf, typeInfo, hi, hs, sliced, Result.andThen]
  · obtain ⟨q1, q2, q3⟩ := hW
    refine ⟨by simp; omega, by omega, ?_⟩
    rcases q3 with ⟨rfl, rfl⟩ | ⟨g, o, rfl, hg, hcell⟩
    · left
      by_cases h : 0 = k <;> simp [h]
    · right
      by_cases h : c = k
      · refine ⟨g, o, by rw [if_pos h], hg, fun j hj => ?_⟩
        simp at hj
        omega
      · refine ⟨g, o + k, by rw [if_neg h]; simp [Addr.add_mid], hg, fun j hj => ?_⟩
        simp at hj
        have := hcell (k + j) (by omega)
        rw [Nat.add_assoc, this]
        simp [List.getD_eq_getElem?_getD]
/-- up to a place -/
theorem cut_to (A : Option Addr) (c : Nat) (l : List UInt8) (k : Nat) (hk : k ≤ l.length) (hc : l.length ≤ c) :
    (∀ W : World, (Instr.slice 26 (.slice A l.length c) none (some (.int .i64 (k : Int))) none).run Tryd.prog W = .ok (.slice A k c) W) ∧ ∀ W, RdB W A c l → RdB W A c (l.take k) := by
  obtain ⟨i, hi, hs⟩ := info_b
  obtain ⟨h1, -⟩ := print_take_of (P := Tryd.prog) (Value.int .u8) (0 : Int) 26 5 .i64 Tryd.underlying26 hi hs A c (l.map fun b => (b.toNat : Int)) (k : Int) (by omega) (by simpa using hk) (by simpa using hc)
  refine ⟨fun W => ?_, fun W hW => ?_⟩
  · have := h1 W
    simp only [List.length_map, Int.toNat_natCast, List.length_take] at this
    rw [Nat.min_eq_left hk] at this
    exact this
  · obtain ⟨q1, q2, q3⟩ := hW
    refine ⟨by simp; omega, q2, ?_⟩
    rcases q3 with h | ⟨g, o, rfl, hg, hcell⟩
    · exact Or.inl h
    · refine Or.inr ⟨g, o, rfl, hg, fun j hj => ?_⟩
      simp at hj
      rw [hcell j (by omega), List.getD_eq_getElem?_getD, List.getD_eq_getElem?_getD, List.getElem?_take, if_pos (by omega)]
/-- where the first line of some bytes ends -/
def lkV (l : List UInt8) : Int := Lib.indexByte (l.take 512) 10
def lineR (A : Option Addr) (c : Nat) (l : List UInt8) : Ending :=
  if 0 ≤ lkV l then .returned (.tuple #[.slice A ((lkV l).toNat + 1) c, .bool true, .int .i64 0])
  else .returned (.tuple #[.slice none 0 0, .bool false, .int .i64 (if 512 ≤ l.length then 33 else 0)])
theorem lk_bd (l : List UInt8) : -1 ≤ lkV l ∧ lkV l < l.length := by
  have h1 := Lib.indexByte_ge (l.take 512) 10
  refine ⟨h1, ?_⟩
  unfold lkV
  by_cases h : Lib.indexByte (l.take 512) 10 = -1
  · rw [h]; omega
  · obtain ⟨o, ho⟩ : ∃ o : Nat, Lib.indexByte (l.take 512) 10 = o := ⟨(Lib.indexByte (l.take 512) 10).toNat, by omega⟩
    have := (Lib.indexByte_some ho).1
    have := (List.getElem?_eq_some_iff.1 this).1
    simp at this
    omega
theorem find10 (A : Option Addr) (c : Nat) (l : List UInt8) (W : World) (h : RdB W A c l) : Calls Tryd.prog 26 #[.slice A l.length c, .int .u8 10] W fun e w' => e = .returned (.int .i64 (Lib.indexByte l 10)) ∧ W = w' := by
  obtain ⟨h1, h2, h3⟩ := h
  rcases h3 with ⟨rfl, rfl⟩ | ⟨g, o, rfl, hg, hc⟩
  · obtain rfl : l = [] := List.length_eq_zero_iff.1 (by omega)
    exact (Tryd.bytes_IndexByte_nil 10 W).mono fun e w' hh => ⟨hh.1, hh.2.symm⟩
  · have hb := Tryd.bytes_IndexByte g o l.length c (l.map fun b => (b.toNat : Int)) 10 W (by simp) (fun i hi => by
      rw [hc i hi]
      simp [List.getD_eq_getElem?_getD, hi])
    have e1 : Lib.bytesOf (l.map fun b => (b.toNat : Int)) = l := by
      have : ∀ l : List UInt8, Lib.bytesOf (l.map fun b => (b.toNat : Int)) = l := by
        intro l
        unfold Lib.bytesOf
        rw [List.map_map]
        conv => rhs; rw [← List.map_id l]
        refine List.map_congr_left fun b _ => ?_
        simp
      exact this l
    rw [e1] at hb
    exact hb.mono fun e w' hh => ⟨hh.1, hh.2.symm⟩
set_option maxHeartbeats 2000000 in
set_option maxRecDepth 100000 in
theorem line_calls (A : Option Addr) (c : Nat) (l : List UInt8) (w : World) (h : RdB w A c l) : Calls Tryd.prog 20 #[.slice A l.length c] w fun e w' => e = lineR A c l ∧ w = w' := by
  have hlc := h.1
  have hcm := h.2.1
  obtain ⟨m, hm⟩ : ∃ m : Nat, m = min l.length 512 := ⟨_, rfl⟩
  have hml : m ≤ l.length := by omega
  obtain ⟨hs, hr⟩ := cut_to A c l m hml hlc
  have hF := find10 A c (l.take m) w (hr w h)
  have hlm : (l.take m).length = m := by simp; omega
  have htk : l.take m = l.take 512 := by
    rw [hm]
    rcases Nat.le_total l.length 512 with h5 | h5
    · rw [Nat.min_eq_left h5, List.take_of_length_le (Nat.le_refl _), List.take_of_length_le h5]
    · rw [Nat.min_eq_right h5]
  rw [hlm, htk] at hF
  have hk := lk_bd l
  have hkv : lkV l = Lib.indexByte (l.take 512) 10 := rfl
  rw [← hkv] at hF
  have hmi : min (l.length : Int) 512 = (m : Int) := by omega
  unfold lineR
  clear hkv htk hr h hlm
  generalize lkV l = K at *
  by_cases hK : 0 ≤ K
  · rw [if_pos hK]
    obtain ⟨K, rfl⟩ : ∃ q : Nat, K = q := ⟨K.toNat, by omega⟩
    obtain ⟨hs2, -⟩ := cut_to A c l (K + 1) (by omega) hlc
    replace hm := Lib.hid hm
    go_enter Tryd.func20, Tryd.ntmps20
    go_wp2_with fail
    refine hF.mono ?_
    rintro e w2 ⟨rfl, rfl⟩
    go_wp2_with fail
    go_ret3
    exact ⟨by simp, rfl⟩
  · rw [if_neg hK]
    obtain rfl : K = -1 := by omega
    replace hm := Lib.hid hm
    by_cases h5 : 512 ≤ l.length
    · rw [if_pos h5]
      go_enter Tryd.func20, Tryd.ntmps20
      go_wp2_with fail
      refine hF.mono ?_
      rintro e w2 ⟨rfl, rfl⟩
      go_wp2_with fail
      go_ret3
      exact ⟨rfl, rfl⟩
    · rw [if_neg h5]
      go_enter Tryd.func20, Tryd.ntmps20
      go_wp2_with fail
      refine hF.mono ?_
      rintro e w2 ⟨rfl, rfl⟩
      go_wp2_with fail
      go_ret3
      exact ⟨rfl, rfl⟩
end Go.Proofs.YtmdekodoicnmbaaDoor
