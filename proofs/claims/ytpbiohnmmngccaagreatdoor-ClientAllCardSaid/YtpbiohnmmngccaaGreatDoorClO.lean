/- What of a key counts: strings.Cut at one byte, at every length; slot.Tag and the reference's Tag. Conditions: none. -/
import Derived.Test.YtpbiohnmmngccaaGreatDoorClA
import Derived.Shelf.Strings.Cut
set_option linter.unusedVariables false
set_option linter.unusedSimpArgs false
namespace Go.Proofs.YtpbiohnmmngccaaGreatDoor
open Go.RowKit Go.Proofs.YtpbiohnmmngccaaGreatDoorW.PrintWords
/-! ### at the first instance of a byte -/
def cutV (l : List UInt8) (c : UInt8) : List UInt8 × List UInt8 × Bool :=
  if 0 ≤ Lib.indexByte l c then (l.take (Lib.indexByte l c).toNat, l.drop ((Lib.indexByte l c).toNat + 1), true) else (l, [], false)
theorem ib_skip (p : List UInt8) (c : UInt8) (h : c ∉ p) (r : List UInt8) : Lib.indexByte (p ++ c :: r) c = p.length := by
  induction p with
  | nil => simp [Lib.indexByte]
  | cons b p ih =>
    simp only [List.mem_cons, not_or] at h
    rw [List.cons_append, Lib.indexByte, ih h.2, if_neg (by simpa using Ne.symm h.1)]
    have : (((p.length : Nat) : Int) == -1) = false := by rw [beq_eq_false_iff_ne]; omega
    rw [this]; simp
theorem ib_none (p : List UInt8) (c : UInt8) (h : c ∉ p) : Lib.indexByte p c = -1 := by
  induction p with
  | nil => simp [Lib.indexByte]
  | cons b p ih =>
    simp only [List.mem_cons, not_or] at h
    rw [Lib.indexByte, ih h.2, if_neg (by simpa using Ne.symm h.1)]
    simp
theorem cut_hit (p : List UInt8) (c : UInt8) (h : c ∉ p) (r : List UInt8) : cutV (p ++ c :: r) c = (p, r, true) := by
  unfold cutV
  rw [ib_skip p c h, if_pos (by omega)]
  simp
theorem cut_miss (p : List UInt8) (c : UInt8) (h : c ∉ p) : cutV p c = (p, [], false) := by
  unfold cutV
  rw [ib_none p c h, if_neg (by omega)]
theorem cut_cases (l : List UInt8) (c : UInt8) : (∃ p r, l = p ++ c :: r ∧ c ∉ p ∧ cutV l c = (p, r, true)) ∨ (c ∉ l ∧ cutV l c = (l, [], false)) := by
  by_cases h : c ∈ l
  · obtain ⟨p, r, e, hp⟩ := List.append_of_mem h |>.elim fun p ⟨r, e⟩ => (show ∃ p r, l = p ++ c :: r ∧ c ∉ p from by
      have key : ∀ l : List UInt8, c ∈ l → ∃ p r, l = p ++ c :: r ∧ c ∉ p := by
        intro l
        induction l with
        | nil => intro h; cases h
        | cons b l ih =>
          intro h
          by_cases hb : c = b
          · exact ⟨[], l, by simp [hb], by simp⟩
          · obtain ⟨p, r, e, hp⟩ := ih (by simpa [hb] using h)
            exact ⟨b :: p, r, by simp [e], by simp [hb, hp]⟩
      exact key l h)
    exact Or.inl ⟨p, r, e, hp, by rw [e]; exact cut_hit p c hp r⟩
  · exact Or.inr ⟨h, cut_miss l c h⟩
theorem ib_lt (l : List UInt8) (c : UInt8) (h : 0 ≤ Lib.indexByte l c) : (Lib.indexByte l c).toNat < l.length := by
  rcases cut_cases l c with ⟨p, r, e, hp, _⟩ | ⟨hn, _⟩
  · rw [e, ib_skip p c hp]; simp
  · rw [ib_none l c hn] at h; omega
def tagV (l : List UInt8) : List UInt8 :=
  if (cutV l 123).2.2 && (cutV (cutV l 123).2.1 125).2.2 && !(cutV (cutV l 123).2.1 125).1.isEmpty then (cutV (cutV l 123).2.1 125).1 else l
/-! ### strings.Cut at one byte -/
theorem IndexByte_calls (s : ByteArray) (c : Int) (w : World) : Calls Tryz.prog 83 #[.string s, .int .u8 c] w fun e w' => e = .returned (.int .i64 (Lib.indexByte s.data.toList c.toNat.toUInt8)) ∧ w = w' :=
  (Tryz.stringslite_IndexByte s c w).mono fun _ _ h => ⟨h.1, h.2.symm⟩
theorem Index_calls (s : ByteArray) (c : UInt8) (w : World) : Calls Tryz.prog 75 #[.string s, .string ⟨#[c]⟩] w fun e w' => e = .returned (.int .i64 (Lib.indexByte s.data.toList c)) ∧ w = w' := by
  have hI := fun W => IndexByte_calls s (c.toNat : Int) W
  have hc : ((c.toNat : Int)).toNat.toUInt8 = c := by simp
  rw [hc] at hI
  have hs : (⟨#[c]⟩ : ByteArray).size = 1 := rfl
  have hb : (⟨#[c]⟩ : ByteArray)[0] = c := rfl
  clear hc
  cases hq : ([c] == s.toList) with
  | true =>
    have hL : Lib.indexByte s.data.toList c = 0 := by
      rw [ByteArray.toList_eq] at hq
      rw [← eq_of_beq hq]
      simp [Lib.indexByte]
    rw [hL]
    clear hL hI
    go_enter Tryz.func75, Tryz.ntmps75
    go_wp2_with fail
    go_ret
    exact ⟨rfl, rfl⟩
  | false =>
    generalize Lib.indexByte s.data.toList c = I at *
    go_enter Tryz.func75, Tryz.ntmps75
    go_wp2_with fail
    refine (hI _).mono ?_
    rintro e w2 ⟨rfl, rfl⟩
    go_wp2_with fail
    go_ret
    exact ⟨rfl, rfl⟩
theorem ext_take (s : ByteArray) (j : Nat) (h : j ≤ s.size) : s.extract 0 j = ⟨(s.data.toList.take j).toArray⟩ := by
  rw [Lib.extract_eq]; simp
theorem ext_drop (s : ByteArray) (j : Nat) (h : j ≤ s.size) : s.extract j s.size = ⟨(s.data.toList.drop j).toArray⟩ := by
  have ht : List.take (s.size - j) (List.drop j s.data.toList) = List.drop j s.data.toList := List.take_of_length_le (by rw [List.length_drop, ← Lib.size_eq]; exact Nat.le_refl _)
  rw [Lib.extract_eq, ht]
def CutPost (w : World) (l : List UInt8) (c : UInt8) (e : Ending) (w' : World) : Prop :=
  e = .returned (.tuple #[.string ⟨(cutV l c).1.toArray⟩, .string ⟨(cutV l c).2.1.toArray⟩, .bool (cutV l c).2.2]) ∧ Below w.heap.size w w'
theorem liteCut_calls (s : ByteArray) (hs : s.size ≤ 9223372036854775807) (c : UInt8) (w : World) : Calls Tryz.prog 69 #[.string s, .string ⟨#[c]⟩] w (CutPost w s.data.toList c) := by
  have hI := fun W => Index_calls s c W
  have hsz : s.data.toList.length = s.size := Array.length_toList
  have h1 : (⟨#[c]⟩ : ByteArray).size = 1 := rfl
  by_cases h0 : 0 ≤ Lib.indexByte s.data.toList c
  · have hlt := ib_lt s.data.toList c h0
    have hcv : cutV s.data.toList c = (s.data.toList.take (Lib.indexByte s.data.toList c).toNat, s.data.toList.drop ((Lib.indexByte s.data.toList c).toNat + 1), true) := by unfold cutV; rw [if_pos h0]
    obtain ⟨j, hj⟩ : ∃ j : Nat, Lib.indexByte s.data.toList c = j := ⟨(Lib.indexByte s.data.toList c).toNat, by omega⟩
    rw [hj] at hI hlt hcv
    rw [Int.toNat_natCast] at hlt hcv
    rw [hsz] at hlt
    have e1 := Lib.hid (ext_take s j (by omega))
    have e2 := Lib.hid (ext_drop s (j + 1) (by omega))
    replace hcv := Lib.hid hcv
    have j0 : (0 : Int) ≤ (j : Int) := by omega
    have j1 : decide ((0 : Int) ≤ (j : Int)) = true := decide_eq_true j0
    have j2 : (j : Int) ≤ (s.size : Int) := by omega
    have j3 : (j : Int) + 1 ≤ (s.size : Int) := by omega
    have j4 : IntKind.i64.wrap ((j : Int) + 1) = (j : Int) + 1 := IntWalk.i64_in _ (by omega)
    have j5 : (0 : Int) ≤ (j : Int) + 1 := by omega
    have j6 : ((j : Int) + 1).toNat = j + 1 := by omega
    clear hj h0 hsz
    go_enter Tryz.func69, Tryz.ntmps69
    go_wp2_with fail
    refine (hI _).mono ?_
    rintro e w2 ⟨rfl, rfl⟩
    go_wp2_with fail
    go_quiet (fail)
    go_wp2_with fail
    go_ret3
    unfold CutPost
    rw [hcv.out, e1.out, e2.out]
    exact ⟨rfl, ⟨rfl, rfl, rfl, Nat.le_refl _, fun _ _ => rfl⟩⟩
  · have hcv : cutV s.data.toList c = (s.data.toList, [], false) := by unfold cutV; rw [if_neg h0]
    have hge := Lib.indexByte_ge s.data.toList c
    have hI2 : Lib.indexByte s.data.toList c = -1 := by omega
    rw [hI2] at hI
    replace hcv := Lib.hid hcv
    clear h0 hge hI2 hsz
    go_enter Tryz.func69, Tryz.ntmps69
    go_wp2_with fail
    refine (hI _).mono ?_
    rintro e w2 ⟨rfl, rfl⟩
    go_wp2_with fail
    go_ret3
    unfold CutPost
    rw [hcv.out]
    exact ⟨rfl, Below.refl _ _⟩
theorem Cut_calls (s : ByteArray) (hs : s.size ≤ 9223372036854775807) (c : UInt8) (w : World) : Calls Tryz.prog 51 #[.string s, .string ⟨#[c]⟩] w (CutPost w s.data.toList c) := by
  have hC := fun W => liteCut_calls s hs c W
  unfold CutPost at hC ⊢
  generalize cutV s.data.toList c = C at *
  obtain ⟨C1, C2, C3⟩ := C
  simp only at hC ⊢
  generalize (⟨C1.toArray⟩ : ByteArray) = S1 at *
  generalize (⟨C2.toArray⟩ : ByteArray) = S2 at *
  go_enter Tryz.func51, Tryz.ntmps51
  go_wp2_with fail
  refine (hC _).mono ?_
  rintro e w2 ⟨rfl, hb⟩
  go_wp2_with fail
  go_ret3
  exact ⟨rfl, hb⟩
theorem str_mk (s : ByteArray) : (⟨s.data.toList.toArray⟩ : ByteArray) = s := by
  apply ba_ext
  simp
theorem cutV_len (l : List UInt8) (c : UInt8) : (cutV l c).1.length ≤ l.length ∧ (cutV l c).2.1.length ≤ l.length := by
  unfold cutV
  split
  · simp; omega
  · simp
theorem empty_mk (T : List UInt8) : (⟨T.toArray⟩ : ByteArray).toList.isEmpty = T.isEmpty := by
  rw [ByteArray.toList_eq]
set_option maxHeartbeats 1000000 in
theorem Tag_calls (s : ByteArray) (hs : s.size ≤ 9223372036854775807) (w : World) : Calls Tryz.prog 39 #[.string s] w fun e w' => e = .returned (.string ⟨(tagV s.data.toList).toArray⟩) ∧ Below w.heap.size w w' := by
  have hC1 := fun W => Cut_calls s hs 123 W
  have hl1 := cutV_len s.data.toList 123
  have hsz : s.data.toList.length = s.size := Array.length_toList
  have hC2 := fun W => Cut_calls ⟨(cutV s.data.toList 123).2.1.toArray⟩ (by rw [size_mk]; omega) 125 W
  have e0 : (⟨(cutV s.data.toList 123).2.1.toArray⟩ : ByteArray).data.toList = (cutV s.data.toList 123).2.1 := rfl
  rw [e0] at hC2
  have hV : tagV s.data.toList = if (cutV s.data.toList 123).2.2 && (cutV (cutV s.data.toList 123).2.1 125).2.2 && !(cutV (cutV s.data.toList 123).2.1 125).1.isEmpty then (cutV (cutV s.data.toList 123).2.1 125).1 else s.data.toList := rfl
  rw [hV]
  unfold CutPost at hC1 hC2
  generalize cutV s.data.toList 123 = C at *
  obtain ⟨C1, C2, C3⟩ := C
  simp only at hC1 hC2 hl1 hV ⊢
  generalize cutV C2 125 = D at *
  obtain ⟨D1, D2, D3⟩ := D
  simp only at hC1 hC2 hl1 hV ⊢
  have hem := empty_mk D1
  have hres : (if (C3 && D3 && !D1.isEmpty) = true then D1 else s.data.toList) = if (C3 && D3 && !D1.isEmpty) = true then D1 else s.data.toList := rfl
  have hret : ∀ b : Bool, (⟨(if b = true then D1 else s.data.toList).toArray⟩ : ByteArray) = if b = true then ⟨D1.toArray⟩ else s := by
    intro b; cases b
    · exact str_mk s
    · rfl
  rw [hret]
  clear hret hres hV e0 hl1 hsz
  cases hE : D1.isEmpty
  all_goals
    rw [hE] at hem
    have hem2 : (!(⟨D1.toArray⟩ : ByteArray).toList.isEmpty) = !(⟨D1.toArray⟩ : ByteArray).toList.isEmpty := rfl
    rw [hem] at hem2
    generalize (⟨C1.toArray⟩ : ByteArray) = S1 at *
    generalize (⟨C2.toArray⟩ : ByteArray) = S2 at *
    generalize (⟨D1.toArray⟩ : ByteArray) = T1 at *
    generalize (⟨D2.toArray⟩ : ByteArray) = T2 at *
    clear hE hem2
    cases C3 <;> cases D3
    all_goals
      go_enter Tryz.func39, Tryz.ntmps39
      go_wp2_with fail
      refine (hC1 _).mono ?_
      rintro e w2 ⟨rfl, hb2⟩
      go_wp2_with fail
      refine (hC2 _).mono ?_
      rintro e w3 ⟨rfl, hb3⟩
      go_wp2_with fail
      go_ret
      exact ⟨rfl, hb2.trans (hb3.mono hb2.size)⟩
end Go.Proofs.YtpbiohnmmngccaaGreatDoor
