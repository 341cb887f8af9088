/- Walks of the layer 'number': what its functions come to, over the shelf's contracts for strconv and strings. Conditions: texts within the form's reach; the library's listed variables as laid. -/
import Derived.Test.YtohdidcdeoannaaDoorBase
import Derived.Test.YtohdidcdeoannaaDoorDec
import Derived.Lib.OthersKept
import Derived.Laws.RangeAny
import Derived.BigCall
import Derived.Deep.QuietTactic
import Derived.BigQuiet
set_option linter.unusedVariables false
set_option linter.unusedSimpArgs false
namespace Go.Proofs.YtohdidcdeoannaaDoor
open Go.RowKit Go.Lib

theorem width_pos (s : ByteArray) (pos : Nat) (h : pos < s.size) : 1 ≤ (Utf8.decode s pos).2 := by
  by_cases ha : (s[pos]'h).toNat < 128
  · rw [decode_ascii s pos h ha]
    exact Nat.le_refl _
  · exact (decode_high s pos h (by omega)).2

theorem ba_len (d : ByteArray) : d.data.toList.length = d.size := Array.length_toList
theorem ba_get (d : ByteArray) (i : Nat) (h : i < d.size) : d.data.toList[i]'(by rw [ba_len]; exact h) = d[i]'h := by
  simp [ByteArray.getElem_eq_getElem_data]

theorem form_trim (l : List UInt8) : Dec.form l = ((Lib.trimPrefix l [45]).all Dec.isDig && !(Lib.trimPrefix l [45]).isEmpty && (decide ((Lib.trimPrefix l [45]).head? ≠ some 48) || decide (l = [48]))) := by
  cases l with
  | nil => simp [Dec.form, Dec.canon, Lib.trimPrefix, Lib.hasPrefix]
  | cons c r =>
    by_cases hc : c = 45
    · subst hc
      have e : Lib.trimPrefix (45 :: r) [45] = r := by simp [Lib.trimPrefix, Lib.hasPrefix]
      rw [e]
      unfold Dec.form Dec.canon
      by_cases h48 : r = [48]
      · subst h48; decide
      · simp [h48]
        cases r.isEmpty <;> cases r.all Dec.isDig <;> first | (simp; done) | (simp; exact decide_not)
    · have e : Lib.trimPrefix (c :: r) [45] = c :: r := by
        have : Lib.hasPrefix (c :: r) [45] = false := by simp [Lib.hasPrefix, List.isPrefixOf]; exact fun h => hc h.symm
        simp [Lib.trimPrefix, this]
      rw [e]
      unfold Dec.form Dec.canon
      simp [hc]

/-- what is known where the loop over the runes is through -/
theorem step_dig (d : ByteArray) (pos : Nat) (hp : pos < d.size) (h1 : (d.data.toList.take pos).all Dec.isDig = true) (h48 : ¬ (Utf8.decode d pos).1 < 48) (h57 : ¬ 57 < (Utf8.decode d pos).1) :
    (d.data.toList.take (pos + (Utf8.decode d pos).2)).all Dec.isDig = true := by
  have ha : (d[pos]'hp).toNat < 128 := by
    by_cases ha : (d[pos]'hp).toNat < 128
    · exact ha
    · have := (decode_high d pos hp (by omega)).1
      omega
  rw [decode_ascii d pos hp ha] at *
  simp only at h48 h57 ⊢
  rw [List.take_succ_eq_append_getElem (by rw [ba_len]; exact hp), List.all_append, h1]
  simp only [List.all_cons, List.all_nil, Bool.and_true, Bool.true_and, Dec.isDig, decide_eq_true_eq, ba_get d pos hp]
  omega
theorem stop_dig (d : ByteArray) (pos : Nat) (hp : pos < d.size) (h : (Utf8.decode d pos).1 < 48 ∨ 57 < (Utf8.decode d pos).1) : d.data.toList.all Dec.isDig = false := by
  have hb : ¬ (48 ≤ (d[pos]'hp).toNat ∧ (d[pos]'hp).toNat ≤ 57) := by
    by_cases ha : (d[pos]'hp).toNat < 128
    · rw [decode_ascii d pos hp ha] at h
      simp only at h
      omega
    · omega
  rw [← Bool.not_eq_true]
  intro hall
  rw [List.all_eq_true] at hall
  have := hall (d[pos]'hp) (by rw [← ba_get d pos hp]; exact List.getElem_mem _)
  simp only [Dec.isDig, decide_eq_true_eq] at this
  exact hb this

theorem trim_le (s : ByteArray) : (Lib.trimPrefix s.data.toList [45]).length ≤ s.size := by
  have := Lib.trimPrefix_le s.data.toList [45]
  rw [ba_len] at this
  exact this

theorem head_of (d : ByteArray) (h : 0 < d.size) : d.data.toList.head? = some (d[0]'h) := by
  rw [List.head?_eq_getElem?, List.getElem?_eq_getElem (by rw [ba_len]; exact h), ba_get d 0 h]
theorem eq48 {c : UInt8} (h : (c.toNat : Int) = 48) : c = 48 := by
  have h2 : c.toNat = 48 := by omega
  exact UInt8.toNat_inj.mp h2
theorem ne48 {c : UInt8} (h : ¬ (c.toNat : Int) = 48) : ¬ c = 48 := fun e => h (by rw [e]; rfl)
theorem end_zero (d s : ByteArray) (h : 0 < d.size) (hall : d.data.toList.all Dec.isDig = true) (h0 : (d[0].toNat : Int) = 48) :
    (!d.toList.isEmpty && s.toList == [48]) = (d.data.toList.all Dec.isDig && !d.data.toList.isEmpty && (decide (d.data.toList.head? ≠ some 48) || decide (s.data.toList = [48]))) := by
  rw [hall, head_of d h, Lib.toList_data, Lib.toList_data, eq48 h0, Bool.eq_iff_iff]
  simp
theorem end_other (d s : ByteArray) (h : 0 < d.size) (hall : d.data.toList.all Dec.isDig = true) (h0 : ¬ (d[0].toNat : Int) = 48) :
    (!d.toList.isEmpty) = (d.data.toList.all Dec.isDig && !d.data.toList.isEmpty && (decide (d.data.toList.head? ≠ some 48) || decide (s.data.toList = [48]))) := by
  rw [hall, head_of d h, Lib.toList_data, Bool.eq_iff_iff]
  simp [ne48 h0]
theorem ret_bool {a b : Bool} (h : a = b) : Ending.returned (.bool a) = .returned (.bool b) := by rw [h]

set_option maxHeartbeats 1000000 in
theorem written_calls (s : ByteArray) (w : World) (hs : s.size ≤ 140737488351232) :
    Calls Tryd.prog 19 #[.string s] w fun e w' => e = .returned (.bool (Dec.form s.data.toList)) ∧ Below w.heap.size w w' := by
  obtain ⟨d, hd⟩ : ∃ d : ByteArray, d = ⟨(Lib.trimPrefix s.data.toList [45]).toArray⟩ := ⟨_, rfl⟩
  have hT : ∀ W, Calls Tryd.prog 26 #[.string s, .string ⟨#[45]⟩] W fun e w' => e = .returned (.string d) ∧ W = w' := fun W => by rw [hd]; exact (Tryd.strings_TrimPrefix s ⟨#[45]⟩ W).mono fun _ _ h => ⟨h.1, h.2.symm⟩
  have HF : Hid (Dec.form s.data.toList = (d.data.toList.all Dec.isDig && !d.data.toList.isEmpty && (decide (d.data.toList.head? ≠ some 48) || decide (s.data.toList = [48])))) := by
    rw [hd]; exact form_trim _
  have hdm : d.size ≤ 140737488351232 := by
    have := trim_le s
    have e : d.size = (Lib.trimPrefix s.data.toList [45]).length := by rw [hd]; exact List.size_toArray
    omega
  clear hd
  go_enter Tryd.func19, Tryd.ntmps19
  go_wp2_with (go_at_call 26; refine (hT _).mono ?_; rintro e w' ⟨rfl, rfl⟩)
  go_loopw [] (fun wr => ∃ pos : Nat, wr.heap[w.heap.size]? = some (.stringIter d pos) ∧ Below w.heap.size w wr ∧ (d.data.toList.take pos).all Dec.isDig = true) (fun wr => d.size - wr.iterPos (w.heap.size))
  case atStart => 
    exact ⟨0, World.iter_heap _ _ _, (Below.refl _ w).alloc (Nat.le_refl _) _, by simp⟩
  case round =>
    obtain ⟨pos, hit, hbw, hdig⟩ := hrel
    have Hdig := Lib.hid hdig
    clear hdig
    have hsz : w.heap.size < wr.heap.size := (Array.getElem?_eq_some_iff.1 hit).1
    by_cases hp : pos < d.size
    · have hnx : ∀ ty, (Instr.next (.pointer (some ⟨w.heap.size, 0, none⟩)) true ty).run Tryd.prog wr = _ := fun ty => Lib.run_next_any_at wr (w.heap.size) d pos ty hit hp
      have hwd := width_pos d pos hp
      have hd1 := decode_le d pos
      have hit2 := Lib.iterAt_heap wr (w.heap.size) d pos (pos + (Utf8.decode d pos).2) hit
      have hbw2 := Lib.below_iterAt hbw (k := w.heap.size) (by omega) d (pos + (Utf8.decode d pos).2)
      by_cases h48 : (Utf8.decode d pos).1 < 48
      · go_wp2
        go_ret
        exact ⟨ret_bool (by rw [HF.out, stop_dig d pos hp (Or.inl h48)]; rfl), hbw2⟩
      · by_cases h57 : 57 < (Utf8.decode d pos).1
        · go_wp2
          go_ret
          exact ⟨ret_bool (by rw [HF.out, stop_dig d pos hp (Or.inr h57)]; rfl), hbw2⟩
        · go_wp2
          go_roundw
          case rel => exact ⟨_, hit2, hbw2, step_dig d pos hp Hdig.out h48 h57⟩
          case measure => simp only [World.iterPos, hit2, hit]; omega
    · have hnx : ∀ ty, (Instr.next (.pointer (some ⟨w.heap.size, 0, none⟩)) true ty).run Tryd.prog wr = _ := fun ty => Lib.run_next_end_at wr (w.heap.size) d pos ty hit hp
      have Hall := Lib.hid (show d.data.toList.all Dec.isDig = true by have := Hdig.out; rw [List.take_of_length_le (by rw [ba_len]; omega)] at this; exact this)
      by_cases hz : d.size = 0
      · have hl : d.toList = [] := by rw [Lib.toList_data]; exact List.eq_nil_of_length_eq_zero (by rw [ba_len]; exact hz)
        go_wp2
        go_ret
        exact ⟨ret_bool (by rw [HF.out, Hall.out]; rw [Lib.toList_data] at hl; simp [hl]), hbw⟩
      · have hl : ¬ d.toList = [] := by
          rw [Lib.toList_data]; intro e
          have := ba_len d
          rw [e] at this
          exact hz this.symm
        have hpos : 0 < d.size := by omega
        clear hz
        go_wp2
        · have h0 : (d[0].toNat : Int) = 48 := by assumption
          go_ret
          exact ⟨ret_bool ((end_zero d s hpos Hall.out h0).trans HF.out.symm), hbw⟩
        · have h0 : ¬ (d[0].toNat : Int) = 48 := by assumption
          go_ret
          exact ⟨ret_bool ((end_other d s hpos Hall.out h0).trans HF.out.symm), hbw⟩

theorem ret_two {a b c d : Int} (h : (a, b) = (c, d)) : Ending.returned (.tuple #[.int .i64 a, .int .i64 b]) = .returned (.tuple #[.int .i64 c, .int .i64 d]) := by cases h; rfl

theorem Atoi_ok (s : ByteArray) (hs : s.size ≤ 140737488351232) (v : Int) (h : Lib.atoiAll s.data.toList = .ok v) (w : World) :
    Calls Tryd.prog 20 #[.string s] w fun e w' => e = .returned (.tuple #[.int .i64 v, .nilIface]) ∧ Below w.heap.size w w' :=
  (Tryd.strconv_Atoi_ok s (by omega) v h w).mono fun e w' h => ⟨h.1, by
    rcases h.2 with rfl | ⟨t, rfl⟩
    · exact Below.refl _ _
    · exact Lib.bytesWorld_below _ _ _⟩
/-- what is no int: some number beside an error that is not nil -/
theorem Atoi_bad (s : ByteArray) (hs : s.size ≤ 140737488351232) (h : ∀ v, Lib.atoiAll s.data.toList ≠ .ok v) (w : World) (hE : Env w) :
    Calls Tryd.prog 20 #[.string s] w fun e w' => ∃ N, e = .returned (.tuple #[.int .i64 (if Lib.atoiAll s.data.toList = .range then Lib.atoiSat s.data.toList else 0), .iface 47 (.pointer (some ⟨N, 0, none⟩))]) ∧ Below w.heap.size w w' := by
  cases e : Lib.atoiAll s.data.toList with
  | ok v => exact absurd e (h v)
  | range =>
    obtain ⟨a, ha⟩ := hE.rng
    rw [if_pos rfl]
    exact (Tryd.strconv_Atoi_range_var s (by omega) e _ _ w ha).mono fun e w' ⟨N, h1, _, _, h2⟩ => ⟨N, h1, h2⟩
  | _ =>
    obtain ⟨a, ha⟩ := hE.syn
    rw [if_neg (by intro h; cases h)]
    exact (Any.strconv_Atoi_syntax_var Tryd.laysC172 s (by omega) e _ _ w ha).mono fun e w' ⟨N, h1, _, _, h2⟩ => ⟨N, h1, h2⟩
theorem Atoi_range (s : ByteArray) (hs : s.size ≤ 140737488351232) (h : Lib.atoiAll s.data.toList = .range) (w : World) (hE : Env w) :
    Calls Tryd.prog 20 #[.string s] w fun e w' => ∃ N, e = .returned (.tuple #[.int .i64 (Lib.atoiSat s.data.toList), .iface 47 (.pointer (some ⟨N, 0, none⟩))]) ∧ Below w.heap.size w w' := by
  obtain ⟨a, ha⟩ := hE.rng
  exact (Tryd.strconv_Atoi_range_var s (by omega) h _ _ w ha).mono fun e w' ⟨N, h1, _, _, h2⟩ => ⟨N, h1, h2⟩

theorem below_grow (w : World) (k : Nat) (os : Array Obj) : Below w.heap.size w (Sort.grow (w.drewN k) os) := by
  have hh : (w.drewN k).heap = w.heap := rfl
  refine ⟨rfl, rfl, rfl, ?_, fun i hi => ?_⟩
  · show w.heap.size ≤ ((w.drewN k).heap ++ os).size
    rw [hh, Array.size_append]; omega
  · show ((w.drewN k).heap ++ os)[i]? = _
    rw [hh, Array.getElem?_append_left hi]
theorem Itoa_calls (n : Int) (h0 : -9223372036854775808 ≤ n) (h1 : n ≤ 9223372036854775807) (w : World) (hE : Env w) :
    Calls Tryd.prog 23 #[.int .i64 n] w fun e w' => e = .returned (.string ⟨(Lib.itoa n).toArray⟩) ∧ Below w.heap.size w w' :=
  (Tryd.strconv_Itoa n h0 h1 w hE.pow).mono fun e w' ⟨h, k, os, hw⟩ => ⟨h, by rw [hw]; exact below_grow w k os⟩

set_option maxHeartbeats 1000000 in
theorem Parse_calls (s : ByteArray) (hs : s.size ≤ 140737488351232) (w : World) (hE : Env w) :
    Calls Tryd.prog 10 #[.string s] w fun e w' => e = .returned (.tuple #[.int .i64 (Dec.parseV s.data.toList).1, .int .i64 (Dec.parseV s.data.toList).2]) ∧ Below w.heap.size w w' := by
  have hw := written_calls s w hs
  by_cases hf : Dec.form s.data.toList = true
  · rw [hf] at hw
    by_cases hr : -9223372036854775808 ≤ Dec.numVal s.data.toList ∧ Dec.numVal s.data.toList ≤ 9223372036854775807
    · have ha := Atoi_ok s hs _ (Dec.atoiAll_ok hf hr.1 hr.2)
      have HV : Hid (Dec.parseV s.data.toList = (Dec.numVal s.data.toList, 0)) := by show _ = _; unfold Dec.parseV; rw [if_pos hf, if_pos hr]
      generalize Dec.numVal s.data.toList = v at *
      clear hf
      obtain ⟨hr1, hr2⟩ := hr
      go_enter Tryd.func10, Tryd.ntmps10
      go_wp2_with (go_at_call 19; refine hw.mono ?_; rintro e w1 ⟨rfl, hb1⟩)
      go_wp2_with (go_at_call 20; refine (ha _).mono ?_; rintro e w2 ⟨rfl, hb2⟩)
      go_ret2
      exact ⟨by rw [HV.out]; rfl, hb1.trans (hb2.mono hb1.size)⟩
    · have ha := fun w hE => Atoi_range s hs (Dec.atoiAll_range hf (by omega)) w hE
      have HV : Hid (Dec.parseV s.data.toList = (0, 51)) := by show _ = _; unfold Dec.parseV; rw [if_pos hf, if_neg hr]
      clear hf hr
      generalize Lib.atoiSat s.data.toList = v at *
      go_enter Tryd.func10, Tryd.ntmps10
      go_wp2_with (go_at_call 19; refine hw.mono ?_; rintro e w1 ⟨rfl, hb1⟩)
      go_wp2_with (go_at_call 20; refine (ha _ (hE.below hb1)).mono ?_; rintro e w2 ⟨N, rfl, hb2⟩)
      go_ret2
      exact ⟨by rw [HV.out]; rfl, hb1.trans (hb2.mono hb1.size)⟩
  · have HV : Hid (Dec.parseV s.data.toList = (0, 50)) := by show _ = _; unfold Dec.parseV; rw [if_neg hf]
    rw [Bool.not_eq_true] at hf
    rw [hf] at hw
    clear hf
    go_enter Tryd.func10, Tryd.ntmps10
    go_wp2_with (go_at_call 19; refine hw.mono ?_; rintro e w1 ⟨rfl, hb1⟩)
    go_ret2
    exact ⟨by rw [HV.out]; rfl, hb1⟩

theorem Print_calls (n : Int) (h0 : -9223372036854775808 ≤ n) (h1 : n ≤ 9223372036854775807) (w : World) (hE : Env w) :
    Calls Tryd.prog 13 #[.int .i64 n] w fun e w' => e = .returned (.string ⟨(Lib.itoa n).toArray⟩) ∧ Below w.heap.size w w' := by
  have hi := Itoa_calls n h0 h1 w hE
  go_enter Tryd.func13, Tryd.ntmps13
  go_wp2_with (go_at_call 23; refine hi.mono ?_; rintro e w1 ⟨rfl, hb1⟩)
  go_ret
  exact ⟨rfl, hb1⟩
end Go.Proofs.YtohdidcdeoannaaDoor
