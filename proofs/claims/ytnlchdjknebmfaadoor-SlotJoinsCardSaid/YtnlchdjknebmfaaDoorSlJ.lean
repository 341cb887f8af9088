/- Numbers of slots: how they are written, how they are read; a sum of a key's bytes. Conditions: the listed variables as laid; texts within the form's reach. -/
import Derived.Test.YtnlchdjknebmfaaDoorSlI
import Derived.Test.YtnlchdjknebmfaaDoorBase
import Derived.Test.YtnlchdjknebmfaaDoorRDmx1
import Derived.Lib.ItoaLen
import Derived.Lib.ItoaMem
set_option linter.unusedVariables false
set_option linter.unusedSimpArgs false
namespace Go.Proofs.YtnlchdjknebmfaaDoor
open Go.RowKit Go.Proofs.YtnlchdjknebmfaaDoorW.PrintWords
open SlS SlT
theorem w64 {x : Int} (h1 : -9223372036854775808 ≤ x) (h2 : x ≤ 9223372036854775807) : Go.RowKit.wrap64 x = x := by
  unfold Go.RowKit.wrap64; omega
theorem ba_ext {a b : ByteArray} (h : a.data.toList = b.data.toList) : a = b := ByteArray.ext (Array.toList_inj.1 h)
theorem ba_append (a b : List UInt8) : (⟨a.toArray⟩ : ByteArray) ++ ⟨b.toArray⟩ = ⟨(a ++ b).toArray⟩ := by
  apply ba_ext
  rw [ByteArray.data_append]
  simp
theorem size_mk (l : List UInt8) : (⟨l.toArray⟩ : ByteArray).size = l.length := List.size_toArray
theorem ret_str {a b : ByteArray} (h : a = b) : Ending.returned (.string a) = .returned (.string b) := by rw [h]
/-! ### strconv -/
theorem Atoi_ok (s : ByteArray) (hs : s.size ≤ 140737488351232) (v : Int) (h : Lib.atoiAll s.data.toList = .ok v) (w : World) :
    Calls Tryd.prog 53 #[.string s] w fun e w' => e = .returned (.tuple #[.int .i64 v, .nilIface]) ∧ Below w.heap.size w w' :=
  (Tryd.strconv_Atoi_ok s (by omega) v h w).mono fun e w' h => ⟨h.1, by
    rcases h.2 with rfl | ⟨t, rfl⟩
    · exact Below.refl _ _
    · exact Lib.bytesWorld_below _ _ _⟩
theorem Atoi_bad (s : ByteArray) (hs : s.size ≤ 140737488351232) (h : ∀ v, Lib.atoiAll s.data.toList ≠ .ok v) (w : World) (hE : Env w) :
    Calls Tryd.prog 53 #[.string s] w fun e w' => ∃ v N, e = .returned (.tuple #[.int .i64 v, .iface 108 (.pointer (some ⟨N, 0, none⟩))]) ∧ Below w.heap.size w w' := by
  cases e : Lib.atoiAll s.data.toList with
  | ok v => exact absurd e (h v)
  | range =>
    obtain ⟨a, ha⟩ := hE.rng
    exact (Tryd.strconv_Atoi_range_var s (by omega) e _ _ w ha).mono fun e w' ⟨N, h1, _, _, h2⟩ => ⟨_, N, h1, h2⟩
  | _ =>
    obtain ⟨a, ha⟩ := hE.syn
    exact (Any.strconv_Atoi_syntax_var Tryd.laysC172 s (by omega) e _ _ w ha).mono fun e w' ⟨N, h1, _, _, h2⟩ => ⟨_, N, h1, h2⟩
theorem below_grow (w : World) (k : Nat) (os : Array Obj) : Below w.heap.size w (Sort.grow (w.drewN k) os) := by
  have hh : (w.drewN k).heap = w.heap := rfl
  refine ⟨rfl, rfl, rfl, ?_, fun i hi => ?_⟩
  · show w.heap.size ≤ ((w.drewN k).heap ++ os).size
    rw [hh, Array.size_append]; omega
  · show ((w.drewN k).heap ++ os)[i]? = _
    rw [hh, Array.getElem?_append_left hi]
theorem Itoa_calls (n : Nat) (h1 : n < 16384) (w : World) (hE : Env w) :
    Calls Tryd.prog 37 #[.int .i64 (n : Int)] w fun e w' => e = .returned (.string ⟨(Lib.decDigits n).toArray⟩) ∧ Below w.heap.size w w' :=
  (Tryd.strconv_Itoa n (by omega) (by omega) w hE.pow).mono fun e w' ⟨h, k, os, hw⟩ => ⟨by rw [h, itoa_nat], by rw [hw]; exact below_grow w k os⟩
theorem number_calls (s : ByteArray) (hs : s.size ≤ 140737488351232) (w : World) (hE : Env w) :
    Calls Tryd.prog 40 #[.string s] w fun e w' => e = .returned (.int .i64 (numS s.data.toList)) ∧ Below w.heap.size w w' := by
  have hsz : s.data.toList.length = s.size := Array.length_toList
  by_cases hv : ∃ v, Lib.atoiAll s.data.toList = .ok v
  · obtain ⟨v, hv⟩ := hv
    have ha := fun W => Atoi_ok s hs v hv W
    have hN : numS s.data.toList = if s.size ≤ 5 then v else -1 := by unfold numS; rw [hv, hsz]
    rw [hN]
    have hvb := Lib.atoiAll_bounds hv
    clear hv hN hsz
    by_cases h5 : s.size ≤ 5
    · rw [if_pos h5]
      have h5' : ¬ (5 : Int) < (s.size : Int) := by omega
      go_enter Tryd.func40, Tryd.ntmps40
      go_wp2_with (go_at_call 53; refine (ha _).mono ?_; rintro e w2 ⟨rfl, hb2⟩)
      go_ret
      exact ⟨rfl, hb2⟩
    · rw [if_neg h5]
      have h5' : (5 : Int) < (s.size : Int) := by omega
      go_enter Tryd.func40, Tryd.ntmps40
      go_wp2_with (go_at_call 53; refine (ha _).mono ?_; rintro e w2 ⟨rfl, hb2⟩)
      go_ret
      exact ⟨rfl, hb2⟩
  · have ha := fun W h => Atoi_bad s hs (fun v e => hv ⟨v, e⟩) W h
    have hN : numS s.data.toList = -1 := by
      unfold numS
      split
      · rename_i v e; exact absurd ⟨v, e⟩ hv
      · rfl
    rw [hN]
    clear hv hN hsz
    go_enter Tryd.func40, Tryd.ntmps40
    go_wp2_with (go_at_call 53; refine (ha _ hE).mono ?_; rintro e w2 ⟨v, N, rfl, hb2⟩)
    go_ret
    exact ⟨rfl, hb2⟩
/-! ### decimal -/
theorem decimal_eq : ∀ (d n : Nat), n < 10 ^ (d + 1) → n < 9223372036854775000 → RDm.marshalyardref02_decimal.f (d + 1) (n : Int) = some ⟨(Lib.decDigits n).toArray⟩
  | d, n, h, hb => by
    by_cases h10 : n < 10
    · rw [RDm.marshalyardref02_decimal.f, if_pos (by omega), w64 (by omega) (by omega)]
      have e : (48 + (n : Int)) % 256 = ((48 + n : Nat) : Int) := by omega
      rw [e, Lib.decDigits, dif_pos h10]
      rfl
    · match d, h with
      | 0, h => exact absurd (by simpa using h) h10
      | d + 1, h =>
        have hq : Int.tdiv (n : Int) 10 = ((n / 10 : Nat) : Int) := by norm_cast
        have hr : Int.tmod (n : Int) 10 = ((n % 10 : Nat) : Int) := by norm_cast
        rw [RDm.marshalyardref02_decimal.f, if_neg (by omega), hq, hr, w64 (by omega) (by omega), decimal_eq d (n / 10) (by rw [Nat.pow_succ] at h; omega) (by omega), w64 (by omega) (by omega)]
        simp only [Option.bind_some]
        have e : (48 + ((n % 10 : Nat) : Int)) % 256 = ((48 + n % 10 : Nat) : Int) := by omega
        rw [e]
        have hs : strOfNums [((48 + n % 10 : Nat) : Int)] = ⟨[UInt8.ofNat (48 + n % 10)].toArray⟩ := by
          simp only [strOfNums, List.map_cons, List.map_nil, Int.toNat_natCast]
        rw [hs, ba_append, Lib.decDigits.eq_1 n, dif_neg h10, if_pos]
        have hl := dig_len_le 18 (n / 10) (by omega)
        rw [size_mk, size_mk]
        simp
        omega
theorem decimal_calls (n : Nat) (h1 : n < 16384) (w : World) : Calls Tryd.prog 41 #[.int .i64 (n : Int)] w fun e w' => e = .returned (.string ⟨(Lib.decDigits n).toArray⟩) ∧ Below w.heap.size w w' :=
  RDm.marshalyardref02_decimal.calls 5 n _ w (decimal_eq 4 n (by omega) (by omega))
end Go.Proofs.YtnlchdjknebmfaaDoor
