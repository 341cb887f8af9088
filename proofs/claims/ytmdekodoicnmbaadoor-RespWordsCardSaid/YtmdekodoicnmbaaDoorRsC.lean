/- A line's number, a line's words. Conditions: the listed variables as laid; texts within the machine's reach. -/
import Derived.Test.YtmdekodoicnmbaaDoorRsB
import Derived.Lib.AtoiErrMem
set_option linter.unusedVariables false
set_option linter.unusedSimpArgs false
namespace Go.Proofs.YtmdekodoicnmbaaDoor
open Go.RowKit Go.Proofs.YtmdekodoicnmbaaDoorW.PrintWords
theorem size_mk (l : List UInt8) : (⟨l.toArray⟩ : ByteArray).size = l.length := List.size_toArray
theorem Atoi_ok (s : ByteArray) (hs : s.size ≤ 140737488351232) (v : Int) (h : Lib.atoiAll s.data.toList = .ok v) (w : World) :
    Calls Tryd.prog 31 #[.string s] w fun e w' => e = .returned (.tuple #[.int .i64 v, .nilIface]) ∧ Below w.heap.size w w' :=
  (Tryd.strconv_Atoi_ok s (by omega) v h w).mono fun e w' h => ⟨h.1, by
    rcases h.2 with rfl | ⟨t, rfl⟩
    · exact Below.refl _ _
    · exact Lib.bytesWorld_below _ _ _⟩
theorem Atoi_bad (s : ByteArray) (hs : s.size ≤ 140737488351232) (h : ∀ v, Lib.atoiAll s.data.toList ≠ .ok v) (w : World) (hE : Env w) :
    Calls Tryd.prog 31 #[.string s] w fun e w' => ∃ v N, e = .returned (.tuple #[.int .i64 v, .iface 81 (.pointer (some ⟨N, 0, none⟩))]) ∧ Below w.heap.size w w' := by
  cases e : Lib.atoiAll s.data.toList with
  | ok v => exact absurd e (h v)
  | range =>
    obtain ⟨a, ha⟩ := hE.rng
    exact (Tryd.strconv_Atoi_range_var s (by omega) e _ _ w ha).mono fun e w' ⟨N, h1, _, _, h2⟩ => ⟨_, N, h1, h2⟩
  | _ =>
    obtain ⟨a, ha⟩ := hE.syn
    exact (Any.strconv_Atoi_syntax_var Tryd.laysC172 s (by omega) e _ _ w ha).mono fun e w' ⟨N, h1, _, _, h2⟩ => ⟨_, N, h1, h2⟩
theorem below_grow (w : World) (k : Nat) (os : Array Obj) : Below w.heap.size w (Sort.grow (w.drewN k) os) := by
  have hh : (w.drewN k).heap = w.heap := rfl
  refine ⟨rfl, rfl, rfl, ?_, fun i hi => ?_⟩
  · show w.heap.size ≤ ((w.drewN k).heap ++ os).size
    rw [hh, Array.size_append]; omega
  · show ((w.drewN k).heap ++ os)[i]? = _
    rw [hh, Array.getElem?_append_left hi]
theorem Itoa_calls (n : Int) (h0 : -9223372036854775808 ≤ n) (h1 : n ≤ 9223372036854775807) (w : World) (hE : Env w) :
    Calls Tryd.prog 17 #[.int .i64 n] w fun e w' => e = .returned (.string ⟨(Lib.itoa n).toArray⟩) ∧ Below w.heap.size w w' :=
  (Tryd.strconv_Itoa n h0 h1 w hE.pow).mono fun e w' ⟨h, k, os, hw⟩ => ⟨h, by rw [hw]; exact below_grow w k os⟩
theorem str_eq_list (a b : ByteArray) : (a.toList == b.toList) = decide (a.data.toList = b.data.toList) := by
  rw [ByteArray.toList_eq, ByteArray.toList_eq, Bool.beq_eq_decide_eq]
theorem str_back (l : List UInt8) : strOfNums (l.map fun b => (b.toNat : Int)) = ⟨l.toArray⟩ := by
  unfold strOfNums
  congr 1
  rw [List.map_map]
  congr 1
  have : ∀ l : List UInt8, l.map ((fun x : Int => UInt8.ofNat x.toNat) ∘ fun b => (b.toNat : Int)) = l := by
    intro l
    induction l with
    | nil => rfl
    | cons b l ih => simp [ih]
  exact this l
theorem RdB.reads {W : World} {A : Option Addr} {c : Nat} {l : List UInt8} (h : RdB W A c l) : ReadsInt W .u8 A l.length (l.map fun b => (b.toNat : Int)) := by
  obtain ⟨h1, h2, h3⟩ := h
  refine ⟨by simp, by omega, fun hn => ?_⟩
  rcases h3 with ⟨-, rfl⟩ | ⟨g, o, rfl, hg, hc⟩
  · omega
  · refine ⟨_, rfl, fun j hj => ?_⟩
    rw [Addr.add_mid, hc j hj]
    simp [List.getD_eq_getElem?_getD, hj]
theorem conv_str {W : World} {A : Option Addr} {c : Nat} {l : List UInt8} (h : RdB W A c l) : (convert 26 9 (.slice A l.length c)).run Tryd.prog W = .ok (.string ⟨l.toArray⟩) W := by
  have := string_of_reads (P := Tryd.prog) (src := 26) (dst := 9) (e := 5) (c := c) Tryd.underlying26 Tryd.underlying5 Tryd.underlying9 h.reads
  rw [str_back] at this
  exact this
/-! ### a suffix cut off -/
def cutS (l p : List UInt8) : List UInt8 := if Lib.hasSuffix l p then l.take (l.length - p.length) else l
theorem cutS_calls (s p : ByteArray) (hs : s.size ≤ 9223372036854775807) (w : World) : Calls Tryd.prog 30 #[.string s, .string p] w fun e w' => e = .returned (.tuple #[.string ⟨(cutS s.data.toList p.data.toList).toArray⟩, .bool (Lib.hasSuffix s.data.toList p.data.toList)]) ∧ w = w' := by
  have hS := fun W => Tryd.stringslite_HasSuffix s p W hs
  have h36 : ∀ W, Calls Tryd.prog 36 #[.string s, .string p] W fun e w' => e = .returned (.tuple #[.string ⟨(cutS s.data.toList p.data.toList).toArray⟩, .bool (Lib.hasSuffix s.data.toList p.data.toList)]) ∧ W = w' := fun W => by
    unfold cutS
    have hlen : Lib.hasSuffix s.data.toList p.data.toList = true → p.size ≤ s.size := fun h => by
      unfold Lib.hasSuffix at h
      have := (List.isSuffixOf_iff_suffix.1 h).length_le
      simpa using this
    have hx : (⟨(s.data.toList.take (s.data.toList.length - p.data.toList.length)).toArray⟩ : ByteArray) = s.extract 0 (s.size - p.size) := by
      apply ByteArray.ext
      apply Array.toList_inj.1
      rw [ByteArray.data_extract]
      simp [Array.toList_extract, List.extract]
    have hss : (⟨s.data.toList.toArray⟩ : ByteArray) = s := rfl
    cases hb : Lib.hasSuffix s.data.toList p.data.toList with
    | true =>
      have hl := hlen hb
      rw [hb] at hS
      rw [if_pos rfl, hx]
      have hl2 : (p.size : Int) ≤ (s.size : Int) := by omega
      have hw : IntKind.i64.wrap ((s.size : Int) - (p.size : Int)) = ((s.size - p.size : Nat) : Int) := by rw [IntKind.wrap_i64]; omega
      have hl3 : ((s.size - p.size : Nat) : Int) ≤ (s.size : Int) := by omega
      clear hb hlen hx hss
      go_enter Tryd.func36, Tryd.ntmps36
      go_wp2_with fail
      refine (hS _).mono ?_
      rintro e w2 ⟨rfl, rfl⟩
      go_wp2_with fail
      go_ret2
      exact ⟨by simp, rfl⟩
    | false =>
      rw [hb] at hS
      rw [if_neg (by decide), hss]
      clear hb hlen hx hss
      go_enter Tryd.func36, Tryd.ntmps36
      go_wp2_with fail
      refine (hS _).mono ?_
      rintro e w2 ⟨rfl, rfl⟩
      go_wp2_with fail
      go_ret2
      exact ⟨rfl, rfl⟩
  generalize (⟨(cutS s.data.toList p.data.toList).toArray⟩ : ByteArray) = R at *
  generalize Lib.hasSuffix s.data.toList p.data.toList = B at *
  clear hS
  go_enter Tryd.func30, Tryd.ntmps30
  go_wp2_with fail
  refine (h36 _).mono ?_
  rintro e w2 ⟨rfl, rfl⟩
  go_wp2_with fail
  go_ret2
  exact ⟨rfl, rfl⟩
end Go.Proofs.YtmdekodoicnmbaaDoor
