/- The sum of a key's bytes, by halves of bytes and bit by bit; slot.Of and the reference's Of. Conditions: the listed variables as laid. -/
import Derived.Test.YtpbiohnmmngccaaGreatDoorClP
import Derived.Test.YtpbiohnmmngccaaGreatDoorRSmx1
import Derived.Test.YtpbiohnmmngccaaGreatDoorClO
import Derived.Lib.LaidTab
set_option linter.unusedVariables false
set_option linter.unusedSimpArgs false
namespace Go.Proofs.YtpbiohnmmngccaaGreatDoor
open Go.RowKit Go.Proofs.YtpbiohnmmngccaaGreatDoorW.PrintWords
def halvesN : List Nat := [0, 4129, 8258, 12387, 16516, 20645, 24774, 28903, 33032, 37161, 41290, 45419, 49548, 53677, 57806, 61935]
def nib (c : Nat) : Nat := (c * 16 % 65536) ^^^ halvesN.getD (c / 4096) 0
def bit1 (c : Nat) : Nat := if 32768 ≤ c then (c * 2 % 65536) ^^^ 4129 else c * 2
def stepV (c : Nat) (x : UInt8) : Nat := nib (nib (c ^^^ (x.toNat * 256)))
def sumV (c : Nat) (l : List UInt8) : Nat := l.foldl stepV c
theorem nib_all : ((List.range 256).all fun a => (List.range 256).all fun b => decide (nib (a * 256 + b) = bit1 (bit1 (bit1 (bit1 (a * 256 + b))))) && decide (nib (a * 256 + b) < 65536)) = true := by decide +kernel
theorem nib_eq {c : Nat} (h : c < 65536) : nib c = bit1 (bit1 (bit1 (bit1 c))) ∧ nib c < 65536 := by
  have := nib_all
  rw [List.all_eq_true] at this
  have := this (c / 256) (List.mem_range.2 (by omega))
  rw [List.all_eq_true] at this
  have := this (c % 256) (List.mem_range.2 (by omega))
  rw [show c / 256 * 256 + c % 256 = c by omega] at this
  simp only [Bool.and_eq_true, decide_eq_true_eq] at this
  exact this
theorem xor16 {a b : Nat} (h1 : a < 65536) (h2 : b < 65536) : a ^^^ b < 65536 := Nat.xor_lt_two_pow (n := 16) h1 h2
theorem step_lt {c : Nat} (h : c < 65536) (x : UInt8) : stepV c x < 65536 := by
  have hx := x.toNat_lt
  exact (nib_eq (nib_eq (xor16 h (by omega))).2).2
theorem sum_lt (l : List UInt8) : ∀ {c : Nat}, c < 65536 → sumV c l < 65536 := by
  induction l with
  | nil => intro c h; exact h
  | cons x l ih => intro c h; exact ih (step_lt h x)
theorem sum_snoc (c : Nat) (l : List UInt8) (x : UInt8) : sumV c (l ++ [x]) = stepV (sumV c l) x := by simp [sumV, List.foldl_append]
theorem wrap16 (n : Int) : IntKind.u16.wrap n = n % 65536 := by simp [IntKind.wrap, IntKind.bits, IntKind.signed]
theorem bits_xor16 (a b : Nat) (h1 : a < 65536) (h2 : b < 65536) : bits .xor .u16 (a : Int) (b : Int) = ((a ^^^ b : Nat) : Int) := by
  show IntKind.u16.wrap ((((BitVec.ofInt 16 (a : Int)) ^^^ (BitVec.ofInt 16 (b : Int))).toNat : Nat) : Int) = _
  rw [BitVec.ofInt_natCast, BitVec.ofInt_natCast, BitVec.toNat_xor, BitVec.toNat_ofNat, BitVec.toNat_ofNat, Nat.mod_eq_of_lt (by simpa using h1), Nat.mod_eq_of_lt (by simpa using h2), wrap16]
  have := xor16 h1 h2
  omega
set_option maxHeartbeats 1000000 in
theorem More_calls (c : Nat) (hc : c < 65536) (g cap : Nat) (l : List UInt8) (w : World) (hl : l.length ≤ 9223372036854775807) (hcells : ∀ j, j < l.length → w.cell? ⟨g, j, none⟩ = some (.int .u8 ((l.getD j 0).toNat : Int))) (hE : Env w) :
    Calls Tryz.prog 50 #[.int .u16 (c : Int), .slice (some ⟨g, 0, none⟩) l.length cap] w fun e w' => e = .returned (.int .u16 ((sumV c l : Nat) : Int)) ∧ w = w' := by
  have htab : ∀ i, i < 16 → w.cell? ⟨0, i, none⟩ = some (.int .u16 ((halvesN.getD i 0 : Nat) : Int)) := fun i hi => by
    rw [hE.hlv.cell gHlv i hi]
    have : ∀ i, i < 16 → halvesTab.getD i 0 = ((halvesN.getD i 0 : Nat) : Int) := by decide
    rw [this i hi]
  replace htab := Lib.hid htab
  replace hcells := Lib.hid hcells
  go_enter Tryz.func50, Tryz.ntmps50
  go_wp2_with fail
  go_loop [0, 9] (fun s i => ∃ k : Nat, k ≤ l.length ∧ i = .int .i64 k ∧ s = .int .u16 ((sumV c (l.take k) : Nat) : Int)) (fun _ i => l.length - (intOf i).toNat)
  case atStart => exact ⟨0, by omega, rfl, rfl⟩
  case round =>
    obtain ⟨k, hk, rfl, rfl⟩ := hrel
    have hs := sum_lt (l.take k) hc
    by_cases hkl : k < l.length
    · have hcell := hcells.out k hkl
      have hx := (l.getD k 0).toNat_lt
      have hnext : sumV c (l.take (k + 1)) = nib (nib (sumV c (l.take k) ^^^ ((l.getD k 0).toNat * 256))) := by
        rw [List.take_succ_eq_append_getElem hkl, sum_snoc]
        simp [stepV, List.getD, hkl]
      generalize sumV c (l.take k) = S at *
      generalize (l.getD k 0).toNat = X at *
      have hX : X < 256 := by omega
      have e1 : IntKind.u16.wrap (X : Int) = (X : Int) := by rw [wrap16]; omega
      have e2 : IntKind.u16.wrap ((X : Int) * 256) = ((X * 256 : Nat) : Int) := by rw [wrap16]; omega
      have hY : X * 256 < 65536 := by omega
      generalize X * 256 = Y at *
      have e3 := bits_xor16 S Y hs hY
      have hC := xor16 hs hY
      generalize S ^^^ Y = C at *
      have e4 : IntKind.u16.wrap ((C : Int) * 16) = ((C * 16 % 65536 : Nat) : Int) := by rw [wrap16]; omega
      have c1 := htab.out (C / 4096) (by omega)
      have hH : ∀ i, i < 16 → halvesN.getD i 0 < 65536 := by decide
      have hH1 := hH (C / 4096) (by omega)
      have e6 := bits_xor16 (C * 16 % 65536) (halvesN.getD (C / 4096) 0) (by omega) hH1
      have hN1 : (C * 16 % 65536) ^^^ halvesN.getD (C / 4096) 0 = nib C := rfl
      rw [hN1] at e6
      have hn1 := (nib_eq hC).2
      have b1 : (0 : Int) ≤ (C : Int) / 4096 := by omega
      have b2 : (C : Int) / 4096 < 16 := by omega
      clear hN1
      generalize nib C = D at *
      generalize C * 16 % 65536 = C16 at *
      generalize halvesN.getD (C / 4096) 0 = H1 at *
      have e7 : IntKind.u16.wrap ((D : Int) * 16) = ((D * 16 % 65536 : Nat) : Int) := by rw [wrap16]; omega
      have c2 := htab.out (D / 4096) (by omega)
      have e9 := bits_xor16 (D * 16 % 65536) (halvesN.getD (D / 4096) 0) (by omega) (hH (D / 4096) (by omega))
      have hN2 : (D * 16 % 65536) ^^^ halvesN.getD (D / 4096) 0 = nib D := rfl
      rw [hN2] at e9
      have b3 : (0 : Int) ≤ (D : Int) / 4096 := by omega
      have b4 : (D : Int) / 4096 < 16 := by omega
      clear hN2 hH
      generalize nib D = E at *
      generalize D * 16 % 65536 = D16 at *
      generalize halvesN.getD (D / 4096) 0 = H2 at *
      replace hnext := Lib.hid hnext
      go_wp2_with fail
      case roundEnd => exact ⟨⟨k + 1, by omega, by go_num, by rw [hnext.out]⟩, by simp [intOf]; omega⟩
    · obtain rfl : k = l.length := by omega
      go_wp2_with fail
      go_ret
      exact ⟨rfl, rfl⟩
/-! ### bit by bit -/
theorem bit1_lt {c : Nat} (h : c < 65536) : bit1 c < 65536 := by
  unfold bit1
  split
  · exact xor16 (by omega) (by decide)
  · omega
theorem l1_step (k c : Nat) (hc : c < 65536) (xs : List Int) (i : Int) (j : Nat) (hj : j < 8) :
    RSm.marshalyardref01_More.l1 (k + 1) (c : Int) xs i (j : Int) = RSm.marshalyardref01_More.l1 k ((bit1 c : Nat) : Int) xs i ((j + 1 : Nat) : Int) := by
  rw [RSm.marshalyardref01_More.l1, if_pos (by omega), w64 (x := (j : Int) + 1) (by omega) (by omega)]
  have hw : IntKind.u16.wrap ((c : Int) * 2) = ((c * 2 % 65536 : Nat) : Int) := by rw [wrap16]; omega
  rw [hw]
  unfold bit1
  by_cases h : 32768 ≤ c
  · have := bits_xor16 (c * 2 % 65536) 4129 (by omega) (by decide)
    rw [if_pos (by omega), if_pos h]
    rw [show ((4129 : Nat) : Int) = 4129 from rfl] at this
    rw [this]
    rfl
  · rw [if_neg (by omega), if_neg h, show c * 2 % 65536 = c * 2 by omega]
    rfl
theorem l1_all (k c : Nat) (hc : c < 65536) (xs : List Int) (i : Int) :
    RSm.marshalyardref01_More.l1 (k + 9) (c : Int) xs i 0 = RSm.marshalyardref01_More.l0 k ((nib (nib c) : Nat) : Int) xs (Go.RowKit.wrap64 (i + 1)) := by
  have b1 := bit1_lt hc
  have b2 := bit1_lt b1
  have b3 := bit1_lt b2
  have b4 := bit1_lt b3
  have b5 := bit1_lt b4
  have b6 := bit1_lt b5
  have b7 := bit1_lt b6
  have e0 := l1_step (k + 8) c hc xs i 0 (by omega)
  rw [show ((0 : Nat) : Int) = 0 from rfl] at e0
  rw [e0, l1_step (k + 7) _ b1 xs i 1 (by omega), l1_step (k + 6) _ b2 xs i 2 (by omega), l1_step (k + 5) _ b3 xs i 3 (by omega), l1_step (k + 4) _ b4 xs i 4 (by omega),
    l1_step (k + 3) _ b5 xs i 5 (by omega), l1_step (k + 2) _ b6 xs i 6 (by omega), l1_step (k + 1) _ b7 xs i 7 (by omega)]
  rw [RSm.marshalyardref01_More.l1, if_neg (by decide)]
  have n1 := nib_eq hc
  have n2 := nib_eq n1.2
  rw [n2.1, n1.1]
theorem l0_all (l : List UInt8) : ∀ (d i k c : Nat), d = l.length - i → i ≤ l.length → l.length ≤ 9223372036854775807 → c < 65536 → 10 * d + 1 ≤ k →
    RSm.marshalyardref01_More.l0 k (c : Int) (l.map fun b => (b.toNat : Int)) (i : Int) = some ((sumV c (l.drop i) : Nat) : Int) := by
  intro d
  induction d with
  | zero =>
    intro i k c hd hi hl hc hk
    obtain ⟨k, rfl⟩ : ∃ q, k = q + 1 := ⟨k - 1, by omega⟩
    rw [RSm.marshalyardref01_More.l0, if_neg (by rw [List.length_map]; omega), List.drop_eq_nil_of_le (by omega)]
    rfl
  | succ d ih =>
    intro i k c hd hi hl hc hk
    obtain ⟨k, rfl⟩ : ∃ q, k = q + 9 + 1 := ⟨k - 10, by omega⟩
    have hil : i < l.length := by omega
    have hx := (l[i]).toNat_lt
    have hrd : rd (l.map fun b => (b.toNat : Int)) (i : Int) = ((l[i]).toNat : Int) := by
      unfold rd
      simp [List.getD, hil]
    have hw1 : IntKind.u16.wrap (((l[i]).toNat : Int)) = ((l[i]).toNat : Int) := by rw [wrap16]; omega
    have hw2 : IntKind.u16.wrap (((l[i]).toNat : Int) * 256) = (((l[i]).toNat * 256 : Nat) : Int) := by rw [wrap16]; omega
    rw [RSm.marshalyardref01_More.l0, if_pos (by rw [List.length_map]; omega), if_pos (by omega), hrd, hw1, hw2, bits_xor16 _ _ hc (by omega), l1_all k _ (xor16 hc (by omega)), w64 (by omega) (by omega)]
    have := ih (i + 1) k (stepV c l[i]) (by omega) (by omega) hl (step_lt hc _) (by omega)
    rw [List.drop_eq_getElem_cons hil]
    exact this
theorem f_all (l : List UInt8) (hl : l.length ≤ 9223372036854775807) : RSm.marshalyardref01_More.f (10 * l.length + 1) 0 (l.map fun b => (b.toNat : Int)) = some ((sumV 0 l : Nat) : Int) := by
  have h := l0_all l l.length 0 (10 * l.length + 1) 0 (by omega) (by omega) hl (by decide) (by omega)
  rw [List.drop_zero] at h
  exact h
theorem refMore_calls (A : Option Addr) (cap : Nat) (l : List UInt8) (w : World) (hl : l.length ≤ 9223372036854775807) (hcap : l.length ≤ cap) (hr : ReadsInt w .u8 A l.length (l.map fun b => (b.toNat : Int))) :
    Calls Tryz.prog 53 #[.int .u16 0, .slice A l.length cap] w fun e w' => e = .returned (.int .u16 ((sumV 0 l : Nat) : Int)) ∧ Below w.heap.size w w' := by
  have h := RSm.marshalyardref01_More.calls (10 * l.length + 1) 0 A cap (l.map fun b => (b.toNat : Int)) ((sumV 0 l : Nat) : Int) w
    (by rw [List.length_map]; exact Kd.C_of_reads (d := (0 : Int)) (h1 := fun _ => rfl) hr) (by rw [List.length_map]; exact hcap) (f_all l hl)
  rw [List.length_map] at h
  exact h.mono fun e w' hh => ⟨hh.1, hh.2.below⟩
/-- bytes of a string, as a slice of the call's own -/
theorem bytes_at (W : World) (T : List UInt8) (hT : T.length ≤ 9223372036854775807) : ReadsInt (Lib.bytesWorld W 5 ⟨T.toArray⟩) .u8 (some ⟨W.heap.size, 0, none⟩) T.length (T.map fun b => (b.toNat : Int)) := by
  have := bytes_reads W 5 ⟨T.toArray⟩ (by rw [size_mk]; exact hT)
  rw [size_mk] at this
  exact this
theorem bytes_cell (W : World) (T : List UInt8) (j : Nat) (hj : j < T.length) : (Lib.bytesWorld W 5 ⟨T.toArray⟩).cell? ⟨W.heap.size, j, none⟩ = some (.int .u8 ((T.getD j 0).toNat : Int)) := by
  rw [Lib.bytesWorld_cell W 5 ⟨T.toArray⟩ j (by rw [size_mk]; exact hj)]
theorem conv_bytes (T : List UInt8) (W : World) : (convert 9 90 (.string ⟨T.toArray⟩)).run Tryz.prog W = .ok (.slice (some ⟨W.heap.size, 0, none⟩) T.length (grownCap W T.length 0 5)) (Lib.bytesWorld W 5 ⟨T.toArray⟩) := by
  have := print_bytes (P := Tryz.prog) 9 90 5 Tryz.underlying9 Tryz.underlying90 Tryz.underlying5 ⟨T.toArray⟩ W
  rw [size_mk] at this
  exact this
theorem Sum_calls (g cap : Nat) (l : List UInt8) (w : World) (hl : l.length ≤ 9223372036854775807) (hcells : ∀ j, j < l.length → w.cell? ⟨g, j, none⟩ = some (.int .u8 ((l.getD j 0).toNat : Int))) (hE : Env w) :
    Calls Tryz.prog 38 #[.slice (some ⟨g, 0, none⟩) l.length cap] w fun e w' => e = .returned (.int .u16 ((sumV 0 l : Nat) : Int)) ∧ w = w' := by
  have hM := More_calls 0 (by decide) g cap l w hl hcells hE
  replace hcells := Lib.hid hcells
  go_enter Tryz.func38, Tryz.ntmps38
  go_wp2_with fail
  refine hM.mono ?_
  rintro e w2 ⟨rfl, rfl⟩
  go_wp2_with fail
  go_ret
  exact ⟨rfl, rfl⟩
theorem refSum_calls (A : Option Addr) (cap : Nat) (l : List UInt8) (w : World) (hl : l.length ≤ 9223372036854775807) (hcap : l.length ≤ cap) (hr : ReadsInt w .u8 A l.length (l.map fun b => (b.toNat : Int))) :
    Calls Tryz.prog 41 #[.slice A l.length cap] w fun e w' => e = .returned (.int .u16 ((sumV 0 l : Nat) : Int)) ∧ Below w.heap.size w w' := by
  have hM := refMore_calls A cap l w hl hcap hr
  replace hr := Lib.hid hr
  go_enter Tryz.func41, Tryz.ntmps41
  go_wp2_with fail
  refine hM.mono ?_
  rintro e w2 ⟨rfl, hb⟩
  go_wp2_with fail
  go_ret
  exact ⟨rfl, hb⟩
theorem tagV_len (l : List UInt8) : (tagV l).length ≤ l.length := by
  have h1 := cutV_len l 123
  have h2 := cutV_len (cutV l 123).2.1 125
  unfold tagV
  split
  · omega
  · exact Nat.le_refl _
def ofV (l : List UInt8) : Nat := sumV 0 (tagV l) % 16384
theorem ret_int {k : IntKind} {a b : Int} (h : a = b) : Ending.returned (.int k a) = .returned (.int k b) := by rw [h]
theorem Of_calls (s : ByteArray) (hs : s.size ≤ 9223372036854775807) (w : World) (hE : Env w) : Calls Tryz.prog 27 #[.string s] w fun e w' => e = .returned (.int .i64 ((ofV s.data.toList : Nat) : Int)) ∧ Below w.heap.size w w' := by
  have hT := fun W => Tag_calls s (by omega) W
  have hlen := tagV_len s.data.toList
  have hsz : s.data.toList.length = s.size := Array.length_toList
  have hV : ofV s.data.toList = sumV 0 (tagV s.data.toList) % 16384 := rfl
  rw [hV]
  have hlt := sum_lt (tagV s.data.toList) (c := 0) (by decide)
  generalize tagV s.data.toList = T at *
  have kb := fun W => conv_bytes T W
  have hS := fun W hW cap => Sum_calls W.heap.size cap T (Lib.bytesWorld W 5 ⟨T.toArray⟩) (by omega) (fun j hj => bytes_cell W T j hj) hW
  generalize sumV 0 T = S at *
  have hm : IntKind.u16.wrap ((S : Int) % 16384) = ((S % 16384 : Nat) : Int) := by rw [wrap16]; omega
  go_enter Tryz.func27, Tryz.ntmps27
  go_wp2_with fail
  refine (hT _).mono ?_
  rintro e w2 ⟨rfl, hb2⟩
  have hb3 := bytes_below (w := w2) (Below.refl w2.heap.size w2) (Nat.le_refl _) 5 ⟨T.toArray⟩
  have hE3 := (hE.below hb2).below hb3
  have hbw := hb2.trans (hb3.mono hb2.size)
  clear hT hb3 hb2
  go_wp2_with fail
  refine (hS _ hE3 _).mono ?_
  rintro e w3 ⟨rfl, rfl⟩
  go_wp2_with fail
  go_ret
  exact ⟨ret_int (by simp), hbw⟩
theorem refOf_calls (s : ByteArray) (hs : s.size ≤ 9223372036854775807) (w : World) : Calls Tryz.prog 29 #[.string s] w fun e w' => e = .returned (.int .i64 ((ofV s.data.toList : Nat) : Int)) ∧ Below w.heap.size w w' := by
  have hT := fun W => refTag_calls s hs W
  have hlen := tagV_len s.data.toList
  have hsz : s.data.toList.length = s.size := Array.length_toList
  have hV : ofV s.data.toList = sumV 0 (tagV s.data.toList) % 16384 := rfl
  rw [hV]
  have hlt := sum_lt (tagV s.data.toList) (c := 0) (by decide)
  generalize tagV s.data.toList = T at *
  have kb := fun W => conv_bytes T W
  have hS := fun W => refSum_calls (some ⟨W.heap.size, 0, none⟩) (grownCap W T.length 0 5) T (Lib.bytesWorld W 5 ⟨T.toArray⟩) (by omega) (grownCap_ge _ _ _ _) (bytes_at W T (by omega))
  generalize sumV 0 T = S at *
  go_enter Tryz.func29, Tryz.ntmps29
  go_wp2_with fail
  refine (hT _).mono ?_
  rintro e w2 ⟨rfl, hb2⟩
  have hb3 := bytes_below (w := w2) (Below.refl w2.heap.size w2) (Nat.le_refl _) 5 ⟨T.toArray⟩
  have hbw := hb2.trans (hb3.mono hb2.size)
  clear hT hb3 hb2
  go_wp2_with fail
  refine (hS _).mono ?_
  rintro e w3 ⟨rfl, hb4⟩
  go_wp2_with fail
  go_ret
  exact ⟨ret_int (by simp), hbw.trans (hb4.mono hbw.size)⟩
end Go.Proofs.YtpbiohnmmngccaaGreatDoor
