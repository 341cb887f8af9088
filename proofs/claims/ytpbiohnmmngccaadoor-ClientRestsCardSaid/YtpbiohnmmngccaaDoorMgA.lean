/- An answer is taken: all ways in one. The client that every law asks first. Letters as they come in. As long as no call is under way nothing that comes does anything. Conditions: the listed variables as laid; texts below 2^32 - 15 bytes; the listed variables as laid. -/
import Derived.Test.YtpbiohnmmngccaaDoorMgB
import Derived.ProofKit
import Derived.OpenShut
import Derived.Carry
import Derived.Deep.Slices
import Derived.SliceStrings
set_option linter.unusedVariables false
set_option linter.unusedSimpArgs false
namespace Go.Proofs.YtpbiohnmmngccaaDoor
open Go Go.RowKit Go.Maps Go.Proofs.YtpbiohnmmngccaaDoorW.PrintWords
open RtS
/-- a client within bounds -/
structure Fine (s : CS) (q : Nat) : Prop where
  num : 0 ≤ s.num ∧ s.num ≤ q
  bud : 0 ≤ s.bud ∧ s.bud ≤ 16
  cnt : s.cnt ≤ q
  len : s.args.length ≤ 1000000
  big : ∀ x ∈ s.args, x.size ≤ 9223372036854775806
theorem Take_calls (m g : Nat) (s : CS) (L : LV) (q : Nat) (hf : Fine s q) (hq : q ≤ 1000000) (hrt : L.rt.size < 4294967281) (w : World) (h : Cl m g s w) (w0 : World) (hE0 : Env w0) (hB0 : Below w0.heap.size w0 w) (hm0 : w0.heap.size ≤ m) (hg0 : w0.heap.size ≤ g) :
    Calls Tryd.prog 10 #[.pointer (some ⟨g, 0, none⟩), .agg (lcells L)] w (DoPost m g (takeV s L) w) := by
  have hn : 0 ≤ s.num ∧ s.num ≤ 1000000000 := ⟨hf.num.1, by have := hf.num.2; omega⟩
  by_cases hno : ¬ (0 < s.args.length) ∨ L.kind ≠ 2 ∨ L.num ≠ s.num
  · have hv : takeV s L = (s, .none) := by unfold takeV; rw [if_pos hno]
    rw [hv]
    exact Take_none m g s L hn w h hno
  · have hbz : 0 < s.args.length := by
      by_cases hc : 0 < s.args.length
      · exact hc
      · exact absurd (Or.inl hc) hno
    have hk : L.kind = 2 := by
      by_cases hc : L.kind = 2
      · exact hc
      · exact absurd (Or.inr (Or.inl hc)) hno
    have hnn : L.num = s.num := by
      by_cases hc : L.num = s.num
      · exact hc
      · exact absurd (Or.inr (Or.inr hc)) hno
    have hv0 : takeV s L = (let d := readV L.rt.data.toList
      if d.2.2.2.2 = false ∨ L.rk ≠ 2 ∨ d.1 = 5 ∨ d.1 = 6 then ({ s with args := [] }, .done L.rk L.ri L.rt (.slice L.rl.1 L.rl.2.1 L.rl.2.2))
      else if s.bud = 0 then ({ s with args := [] }, .done 2 0 wrongT (.slice none 0 0))
      else
        let s1 := { s with bud := s.bud - 1 }
        if d.1 = 2 then ({ s1 with kn := fun k => if k = d.2.1 then some d.2.2.1 else s.kn k, num := s.num + 1, cnt := s.cnt + 1 }, .send d.2.2.1 0)
        else if d.1 = 3 then ({ s1 with num := s.num + 1 }, .send d.2.2.1 d.2.2.2.1)
        else ({ s1 with num := s.num + 1 }, .send (ownerV s1) 0)) := by unfold takeV; rw [if_neg hno]
    rcases readV_sound L.rt.data.toList with hrv | ⟨k, sl, nd, tk, hrv, hvd, -⟩
    · rw [hrv] at hv0
      simp only [true_or, if_true] at hv0
      rw [hv0]
      exact Take_end1 m g s L hn hrt w h w0 hE0 hB0 hm0 hg0 hbz hk hnn hrv
    · rw [hrv] at hv0
      simp only [Bool.true_eq_false, false_or] at hv0
      have hsl : I64 sl := by have := hvd.slot; unfold I64; omega
      have hnd : I64 nd := by have := hvd.node; unfold I64; omega
      by_cases hrk : L.rk = 2
      · have hrk' : (L.rk != 2) = false := by rw [hrk]; rfl
        have hrkn : ¬ (L.rk ≠ 2) := fun h => h hrk
        by_cases h5 : k = 5
        · subst h5
          rw [if_pos (Or.inr (Or.inl rfl))] at hv0
          rw [hv0]
          exact Take_end3 m g s L hn hrt w h w0 hE0 hB0 hm0 hg0 hbz hk hnn sl nd tk hrv hrk'
        · by_cases h6 : k = 6
          · subst h6
            rw [if_pos (Or.inr (Or.inr rfl))] at hv0
            rw [hv0]
            exact Take_end4 m g s L hn hrt w h w0 hE0 hB0 hm0 hg0 hbz hk hnn sl nd tk hrv hrk'
          · rw [if_neg (by rintro (h1 | h1 | h1); exact h1 hrk; exact h5 h1; exact h6 h1)] at hv0
            by_cases hb : s.bud = 0
            · rw [if_pos hb] at hv0
              rw [hv0]
              exact Take_spent m g s L hn hrt w h w0 hE0 hB0 hm0 hg0 hbz hk hnn k sl nd tk hrv hrk' (by rw [beq_eq_false_iff_ne]; exact h5) (by rw [beq_eq_false_iff_ne]; exact h6) (by rw [beq_iff_eq]; exact hb)
            · rw [if_neg hb] at hv0
              have hbu : 1 ≤ s.bud ∧ s.bud ≤ 1000 := by have := hf.bud; omega
              have hct : s.cnt ≤ 1000000 := Nat.le_trans hf.cnt hq
              by_cases h2 : k = 2
              · subst h2
                simp only [if_true] at hv0
                rw [hv0]
                exact Take_moved m g s L hn hrt w h w0 hE0 hB0 hm0 hg0 hbz hk hnn hf.len hbu hct sl nd tk hsl hnd hrv hrk'
              · by_cases h3 : k = 3
                · subst h3
                  rw [hv0]
                  exact Take_ask m g s L hn hrt w h w0 hE0 hB0 hm0 hg0 hbz hk hnn hf.len hbu sl nd tk hrv hrk'
                · obtain rfl : k = 4 := by have := hvd.kind; omega
                  rw [hv0]
                  exact Take_again m g s L hn hrt w h w0 hE0 hB0 hm0 hg0 hbz hk hnn hf.len hbu hf.big sl nd tk hrv hrk'
      · rw [if_pos (Or.inl hrk)] at hv0
        rw [hv0]
        exact Take_end2 m g s L hn hrt w h w0 hE0 hB0 hm0 hg0 hbz hk hnn k sl nd tk hrv (by rw [bne_iff_ne]; exact hrk)
end Go.Proofs.YtpbiohnmmngccaaDoor

namespace Go.Proofs.YtpbiohnmmngccaaDoor
open Go Go.RowKit Go.Maps Go.Proofs.YtpbiohnmmngccaaDoorW.PrintWords
open RtS
def getB : ByteArray := ⟨#[71, 69, 84]⟩
def fooB : ByteArray := ⟨#[102, 111, 111]⟩
def movB : ByteArray := ⟨#[77, 79, 86, 69, 68, 32, 49, 50, 49, 56, 50, 32, 50]⟩
def s00 : CS := ⟨0, fun _ => none, [], 0, 0, 0⟩
def s01 : CS := ⟨0, fun _ => none, [getB, fooB], 1, 16, 0⟩
def L00 : LV := ⟨2, 1, 0, 0, ⟨#[]⟩, ⟨#[]⟩, (none, 0, 0), 2, 0, movB, (none, 0, 0), false, 0⟩
def s02 : CS := ⟨0, fun k => if k = 12182 then some 2 else none, [getB, fooB], 2, 15, 1⟩
theorem own00 (args : List ByteArray) (n b : Int) (c : Nat) : ownerV ⟨0, fun _ => none, args, n, b, c⟩ = 0 := by
  unfold ownerV
  split <;> rfl
theorem begin00 : beginV s00 [getB, fooB] = (s01, .send 0 0) := by
  have : ownerV (begun s00 [getB, fooB]) = 0 := own00 _ _ _ _
  unfold beginV
  rw [this]
  rfl
theorem read00 : readV movB.data.toList = (2, 12182, 2, 0, true) := by
  have h : Valid 2 12182 2 0 := ⟨by omega, by omega, by omega, by omega, by omega⟩
  have d1 : Lib.itoa 12182 = [49, 50, 49, 56, 50] := by simp [Lib.itoa, Lib.decDigits]
  have d2 : Lib.itoa 2 = [50] := by simp [Lib.itoa, Lib.decDigits]
  have e : textV 2 12182 2 0 = movB.data.toList := by
    show [77, 79, 86, 69, 68] ++ joinT [Lib.itoa 12182, Lib.itoa 2] = _
    rw [d1, d2]
    rfl
  rw [← e]
  exact readV_text h
theorem take00 : takeV s01 L00 = (s02, .send 2 0) := by
  unfold takeV
  rw [show L00.rt = movB from rfl, read00]
  rfl
theorem fine00 : Fine s01 1000000 := ⟨⟨by decide, by decide⟩, ⟨by decide, by decide⟩, by decide, by decide, fun x hx => by
  simp [s01] at hx
  rcases hx with rfl | rfl <;> decide⟩
set_option maxHeartbeats 4000000 in
set_option maxRecDepth 100000 in
theorem alive_calls (w : World) (hE : Env w) : Calls Tryd.prog 8 #[] w fun e w' => e = .returned (.bool true) ∧ Below w.heap.size w w' := by
  go_enter Tryd.func8, Tryd.ntmps8
  go_wp2_with fail
  refine (New_calls 0 w).mono ?_
  rintro e w1 ⟨rfl, hc1, hb1⟩
  have hc1 : Cl w.heap.size (w.heap.size + 1) s00 w1 := hc1
  have hl1 := hc1.lt
  have hba : Below w1.heap.size w1 (w1.alloc (.cells #[.string getB, .string fooB] 9)) := below_alloc (Below.refl _ _) _
  have hcs : (w1.alloc (.cells #[.string getB, .string fooB] 9)).heap[w1.heap.size]? = some (.cells #[.string getB, .string fooB] 9 (0, 0)) := heap_alloc_new _ _
  have hr : Kd.string.C (w1.alloc (.cells #[.string getB, .string fooB] 9)) (some ⟨w1.heap.size, 0, none⟩) [getB, fooB].length [getB, fooB] :=
    Kd.C_of_reads (d := (⟨#[]⟩ : ByteArray)) ⟨rfl, by decide, fun _ => ⟨_, rfl, fun j hj => by
      rw [Addr.add_mid, Nat.zero_add, cell_of_box hcs]
      have : j = 0 ∨ j = 1 := by simp at hj; omega
      rcases this with rfl | rfl <;> rfl⟩⟩
  have hbw := hb1.trans (hba.mono hb1.size)
  have hB := Begin_calls w.heap.size (w.heap.size + 1) s00 (some ⟨w1.heap.size, 0, none⟩) 2 [getB, fooB] ⟨by decide, by decide⟩ (by decide) (fun x hx => by simp at hx; rcases hx with rfl | rfl <;> decide) _ (hc1.below hba) hr (Nat.le_refl _) w hE hbw (Nat.le_refl _) (Nat.le_succ _)
  rw [begin00] at hB
  have hB' : Calls Tryd.prog 9 #[.pointer (some ⟨w.heap.size + 1, 0, none⟩), .slice (some ⟨w1.heap.size, 0, none⟩) 2 2] (w1.alloc (.cells #[.string ⟨#[71, 69, 84]⟩, .string ⟨#[102, 111, 111]⟩] 9)) (DoPost w.heap.size (w.heap.size + 1) (s01, .send 0 0) (w1.alloc (.cells #[.string getB, .string fooB] 9))) := hB
  replace hbw := Lib.hid hbw
  clear hB hr hcs hba hc1
  go_wp2_with fail
  refine hB'.mono ?_
  rintro e w2 ⟨⟨A', c', rfl⟩, hc2, hk2⟩
  have hb2 := Keep2.base hbw.out (Nat.le_refl _) (Nat.le_succ _) hk2
  clear hB' hk2 hbw hl1
  have hl2 := hc2.lt
  have hi1 : (Tryd.prog.info? 32).map (·.size) = some 20 := info32
  generalize hO1 : outC 0 1 s01.num (.slice A' s01.args.length c') 0 true 0 0 ⟨#[]⟩ (.slice none 0 0) false = OUT1
  have hone1 : OUT1.all (·.oneCell') = true := by rw [← hO1]; exact out_one _ _ _ _ _ _ _ _ _ _ _ _ _ _ _
  have hsz1 : OUT1.size = 20 := by rw [← hO1]; rfl
  have hi1 : (Tryd.prog.info? 32).map (·.size) = some OUT1.size := by rw [hsz1]; exact info32
  have hs01 : out0.size = OUT1.size := by rw [hsz1]; rfl
  have hb23 : Below w2.heap.size w2 (w2.alloc (.cells OUT1 32)) := below_alloc (Below.refl _ _) _
  have hx3 : (w2.alloc (.cells OUT1 32)).heap[w2.heap.size]? = some (.cells OUT1 32 (0, 0)) := heap_alloc_new _ _
  have hc3 := hc2.below hb23
  have hb3 := hb2.trans (hb23.mono hb2.size)
  obtain ⟨w3, hw3⟩ : ∃ w3, w3 = w2.alloc (.cells OUT1 32) := ⟨_, rfl⟩
  rw [← hw3] at hx3 hc3 hb3
  have hT := Take_calls w.heap.size (w.heap.size + 1) s01 L00 1000000 fine00 (Nat.le_refl _) (by decide) w3 hc3 w hE hb3 (Nat.le_refl _) (Nat.le_succ _)
  rw [take00] at hT
  have hT' : Calls Tryd.prog 10 #[.pointer (some ⟨w.heap.size + 1, 0, none⟩), .agg #[.int .i64 2, .int .i64 1, .int .i64 0, .int .i64 0, .string ⟨#[]⟩, .string ⟨#[]⟩, .slice none 0 0, .int .i64 2, .int .i64 0, .string ⟨#[77, 79, 86, 69, 68, 32, 49, 50, 49, 56, 50, 32, 50]⟩, .slice none 0 0, .bool false, .int .i64 0]] w3 (DoPost w.heap.size (w.heap.size + 1) (s02, .send 2 0) w3) := hT
  have hlt3 : w2.heap.size < w3.heap.size := (Array.getElem?_eq_some_iff.1 hx3).1
  replace hw3 := Lib.hid hw3
  replace hx3 := Lib.hid hx3
  replace hb3 := Lib.hid hb3
  replace hO1 := Lib.hid hO1
  replace hi1 := Lib.hid hi1
  clear hT hc3 hb23 hb2 hc2
  go_wp2_with ((with_reducible refine store_at (ty := 32) (x := .tmp 2) (y := .tmp 9) ?_); refine ⟨_, OUT1, 32, out0, rfl, rfl, heap_alloc_new _ _, hi1.out, hs01, hone1, ?_⟩; rw [World.setRow_alloc_new, ← hw3.out])
  refine hT'.mono ?_
  rintro e w4 ⟨⟨A5, c5, rfl⟩, hc4, hk4⟩
  have hb4 := Keep2.base hb3.out (Nat.le_refl _) (Nat.le_succ _) hk4
  have hx4 := (hk4.block w2.heap.size hlt3 (by omega) (by omega)).trans hx3.out
  clear hT' hk4 hb3 hx3
  generalize hO2 : outC 2 1 s02.num (.slice A5 s02.args.length c5) 0 true 0 0 ⟨#[]⟩ (.slice none 0 0) false = OUT2
  have hone2 : OUT2.all (·.oneCell') = true := by rw [← hO2]; exact out_one _ _ _ _ _ _ _ _ _ _ _ _ _ _ _
  have hsz2 : OUT2.size = 20 := by rw [← hO2]; rfl
  have hi2 : (Tryd.prog.info? 32).map (·.size) = some OUT2.size := by rw [hsz2]; exact info32
  have hs02 : out0.size = OUT2.size := by rw [hsz2]; rfl
  have hb45 : Below w4.heap.size w4 (w4.alloc (.cells OUT2 32)) := below_alloc (Below.refl _ _) _
  have hx5 : (w4.alloc (.cells OUT2 32)).heap[w4.heap.size]? = some (.cells OUT2 32 (0, 0)) := heap_alloc_new _ _
  have hy5 := (hb45.block w2.heap.size (Array.getElem?_eq_some_iff.1 hx4).1).trans hx4
  have hc5 := hc4.below hb45
  have hb5 := hb4.trans (hb45.mono hb4.size)
  obtain ⟨w5, hw5⟩ : ∃ w5, w5 = w4.alloc (.cells OUT2 32) := ⟨_, rfl⟩
  rw [← hw5] at hx5 hy5 hc5 hb5
  have p0 : w5.cell? ⟨w2.heap.size, 0, none⟩ = some (.int .i64 0) := by rw [cell_of_box hy5, ← hO1.out]; rfl
  have p2 : w5.cell? ⟨w2.heap.size, 2, none⟩ = some (.int .i64 1) := by rw [cell_of_box hy5, ← hO1.out]; rfl
  have p14 : w5.cell? ⟨w2.heap.size, 14, none⟩ = some (.bool true) := by rw [cell_of_box hy5, ← hO1.out]; rfl
  have q0 : w5.cell? ⟨w4.heap.size, 0, none⟩ = some (.int .i64 2) := by rw [cell_of_box hx5, ← hO2]; rfl
  have q2 : w5.cell? ⟨w4.heap.size, 2, none⟩ = some (.int .i64 2) := by rw [cell_of_box hx5, ← hO2]; rfl
  have q14 : w5.cell? ⟨w4.heap.size, 14, none⟩ = some (.bool true) := by rw [cell_of_box hx5, ← hO2]; rfl
  have hWh := Where_calls w.heap.size (w.heap.size + 1) s02 12182 ⟨by decide, by decide⟩ w5 hc5
  have hv : whereV s02 12182 = 2 := rfl
  rw [hv] at hWh
  have hBu := Busy_calls w.heap.size (w.heap.size + 1) s02 w5 hc5
  have hbu : decide (0 < s02.args.length) = true := rfl
  rw [hbu] at hBu
  replace hw5 := Lib.hid hw5
  replace hb5 := Lib.hid hb5
  replace hO2 := Lib.hid hO2
  replace hi2 := Lib.hid hi2
  clear hx5 hy5 hc5 hb45 hb4 hc4 hx4 hv hbu
  go_wp2_with ((with_reducible refine store_at (ty := 32) (x := .tmp 3) (y := .tmp 13) ?_); refine ⟨_, OUT2, 32, out0, rfl, rfl, heap_alloc_new _ _, hi2.out, hs02, hone2, ?_⟩; rw [World.setRow_alloc_new, ← hw5.out])
  refine hWh.mono ?_
  rintro e w6 ⟨rfl, rfl⟩
  go_wp2_with fail
  refine hBu.mono ?_
  rintro e w6 ⟨rfl, rfl⟩
  go_wp2_with fail
  go_ret
  exact ⟨rfl, hb5.out⟩
end Go.Proofs.YtpbiohnmmngccaaDoor

namespace Go.Proofs.YtpbiohnmmngccaaDoor
open Go Go.ChangeShapes Go.WideShapes Go.ChangeAt Go.RowKit Go.Deep Go.Proofs.YtpbiohnmmngccaaDoorW.PrintWords
section
variable {H : Type} {enc : TypeId × Value → H} {W : World} {b : Nat} {v : Value} {d : DataW H} {p : List MemPlace}
theorem fields_list {P : Program} {t : TypeId} {fs : Array Field} {cs : List Value} {fuel : Nat} {y : DataW H × List MemPlace} (hs : P.underlying t = some (.struct fs)) (hf : DataW.trod enc P W 0 (fun _ => true) true fuel t cs = some y) :
    ∃ n, ∀ (i : Nat) (e : TypeId) (o k : Nat), (fs[i]?).map (fun f => (f.type, f.offset)) = some (e, o) → P.cellsOf e = k → ∃ z, DataW.trod enc P W 0 (fun _ => true) true n e ((cs.drop o).take k) = some z := by
  obtain ⟨xs, n, _, _, _, hl, hx⟩ := DataW.trod_struct hs hf
  refine ⟨n, fun i e o k hfi hk => ?_⟩
  cases h : fs[i]? with
  | none => rw [h] at hfi; cases hfi
  | some f =>
    rw [h] at hfi
    simp only [Option.map_some, Option.some.injEq, Prod.mk.injEq] at hfi
    obtain ⟨rfl, rfl⟩ := hfi
    have h1 : i < fs.size := (Array.getElem?_eq_some_iff.1 h).1
    subst hk
    exact ⟨_, (hx i f h).trans (List.getElem?_eq_getElem (by omega))⟩
theorem cell_int {n : Nat} {x : Value} {z : DataW H × List MemPlace} (h : DataW.trod enc Tryd.prog W 0 (fun _ => true) true n 3 [x] = some z) : ∃ a, x = .int .i64 a ∧ I64 a := by
  obtain ⟨a, h1, _, h2⟩ := DataW.trod_int Tryd.underlying3 h
  cases h1
  refine ⟨a, rfl, ?_⟩
  simp only [Lit.wf, IntKind.min, IntKind.max, IntKind.signed, IntKind.bits, Bool.and_eq_true, decide_eq_true_eq, if_true] at h2
  unfold I64
  omega
theorem cell_str {n : Nat} {x : Value} {z : DataW H × List MemPlace} (h : DataW.trod enc Tryd.prog W 0 (fun _ => true) true n 9 [x] = some z) : ∃ s, x = .string s := by
  obtain ⟨s, h1, -⟩ := DataW.trod_string Tryd.underlying9 h
  cases h1
  exact ⟨s, rfl⟩
theorem cell_slice {n : Nat} {x : Value} {t e : TypeId} {z : DataW H × List MemPlace} (ht : Tryd.prog.underlying t = some (.slice e)) (h : DataW.trod enc Tryd.prog W 0 (fun _ => true) true n t [x] = some z) : ∃ r : Option Addr × Nat × Nat, x = .slice r.1 r.2.1 r.2.2 := by
  rcases open_slice ht h with ⟨h0, -⟩ | ⟨a, len, cap, m, k, D, Pl, h0, -⟩
  · cases h0
    exact ⟨(none, 0, 0), rfl⟩
  · cases h0
    exact ⟨(some a, len, cap), rfl⟩
theorem open_letter {cs : List Value} {fuel : Nat} {y : DataW H × List MemPlace} (hl : cs.length = 13) (h : DataW.trod enc Tryd.prog W 0 (fun _ => true) true fuel 30 cs = some y) : ∃ L : LV, cs = (lcells L).toList := by
  match cs, hl with
  | [c0, c1, c2, c3, c4, c5, c6, c7, c8, c9, c10, c11, c12], _ =>
    obtain ⟨n, hx⟩ := fields_list Tryd.underlying30 h
    have g0 := hx 0 3 0 1 (by kernel_rfl) (by kernel_rfl)
    have g1 := hx 1 3 1 1 (by kernel_rfl) (by kernel_rfl)
    have g2 := hx 2 3 2 1 (by kernel_rfl) (by kernel_rfl)
    have g3 := hx 3 3 3 1 (by kernel_rfl) (by kernel_rfl)
    have g4 := hx 4 9 4 1 (by kernel_rfl) (by kernel_rfl)
    have g5 := hx 5 9 5 1 (by kernel_rfl) (by kernel_rfl)
    have g6 := hx 6 22 6 1 (by kernel_rfl) (by kernel_rfl)
    have g7 := hx 7 28 7 4 (by kernel_rfl) (by kernel_rfl)
    have g8 := hx 8 4 11 1 (by kernel_rfl) (by kernel_rfl)
    have g9 := hx 9 3 12 1 (by kernel_rfl) (by kernel_rfl)
    obtain ⟨z0, g0⟩ := g0
    obtain ⟨z1, g1⟩ := g1
    obtain ⟨z2, g2⟩ := g2
    obtain ⟨z3, g3⟩ := g3
    obtain ⟨z4, g4⟩ := g4
    obtain ⟨z5, g5⟩ := g5
    obtain ⟨z6, g6⟩ := g6
    obtain ⟨z7, g7⟩ := g7
    obtain ⟨z8, g8⟩ := g8
    obtain ⟨z9, g9⟩ := g9
    obtain ⟨a0, rfl, -⟩ := cell_int g0
    obtain ⟨a1, rfl, -⟩ := cell_int g1
    obtain ⟨a2, rfl, -⟩ := cell_int g2
    obtain ⟨a3, rfl, -⟩ := cell_int g3
    obtain ⟨a4, rfl⟩ := cell_str g4
    obtain ⟨a5, rfl⟩ := cell_str g5
    obtain ⟨a6, rfl⟩ := cell_slice Tryd.underlying22 g6
    obtain ⟨k, hy⟩ := fields_list Tryd.underlying28 g7
    obtain ⟨y0, e0⟩ := hy 0 3 0 1 (by kernel_rfl) (by kernel_rfl)
    obtain ⟨y1, e1⟩ := hy 1 3 1 1 (by kernel_rfl) (by kernel_rfl)
    obtain ⟨y2, e2⟩ := hy 2 9 2 1 (by kernel_rfl) (by kernel_rfl)
    obtain ⟨y3, e3⟩ := hy 3 23 3 1 (by kernel_rfl) (by kernel_rfl)
    obtain ⟨b0, rfl, -⟩ := cell_int e0
    obtain ⟨b1, rfl, -⟩ := cell_int e1
    obtain ⟨b2, rfl⟩ := cell_str e2
    obtain ⟨b3, rfl⟩ := cell_slice Tryd.underlying23 e3
    obtain ⟨a8, h8⟩ : ∃ x, c11 = .bool x := by
      obtain ⟨x, h1, -⟩ := DataW.trod_bool Tryd.underlying4 g8
      cases h1
      exact ⟨x, rfl⟩
    subst h8
    obtain ⟨a9, rfl, -⟩ := cell_int g9
    exact ⟨⟨a0, a1, a2, a3, a4, a5, a6, b0, b1, b2, b3, a8, a9⟩, rfl⟩
/-- a row of letters -/
def Letters (W : World) (A : Option Addr) (l : List LV) : Prop := ∀ (i : Nat) (L : LV), l[i]? = some L → ∃ g o, A = some ⟨g, o, none⟩ ∧ g < W.heap.size ∧ ∀ (k : Nat) (v : Value), (lcells L)[k]? = some v → W.cell? ⟨g, o + i * 13 + k, none⟩ = some v
instance : Inhabited LV := ⟨⟨0, 0, 0, 0, ⟨#[]⟩, ⟨#[]⟩, (none, 0, 0), 0, 0, ⟨#[]⟩, (none, 0, 0), false, 0⟩⟩
set_option maxRecDepth 100000 in
theorem open_letters (hv : Value.okWide Tryd.prog W .any b 47 v) (h : DataW.Trod enc Tryd.prog W 0 (fun _ => true) true 47 v d p) :
    ∃ A c l, v = .slice A (l : List LV).length c ∧ Letters W A l ∧ l.length ≤ c ∧ c ≤ 9223372036854775807 := by
  obtain ⟨A0, len0, cap0, rfl⟩ := okWide_slice Tryd.underlying47 hv
  obtain ⟨fuel, hf⟩ := h
  have hf' : DataW.trod enc Tryd.prog W 0 (fun _ => true) true fuel 47 [.slice A0 len0 cap0] = some (d, p) := hf
  rcases open_slice Tryd.underlying47 hf' with ⟨h0, -⟩ | ⟨a, len, cap, m, n, D, Pl, hcs, -, hl, hm, hmm, -, hx⟩
  · simp only [List.cons.injEq, Value.slice.injEq, and_true] at h0
    obtain ⟨rfl, rfl, rfl⟩ := h0
    exact ⟨none, 0, [], rfl, fun i L h => by simp at h, Nat.le_refl _, Nat.zero_le _⟩
  · simp only [List.cons.injEq, Value.slice.injEq, and_true] at hcs
    obtain ⟨rfl, rfl, rfl⟩ := hcs
    simp only [if_true] at hmm
    have h13 : Tryd.prog.cellsOf 30 = 13 := by kernel_rfl
    rw [h13] at hx
    obtain ⟨F, hF⟩ := choose_lt (α := LV) (p := fun i L => W.cells? 0 (a.add (i * 13)) 13 = some (lcells L).toList) (n := len0) (fun i hi => by
      obtain ⟨cs', h1, h2⟩ := hx i (by omega)
      obtain ⟨_, hlen, _⟩ := World.cells?_some h1
      obtain ⟨L, rfl⟩ := open_letter hlen h2
      exact ⟨L, h1⟩)
    have hxl : ((List.range len0).map F).length = len0 := by simp
    refine ⟨some a, cap0, (List.range len0).map F, by rw [hxl], fun i L hL => ?_, by rw [hxl]; exact hl, by unfold maxLen at hm; omega⟩
    obtain ⟨hi, hLx⟩ := List.getElem?_eq_some_iff.1 hL
    rw [hxl] at hi
    simp only [List.getElem_map, List.getElem_range] at hLx
    subst hLx
    obtain ⟨_, _, hc⟩ := World.cells?_some (hF i hi)
    obtain ⟨g, o, sp⟩ := a
    have hsp : sp = none := by
      obtain ⟨_, _, hz⟩ := World.cells?_some (hF 0 (by omega))
      have hz0 := hz 0 (by decide)
      have : (Addr.add (Addr.add ⟨g, o, sp⟩ (0 * 13)) 0) = ⟨g, o, sp⟩ := by simp [Addr.add]
      rw [this] at hz0
      exact spot_none (v := .int .i64 (F 0).kind) hz0
    subst hsp
    refine ⟨g, o, rfl, ?_, fun k v hk => ?_⟩
    · have hc0 := hc 0 (by decide)
      rw [Addr.add_mid, Addr.add_mid] at hc0
      exact World.block_lt_of_cell? (u := .int .i64 (F i).kind) W _ hc0
    · have hk13 : k < 13 := (Array.getElem?_eq_some_iff.1 hk).1
      have := hc k hk13
      rw [Addr.add_mid, Addr.add_mid, Array.getElem?_toList, hk] at this
      exact this
end
end Go.Proofs.YtpbiohnmmngccaaDoor

namespace Go.Proofs.YtpbiohnmmngccaaDoor
open Go Go.RowKit Go.Maps Go.Proofs.YtpbiohnmmngccaaDoorW.PrintWords
theorem info30 : (Tryd.prog.info? 30).map (·.size) = some 13 := by kernel_rfl
theorem letter_one (L : LV) : (lcells L).all (·.oneCell') = true := by
  simp [lcells, Value.oneCell']
def letter0 : Array Value := #[.int .i64 0, .int .i64 0, .int .i64 0, .int .i64 0, .string ⟨#[]⟩, .string ⟨#[]⟩, .slice none 0 0, .int .i64 0, .int .i64 0, .string ⟨#[]⟩, .slice none 0 0, .bool false, .int .i64 0]
set_option maxHeartbeats 4000000 in
set_option maxRecDepth 100000 in
theorem ClientRests_walk (home slot : Int) (hh : I64 home) (hsl : I64 slot) (A : Option Addr) (c : Nat) (l : List LV) (w : World) (hE : Env w) (hl : Letters w A l) (hc : l.length ≤ c) (hcm : c ≤ 9223372036854775807) :
    Calls Tryd.prog 6 #[.int .i64 home, .slice A l.length c, .int .i64 slot] w fun e w' => e = .returned (.bool true) ∧ Below w.heap.size w w' := by
  by_cases hn : 200 < l.length
  · have hgo : decide ((200 : Int) < (l.length : Int)) = true := decide_eq_true (by omega)
    go_enter Tryd.func6, Tryd.ntmps6
    go_wp2_with fail
    refine (New_calls home w).mono ?_
    rintro e w1 ⟨rfl, hc1, hb1⟩
    clear hc1
    go_wp2_with fail
    refine (alive_calls _ (hE.below hb1)).mono ?_
    rintro e w2 ⟨rfl, hb2⟩
    have hb2' := hb1.trans (hb2.mono hb1.size)
    go_wp2_with fail
    go_ret
    exact ⟨rfl, hb2'⟩
  · have hgo : decide ((200 : Int) < (l.length : Int)) = false := decide_eq_false (by omega)
    have hwh : whereV ⟨home, fun _ => none, [], 0, 0, 0⟩ slot = home := rfl
    go_enter Tryd.func6, Tryd.ntmps6
    go_wp2_with fail
    refine (New_calls home w).mono ?_
    rintro e w1 ⟨rfl, hc1, hb1⟩
    replace hwh := Lib.hid hwh
    replace hc1 := Lib.hid hc1
    replace hb1 := Lib.hid hb1
    go_wp2_with fail
    go_loopw [27] (fun s27 wr => ∃ i : Nat, i ≤ l.length ∧ s27 = .int .i64 i ∧ Cl w.heap.size (w.heap.size + 1) ⟨home, fun _ => none, [], 0, 0, 0⟩ wr ∧ Below w.heap.size w wr) (fun s27 _ => l.length - (intOf s27).toNat)
    case atStart => exact ⟨0, by omega, rfl, hc1.out, hb1.out⟩
    case round =>
      obtain ⟨i, hi, rfl, hcl, hb⟩ := hrel
      clear hc1 hb1
      by_cases hil : i < l.length
      · have hgo2 : decide ((i : Int) < (l.length : Int)) = true := decide_eq_true (by omega)
        have hi0 : (0 : Int) ≤ (i : Int) := by omega
        obtain ⟨L, hL⟩ : ∃ L, l[i]? = some L := ⟨l[i], List.getElem?_eq_getElem hil⟩
        obtain ⟨b, o, rfl, hbl, hcs⟩ := hl i L hL
        have hblr : b < wr.heap.size := Nat.lt_of_lt_of_le hbl hb.size
        have e0 : wr.cell? ⟨b, o + i * 13, none⟩ = some (.int .i64 L.kind) := (hb.cell (p := ⟨b, o + i * 13, none⟩) hbl).trans (hcs 0 _ rfl)
        have e1 : wr.cell? ⟨b, o + i * 13 + 1, none⟩ = some (.int .i64 L.num) := (hb.cell (p := ⟨b, o + i * 13 + 1, none⟩) hbl).trans (hcs 1 _ rfl)
        have e2 : wr.cell? ⟨b, o + i * 13 + 2, none⟩ = some (.int .i64 L.slot) := (hb.cell (p := ⟨b, o + i * 13 + 2, none⟩) hbl).trans (hcs 2 _ rfl)
        have e3 : wr.cell? ⟨b, o + i * 13 + 3, none⟩ = some (.int .i64 L.ends) := (hb.cell (p := ⟨b, o + i * 13 + 3, none⟩) hbl).trans (hcs 3 _ rfl)
        have e4 : wr.cell? ⟨b, o + i * 13 + 4, none⟩ = some (.string L.key) := (hb.cell (p := ⟨b, o + i * 13 + 4, none⟩) hbl).trans (hcs 4 _ rfl)
        have e5 : wr.cell? ⟨b, o + i * 13 + 5, none⟩ = some (.string L.text) := (hb.cell (p := ⟨b, o + i * 13 + 5, none⟩) hbl).trans (hcs 5 _ rfl)
        have e6 : wr.cell? ⟨b, o + i * 13 + 6, none⟩ = some (.slice L.args.1 L.args.2.1 L.args.2.2) := (hb.cell (p := ⟨b, o + i * 13 + 6, none⟩) hbl).trans (hcs 6 _ rfl)
        have e7 : wr.cell? ⟨b, o + i * 13 + 7, none⟩ = some (.int .i64 L.rk) := (hb.cell (p := ⟨b, o + i * 13 + 7, none⟩) hbl).trans (hcs 7 _ rfl)
        have e8 : wr.cell? ⟨b, o + i * 13 + 8, none⟩ = some (.int .i64 L.ri) := (hb.cell (p := ⟨b, o + i * 13 + 8, none⟩) hbl).trans (hcs 8 _ rfl)
        have e9 : wr.cell? ⟨b, o + i * 13 + 9, none⟩ = some (.string L.rt) := (hb.cell (p := ⟨b, o + i * 13 + 9, none⟩) hbl).trans (hcs 9 _ rfl)
        have e10 : wr.cell? ⟨b, o + i * 13 + 10, none⟩ = some (.slice L.rl.1 L.rl.2.1 L.rl.2.2) := (hb.cell (p := ⟨b, o + i * 13 + 10, none⟩) hbl).trans (hcs 10 _ rfl)
        have e11 : wr.cell? ⟨b, o + i * 13 + 11, none⟩ = some (.bool L.good) := (hb.cell (p := ⟨b, o + i * 13 + 11, none⟩) hbl).trans (hcs 11 _ rfl)
        have e12 : wr.cell? ⟨b, o + i * 13 + 12, none⟩ = some (.int .i64 L.asking) := (hb.cell (p := ⟨b, o + i * 13 + 12, none⟩) hbl).trans (hcs 12 _ rfl)
        clear hcs
        have hb3 : Below wr.heap.size wr (wr.alloc (.cells (lcells L) 30)) := below_alloc (Below.refl _ _) _
        have hc3 := hcl.below hb3
        have hbw3 := hb.trans (hb3.mono hb.size)
        have hT := Take_none w.heap.size (w.heap.size + 1) ⟨home, fun _ => none, [], 0, 0, 0⟩ L ⟨Int.le_refl 0, (by decide : (0 : Int) ≤ 1000000000)⟩ _ hc3 (Or.inl (Nat.lt_irrefl 0))
        have hx3 : (wr.alloc (.cells (lcells L) 30)).heap[wr.heap.size]? = some (.cells (lcells L) 30 (0, 0)) := heap_alloc_new _ _
        obtain ⟨w3, hw3⟩ : ∃ w3, w3 = wr.alloc (.cells (lcells L) 30) := ⟨_, rfl⟩
        rw [← hw3] at hT hbw3 hx3
        have hlw3 : w.heap.size + 1 < wr.heap.size := hcl.lt.2
        have m0 : w3.cell? ⟨wr.heap.size, 0, none⟩ = some (.int .i64 L.kind) := by rw [cell_of_box hx3]; rfl
        have m1 : w3.cell? ⟨wr.heap.size, 1, none⟩ = some (.int .i64 L.num) := by rw [cell_of_box hx3]; rfl
        have m2 : w3.cell? ⟨wr.heap.size, 2, none⟩ = some (.int .i64 L.slot) := by rw [cell_of_box hx3]; rfl
        have m3 : w3.cell? ⟨wr.heap.size, 3, none⟩ = some (.int .i64 L.ends) := by rw [cell_of_box hx3]; rfl
        have m4 : w3.cell? ⟨wr.heap.size, 4, none⟩ = some (.string L.key) := by rw [cell_of_box hx3]; rfl
        have m5 : w3.cell? ⟨wr.heap.size, 5, none⟩ = some (.string L.text) := by rw [cell_of_box hx3]; rfl
        have m6 : w3.cell? ⟨wr.heap.size, 6, none⟩ = some (.slice L.args.1 L.args.2.1 L.args.2.2) := by rw [cell_of_box hx3]; rfl
        have m7 : w3.cell? ⟨wr.heap.size, 7, none⟩ = some (.int .i64 L.rk) := by rw [cell_of_box hx3]; rfl
        have m8 : w3.cell? ⟨wr.heap.size, 8, none⟩ = some (.int .i64 L.ri) := by rw [cell_of_box hx3]; rfl
        have m9 : w3.cell? ⟨wr.heap.size, 9, none⟩ = some (.string L.rt) := by rw [cell_of_box hx3]; rfl
        have m10 : w3.cell? ⟨wr.heap.size, 10, none⟩ = some (.slice L.rl.1 L.rl.2.1 L.rl.2.2) := by rw [cell_of_box hx3]; rfl
        have m11 : w3.cell? ⟨wr.heap.size, 11, none⟩ = some (.bool L.good) := by rw [cell_of_box hx3]; rfl
        have m12 : w3.cell? ⟨wr.heap.size, 12, none⟩ = some (.int .i64 L.asking) := by rw [cell_of_box hx3]; rfl
        replace hw3 := Lib.hid hw3
        replace hx3 := Lib.hid hx3
        replace hbw3 := Lib.hid hbw3
        clear hcl hb hb3 hc3 hL
        go_wp2_with ((with_reducible refine store_at (ty := 30) (x := .tmp 9) (y := .tmp 30) ?_); refine ⟨wr.heap.size, lcells L, 30, letter0, rfl, rfl, heap_alloc_new _ _, info30, rfl, letter_one L, ?_⟩; rw [World.setRow_alloc_new, ← hw3.out])
        refine hT.mono ?_
        rintro e w4 ⟨ho, hc4, hk4⟩
        have ho' : e = .returned (.agg out0) := ho
        subst ho'
        have hb4 := Keep2.base hbw3.out (Nat.le_refl _) (Nat.le_succ _) hk4
        have hb45 : Below w4.heap.size w4 (w4.alloc (.cells out0 32)) := below_alloc (Below.refl _ _) _
        have hx5 : (w4.alloc (.cells out0 32)).heap[w4.heap.size]? = some (.cells out0 32 (0, 0)) := heap_alloc_new _ _
        have hc5 := hc4.below hb45
        have hb5 := hb4.trans (hb45.mono hb4.size)
        obtain ⟨w5, hw5⟩ : ∃ w5, w5 = w4.alloc (.cells out0 32) := ⟨_, rfl⟩
        rw [← hw5] at hx5 hc5 hb5
        have p14 : w5.cell? ⟨w4.heap.size, 14, none⟩ = some (.bool false) := by rw [cell_of_box hx5]; rfl
        have p19 : w5.cell? ⟨w4.heap.size, 19, none⟩ = some (.bool false) := by rw [cell_of_box hx5]; rfl
        have hBu := Busy_calls w.heap.size (w.heap.size + 1) _ w5 hc5
        have hbu : decide (0 < (⟨home, fun _ => none, [], 0, 0, 0⟩ : CS).args.length) = false := rfl
        rw [hbu] at hBu
        have hWh := Where_calls w.heap.size (w.heap.size + 1) _ slot hsl w5 hc5
        rw [hwh.out] at hWh
        replace hw5 := Lib.hid hw5
        replace hb5 := Lib.hid hb5
        replace hc5 := Lib.hid hc5
        have hoo : out0.all (·.oneCell') = true := out_one _ _ _ _ _ _ _ _ _ _ _ _ _ _ _
        replace hoo := Lib.hid hoo
        clear hx5 hb45 hb4 hc4 hk4 hx3 hbw3 hT e0 e1 e2 e3 e4 e5 e6 e7 e8 e9 e10 e11 e12 m0 m1 m2 m3 m4 m5 m6 m7 m8 m9 m10 m11 m12
        go_wp2_with ((with_reducible refine store_at (ty := 32) (x := .tmp 10) (y := .tmp 33) ?_); refine ⟨_, out0, 32, out0, rfl, rfl, heap_alloc_new _ _, info32, rfl, hoo.out, ?_⟩; rw [World.setRow_alloc_new, ← hw5.out])
        refine hBu.mono ?_
        rintro e w6 ⟨rfl, rfl⟩
        go_wp2_with fail
        refine hWh.mono ?_
        rintro e w6 ⟨rfl, rfl⟩
        go_wp2_with fail
        exact ⟨⟨i + 1, by omega, by go_num, hc5.out, hb5.out⟩, by simp [intOf]; omega⟩
      · obtain rfl : i = l.length := by omega
        have hgo2 : decide ((l.length : Int) < (l.length : Int)) = false := decide_eq_false (by omega)
        go_wp2_with fail
        refine (alive_calls _ (hE.below hb)).mono ?_
        rintro e w2 ⟨rfl, hb2⟩
        have hb2' := hb.trans (hb2.mono hb.size)
        go_wp2_with fail
        go_ret
        exact ⟨rfl, hb2'⟩
end Go.Proofs.YtpbiohnmmngccaaDoor
