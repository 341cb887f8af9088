/- An answer is taken: all ways in one. The client that every law asks first. Letters as they come in. Scripts as they come in; few. How a client's numbers go on: plain. Steps of a script, one behind the other. A step of a script: what its answer's box holds. Replies as they come in, with their lists; the reference's Same of a reply and itself. Scripts as they come in, with the lists of their answers. Conditions: the listed variables as laid; texts below 2^32 - 15 bytes; the listed variables as laid. -/
import Derived.Test.YtpbiohnmmngccaaGreatDoorMgB
import Derived.ProofKit
import Derived.OpenShut
import Derived.Carry
import Derived.Deep.Slices
import Derived.SliceStrings
import Derived.Deep.RegionHeld3
set_option linter.unusedVariables false
set_option linter.unusedSimpArgs false
namespace Go.Proofs.YtpbiohnmmngccaaGreatDoor
open Go Go.RowKit Go.Maps Go.Proofs.YtpbiohnmmngccaaGreatDoorW.PrintWords
open RtS
/-- a client within bounds -/
structure Fine (s : CS) (q : Nat) : Prop where
  num : 0 ≤ s.num ∧ s.num ≤ q
  bud : 0 ≤ s.bud ∧ s.bud ≤ 16
  cnt : s.cnt ≤ q
  len : s.args.length ≤ 1000000
  big : ∀ x ∈ s.args, x.size ≤ 9223372036854775807
theorem Take_calls (m g : Nat) (s : CS) (L : LV) (q : Nat) (hf : Fine s q) (hq : q ≤ 1000000) (hrt : L.rt.size < 4294967281) (w : World) (h : Cl m g s w) (w0 : World) (hE0 : Env w0) (hB0 : Below w0.heap.size w0 w) (hm0 : w0.heap.size ≤ m) (hg0 : w0.heap.size ≤ g) :
    Calls Tryz.prog 9 #[.pointer (some ⟨g, 0, none⟩), .agg (lcells L)] w (DoPost m g (takeV s L) w) := by
  have hn : 0 ≤ s.num ∧ s.num ≤ 1000000000 := ⟨hf.num.1, by have := hf.num.2; omega⟩
  by_cases hno : ¬ (0 < s.args.length) ∨ L.kind ≠ 2 ∨ L.num ≠ s.num
  · have hv : takeV s L = (s, .none) := by unfold takeV; rw [if_pos hno]
    rw [hv]
    exact Take_none m g s L hn w h hno
  · have hbz : 0 < s.args.length := by
      by_cases hc : 0 < s.args.length
      · exact hc
      · exact absurd (Or.inl hc) hno
    have hk : L.kind = 2 := by
      by_cases hc : L.kind = 2
      · exact hc
      · exact absurd (Or.inr (Or.inl hc)) hno
    have hnn : L.num = s.num := by
      by_cases hc : L.num = s.num
      · exact hc
      · exact absurd (Or.inr (Or.inr hc)) hno
    have hv0 : takeV s L = (let d := readV L.rt.data.toList
      if d.2.2.2.2 = false ∨ L.rk ≠ 2 ∨ d.1 = 5 ∨ d.1 = 6 then ({ s with args := [] }, .done L.rk L.ri L.rt (.slice L.rl.1 L.rl.2.1 L.rl.2.2))
      else if s.bud = 0 then ({ s with args := [] }, .done 2 0 wrongT (.slice none 0 0))
      else
        let s1 := { s with bud := s.bud - 1 }
        if d.1 = 2 then ({ s1 with kn := fun k => if k = d.2.1 then some d.2.2.1 else s.kn k, num := s.num + 1, cnt := s.cnt + 1 }, .send d.2.2.1 0)
        else if d.1 = 3 then ({ s1 with num := s.num + 1 }, .send d.2.2.1 d.2.2.2.1)
        else ({ s1 with num := s.num + 1 }, .send (ownerV s1) 0)) := by unfold takeV; rw [if_neg hno]
    rcases readV_sound L.rt.data.toList with hrv | ⟨k, sl, nd, tk, hrv, hvd, -⟩
    · rw [hrv] at hv0
      simp only [true_or, if_true] at hv0
      rw [hv0]
      exact Take_end1 m g s L hn hrt w h w0 hE0 hB0 hm0 hg0 hbz hk hnn hrv
    · rw [hrv] at hv0
      simp only [Bool.true_eq_false, false_or] at hv0
      have hsl : I64 sl := by have := hvd.slot; unfold I64; omega
      have hnd : I64 nd := by have := hvd.node; unfold I64; omega
      by_cases hrk : L.rk = 2
      · have hrk' : (L.rk != 2) = false := by rw [hrk]; rfl
        have hrkn : ¬ (L.rk ≠ 2) := fun h => h hrk
        by_cases h5 : k = 5
        · subst h5
          rw [if_pos (Or.inr (Or.inl rfl))] at hv0
          rw [hv0]
          exact Take_end3 m g s L hn hrt w h w0 hE0 hB0 hm0 hg0 hbz hk hnn sl nd tk hrv hrk'
        · by_cases h6 : k = 6
          · subst h6
            rw [if_pos (Or.inr (Or.inr rfl))] at hv0
            rw [hv0]
            exact Take_end4 m g s L hn hrt w h w0 hE0 hB0 hm0 hg0 hbz hk hnn sl nd tk hrv hrk'
          · rw [if_neg (by rintro (h1 | h1 | h1); exact h1 hrk; exact h5 h1; exact h6 h1)] at hv0
            by_cases hb : s.bud = 0
            · rw [if_pos hb] at hv0
              rw [hv0]
              exact Take_spent m g s L hn hrt w h w0 hE0 hB0 hm0 hg0 hbz hk hnn k sl nd tk hrv hrk' (by rw [beq_eq_false_iff_ne]; exact h5) (by rw [beq_eq_false_iff_ne]; exact h6) (by rw [beq_iff_eq]; exact hb)
            · rw [if_neg hb] at hv0
              have hbu : 1 ≤ s.bud ∧ s.bud ≤ 1000 := by have := hf.bud; omega
              have hct : s.cnt ≤ 1000000 := Nat.le_trans hf.cnt hq
              by_cases h2 : k = 2
              · subst h2
                simp only [if_true] at hv0
                rw [hv0]
                exact Take_moved m g s L hn hrt w h w0 hE0 hB0 hm0 hg0 hbz hk hnn hf.len hbu hct sl nd tk hsl hnd hrv hrk'
              · by_cases h3 : k = 3
                · subst h3
                  rw [hv0]
                  exact Take_ask m g s L hn hrt w h w0 hE0 hB0 hm0 hg0 hbz hk hnn hf.len hbu sl nd tk hrv hrk'
                · obtain rfl : k = 4 := by have := hvd.kind; omega
                  rw [hv0]
                  exact Take_again m g s L hn hrt w h w0 hE0 hB0 hm0 hg0 hbz hk hnn hf.len hbu hf.big sl nd tk hrv hrk'
      · rw [if_pos (Or.inl hrk)] at hv0
        rw [hv0]
        exact Take_end2 m g s L hn hrt w h w0 hE0 hB0 hm0 hg0 hbz hk hnn k sl nd tk hrv (by rw [bne_iff_ne]; exact hrk)
end Go.Proofs.YtpbiohnmmngccaaGreatDoor

namespace Go.Proofs.YtpbiohnmmngccaaGreatDoor
open Go Go.RowKit Go.Maps Go.Proofs.YtpbiohnmmngccaaGreatDoorW.PrintWords
open RtS
def getB : ByteArray := ⟨#[71, 69, 84]⟩
def fooB : ByteArray := ⟨#[102, 111, 111]⟩
def movB : ByteArray := ⟨#[77, 79, 86, 69, 68, 32, 49, 50, 49, 56, 50, 32, 50]⟩
def s00 : CS := ⟨0, fun _ => none, [], 0, 0, 0⟩
def s01 : CS := ⟨0, fun _ => none, [getB, fooB], 1, 16, 0⟩
def L00 : LV := ⟨2, 1, 0, 0, ⟨#[]⟩, ⟨#[]⟩, (none, 0, 0), 2, 0, movB, (none, 0, 0), false, 0⟩
def s02 : CS := ⟨0, fun k => if k = 12182 then some 2 else none, [getB, fooB], 2, 15, 1⟩
theorem own00 (args : List ByteArray) (n b : Int) (c : Nat) : ownerV ⟨0, fun _ => none, args, n, b, c⟩ = 0 := by
  unfold ownerV
  split <;> rfl
theorem begin00 : beginV s00 [getB, fooB] = (s01, .send 0 0) := by
  have : ownerV (begun s00 [getB, fooB]) = 0 := own00 _ _ _ _
  unfold beginV
  rw [this]
  rfl
theorem read00 : readV movB.data.toList = (2, 12182, 2, 0, true) := by
  have h : Valid 2 12182 2 0 := ⟨by omega, by omega, by omega, by omega, by omega⟩
  have d1 : Lib.itoa 12182 = [49, 50, 49, 56, 50] := by simp [Lib.itoa, Lib.decDigits]
  have d2 : Lib.itoa 2 = [50] := by simp [Lib.itoa, Lib.decDigits]
  have e : textV 2 12182 2 0 = movB.data.toList := by
    show [77, 79, 86, 69, 68] ++ joinT [Lib.itoa 12182, Lib.itoa 2] = _
    rw [d1, d2]
    rfl
  rw [← e]
  exact readV_text h
theorem take00 : takeV s01 L00 = (s02, .send 2 0) := by
  unfold takeV
  rw [show L00.rt = movB from rfl, read00]
  rfl
theorem fine00 : Fine s01 1000000 := ⟨⟨by decide, by decide⟩, ⟨by decide, by decide⟩, by decide, by decide, fun x hx => by
  simp [s01] at hx
  rcases hx with rfl | rfl <;> decide⟩
set_option maxHeartbeats 4000000 in
set_option maxRecDepth 100000 in
theorem alive_calls (w : World) (hE : Env w) : Calls Tryz.prog 6 #[] w fun e w' => e = .returned (.bool true) ∧ Below w.heap.size w w' := by
  go_enter Tryz.func6, Tryz.ntmps6
  go_wp2_with fail
  refine (New_calls 0 w).mono ?_
  rintro e w1 ⟨rfl, hc1, hb1⟩
  have hc1 : Cl w.heap.size (w.heap.size + 1) s00 w1 := hc1
  have hl1 := hc1.lt
  have hba : Below w1.heap.size w1 (w1.alloc (.cells #[.string getB, .string fooB] 9)) := below_alloc (Below.refl _ _) _
  have hcs : (w1.alloc (.cells #[.string getB, .string fooB] 9)).heap[w1.heap.size]? = some (.cells #[.string getB, .string fooB] 9 (0, 0)) := heap_alloc_new _ _
  have hr : Kd.string.C (w1.alloc (.cells #[.string getB, .string fooB] 9)) (some ⟨w1.heap.size, 0, none⟩) [getB, fooB].length [getB, fooB] :=
    Kd.C_of_reads (d := (⟨#[]⟩ : ByteArray)) ⟨rfl, by decide, fun _ => ⟨_, rfl, fun j hj => by
      rw [Addr.add_mid, Nat.zero_add, cell_of_box hcs]
      have : j = 0 ∨ j = 1 := by simp at hj; omega
      rcases this with rfl | rfl <;> rfl⟩⟩
  have hbw := hb1.trans (hba.mono hb1.size)
  have hB := Begin_calls w.heap.size (w.heap.size + 1) s00 (some ⟨w1.heap.size, 0, none⟩) 2 [getB, fooB] ⟨by decide, by decide⟩ (by decide) (fun x hx => by simp at hx; rcases hx with rfl | rfl <;> decide) _ (hc1.below hba) hr (Nat.le_refl _) w hE hbw (Nat.le_refl _) (Nat.le_succ _)
  rw [begin00] at hB
  have hB' : Calls Tryz.prog 7 #[.pointer (some ⟨w.heap.size + 1, 0, none⟩), .slice (some ⟨w1.heap.size, 0, none⟩) 2 2] (w1.alloc (.cells #[.string ⟨#[71, 69, 84]⟩, .string ⟨#[102, 111, 111]⟩] 9)) (DoPost w.heap.size (w.heap.size + 1) (s01, .send 0 0) (w1.alloc (.cells #[.string getB, .string fooB] 9))) := hB
  replace hbw := Lib.hid hbw
  clear hB hr hcs hba hc1
  go_wp2_with fail
  refine hB'.mono ?_
  rintro e w2 ⟨⟨A', c', rfl, -⟩, hc2, hk2⟩
  have hb2 := Keep2.base hbw.out (Nat.le_refl _) (Nat.le_succ _) hk2
  clear hB' hk2 hbw hl1
  have hl2 := hc2.lt
  have hi1 : (Tryz.prog.info? 39).map (·.size) = some 20 := info32
  generalize hO1 : outC 0 1 s01.num (.slice A' s01.args.length c') 0 true 0 0 ⟨#[]⟩ (.slice none 0 0) false = OUT1
  have hone1 : OUT1.all (·.oneCell') = true := by rw [← hO1]; exact out_one _ _ _ _ _ _ _ _ _ _ _ _ _ _ _
  have hsz1 : OUT1.size = 20 := by rw [← hO1]; rfl
  have hi1 : (Tryz.prog.info? 39).map (·.size) = some OUT1.size := by rw [hsz1]; exact info32
  have hs01 : out0.size = OUT1.size := by rw [hsz1]; rfl
  have hb23 : Below w2.heap.size w2 (w2.alloc (.cells OUT1 39)) := below_alloc (Below.refl _ _) _
  have hx3 : (w2.alloc (.cells OUT1 39)).heap[w2.heap.size]? = some (.cells OUT1 39 (0, 0)) := heap_alloc_new _ _
  have hc3 := hc2.below hb23
  have hb3 := hb2.trans (hb23.mono hb2.size)
  obtain ⟨w3, hw3⟩ : ∃ w3, w3 = w2.alloc (.cells OUT1 39) := ⟨_, rfl⟩
  rw [← hw3] at hx3 hc3 hb3
  have hT := Take_calls w.heap.size (w.heap.size + 1) s01 L00 1000000 fine00 (Nat.le_refl _) (by decide) w3 hc3 w hE hb3 (Nat.le_refl _) (Nat.le_succ _)
  rw [take00] at hT
  have hT' : Calls Tryz.prog 9 #[.pointer (some ⟨w.heap.size + 1, 0, none⟩), .agg #[.int .i64 2, .int .i64 1, .int .i64 0, .int .i64 0, .string ⟨#[]⟩, .string ⟨#[]⟩, .slice none 0 0, .int .i64 2, .int .i64 0, .string ⟨#[77, 79, 86, 69, 68, 32, 49, 50, 49, 56, 50, 32, 50]⟩, .slice none 0 0, .bool false, .int .i64 0]] w3 (DoPost w.heap.size (w.heap.size + 1) (s02, .send 2 0) w3) := hT
  have hlt3 : w2.heap.size < w3.heap.size := (Array.getElem?_eq_some_iff.1 hx3).1
  replace hw3 := Lib.hid hw3
  replace hx3 := Lib.hid hx3
  replace hb3 := Lib.hid hb3
  replace hO1 := Lib.hid hO1
  replace hi1 := Lib.hid hi1
  clear hT hc3 hb23 hb2 hc2
  go_wp2_with ((with_reducible refine store_at (ty := 39) (x := .tmp 2) (y := .tmp 9) ?_); refine ⟨_, OUT1, 39, out0, rfl, rfl, heap_alloc_new _ _, hi1.out, hs01, hone1, ?_⟩; rw [World.setRow_alloc_new, ← hw3.out])
  refine hT'.mono ?_
  rintro e w4 ⟨⟨A5, c5, rfl, -⟩, hc4, hk4⟩
  have hb4 := Keep2.base hb3.out (Nat.le_refl _) (Nat.le_succ _) hk4
  have hx4 := (hk4.block w2.heap.size hlt3 (by omega) (by omega)).trans hx3.out
  clear hT' hk4 hb3 hx3
  generalize hO2 : outC 2 1 s02.num (.slice A5 s02.args.length c5) 0 true 0 0 ⟨#[]⟩ (.slice none 0 0) false = OUT2
  have hone2 : OUT2.all (·.oneCell') = true := by rw [← hO2]; exact out_one _ _ _ _ _ _ _ _ _ _ _ _ _ _ _
  have hsz2 : OUT2.size = 20 := by rw [← hO2]; rfl
  have hi2 : (Tryz.prog.info? 39).map (·.size) = some OUT2.size := by rw [hsz2]; exact info32
  have hs02 : out0.size = OUT2.size := by rw [hsz2]; rfl
  have hb45 : Below w4.heap.size w4 (w4.alloc (.cells OUT2 39)) := below_alloc (Below.refl _ _) _
  have hx5 : (w4.alloc (.cells OUT2 39)).heap[w4.heap.size]? = some (.cells OUT2 39 (0, 0)) := heap_alloc_new _ _
  have hy5 := (hb45.block w2.heap.size (Array.getElem?_eq_some_iff.1 hx4).1).trans hx4
  have hc5 := hc4.below hb45
  have hb5 := hb4.trans (hb45.mono hb4.size)
  obtain ⟨w5, hw5⟩ : ∃ w5, w5 = w4.alloc (.cells OUT2 39) := ⟨_, rfl⟩
  rw [← hw5] at hx5 hy5 hc5 hb5
  have p0 : w5.cell? ⟨w2.heap.size, 0, none⟩ = some (.int .i64 0) := by rw [cell_of_box hy5, ← hO1.out]; rfl
  have p2 : w5.cell? ⟨w2.heap.size, 2, none⟩ = some (.int .i64 1) := by rw [cell_of_box hy5, ← hO1.out]; rfl
  have p14 : w5.cell? ⟨w2.heap.size, 14, none⟩ = some (.bool true) := by rw [cell_of_box hy5, ← hO1.out]; rfl
  have q0 : w5.cell? ⟨w4.heap.size, 0, none⟩ = some (.int .i64 2) := by rw [cell_of_box hx5, ← hO2]; rfl
  have q2 : w5.cell? ⟨w4.heap.size, 2, none⟩ = some (.int .i64 2) := by rw [cell_of_box hx5, ← hO2]; rfl
  have q14 : w5.cell? ⟨w4.heap.size, 14, none⟩ = some (.bool true) := by rw [cell_of_box hx5, ← hO2]; rfl
  have hWh := Where_calls w.heap.size (w.heap.size + 1) s02 12182 ⟨by decide, by decide⟩ w5 hc5
  have hv : whereV s02 12182 = 2 := rfl
  rw [hv] at hWh
  have hBu := Busy_calls w.heap.size (w.heap.size + 1) s02 w5 hc5
  have hbu : decide (0 < s02.args.length) = true := rfl
  rw [hbu] at hBu
  replace hw5 := Lib.hid hw5
  replace hb5 := Lib.hid hb5
  replace hO2 := Lib.hid hO2
  replace hi2 := Lib.hid hi2
  clear hx5 hy5 hc5 hb45 hb4 hc4 hx4 hv hbu
  go_wp2_with ((with_reducible refine store_at (ty := 39) (x := .tmp 3) (y := .tmp 13) ?_); refine ⟨_, OUT2, 39, out0, rfl, rfl, heap_alloc_new _ _, hi2.out, hs02, hone2, ?_⟩; rw [World.setRow_alloc_new, ← hw5.out])
  refine hWh.mono ?_
  rintro e w6 ⟨rfl, rfl⟩
  go_wp2_with fail
  refine hBu.mono ?_
  rintro e w6 ⟨rfl, rfl⟩
  go_wp2_with fail
  go_ret
  exact ⟨rfl, hb5.out⟩
end Go.Proofs.YtpbiohnmmngccaaGreatDoor

namespace Go.Proofs.YtpbiohnmmngccaaGreatDoor
open Go Go.ChangeShapes Go.WideShapes Go.ChangeAt Go.RowKit Go.Deep Go.Proofs.YtpbiohnmmngccaaGreatDoorW.PrintWords
section
variable {H : Type} {enc : TypeId × Value → H} {W : World} {b : Nat} {v : Value} {d : DataW H} {p : List MemPlace}
theorem fields_list {P : Program} {t : TypeId} {fs : Array Field} {cs : List Value} {fuel : Nat} {y : DataW H × List MemPlace} (hs : P.underlying t = some (.struct fs)) (hf : DataW.trod enc P W 0 (fun _ => true) true fuel t cs = some y) :
    ∃ n, ∀ (i : Nat) (e : TypeId) (o k : Nat), (fs[i]?).map (fun f => (f.type, f.offset)) = some (e, o) → P.cellsOf e = k → ∃ z, DataW.trod enc P W 0 (fun _ => true) true n e ((cs.drop o).take k) = some z := by
  obtain ⟨xs, n, _, _, _, hl, hx⟩ := DataW.trod_struct hs hf
  refine ⟨n, fun i e o k hfi hk => ?_⟩
  cases h : fs[i]? with
  | none => rw [h] at hfi; cases hfi
  | some f =>
    rw [h] at hfi
    simp only [Option.map_some, Option.some.injEq, Prod.mk.injEq] at hfi
    obtain ⟨rfl, rfl⟩ := hfi
    have h1 : i < fs.size := (Array.getElem?_eq_some_iff.1 h).1
    subst hk
    exact ⟨_, (hx i f h).trans (List.getElem?_eq_getElem (by omega))⟩
theorem cell_int {n : Nat} {x : Value} {z : DataW H × List MemPlace} (h : DataW.trod enc Tryz.prog W 0 (fun _ => true) true n 3 [x] = some z) : ∃ a, x = .int .i64 a ∧ I64 a := by
  obtain ⟨a, h1, _, h2⟩ := DataW.trod_int Tryz.underlying3 h
  cases h1
  refine ⟨a, rfl, ?_⟩
  simp only [Lit.wf, IntKind.min, IntKind.max, IntKind.signed, IntKind.bits, Bool.and_eq_true, decide_eq_true_eq, if_true] at h2
  unfold I64
  omega
theorem cell_str {n : Nat} {x : Value} {z : DataW H × List MemPlace} (h : DataW.trod enc Tryz.prog W 0 (fun _ => true) true n 9 [x] = some z) : ∃ s, x = .string s := by
  obtain ⟨s, h1, -⟩ := DataW.trod_string Tryz.underlying9 h
  cases h1
  exact ⟨s, rfl⟩
theorem cell_slice {n : Nat} {x : Value} {t e : TypeId} {z : DataW H × List MemPlace} (ht : Tryz.prog.underlying t = some (.slice e)) (h : DataW.trod enc Tryz.prog W 0 (fun _ => true) true n t [x] = some z) : ∃ r : Option Addr × Nat × Nat, x = .slice r.1 r.2.1 r.2.2 := by
  rcases open_slice ht h with ⟨h0, -⟩ | ⟨a, len, cap, m, k, D, Pl, h0, -⟩
  · cases h0
    exact ⟨(none, 0, 0), rfl⟩
  · cases h0
    exact ⟨(some a, len, cap), rfl⟩
theorem open_letter {cs : List Value} {fuel : Nat} {y : DataW H × List MemPlace} (hl : cs.length = 13) (h : DataW.trod enc Tryz.prog W 0 (fun _ => true) true fuel 35 cs = some y) : ∃ L : LV, cs = (lcells L).toList := by
  match cs, hl with
  | [c0, c1, c2, c3, c4, c5, c6, c7, c8, c9, c10, c11, c12], _ =>
    obtain ⟨n, hx⟩ := fields_list Tryz.underlying35 h
    have g0 := hx 0 3 0 1 (by kernel_rfl) (by kernel_rfl)
    have g1 := hx 1 3 1 1 (by kernel_rfl) (by kernel_rfl)
    have g2 := hx 2 3 2 1 (by kernel_rfl) (by kernel_rfl)
    have g3 := hx 3 3 3 1 (by kernel_rfl) (by kernel_rfl)
    have g4 := hx 4 9 4 1 (by kernel_rfl) (by kernel_rfl)
    have g5 := hx 5 9 5 1 (by kernel_rfl) (by kernel_rfl)
    have g6 := hx 6 26 6 1 (by kernel_rfl) (by kernel_rfl)
    have g7 := hx 7 33 7 4 (by kernel_rfl) (by kernel_rfl)
    have g8 := hx 8 4 11 1 (by kernel_rfl) (by kernel_rfl)
    have g9 := hx 9 3 12 1 (by kernel_rfl) (by kernel_rfl)
    obtain ⟨z0, g0⟩ := g0
    obtain ⟨z1, g1⟩ := g1
    obtain ⟨z2, g2⟩ := g2
    obtain ⟨z3, g3⟩ := g3
    obtain ⟨z4, g4⟩ := g4
    obtain ⟨z5, g5⟩ := g5
    obtain ⟨z6, g6⟩ := g6
    obtain ⟨z7, g7⟩ := g7
    obtain ⟨z8, g8⟩ := g8
    obtain ⟨z9, g9⟩ := g9
    obtain ⟨a0, rfl, -⟩ := cell_int g0
    obtain ⟨a1, rfl, -⟩ := cell_int g1
    obtain ⟨a2, rfl, -⟩ := cell_int g2
    obtain ⟨a3, rfl, -⟩ := cell_int g3
    obtain ⟨a4, rfl⟩ := cell_str g4
    obtain ⟨a5, rfl⟩ := cell_str g5
    obtain ⟨a6, rfl⟩ := cell_slice Tryz.underlying26 g6
    obtain ⟨k, hy⟩ := fields_list Tryz.underlying33 g7
    obtain ⟨y0, e0⟩ := hy 0 3 0 1 (by kernel_rfl) (by kernel_rfl)
    obtain ⟨y1, e1⟩ := hy 1 3 1 1 (by kernel_rfl) (by kernel_rfl)
    obtain ⟨y2, e2⟩ := hy 2 9 2 1 (by kernel_rfl) (by kernel_rfl)
    obtain ⟨y3, e3⟩ := hy 3 31 3 1 (by kernel_rfl) (by kernel_rfl)
    obtain ⟨b0, rfl, -⟩ := cell_int e0
    obtain ⟨b1, rfl, -⟩ := cell_int e1
    obtain ⟨b2, rfl⟩ := cell_str e2
    obtain ⟨b3, rfl⟩ := cell_slice Tryz.underlying31 e3
    obtain ⟨a8, h8⟩ : ∃ x, c11 = .bool x := by
      obtain ⟨x, h1, -⟩ := DataW.trod_bool Tryz.underlying4 g8
      cases h1
      exact ⟨x, rfl⟩
    subst h8
    obtain ⟨a9, rfl, -⟩ := cell_int g9
    exact ⟨⟨a0, a1, a2, a3, a4, a5, a6, b0, b1, b2, b3, a8, a9⟩, rfl⟩
/-- a row of letters -/
def Letters (W : World) (A : Option Addr) (l : List LV) : Prop := ∀ (i : Nat) (L : LV), l[i]? = some L → ∃ g o, A = some ⟨g, o, none⟩ ∧ g < W.heap.size ∧ ∀ (k : Nat) (v : Value), (lcells L)[k]? = some v → W.cell? ⟨g, o + i * 13 + k, none⟩ = some v
instance : Inhabited LV := ⟨⟨0, 0, 0, 0, ⟨#[]⟩, ⟨#[]⟩, (none, 0, 0), 0, 0, ⟨#[]⟩, (none, 0, 0), false, 0⟩⟩
end
end Go.Proofs.YtpbiohnmmngccaaGreatDoor

namespace Go.Proofs.YtpbiohnmmngccaaGreatDoor
open Go Go.ChangeShapes Go.WideShapes Go.ChangeAt Go.RowKit Go.Deep Go.Proofs.YtpbiohnmmngccaaGreatDoorW.PrintWords
/-- a step of a script -/
structure OV where
  kind : Int
  args : List ByteArray
  cap : Nat
  at_ : Option Addr
  let_ : LV
def ocells (O : OV) : List Value := [.int .i64 O.kind, .slice O.at_ O.args.length O.cap] ++ (lcells O.let_).toList
def OpOk (W : World) (O : OV) : Prop := Kd.string.C W O.at_ O.args.length O.args ∧ O.args.length ≤ O.cap ∧ ∀ x ∈ O.args, x.size ≤ 9223372036854775807
instance : Inhabited OV := ⟨⟨0, [], 0, none, default⟩⟩
section
variable {H : Type} {enc : TypeId × Value → H} {W : World} {b : Nat} {v : Value} {d : DataW H} {p : List MemPlace}
theorem open_strs3 {fuel : Nat} {y : DataW H × List MemPlace} (hf : DataW.trod enc Tryz.prog W 0 (fun _ => true) true fuel 26 [v] = some y) :
    ∃ A c l, v = .slice A (l : List ByteArray).length c ∧ Kd.string.C W A l.length l ∧ l.length ≤ c ∧ ∀ x ∈ l, x.size ≤ 9223372036854775807 := by
  rcases open_strings Tryz.underlying26 Tryz.underlying9 (by kernel_rfl) hf with ⟨h0, -⟩ | ⟨a, len', cap', ss, hcs, -, hl, hm, hlen, hx, hcell, hsz⟩
  · simp only [List.cons.injEq, and_true] at h0
    subst h0
    exact ⟨none, 0, [], rfl, Kd.C_of_reads (d := (⟨#[]⟩ : ByteArray)) ⟨rfl, Nat.zero_le _, fun h => absurd h (Nat.lt_irrefl 0)⟩, Nat.le_refl _, fun x hx => by simp at hx⟩
  · simp only [List.cons.injEq, and_true] at hcs
    subst hcs
    simp only [if_true] at hlen
    have hmx : cap' ≤ 9223372036854775807 := by unfold maxLen at hm; omega
    have hxl : (ss.take len').length = len' := by simp; omega
    refine ⟨some a, cap', ss.take len', by rw [hxl], Kd.C_of_reads (d := ByteArray.empty) ⟨rfl, by omega, fun _ => ⟨a, rfl, fun j hj => ?_⟩⟩, by omega, fun x hx => ?_⟩
    · rw [hxl] at hj
      have e : (ss.take len').getD j ByteArray.empty = ss.getD j ByteArray.empty := by
        simp [List.getD_eq_getElem?_getD, List.getElem?_take, hj]
      rw [e]
      exact hcell j (by omega)
    · have := hsz x (List.mem_of_mem_take hx)
      unfold maxLen at this
      omega
theorem open_op {cs : List Value} {fuel : Nat} {y : DataW H × List MemPlace} (hl : cs.length = 15) (h : DataW.trod enc Tryz.prog W 0 (fun _ => true) true fuel 37 cs = some y) : ∃ O : OV, cs = ocells O ∧ OpOk W O := by
  match cs, hl with
  | c0 :: c1 :: r, hl =>
    have hr : r.length = 13 := by simpa using hl
    obtain ⟨n, hx⟩ := fields_list Tryz.underlying37 h
    obtain ⟨z0, g0⟩ := hx 0 3 0 1 (by kernel_rfl) (by kernel_rfl)
    obtain ⟨z1, g1⟩ := hx 1 26 1 1 (by kernel_rfl) (by kernel_rfl)
    obtain ⟨z2, g2⟩ := hx 2 35 2 13 (by kernel_rfl) (by kernel_rfl)
    have e2 : ((c0 :: c1 :: r).drop 2).take 13 = r := by
      simp only [List.drop_succ_cons, List.drop_zero]
      exact List.take_of_length_le (by omega)
    rw [e2] at g2
    obtain ⟨a0, rfl, -⟩ := cell_int g0
    obtain ⟨A, c, l, rfl, h1, h2, h3⟩ := open_strs3 g1
    obtain ⟨L, rfl⟩ := open_letter hr g2
    exact ⟨⟨a0, l, c, A, L⟩, rfl, h1, h2, h3⟩
/-- a row of steps -/
def Steps (W : World) (A : Option Addr) (l : List OV) : Prop := ∀ (i : Nat) (O : OV), l[i]? = some O → OpOk W O ∧ ∃ g o, A = some ⟨g, o, none⟩ ∧ g < W.heap.size ∧ ∀ (k : Nat) (v : Value), (ocells O)[k]? = some v → W.cell? ⟨g, o + i * 15 + k, none⟩ = some v
set_option maxRecDepth 100000 in
theorem open_steps (hv : Value.okWide Tryz.prog W .any b 22 v) (h : DataW.Trod enc Tryz.prog W 0 (fun _ => true) true 22 v d p) :
    ∃ A c l, v = .slice A (l : List OV).length c ∧ Steps W A l ∧ l.length ≤ c ∧ c ≤ 9223372036854775807 := by
  obtain ⟨A0, len0, cap0, rfl⟩ := okWide_slice Tryz.underlying22 hv
  obtain ⟨fuel, hf⟩ := h
  have hf' : DataW.trod enc Tryz.prog W 0 (fun _ => true) true fuel 22 [.slice A0 len0 cap0] = some (d, p) := hf
  rcases open_slice Tryz.underlying22 hf' with ⟨h0, -⟩ | ⟨a, len, cap, m, n, D, Pl, hcs, -, hl, hm, hmm, -, hx⟩
  · simp only [List.cons.injEq, Value.slice.injEq, and_true] at h0
    obtain ⟨rfl, rfl, rfl⟩ := h0
    exact ⟨none, 0, [], rfl, fun i L h => by simp at h, Nat.le_refl _, Nat.zero_le _⟩
  · simp only [List.cons.injEq, Value.slice.injEq, and_true] at hcs
    obtain ⟨rfl, rfl, rfl⟩ := hcs
    simp only [if_true] at hmm
    have h15 : Tryz.prog.cellsOf 37 = 15 := by kernel_rfl
    rw [h15] at hx
    obtain ⟨F, hF⟩ := choose_lt (α := OV) (p := fun i O => W.cells? 0 (a.add (i * 15)) 15 = some (ocells O) ∧ OpOk W O) (n := len0) (fun i hi => by
      obtain ⟨cs', h1, h2⟩ := hx i (by omega)
      obtain ⟨_, hlen, _⟩ := World.cells?_some h1
      obtain ⟨O, rfl, hO⟩ := open_op hlen h2
      exact ⟨O, h1, hO⟩)
    have hxl : ((List.range len0).map F).length = len0 := by simp
    refine ⟨some a, cap0, (List.range len0).map F, by rw [hxl], fun i L hL => ?_, by rw [hxl]; exact hl, by unfold maxLen at hm; omega⟩
    obtain ⟨hi, hLx⟩ := List.getElem?_eq_some_iff.1 hL
    rw [hxl] at hi
    simp only [List.getElem_map, List.getElem_range] at hLx
    subst hLx
    refine ⟨(hF i hi).2, ?_⟩
    obtain ⟨_, _, hc⟩ := World.cells?_some (hF i hi).1
    obtain ⟨g, o, sp⟩ := a
    have hsp : sp = none := by
      obtain ⟨_, _, hz⟩ := World.cells?_some (hF 0 (by omega)).1
      have hz0 := hz 0 (by decide)
      have : (Addr.add (Addr.add ⟨g, o, sp⟩ (0 * 15)) 0) = ⟨g, o, sp⟩ := by simp [Addr.add]
      rw [this] at hz0
      exact spot_none (v := .int .i64 (F 0).kind) hz0
    subst hsp
    refine ⟨g, o, rfl, ?_, fun k v hk => ?_⟩
    · have hc0 := hc 0 (by decide)
      rw [Addr.add_mid, Addr.add_mid] at hc0
      exact World.block_lt_of_cell? (u := .int .i64 (F i).kind) W _ hc0
    · have hk15 : k < 15 := (List.getElem?_eq_some_iff.1 hk).1
      have := hc k hk15
      rw [Addr.add_mid, Addr.add_mid, hk] at this
      exact this
end
/-- are there so few steps, and such short ones? -/
def fewB (O : OV) : Bool := decide (O.args.length ≤ 64) && decide (O.let_.rt.size ≤ 10000)
def fewV (l : List OV) : Bool := decide (l.length ≤ 200) && l.all fewB
theorem info40 : (Tryz.prog.info? 37).map (·.size) = some 15 := by kernel_rfl
theorem op_one (O : OV) : (ocells O).toArray.all (·.oneCell') = true := by
  simp [ocells, lcells, Value.oneCell']
def op0 : Array Value := #[.int .i64 0, .slice none 0 0, .int .i64 0, .int .i64 0, .int .i64 0, .int .i64 0, .string ⟨#[]⟩, .string ⟨#[]⟩, .slice none 0 0, .int .i64 0, .int .i64 0, .string ⟨#[]⟩, .slice none 0 0, .bool false, .int .i64 0]
theorem few_not {l : List OV} {i : Nat} {O : OV} (h : l[i]? = some O) (hf : fewB O = false) : fewV l = false := by
  unfold fewV
  have : l.all fewB = false := by
    rw [List.all_eq_false]
    exact ⟨O, List.mem_of_getElem? h, by rw [hf]; decide⟩
  rw [this, Bool.and_false]
set_option maxHeartbeats 4000000 in
set_option maxRecDepth 100000 in
theorem few_calls (A : Option Addr) (c : Nat) (l : List OV) (w : World) (hl : Steps w A l) (hc : l.length ≤ c) (hcm : c ≤ 9223372036854775807) :
    Calls Tryz.prog 5 #[.slice A l.length c] w fun e w' => e = .returned (.bool (fewV l)) ∧ Below w.heap.size w w' := by
  by_cases hn : 200 < l.length
  · have hgo : decide ((200 : Int) < (l.length : Int)) = true := decide_eq_true (by omega)
    have hv : fewV l = false := by unfold fewV; rw [decide_eq_false (by omega)]; rfl
    go_enter Tryz.func5, Tryz.ntmps5
    go_wp2_with fail
    go_ret
    exact ⟨by rw [hv]; rfl, Below.refl _ _⟩
  · have hgo : decide ((200 : Int) < (l.length : Int)) = false := decide_eq_false (by omega)
    go_enter Tryz.func5, Tryz.ntmps5
    go_wp2_with fail
    go_loopw [10] (fun s10 wr => ∃ i : Nat, i ≤ l.length ∧ s10 = .int .i64 i ∧ (∀ j O, j < i → l[j]? = some O → fewB O = true) ∧ Below w.heap.size w wr) (fun s10 _ => l.length - (intOf s10).toNat)
    case atStart => exact ⟨0, by omega, rfl, fun j O hj => by omega, Below.refl _ _⟩
    case round =>
      obtain ⟨i, hi, rfl, hbf, hb⟩ := hrel
      by_cases hil : i < l.length
      · have hgo2 : decide ((i : Int) < (l.length : Int)) = true := decide_eq_true (by omega)
        have hi0 : (0 : Int) ≤ (i : Int) := by omega
        obtain ⟨O, hO⟩ : ∃ O, l[i]? = some O := ⟨l[i], List.getElem?_eq_getElem hil⟩
        obtain ⟨-, b, o, rfl, hbl, hcs⟩ := hl i O hO
        have hblr : b < wr.heap.size := Nat.lt_of_lt_of_le hbl hb.size
        have e0 : wr.cell? ⟨b, o + i * 15, none⟩ = some (.int .i64 O.kind) := (hb.cell (p := ⟨b, o + i * 15, none⟩) hbl).trans (hcs 0 _ rfl)
        have e1 : wr.cell? ⟨b, o + i * 15 + 1, none⟩ = some (.slice O.at_ O.args.length O.cap) := (hb.cell (p := ⟨b, o + i * 15 + 1, none⟩) hbl).trans (hcs 1 _ rfl)
        have e2 : wr.cell? ⟨b, o + i * 15 + 2, none⟩ = some (.int .i64 O.let_.kind) := (hb.cell (p := ⟨b, o + i * 15 + 2, none⟩) hbl).trans (hcs 2 _ rfl)
        have e3 : wr.cell? ⟨b, o + i * 15 + 3, none⟩ = some (.int .i64 O.let_.num) := (hb.cell (p := ⟨b, o + i * 15 + 3, none⟩) hbl).trans (hcs 3 _ rfl)
        have e4 : wr.cell? ⟨b, o + i * 15 + 4, none⟩ = some (.int .i64 O.let_.slot) := (hb.cell (p := ⟨b, o + i * 15 + 4, none⟩) hbl).trans (hcs 4 _ rfl)
        have e5 : wr.cell? ⟨b, o + i * 15 + 5, none⟩ = some (.int .i64 O.let_.ends) := (hb.cell (p := ⟨b, o + i * 15 + 5, none⟩) hbl).trans (hcs 5 _ rfl)
        have e6 : wr.cell? ⟨b, o + i * 15 + 6, none⟩ = some (.string O.let_.key) := (hb.cell (p := ⟨b, o + i * 15 + 6, none⟩) hbl).trans (hcs 6 _ rfl)
        have e7 : wr.cell? ⟨b, o + i * 15 + 7, none⟩ = some (.string O.let_.text) := (hb.cell (p := ⟨b, o + i * 15 + 7, none⟩) hbl).trans (hcs 7 _ rfl)
        have e8 : wr.cell? ⟨b, o + i * 15 + 8, none⟩ = some (.slice O.let_.args.1 O.let_.args.2.1 O.let_.args.2.2) := (hb.cell (p := ⟨b, o + i * 15 + 8, none⟩) hbl).trans (hcs 8 _ rfl)
        have e9 : wr.cell? ⟨b, o + i * 15 + 9, none⟩ = some (.int .i64 O.let_.rk) := (hb.cell (p := ⟨b, o + i * 15 + 9, none⟩) hbl).trans (hcs 9 _ rfl)
        have e10 : wr.cell? ⟨b, o + i * 15 + 10, none⟩ = some (.int .i64 O.let_.ri) := (hb.cell (p := ⟨b, o + i * 15 + 10, none⟩) hbl).trans (hcs 10 _ rfl)
        have e11 : wr.cell? ⟨b, o + i * 15 + 11, none⟩ = some (.string O.let_.rt) := (hb.cell (p := ⟨b, o + i * 15 + 11, none⟩) hbl).trans (hcs 11 _ rfl)
        have e12 : wr.cell? ⟨b, o + i * 15 + 12, none⟩ = some (.slice O.let_.rl.1 O.let_.rl.2.1 O.let_.rl.2.2) := (hb.cell (p := ⟨b, o + i * 15 + 12, none⟩) hbl).trans (hcs 12 _ rfl)
        have e13 : wr.cell? ⟨b, o + i * 15 + 13, none⟩ = some (.bool O.let_.good) := (hb.cell (p := ⟨b, o + i * 15 + 13, none⟩) hbl).trans (hcs 13 _ rfl)
        have e14 : wr.cell? ⟨b, o + i * 15 + 14, none⟩ = some (.int .i64 O.let_.asking) := (hb.cell (p := ⟨b, o + i * 15 + 14, none⟩) hbl).trans (hcs 14 _ rfl)
        clear hcs
        have hb3 : Below wr.heap.size wr (wr.alloc (.cells (ocells O).toArray 37)) := below_alloc (Below.refl _ _) _
        have hx3 : (wr.alloc (.cells (ocells O).toArray 37)).heap[wr.heap.size]? = some (.cells (ocells O).toArray 37 (0, 0)) := heap_alloc_new _ _
        have hbw3 := hb.trans (hb3.mono hb.size)
        obtain ⟨w3, hw3⟩ : ∃ w3, w3 = wr.alloc (.cells (ocells O).toArray 37) := ⟨_, rfl⟩
        rw [← hw3] at hbw3 hx3
        have m1 : w3.cell? ⟨wr.heap.size, 1, none⟩ = some (.slice O.at_ O.args.length O.cap) := by rw [cell_of_box hx3]; rfl
        have m11 : w3.cell? ⟨wr.heap.size, 11, none⟩ = some (.string O.let_.rt) := by rw [cell_of_box hx3]; rfl
        replace hw3 := Lib.hid hw3
        replace hbw3 := Lib.hid hbw3
        replace hbf := Lib.hid hbf
        replace hO := Lib.hid hO
        have hsz : (ocells O).toArray.size = 15 := rfl
        have hone := Lib.hid (op_one O)
        replace hsz := Lib.hid hsz
        clear hb3 hx3 hb
        by_cases h64 : O.args.length ≤ 64
        · have d64 : decide ((64 : Int) < (O.args.length : Int)) = false := decide_eq_false (by omega)
          by_cases h10 : O.let_.rt.size ≤ 10000
          · have d10 : decide ((10000 : Int) < (O.let_.rt.size : Int)) = false := decide_eq_false (by omega)
            have hfo : fewB O = true := by unfold fewB; rw [decide_eq_true h64, decide_eq_true h10]; rfl
            replace hfo := Lib.hid hfo
            go_wp2_with ((with_reducible refine store_at (ty := 37) (x := .tmp 4) (y := .tmp 13) ?_); refine ⟨wr.heap.size, (ocells O).toArray, 37, op0, rfl, rfl, heap_alloc_new _ _, info40, rfl, hone.out, ?_⟩; rw [World.setRow_alloc_new, ← hw3.out])
            refine ⟨⟨i + 1, by omega, by go_num, fun j O' hj hO' => ?_, hbw3.out⟩, by simp [intOf]; omega⟩
            by_cases hji : j < i
            · exact hbf.out j O' hji hO'
            · obtain rfl : j = i := by omega
              rw [hO.out] at hO'
              injection hO' with hO'
              subst hO'
              exact hfo.out
          · have d10 : decide ((10000 : Int) < (O.let_.rt.size : Int)) = true := decide_eq_true (by omega)
            have hv := few_not hO.out (by unfold fewB; rw [decide_eq_false h10]; simp)
            replace hv := Lib.hid hv
            go_wp2_with ((with_reducible refine store_at (ty := 37) (x := .tmp 4) (y := .tmp 13) ?_); refine ⟨wr.heap.size, (ocells O).toArray, 37, op0, rfl, rfl, heap_alloc_new _ _, info40, rfl, hone.out, ?_⟩; rw [World.setRow_alloc_new, ← hw3.out])
            go_ret
            exact ⟨by rw [hv.out]; rfl, hbw3.out⟩
        · have d64 : decide ((64 : Int) < (O.args.length : Int)) = true := decide_eq_true (by omega)
          have hv := few_not hO.out (by unfold fewB; rw [decide_eq_false h64]; rfl)
          replace hv := Lib.hid hv
          go_wp2_with ((with_reducible refine store_at (ty := 37) (x := .tmp 4) (y := .tmp 13) ?_); refine ⟨wr.heap.size, (ocells O).toArray, 37, op0, rfl, rfl, heap_alloc_new _ _, info40, rfl, hone.out, ?_⟩; rw [World.setRow_alloc_new, ← hw3.out])
          go_ret
          exact ⟨by rw [hv.out]; rfl, hbw3.out⟩
      · obtain rfl : i = l.length := by omega
        have hgo2 : decide ((l.length : Int) < (l.length : Int)) = false := decide_eq_false (by omega)
        have hv : fewV l = true := by
          unfold fewV
          rw [decide_eq_true (by omega), Bool.true_and, List.all_eq_true]
          intro O hO
          obtain ⟨j, hj, rfl⟩ := List.getElem_of_mem hO
          exact hbf j _ hj (List.getElem?_eq_getElem hj)
        go_wp2_with fail
        go_ret
        exact ⟨by rw [hv]; rfl, hb⟩
end Go.Proofs.YtpbiohnmmngccaaGreatDoor

namespace Go.Proofs.YtpbiohnmmngccaaGreatDoor
open Go Go.RowKit Go.Maps Go.Proofs.YtpbiohnmmngccaaGreatDoorW.PrintWords
open RtS
theorem begin_ways (s : CS) (args : List ByteArray) : beginV s args = (s, .none) ∨ ∃ d, beginV s args = ({ begun s args with num := s.num + 1 }, .send d 0) := by
  unfold beginV
  split
  · exact Or.inl rfl
  · exact Or.inr ⟨_, rfl⟩
theorem take_ways (s : CS) (L : LV) : takeV s L = (s, .none) ∨ (∃ k i t l, takeV s L = ({ s with args := [] }, .done k i t l)) ∨
    ∃ s' d a, takeV s L = (s', .send d a) ∧ s.bud ≠ 0 ∧ s'.num = s.num + 1 ∧ s'.args = s.args ∧ s'.bud = s.bud - 1 ∧ s'.cnt ≤ s.cnt + 1 ∧ s'.home = s.home := by
  unfold takeV
  split
  · exact Or.inl rfl
  · simp only
    split
    · exact Or.inr (Or.inl ⟨_, _, _, _, rfl⟩)
    · split
      · exact Or.inr (Or.inl ⟨_, _, _, _, rfl⟩)
      · rename_i hb
        split
        · exact Or.inr (Or.inr ⟨_, _, _, rfl, hb, rfl, rfl, rfl, Nat.le_refl _, rfl⟩)
        · split
          · exact Or.inr (Or.inr ⟨_, _, _, rfl, hb, rfl, rfl, rfl, Nat.le_succ _, rfl⟩)
          · exact Or.inr (Or.inr ⟨_, _, _, rfl, hb, rfl, rfl, rfl, Nat.le_succ _, rfl⟩)
theorem Fine.more {s : CS} {q : Nat} (h : Fine s q) : Fine s (q + 1) := ⟨⟨h.num.1, by have := h.num.2; omega⟩, h.bud, by have := h.cnt; omega, h.len, h.big⟩
theorem begin_fine {s : CS} {q : Nat} (h : Fine s q) {args : List ByteArray} (hl : args.length ≤ 1000000) (hb : ∀ x ∈ args, x.size ≤ 9223372036854775807) : Fine (beginV s args).1 (q + 1) := by
  rcases begin_ways s args with e | ⟨d, e⟩
  · rw [e]; exact h.more
  · rw [e]
    have h1 := h.num
    have h2 := h.cnt
    exact ⟨⟨by show 0 ≤ s.num + 1; omega, by show s.num + 1 ≤ _; omega⟩, ⟨by show (0 : Int) ≤ 16; omega, by show (16 : Int) ≤ 16; omega⟩, by show s.cnt ≤ _; omega, hl, hb⟩
theorem take_fine {s : CS} {q : Nat} (h : Fine s q) (L : LV) : Fine (takeV s L).1 (q + 1) := by
  rcases take_ways s L with e | ⟨k, i, t, l, e⟩ | ⟨s', d, a, e, hb, e1, e2, e3, e4, e5⟩
  · rw [e]; exact h.more
  · rw [e]
    have h1 := h.more
    exact ⟨h1.num, h1.bud, h1.cnt, Nat.zero_le _, fun x hx => by simp at hx⟩
  · rw [e]
    have h1 := h.num
    have h2 := h.cnt
    have h3 := h.bud
    exact ⟨⟨by show 0 ≤ s'.num; omega, by show s'.num ≤ _; omega⟩, ⟨by show 0 ≤ s'.bud; omega, by show s'.bud ≤ 16; omega⟩, by show s'.cnt ≤ _; omega, by show s'.args.length ≤ _; rw [e2]; exact h.len, by show ∀ x ∈ s'.args, _; rw [e2]; exact h.big⟩
end Go.Proofs.YtpbiohnmmngccaaGreatDoor

namespace Go.Proofs.YtpbiohnmmngccaaGreatDoor
open Go Go.RowKit Go.Maps Go.Proofs.YtpbiohnmmngccaaGreatDoorW.PrintWords
open RtS
def Next.sends : Next → Bool
  | .send _ _ => true
  | _ => false
def Next.dones : Next → Bool
  | .done _ _ _ _ => true
  | _ => false
def opV (s : CS) (O : OV) : CS × Next := if O.kind = 0 then beginV s O.args else takeV s O.let_
/-- the end's list is a row -/
def Rowed (x : Next) : Prop := ∀ k i t l, x = .done k i t l → ∃ B n d, l = .slice B n d
theorem rowed_none : Rowed .none := fun _ _ _ _ h => by cases h
theorem rowed_send (d a : Int) : Rowed (.send d a) := fun _ _ _ _ h => by cases h
theorem begin_rowed (s : CS) (args : List ByteArray) : Rowed (beginV s args).2 := by
  rcases begin_ways s args with e | ⟨d, e⟩ <;> rw [e]
  · exact rowed_none
  · exact rowed_send _ _
theorem take_rowed (s : CS) (L : LV) : Rowed (takeV s L).2 := by
  unfold takeV
  split
  · exact rowed_none
  · simp only
    split
    · intro k i t l h
      injection h with _ _ _ h
      exact ⟨_, _, _, h.symm⟩
    · split
      · intro k i t l h
        injection h with _ _ _ h
        exact ⟨none, 0, 0, h.symm⟩
      · split
        · exact rowed_send _ _
        · split <;> exact rowed_send _ _
theorem OutOk.row {s : CS} {x : Next} {e : Ending} {w' : World} (h : OutOk s x e w') (hr : Rowed x) : ∃ OUT : Array Value, e = .returned (.agg OUT) ∧ OUT.size = 20 ∧ OUT.all (·.oneCell') = true ∧
    OUT[14]? = some (.bool x.sends) ∧ OUT[19]? = some (.bool x.dones) ∧ (x.sends = true → OUT[2]? = some (.int .i64 s.num)) ∧ ∃ n, OUT[2]? = some (.int .i64 n) := by
  cases x with
  | none => exact ⟨_, h, rfl, out_one _ _ _ _ _ _ _ _ _ _ _ _ _ _ _, rfl, rfl, (fun h => by cases h), _, rfl⟩
  | send d a =>
    obtain ⟨A', c', h, -⟩ := h
    exact ⟨_, h, rfl, out_one _ _ _ _ _ _ _ _ _ _ _ _ _ _ _, rfl, rfl, fun _ => rfl, _, rfl⟩
  | done k i t l =>
    obtain ⟨B, n, d, rfl⟩ := hr k i t l rfl
    exact ⟨_, h, rfl, out_one _ _ _ _ _ _ _ _ _ _ _ _ _ _ _, rfl, rfl, (fun h => by cases h), _, rfl⟩
theorem begin_num (s : CS) (args : List ByteArray) : (beginV s args).1.num = if (beginV s args).2.sends = true then s.num + 1 else s.num := by
  rcases begin_ways s args with e | ⟨d, e⟩ <;> rw [e]
  · rfl
  · rfl
theorem take_num (s : CS) (L : LV) : (takeV s L).1.num = if (takeV s L).2.sends = true then s.num + 1 else s.num := by
  rcases take_ways s L with e | ⟨k, i, t, l, e⟩ | ⟨s', d, a, e, hb, e1, e2, e3, e4, e5⟩ <;> rw [e]
  · rfl
  · rfl
  · exact e1
theorem op_num (s : CS) (O : OV) : (opV s O).1.num = if (opV s O).2.sends = true then s.num + 1 else s.num := by
  unfold opV
  split
  · exact begin_num s O.args
  · exact take_num s O.let_
theorem few_open {l : List OV} (h : fewV l = true) : l.length ≤ 200 ∧ ∀ O ∈ l, O.args.length ≤ 64 ∧ O.let_.rt.size ≤ 10000 := by
  unfold fewV at h
  rw [Bool.and_eq_true, decide_eq_true_eq, List.all_eq_true] at h
  refine ⟨h.1, fun O hO => ?_⟩
  have := h.2 O hO
  unfold fewB at this
  rwa [Bool.and_eq_true, decide_eq_true_eq, decide_eq_true_eq] at this
theorem Steps.below {w w' : World} {A : Option Addr} {l : List OV} (h : Steps w A l) (hb : Below w.heap.size w w') : Steps w' A l := fun i O hO => by
  obtain ⟨⟨h1, h2, h3⟩, g, o, hA, hg, hc⟩ := h i O hO
  exact ⟨⟨Kd.C_below h1 hb, h2, h3⟩, g, o, hA, Nat.lt_of_lt_of_le hg hb.size, fun k v hk => (hb.cell (p := ⟨g, o + i * 15 + k, none⟩) hg).trans (hc k v hk)⟩
end Go.Proofs.YtpbiohnmmngccaaGreatDoor

namespace Go.Proofs.YtpbiohnmmngccaaGreatDoor
open Go Go.RowKit Go.Maps Go.Proofs.YtpbiohnmmngccaaGreatDoorW.PrintWords
open RtS
/-- an answer is put into its own box -/
theorem put_out {m g : Nat} {w w3 w5 : World} {x : CS × Next} {e : Ending} (hb3 : Below w.heap.size w w3) (hm : w.heap.size ≤ m) (hg : w.heap.size ≤ g) (hm3 : m < w3.heap.size) (hg3 : g < w3.heap.size) (hr : Rowed x.2)
    (h : DoPost m g x (w3.alloc (.cells out0 39)) e w5) :
    ∃ (OUT : Array Value) (n : Int), e = .returned (.agg OUT) ∧ w5.heap[w3.heap.size]? = some (.cells out0 39 (0, 0)) ∧ OUT.size = 20 ∧ OUT.all (·.oneCell') = true ∧ (x.2.sends = true → n = x.1.num) ∧
      Cl m g x.1 (w5.setRow w3.heap.size OUT) ∧ Below w.heap.size w (w5.setRow w3.heap.size OUT) ∧
      (w5.setRow w3.heap.size OUT).cell? ⟨w3.heap.size, 14, none⟩ = some (.bool x.2.sends) ∧ (w5.setRow w3.heap.size OUT).cell? ⟨w3.heap.size, 19, none⟩ = some (.bool x.2.dones) ∧ (w5.setRow w3.heap.size OUT).cell? ⟨w3.heap.size, 2, none⟩ = some (.int .i64 n) ∧ w3.heap.size < w5.heap.size := by
  obtain ⟨h1, h2, h3⟩ := h
  obtain ⟨OUT, he, hsz, hone, h14, h19, hs, n, hn⟩ := h1.row hr
  have hB : (w3.alloc (.cells out0 39)).heap[w3.heap.size]? = some (.cells out0 39 (0, 0)) := heap_alloc_new _ _
  have hlt : w3.heap.size < (w3.alloc (.cells out0 39)).heap.size := (Array.getElem?_eq_some_iff.1 hB).1
  have hB5 : w5.heap[w3.heap.size]? = some (.cells out0 39 (0, 0)) := (h3.block _ hlt (by omega) (by omega)).trans hB
  have hb4 : Below w.heap.size w (w3.alloc (.cells out0 39)) := hb3.trans ((below_alloc (Below.refl _ _) _ : Below w3.heap.size w3 _).mono hb3.size)
  have hb5 := Keep2.base hb4 hm hg h3
  have hB6 : (w5.setRow w3.heap.size OUT).heap[w3.heap.size]? = some (.cells OUT 39 (0, 0)) := setRow_heap _ _ _ _ _ _ hB5
  refine ⟨OUT, n, he, hB5, hsz, hone, fun h => ?_, h2.row hB5 (by decide) (by omega) (by omega), below_setRow hb5 hb3.size _, ?_, ?_, ?_, (Array.getElem?_eq_some_iff.1 hB5).1⟩
  · have := hs h
    rw [hn] at this
    injection this with this
    injection this
  · rw [cell_of_box hB6]; exact h14
  · rw [cell_of_box hB6]; exact h19
  · rw [cell_of_box hB6]; exact hn
/-- a step's box, behind another new block -/
theorem op_box (wr : World) (O : OV) (ob : Obj) (k : Nat) (v : Value) (h : (ocells O)[k]? = some v) : ((wr.alloc (.cells (ocells O).toArray 37)).alloc ob).cell? ⟨wr.heap.size, k, none⟩ = some v := by
  have h1 : (wr.alloc (.cells (ocells O).toArray 37)).heap[wr.heap.size]? = some (.cells (ocells O).toArray 37 (0, 0)) := heap_alloc_new _ _
  have h2 : ((wr.alloc (.cells (ocells O).toArray 37)).alloc ob).heap[wr.heap.size]? = some (.cells (ocells O).toArray 37 (0, 0)) :=
    ((below_alloc (Below.refl _ _) ob).block _ (Array.getElem?_eq_some_iff.1 h1).1).trans h1
  rw [cell_of_box h2]
  simpa using h
theorem op_rowed (s : CS) (O : OV) : Rowed (opV s O).2 := by
  unfold opV
  split
  · exact begin_rowed s O.args
  · exact take_rowed s O.let_
theorem op_fine {s : CS} {q : Nat} (h : Fine s q) {O : OV} (hl : O.args.length ≤ 64) (hb : ∀ x ∈ O.args, x.size ≤ 9223372036854775807) : Fine (opV s O).1 (q + 1) := by
  unfold opV
  split
  · exact begin_fine h (by omega) hb
  · exact take_fine h O.let_
/-- an answer is put into a box that stood ahead of the call -/
theorem put_row {m g B : Nat} {w w3 w5 : World} {x : CS × Next} {OUT : Array Value} (hb3 : Below w.heap.size w w3) (hm : w.heap.size ≤ m) (hg : w.heap.size ≤ g) (hB : w3.heap[B]? = some (.cells out0 39 (0, 0))) (hwB : w.heap.size ≤ B) (hmB : m ≠ B) (hgB : g ≠ B)
    (h2 : Cl m g x.1 w5) (h3 : Keep2 m g w3 w5) :
    w5.heap[B]? = some (.cells out0 39 (0, 0)) ∧ (w5.setRow B OUT).heap[B]? = some (.cells OUT 39 (0, 0)) ∧ Cl m g x.1 (w5.setRow B OUT) ∧ Below w.heap.size w (w5.setRow B OUT) := by
  have hlt : B < w3.heap.size := (Array.getElem?_eq_some_iff.1 hB).1
  have hB5 := (h3.block _ hlt (Ne.symm hmB) (Ne.symm hgB)).trans hB
  exact ⟨hB5, setRow_heap _ _ _ _ _ _ hB5, h2.row hB5 (by decide) hmB hgB, below_setRow (Keep2.base hb3 hm hg h3) hwB _⟩
/-- an answer is put into a box that was made behind the call -/
theorem put_late {m g : Nat} {w w3 w5 : World} {x : CS × Next} {OUT : Array Value} (hb3 : Below w.heap.size w w3) (hm : w.heap.size ≤ m) (hg : w.heap.size ≤ g)
    (h2 : Cl m g x.1 w5) (h3 : Keep2 m g w3 w5) :
    ((w5.alloc (.cells out0 39)).setRow w5.heap.size OUT).heap[w5.heap.size]? = some (.cells OUT 39 (0, 0)) ∧ Cl m g x.1 ((w5.alloc (.cells out0 39)).setRow w5.heap.size OUT) ∧ Below w.heap.size w ((w5.alloc (.cells out0 39)).setRow w5.heap.size OUT) := by
  have hB : (w5.alloc (.cells out0 39)).heap[w5.heap.size]? = some (.cells out0 39 (0, 0)) := heap_alloc_new _ _
  have hb5 := Keep2.base hb3 hm hg h3
  have hba : Below w5.heap.size w5 (w5.alloc (.cells out0 39)) := below_alloc (Below.refl _ _) _
  have h4 := h2.lt
  exact ⟨setRow_heap _ _ _ _ _ _ hB, (h2.below hba).row hB (by decide) (by omega) (by omega), below_setRow (hb5.trans (hba.mono hb5.size)) hb5.size _⟩
section
variable {P : Program} {ops : Array Oper} {Q : Exit → Act → World → Prop} {md : Region.Mode} {S : World → Prop} {t : Nat}
/-- two operations are ready -/
theorem wpAnyT_two {i j : Nat} {oi oj : Oper} {fuel : Nat} {listed : Array Bool} {a : Act} {w : World} (hr : Region.ready md ops listed = [i, j]) (hoi : ops[i]? = some oi) (hoj : ops[j]? = some oj)
    (h1 : ∀ K' : Act → World → Prop, Shut (∀ a w, (i ≠ t → S w) → wpAnyT P md ops Q S t fuel (listed.setIfInBounds i true) a w → K' a w) → if Region.wanted oi (yielded ops a.tmps) = true then Oper.wp P oi a w K' Q else K' (a.put oi.dst undef) w)
    (h2 : ∀ K' : Act → World → Prop, Shut (∀ a w, (j ≠ t → S w) → wpAnyT P md ops Q S t fuel (listed.setIfInBounds j true) a w → K' a w) → if Region.wanted oj (yielded ops a.tmps) = true then Oper.wp P oj a w K' Q else K' (a.put oj.dst undef) w) :
    wpAnyT P md ops Q S t (fuel + 1) listed a w := by
  refine ⟨fun h0 => (by rw [h0] at hr; cases hr), ?_⟩
  rw [hr]
  intro k hk
  have hk' : k = i ∨ k = j := by simpa using hk
  rcases hk' with rfl | rfl
  · exact wpOp_step hoi (fun K' hK => h1 K' (fun a w hS hW => hK a w ⟨hS, hW⟩))
  · exact wpOp_step hoj (fun K' hK => h2 K' (fun a w hS hW => hK a w ⟨hS, hW⟩))
end
end Go.Proofs.YtpbiohnmmngccaaGreatDoor

namespace Go.Proofs.YtpbiohnmmngccaaGreatDoor
open Go Go.ChangeShapes Go.WideShapes Go.ChangeAt Go.RowKit Go.Deep Go.Proofs.YtpbiohnmmngccaaGreatDoorW.PrintWords
structure RV where
  rk : Int
  ri : Int
  rt : ByteArray
  rl : Option Addr × Nat × Nat
instance : Inhabited RV := ⟨⟨0, 0, ⟨#[]⟩, (none, 0, 0)⟩⟩
def rcells (R : RV) : List Value := [.int .i64 R.rk, .int .i64 R.ri, .string R.rt, .slice R.rl.1 R.rl.2.1 R.rl.2.2]
/-- the i-th reply of a row -/
def RepAt (W : World) (A : Option Addr) (i : Nat) (R : RV) : Prop := ∃ g o, A = some ⟨g, o, none⟩ ∧ g < W.heap.size ∧ ∀ (k : Nat) (v : Value), (rcells R)[k]? = some v → W.cell? ⟨g, o + i * 4 + k, none⟩ = some v
/-- a row of replies that is so deep -/
def RepsOk (W : World) : Nat → (Option Addr × Nat × Nat) → Prop
  | 0, rl => rl.2.1 = 0
  | n + 1, rl => rl.2.1 ≤ rl.2.2 ∧ rl.2.1 ≤ 9223372036854775807 ∧ ∀ i, i < rl.2.1 → ∃ R : RV, RepAt W rl.1 i R ∧ RepsOk W n R.rl
theorem RepAt.below {W W' : World} {A : Option Addr} {i : Nat} {R : RV} (h : RepAt W A i R) (hb : Below W.heap.size W W') : RepAt W' A i R := by
  obtain ⟨g, o, hA, hg, hc⟩ := h
  exact ⟨g, o, hA, Nat.lt_of_lt_of_le hg hb.size, fun k v hk => (hb.cell (p := ⟨g, o + i * 4 + k, none⟩) hg).trans (hc k v hk)⟩
theorem RepsOk.below {W W' : World} (hb : Below W.heap.size W W') : ∀ (n : Nat) (rl : Option Addr × Nat × Nat), RepsOk W n rl → RepsOk W' n rl
  | 0, _, h => h
  | n + 1, _, ⟨h0, h1, h2⟩ => ⟨h0, h1, fun i hi => by
      obtain ⟨R, h3, h4⟩ := h2 i hi
      exact ⟨R, h3.below hb, RepsOk.below hb n _ h4⟩⟩
theorem RepsOk.more {W : World} : ∀ (n : Nat) (rl : Option Addr × Nat × Nat), RepsOk W n rl → RepsOk W (n + 1) rl
  | 0, rl, h => by
      have h : rl.2.1 = 0 := h
      exact ⟨by omega, by omega, fun i hi => by omega⟩
  | n + 1, _, ⟨h0, h1, h2⟩ => ⟨h0, h1, fun i hi => by
      obtain ⟨R, h3, h4⟩ := h2 i hi
      exact ⟨R, h3, RepsOk.more n _ h4⟩⟩
theorem reps_nil (W : World) (n : Nat) : RepsOk W n (none, 0, 0) := by
  cases n with
  | zero => rfl
  | succ n => exact ⟨Nat.le_refl _, Nat.zero_le _, fun i hi => absurd hi (Nat.not_lt_zero _)⟩
section
variable {H : Type} {enc : TypeId × Value → H} {W : World}
theorem fields_list1 {P : Program} {t : TypeId} {fs : Array Field} {cs : List Value} {fuel : Nat} {y : DataW H × List MemPlace} (hs : P.underlying t = some (.struct fs)) (hf : DataW.trod enc P W 0 (fun _ => true) true fuel t cs = some y) :
    ∃ n, fuel = n + 1 ∧ ∀ (i : Nat) (e : TypeId) (o k : Nat), (fs[i]?).map (fun f => (f.type, f.offset)) = some (e, o) → P.cellsOf e = k → ∃ z, DataW.trod enc P W 0 (fun _ => true) true n e ((cs.drop o).take k) = some z := by
  obtain ⟨xs, n, hn, _, _, hl, hx⟩ := DataW.trod_struct hs hf
  refine ⟨n, hn, fun i e o k hfi hk => ?_⟩
  cases h : fs[i]? with
  | none => rw [h] at hfi; cases hfi
  | some f =>
    rw [h] at hfi
    simp only [Option.map_some, Option.some.injEq, Prod.mk.injEq] at hfi
    obtain ⟨rfl, rfl⟩ := hfi
    have h1 : i < fs.size := (Array.getElem?_eq_some_iff.1 h).1
    subst hk
    exact ⟨_, (hx i f h).trans (List.getElem?_eq_getElem (by omega))⟩
set_option maxRecDepth 100000 in
theorem rep_fields {n : Nat} {cs : List Value} {x : DataW H × List MemPlace} (hl : cs.length = 4) (h : DataW.trod enc Tryz.prog W 0 (fun _ => true) true n 33 cs = some x) :
    ∃ (k i : Int) (t : ByteArray) (c3 : Value) (m : Nat) (z : DataW H × List MemPlace), cs = [.int .i64 k, .int .i64 i, .string t, c3] ∧ n = m + 1 ∧ DataW.trod enc Tryz.prog W 0 (fun _ => true) true m 31 [c3] = some z := by
  match cs, hl with
  | [c0, c1, c2, c3], _ =>
    obtain ⟨m, hn, hx⟩ := fields_list1 Tryz.underlying33 h
    obtain ⟨z0, g0⟩ := hx 0 3 0 1 (by kernel_rfl) (by kernel_rfl)
    obtain ⟨z1, g1⟩ := hx 1 3 1 1 (by kernel_rfl) (by kernel_rfl)
    obtain ⟨z2, g2⟩ := hx 2 9 2 1 (by kernel_rfl) (by kernel_rfl)
    obtain ⟨z3, g3⟩ := hx 3 31 3 1 (by kernel_rfl) (by kernel_rfl)
    obtain ⟨a0, rfl, -⟩ := cell_int g0
    obtain ⟨a1, rfl, -⟩ := cell_int g1
    obtain ⟨t, rfl⟩ := cell_str g2
    exact ⟨a0, a1, t, c3, m, z3, rfl, hn, g3⟩
theorem cells_reply : Tryz.prog.cellsOf 33 = 4 := by kernel_rfl
theorem open_reps (fuel : Nat) : ∀ (v : Value) (x : DataW H × List MemPlace), DataW.trod enc Tryz.prog W 0 (fun _ => true) true fuel 31 [v] = some x → ∃ rl : Option Addr × Nat × Nat, v = .slice rl.1 rl.2.1 rl.2.2 ∧ RepsOk W fuel rl ∧ rl.2.1 ≤ rl.2.2 ∧ rl.2.2 ≤ 9223372036854775807 := by
  induction fuel using Nat.strongRecOn with
  | _ fuel ih =>
    intro v x h
    rcases DataW.trod_slice Tryz.underlying31 h with ⟨h0, -⟩ | ⟨a, len, cap, elems, rest, n, hn, hcs, -, -, hl, hm, hel, hx, -⟩
    · simp only [List.cons.injEq, and_true] at h0
      subst h0
      exact ⟨(none, 0, 0), rfl, reps_nil W _, Nat.le_refl _, Nat.zero_le _⟩
    · subst hn
      simp only [List.cons.injEq, and_true] at hcs
      subst hcs
      unfold maxLen at hm
      rw [cells_reply] at hx
      have each : ∀ i, i < len → ∃ R : RV, W.cells? 0 (a.add (i * 4)) 4 = some (rcells R) ∧ RepsOk W n R.rl := fun i hi => by
        have h1 := hx i hi
        rw [List.getElem?_eq_getElem (by omega)] at h1
        obtain ⟨cs', h2, h3⟩ := Option.bind_eq_some_iff.1 h1
        obtain ⟨_, hlen, _⟩ := World.cells?_some h2
        obtain ⟨k, j, t, c3, m, z, rfl, hmn, hz⟩ := rep_fields hlen h3
        subst hmn
        obtain ⟨rl, rfl, hrl, -⟩ := ih m (by omega) c3 z hz
        exact ⟨⟨k, j, t, rl⟩, h2, RepsOk.more _ _ hrl⟩
      refine ⟨(some a, len, cap), rfl, ⟨hl, by show len ≤ _; omega, fun i hi => ?_⟩, hl, by show cap ≤ _; omega⟩
      have hi : i < len := hi
      obtain ⟨R, hR, hrl⟩ := each i hi
      refine ⟨R, ?_, hrl⟩
      obtain ⟨_, _, hc⟩ := World.cells?_some hR
      obtain ⟨g, o, sp⟩ := a
      have hsp : sp = none := by
        obtain ⟨R0, hR0, -⟩ := each 0 (by omega)
        obtain ⟨_, _, hz⟩ := World.cells?_some hR0
        have hz0 := hz 0 (by decide)
        have : (Addr.add (Addr.add ⟨g, o, sp⟩ (0 * 4)) 0) = ⟨g, o, sp⟩ := by simp [Addr.add]
        rw [this] at hz0
        exact spot_none (v := .int .i64 R0.rk) hz0
      subst hsp
      refine ⟨g, o, rfl, ?_, fun k v hk => ?_⟩
      · have hc0 := hc 0 (by decide)
        rw [Addr.add_mid, Addr.add_mid] at hc0
        exact World.block_lt_of_cell? (u := .int .i64 R.rk) W _ hc0
      · have hk4 : k < 4 := (List.getElem?_eq_some_iff.1 hk).1
        have := hc k hk4
        rw [Addr.add_mid, Addr.add_mid, hk] at this
        exact this
end
theorem str_ne {t t' : ByteArray} (h : t ≠ t') : (t.toList != t'.toList) = true := by
  rw [bne_iff_ne]
  intro h1
  apply h
  obtain ⟨⟨a⟩⟩ := t
  obtain ⟨⟨b⟩⟩ := t'
  have h2 := name_eq a b
  have h3 : ((⟨a.toArray⟩ : ByteArray).toList == (⟨b.toArray⟩ : ByteArray).toList) = true := by rw [beq_iff_eq]; exact h1
  rw [h3] at h2
  rw [of_decide_eq_true h2.symm]
set_option maxHeartbeats 4000000 in
set_option maxRecDepth 100000 in
/-- a reply is the same as itself -/
theorem Same_refl : ∀ (n : Nat) (k j : Int) (t : ByteArray) (A : Option Addr) (len cap : Nat) (w : World), RepsOk w n (A, len, cap) →
    Calls Tryz.prog 25 #[.agg #[.int .i64 k, .int .i64 j, .string t, .slice A len cap], .agg #[.int .i64 k, .int .i64 j, .string t, .slice A len cap]] w fun e w' => e = .returned (.bool true) ∧ Below w.heap.size w w' := by
  intro n
  induction n with
  | zero =>
    intro k j t A len cap w h
    have h : len = 0 := h
    subst h
    go_enter Tryz.func25, Tryz.ntmps25
    go_wp2_with fail
    go_loopw [5] (fun s5 wr => s5 = .int .i64 0 ∧ Below w.heap.size w wr ∧ wr.cell? ⟨w.heap.size, 3, none⟩ = some (.slice A 0 cap)) (fun _ _ => 0)
    case atStart =>
      refine ⟨rfl, below_alloc (below_alloc (Below.refl _ _) _) _, ?_⟩
      rw [cell_of_box (heap0 _ _ _)]
      rfl
    case round =>
      obtain ⟨rfl, hb, hc3⟩ := hrel
      go_wp2_with fail
      go_ret
      exact ⟨rfl, hb⟩
  | succ n ih =>
    intro k j t A len cap w h
    obtain ⟨hlc, hlm, hel⟩ := h
    have hlc : len ≤ cap := hlc
    have hlm : len ≤ 9223372036854775807 := hlm
    have hel : ∀ i, i < len → ∃ R : RV, RepAt w A i R ∧ RepsOk w n R.rl := hel
    have hb2 : Below w.heap.size w ((w.alloc (.cells #[.int .i64 k, .int .i64 j, .string t, .slice A len cap] 33)).alloc (.cells #[.int .i64 k, .int .i64 j, .string t, .slice A len cap] 33)) := below_alloc (below_alloc (Below.refl _ _) _) _
    have hx0 := heap0 w (.cells #[.int .i64 k, .int .i64 j, .string t, .slice A len cap] 33) (.cells #[.int .i64 k, .int .i64 j, .string t, .slice A len cap] 33)
    have hx1 := heap1 w (.cells #[.int .i64 k, .int .i64 j, .string t, .slice A len cap] 33) (.cells #[.int .i64 k, .int .i64 j, .string t, .slice A len cap] 33)
    obtain ⟨w2, hw2⟩ : ∃ w2, w2 = (w.alloc (.cells #[.int .i64 k, .int .i64 j, .string t, .slice A len cap] 33)).alloc (.cells #[.int .i64 k, .int .i64 j, .string t, .slice A len cap] 33) := ⟨_, rfl⟩
    rw [← hw2] at hb2 hx0 hx1
    have hlt0 : w.heap.size < w2.heap.size := (Array.getElem?_eq_some_iff.1 hx0).1
    have hlt1 : w.heap.size + 1 < w2.heap.size := (Array.getElem?_eq_some_iff.1 hx1).1
    have c00 : w2.cell? ⟨w.heap.size, 0, none⟩ = some (.int .i64 k) := by rw [cell_of_box hx0]; rfl
    have c01 : w2.cell? ⟨w.heap.size, 1, none⟩ = some (.int .i64 j) := by rw [cell_of_box hx0]; rfl
    have c02 : w2.cell? ⟨w.heap.size, 2, none⟩ = some (.string t) := by rw [cell_of_box hx0]; rfl
    have c03 : w2.cell? ⟨w.heap.size, 3, none⟩ = some (.slice A len cap) := by rw [cell_of_box hx0]; rfl
    have c10 : w2.cell? ⟨w.heap.size + 1, 0, none⟩ = some (.int .i64 k) := by rw [cell_of_box hx1]; rfl
    have c11 : w2.cell? ⟨w.heap.size + 1, 1, none⟩ = some (.int .i64 j) := by rw [cell_of_box hx1]; rfl
    have c12 : w2.cell? ⟨w.heap.size + 1, 2, none⟩ = some (.string t) := by rw [cell_of_box hx1]; rfl
    have c13 : w2.cell? ⟨w.heap.size + 1, 3, none⟩ = some (.slice A len cap) := by rw [cell_of_box hx1]; rfl
    have hkk : (k != k) = false := by simp
    have hjj : (j != j) = false := by simp
    have htt : (t.toList != t.toList) = false := by simp
    replace hw2 := Lib.hid hw2
    replace hb2 := Lib.hid hb2
    clear hx0 hx1
    go_enter Tryz.func25, Tryz.ntmps25
    go_wp2_with fail
    rw [← hw2.out]
    go_wp2_with fail
    have c03' := c03
    have c13' := c13
    replace c03' := Lib.hid c03'
    replace c13' := Lib.hid c13'
    clear c00 c01 c02 c03 c10 c11 c12 c13
    go_loopw [5] (fun s5 wr => ∃ i : Nat, i ≤ len ∧ s5 = .int .i64 i ∧ Below w2.heap.size w2 wr) (fun s5 _ => len - (intOf s5).toNat)
    case atStart => exact ⟨0, by omega, rfl, Below.refl _ _⟩
    case round =>
      obtain ⟨i, hi, rfl, hb⟩ := hrel
      have d03 := (hb.cell (p := ⟨w.heap.size, 3, none⟩) hlt0).trans c03'.out
      by_cases hil : i < len
      · have hgo : decide ((i : Int) < (len : Int)) = true := decide_eq_true (by omega)
        have hi0 : (0 : Int) ≤ (i : Int) := by omega
        obtain ⟨R, ⟨g, o, rfl, hg, hcs⟩, hR⟩ := hel i hil
        have hg2 : g < w2.heap.size := Nat.lt_of_lt_of_le hg hb2.out.size
        have e0 : w2.cell? ⟨g, o + i * 4, none⟩ = some (.int .i64 R.rk) := (hb2.out.cell (p := ⟨g, o + i * 4, none⟩) hg).trans (hcs 0 _ rfl)
        have e1 : w2.cell? ⟨g, o + i * 4 + 1, none⟩ = some (.int .i64 R.ri) := (hb2.out.cell (p := ⟨g, o + i * 4 + 1, none⟩) hg).trans (hcs 1 _ rfl)
        have e2 : w2.cell? ⟨g, o + i * 4 + 2, none⟩ = some (.string R.rt) := (hb2.out.cell (p := ⟨g, o + i * 4 + 2, none⟩) hg).trans (hcs 2 _ rfl)
        have e3 : w2.cell? ⟨g, o + i * 4 + 3, none⟩ = some (.slice R.rl.1 R.rl.2.1 R.rl.2.2) := (hb2.out.cell (p := ⟨g, o + i * 4 + 3, none⟩) hg).trans (hcs 3 _ rfl)
        replace e0 := Lib.hid e0
        replace e1 := Lib.hid e1
        replace e2 := Lib.hid e2
        replace e3 := Lib.hid e3
        clear hcs hel
        go_wp2_with fail
        clear d03
        have hil' : decide ((i : Int) < (len : Int)) = true := hgo
        refine wp_region_held_drew (S := fun W9 => Below w2.heap.size w2 W9) (by kernel_rfl) (hb.trans (Below.mono ⟨rfl, rfl, rfl, Nat.le_refl _, fun _ _ => rfl⟩ hb.size)) (fun hHeld => ?_)
        refine wpAnyH_take (i := 0) (oi := ⟨some 41, _, _, _, _, _⟩) (v := .pointer (some ⟨w.heap.size, 3, none⟩)) rfl (by kernel_rfl) (by kernel_rfl) (by kernel_rfl) (fun _ _ _ h => h) (Or.inl ⟨by rfl, fun W9 hW => by go_simp⟩) (by assumption) ?_
        try simp only [Act.put, List.setIfInBounds_toArray, List.set_cons_zero, List.set_cons_succ]
        refine wpAnyH_take (i := 1) (oi := ⟨some 42, _, _, _, _, _⟩) (v := .slice (some ⟨g, o, none⟩) len cap) rfl (by kernel_rfl) (by kernel_rfl) (by kernel_rfl) (fun _ _ _ h => h) (Or.inl ⟨by rfl, fun W9 hW => by have q := (hW.cell (p := ⟨w.heap.size, 3, none⟩) hlt0).trans c03'.out; go_simp⟩) (by assumption) ?_
        try simp only [Act.put, List.setIfInBounds_toArray, List.set_cons_zero, List.set_cons_succ]
        refine wpAnyH_take (i := 2) (oi := ⟨some 43, _, _, _, _, _⟩) (v := .int .i64 i) rfl (by kernel_rfl) (by kernel_rfl) (by kernel_rfl) (fun _ _ _ h => h) (Or.inl ⟨by rfl, fun W9 hW => by go_simp⟩) (by assumption) ?_
        try simp only [Act.put, List.setIfInBounds_toArray, List.set_cons_zero, List.set_cons_succ]
        refine wpAnyH_take (i := 3) (oi := ⟨some 44, _, _, _, _, _⟩) (v := .pointer (some ⟨g, o + i * 4, none⟩)) rfl (by kernel_rfl) (by kernel_rfl) (by kernel_rfl) (fun _ _ _ h => h) (Or.inl ⟨by rfl, fun W9 hW => by go_simp⟩) (by assumption) ?_
        try simp only [Act.put, List.setIfInBounds_toArray, List.set_cons_zero, List.set_cons_succ]
        refine wpAnyH_take (i := 4) (oi := ⟨some 45, _, _, _, _, _⟩) (v := .agg #[.int .i64 R.rk, .int .i64 R.ri, .string R.rt, .slice R.rl.1 R.rl.2.1 R.rl.2.2]) rfl (by kernel_rfl) (by kernel_rfl) (by kernel_rfl) (fun _ _ _ h => h) (Or.inl ⟨by rfl, fun W9 hW => by have q0 := (hW.cell (p := ⟨g, o + i * 4, none⟩) hg2).trans e0.out; have q1 := (hW.cell (p := ⟨g, o + i * 4 + 1, none⟩) hg2).trans e1.out; have q2 := (hW.cell (p := ⟨g, o + i * 4 + 2, none⟩) hg2).trans e2.out; have q3 := (hW.cell (p := ⟨g, o + i * 4 + 3, none⟩) hg2).trans e3.out; go_simp⟩) (by assumption) ?_
        try simp only [Act.put, List.setIfInBounds_toArray, List.set_cons_zero, List.set_cons_succ]
        refine wpAnyH_take (i := 5) (oi := ⟨some 46, _, _, _, _, _⟩) (v := .pointer (some ⟨w.heap.size + 1, 3, none⟩)) rfl (by kernel_rfl) (by kernel_rfl) (by kernel_rfl) (fun _ _ _ h => h) (Or.inl ⟨by rfl, fun W9 hW => by go_simp⟩) (by assumption) ?_
        try simp only [Act.put, List.setIfInBounds_toArray, List.set_cons_zero, List.set_cons_succ]
        refine wpAnyH_take (i := 6) (oi := ⟨some 47, _, _, _, _, _⟩) (v := .slice (some ⟨g, o, none⟩) len cap) rfl (by kernel_rfl) (by kernel_rfl) (by kernel_rfl) (fun _ _ _ h => h) (Or.inl ⟨by rfl, fun W9 hW => by have q := (hW.cell (p := ⟨w.heap.size + 1, 3, none⟩) hlt1).trans c13'.out; go_simp⟩) (by assumption) ?_
        try simp only [Act.put, List.setIfInBounds_toArray, List.set_cons_zero, List.set_cons_succ]
        refine wpAnyH_take (i := 7) (oi := ⟨some 48, _, _, _, _, _⟩) (v := .int .i64 i) rfl (by kernel_rfl) (by kernel_rfl) (by kernel_rfl) (fun _ _ _ h => h) (Or.inl ⟨by rfl, fun W9 hW => by go_simp⟩) (by assumption) ?_
        try simp only [Act.put, List.setIfInBounds_toArray, List.set_cons_zero, List.set_cons_succ]
        refine wpAnyH_take (i := 8) (oi := ⟨some 49, _, _, _, _, _⟩) (v := .pointer (some ⟨g, o + i * 4, none⟩)) rfl (by kernel_rfl) (by kernel_rfl) (by kernel_rfl) (fun _ _ _ h => h) (Or.inl ⟨by rfl, fun W9 hW => by go_simp⟩) (by assumption) ?_
        try simp only [Act.put, List.setIfInBounds_toArray, List.set_cons_zero, List.set_cons_succ]
        refine wpAnyH_take (i := 9) (oi := ⟨some 50, _, _, _, _, _⟩) (v := .agg #[.int .i64 R.rk, .int .i64 R.ri, .string R.rt, .slice R.rl.1 R.rl.2.1 R.rl.2.2]) rfl (by kernel_rfl) (by kernel_rfl) (by kernel_rfl) (fun _ _ _ h => h) (Or.inl ⟨by rfl, fun W9 hW => by have q0 := (hW.cell (p := ⟨g, o + i * 4, none⟩) hg2).trans e0.out; have q1 := (hW.cell (p := ⟨g, o + i * 4 + 1, none⟩) hg2).trans e1.out; have q2 := (hW.cell (p := ⟨g, o + i * 4 + 2, none⟩) hg2).trans e2.out; have q3 := (hW.cell (p := ⟨g, o + i * 4 + 3, none⟩) hg2).trans e3.out; go_simp⟩) (by assumption) ?_
        try simp only [Act.put, List.setIfInBounds_toArray, List.set_cons_zero, List.set_cons_succ]
        refine wpAnyH_ready (rs := [10]) (by kernel_rfl) (by simp) ?_
        refine AllReadyH.cons (o := ⟨some 51, _, _, _, _, _⟩) rfl (fun K hK => ?_) AllReadyH.nil
        go_simp
        have hb9 : Below w2.heap.size w2 wr.drew := by assumption
        have hbw := hb2.out.trans (hb9.mono hb2.out.size)
        refine (ih R.rk R.ri R.rt R.rl.1 R.rl.2.1 R.rl.2.2 _ (RepsOk.below hbw n _ hR)).mono ?_
        rintro e w5 ⟨rfl, hb5⟩
        have hb5' : Below w2.heap.size w2 w5 := hb9.trans (hb5.mono hb9.size)
        go_wp2_with fail
        refine hK.out _ _ hb5' (fun hHeld1 => ?_)
        clear hK K
        try simp only [Act.put, List.setIfInBounds_toArray, List.set_cons_zero, List.set_cons_succ]
        refine wpAnyH_take (i := 11) (oi := ⟨some 52, _, _, _, _, _⟩) (v := .bool false) rfl (by kernel_rfl) (by kernel_rfl) (by kernel_rfl) (fun _ _ _ h => h) (Or.inl ⟨by rfl, fun W9 hW => by go_simp⟩) (by assumption) ?_
        try simp only [Act.put, List.setIfInBounds_toArray, List.set_cons_zero, List.set_cons_succ]
        refine wpAnyH_done (by kernel_rfl) ?_ _
        go_wp2_with fail
        exact ⟨⟨i + 1, by omega, by go_num, hb5'⟩, by simp [intOf]; omega⟩
      · obtain rfl : i = len := by omega
        have hgo : decide ((i : Int) < (i : Int)) = false := decide_eq_false (by omega)
        go_wp2_with fail
        go_ret
        exact ⟨rfl, hb2.out.trans (hb.mono hb2.out.size)⟩
set_option maxHeartbeats 4000000 in
set_option maxRecDepth 100000 in
/-- replies of unlike texts are not the same -/
theorem Same_text (k j j' : Int) (t t' : ByteArray) (l l' : Option Addr × Nat × Nat) (ht : t ≠ t') (w : World) :
    Calls Tryz.prog 25 #[.agg #[.int .i64 k, .int .i64 j, .string t, .slice l.1 l.2.1 l.2.2], .agg #[.int .i64 k, .int .i64 j', .string t', .slice l'.1 l'.2.1 l'.2.2]] w fun e w' => e = .returned (.bool false) ∧ Below w.heap.size w w' := by
  have hkk : (k != k) = false := by simp
  have htt := str_ne ht
  have hnn : ¬ t.toList = t'.toList := by rw [bne_iff_ne] at htt; exact htt
  have hne : (t.toList == t'.toList) = false := by rw [beq_eq_false_iff_ne]; exact hnn
  have hb2 : Below w.heap.size w ((w.alloc (.cells #[.int .i64 k, .int .i64 j, .string t, .slice l.1 l.2.1 l.2.2] 33)).alloc (.cells #[.int .i64 k, .int .i64 j', .string t', .slice l'.1 l'.2.1 l'.2.2] 33)) := below_alloc (below_alloc (Below.refl _ _) _) _
  replace hb2 := Lib.hid hb2
  by_cases hj : j = j'
  · subst hj
    have hjj : (j != j) = false := by simp
    go_enter Tryz.func25, Tryz.ntmps25
    go_wp2_with fail
    go_ret
    exact ⟨rfl, hb2.out⟩
  · have hjj : (j != j') = true := by simpa using hj
    go_enter Tryz.func25, Tryz.ntmps25
    go_wp2_with fail
    go_ret
    exact ⟨rfl, hb2.out⟩
end Go.Proofs.YtpbiohnmmngccaaGreatDoor

namespace Go.Proofs.YtpbiohnmmngccaaGreatDoor
open Go Go.ChangeShapes Go.WideShapes Go.ChangeAt Go.RowKit Go.Deep Go.Proofs.YtpbiohnmmngccaaGreatDoorW.PrintWords
section
variable {H : Type} {enc : TypeId × Value → H} {W : World} {b : Nat} {v : Value} {d : DataW H} {p : List MemPlace}
theorem open_letter2 {cs : List Value} {fuel : Nat} {y : DataW H × List MemPlace} (hl : cs.length = 13) (h : DataW.trod enc Tryz.prog W 0 (fun _ => true) true fuel 35 cs = some y) : ∃ L : LV, cs = (lcells L).toList ∧ ∃ n, RepsOk W n L.rl := by
  obtain ⟨L, rfl⟩ := open_letter hl h
  refine ⟨L, rfl, ?_⟩
  obtain ⟨n, hx⟩ := fields_list Tryz.underlying35 h
  obtain ⟨z, g⟩ := hx 7 33 7 4 (by kernel_rfl) (by kernel_rfl)
  have g' : DataW.trod enc Tryz.prog W 0 (fun _ => true) true n 33 [.int .i64 L.rk, .int .i64 L.ri, .string L.rt, .slice L.rl.1 L.rl.2.1 L.rl.2.2] = some z := g
  obtain ⟨k, i, t, c3, m, z', he, hn, hz⟩ := rep_fields rfl g'
  simp only [List.cons.injEq, and_true] at he
  obtain ⟨-, -, -, rfl⟩ := he
  obtain ⟨rl, hrl, hok, -⟩ := open_reps m _ z' hz
  injection hrl with h1 h2 h3
  have e : L.rl = rl := Prod.ext h1 (Prod.ext h2 h3)
  rw [e]
  exact ⟨m, hok⟩
theorem open_op2 {cs : List Value} {fuel : Nat} {y : DataW H × List MemPlace} (hl : cs.length = 15) (h : DataW.trod enc Tryz.prog W 0 (fun _ => true) true fuel 37 cs = some y) : ∃ O : OV, cs = ocells O ∧ OpOk W O ∧ ∃ n, RepsOk W n O.let_.rl := by
  match cs, hl with
  | c0 :: c1 :: r, hl =>
    have hr : r.length = 13 := by simpa using hl
    obtain ⟨n, hx⟩ := fields_list Tryz.underlying37 h
    obtain ⟨z0, g0⟩ := hx 0 3 0 1 (by kernel_rfl) (by kernel_rfl)
    obtain ⟨z1, g1⟩ := hx 1 26 1 1 (by kernel_rfl) (by kernel_rfl)
    obtain ⟨z2, g2⟩ := hx 2 35 2 13 (by kernel_rfl) (by kernel_rfl)
    have e2 : ((c0 :: c1 :: r).drop 2).take 13 = r := by
      simp only [List.drop_succ_cons, List.drop_zero]
      exact List.take_of_length_le (by omega)
    rw [e2] at g2
    obtain ⟨a0, rfl, -⟩ := cell_int g0
    obtain ⟨A, c, l, rfl, h1, h2, h3⟩ := open_strs3 g1
    obtain ⟨L, rfl, hL⟩ := open_letter2 hr g2
    exact ⟨⟨a0, l, c, A, L⟩, rfl, ⟨h1, h2, h3⟩, hL⟩
set_option maxRecDepth 100000 in
theorem open_steps2 (hv : Value.okWide Tryz.prog W .any b 22 v) (h : DataW.Trod enc Tryz.prog W 0 (fun _ => true) true 22 v d p) :
    ∃ A c l, v = .slice A (l : List OV).length c ∧ Steps W A l ∧ (∀ O ∈ l, ∃ n, RepsOk W n O.let_.rl) ∧ l.length ≤ c ∧ c ≤ 9223372036854775807 := by
  obtain ⟨A0, len0, cap0, rfl⟩ := okWide_slice Tryz.underlying22 hv
  obtain ⟨fuel, hf⟩ := h
  have hf' : DataW.trod enc Tryz.prog W 0 (fun _ => true) true fuel 22 [.slice A0 len0 cap0] = some (d, p) := hf
  rcases open_slice Tryz.underlying22 hf' with ⟨h0, -⟩ | ⟨a, len, cap, m, n, D, Pl, hcs, -, hl, hm, hmm, -, hx⟩
  · simp only [List.cons.injEq, Value.slice.injEq, and_true] at h0
    obtain ⟨rfl, rfl, rfl⟩ := h0
    exact ⟨none, 0, [], rfl, fun i L h => by simp at h, fun O hO => by simp at hO, Nat.le_refl _, Nat.zero_le _⟩
  · simp only [List.cons.injEq, Value.slice.injEq, and_true] at hcs
    obtain ⟨rfl, rfl, rfl⟩ := hcs
    simp only [if_true] at hmm
    have h15 : Tryz.prog.cellsOf 37 = 15 := by kernel_rfl
    rw [h15] at hx
    obtain ⟨F, hF⟩ := choose_lt (α := OV) (p := fun i O => W.cells? 0 (a.add (i * 15)) 15 = some (ocells O) ∧ OpOk W O ∧ ∃ n, RepsOk W n O.let_.rl) (n := len0) (fun i hi => by
      obtain ⟨cs', h1, h2⟩ := hx i (by omega)
      obtain ⟨_, hlen, _⟩ := World.cells?_some h1
      obtain ⟨O, rfl, hO, hR⟩ := open_op2 hlen h2
      exact ⟨O, h1, hO, hR⟩)
    have hxl : ((List.range len0).map F).length = len0 := by simp
    refine ⟨some a, cap0, (List.range len0).map F, by rw [hxl], fun i L hL => ?_, fun O hO => ?_, by rw [hxl]; exact hl, by unfold maxLen at hm; omega⟩
    · obtain ⟨hi, hLx⟩ := List.getElem?_eq_some_iff.1 hL
      rw [hxl] at hi
      simp only [List.getElem_map, List.getElem_range] at hLx
      subst hLx
      refine ⟨(hF i hi).2.1, ?_⟩
      obtain ⟨_, _, hc⟩ := World.cells?_some (hF i hi).1
      obtain ⟨g, o, sp⟩ := a
      have hsp : sp = none := by
        obtain ⟨_, _, hz⟩ := World.cells?_some (hF 0 (by omega)).1
        have hz0 := hz 0 (by decide)
        have : (Addr.add (Addr.add ⟨g, o, sp⟩ (0 * 15)) 0) = ⟨g, o, sp⟩ := by simp [Addr.add]
        rw [this] at hz0
        exact spot_none (v := .int .i64 (F 0).kind) hz0
      subst hsp
      refine ⟨g, o, rfl, ?_, fun k v hk => ?_⟩
      · have hc0 := hc 0 (by decide)
        rw [Addr.add_mid, Addr.add_mid] at hc0
        exact World.block_lt_of_cell? (u := .int .i64 (F i).kind) W _ hc0
      · have hk15 : k < 15 := (List.getElem?_eq_some_iff.1 hk).1
        have := hc k hk15
        rw [Addr.add_mid, Addr.add_mid, hk] at this
        exact this
    · obtain ⟨i, hi, rfl⟩ := List.mem_map.1 hO
      exact (hF i (List.mem_range.1 hi)).2.2
end
end Go.Proofs.YtpbiohnmmngccaaGreatDoor
