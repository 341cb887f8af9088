/- An answer with which a call ends. An answer that sends a call on, or one too many. An answer that says ask, or again. An answer that says moved. Conditions: the listed variables as laid; texts below 2^32 - 15 bytes. -/
import Derived.Test.YtpbiohnmmngccaaGreatDoorMgS
set_option linter.unusedVariables false
set_option linter.unusedSimpArgs false
namespace Go.Proofs.YtpbiohnmmngccaaGreatDoor
open Go Go.RowKit Go.Maps Go.Proofs.YtpbiohnmmngccaaGreatDoorW.PrintWords
open RtS
theorem letter_cells {g B : Nat} {bx : Array Value} {L : LV} {W0 W : World} (h : TS g B bx (lcells L) W0 W) :
    W.cell? ⟨B + 1, 7, none⟩ = some (.int .i64 L.rk) ∧ W.cell? ⟨B + 1, 8, none⟩ = some (.int .i64 L.ri) ∧ W.cell? ⟨B + 1, 9, none⟩ = some (.string L.rt) ∧ W.cell? ⟨B + 1, 10, none⟩ = some (.slice L.rl.1 L.rl.2.1 L.rl.2.2) := by
  refine ⟨?_, ?_, ?_, ?_⟩ <;> (rw [cell_of_box h.b1]; rfl)
theorem TS.lt {g B : Nat} {bx lc : Array Value} {W0 W : World} (h : TS g B bx lc W0 W) : B < W.heap.size ∧ B + 1 < W.heap.size ∧ B + 2 < W.heap.size ∧ g < W.heap.size :=
  ⟨(Array.getElem?_eq_some_iff.1 h.b0).1, (Array.getElem?_eq_some_iff.1 h.b1).1, (Array.getElem?_eq_some_iff.1 h.b2).1, (Array.getElem?_eq_some_iff.1 h.bx).1⟩
set_option maxHeartbeats 4000000 in
set_option maxRecDepth 100000 in
theorem Take_end1 (m g : Nat) (s : CS) (L : LV) (hn : 0 ≤ s.num ∧ s.num ≤ 1000000000) (hrt : L.rt.size < 4294967281) (w : World) (h : Cl m g s w) (w0 : World) (hE0 : Env w0) (hB0 : Below w0.heap.size w0 w) (hm0 : w0.heap.size ≤ m) (hg0 : w0.heap.size ≤ g) (hbz : 0 < s.args.length) (hk : L.kind = 2) (hnn : L.num = s.num) (hrv : readV L.rt.data.toList = (0, 0, 0, 0, false)) : Calls Tryz.prog 9 #[.pointer (some ⟨g, 0, none⟩), .agg (lcells L)] w (DoPost m g ({ s with args := [] }, .done L.rk L.ri L.rt (.slice L.rl.1 L.rl.2.1 L.rl.2.2)) w) := by
  have dbusy : decide (0 < s.args.length) = true := decide_eq_true hbz
  have d1' := Lib.hid (show (L.kind != 2) = false by rw [hk]; rfl)
  have d2' := Lib.hid (show (L.num != s.num) = false by rw [hnn]; simp)
  clear hk hnn
  obtain ⟨A, c, hb, hr, hc, hT⟩ := h.box
  have hm := h.lt.1
  have hg := h.lt.2
  obtain ⟨hTS, hb0⟩ := take_world w g L hg hb
  have hcl0 := h.below hb0
  have hsz : (((w.alloc (.cells #[.pointer (some ⟨g, 0, none⟩)] 23)).alloc (.cells (lcells L) 35)).alloc (.cells out0 39)).heap.size = w.heap.size + 3 := by simp
  replace h := Lib.hid h
  replace hb := Lib.hid hb
  replace hr := Lib.hid hr
  replace hT := Lib.hid hT
  replace hcl0 := Lib.hid hcl0
  replace hTS := Lib.hid hTS
  replace hb0 := Lib.hid hb0
  replace hsz := Lib.hid hsz
  have hLC : lcells L = #[.int .i64 L.kind, .int .i64 L.num, .int .i64 L.slot, .int .i64 L.ends, .string L.key, .string L.text, .slice L.args.1 L.args.2.1 L.args.2.2, .int .i64 L.rk, .int .i64 L.ri, .string L.rt, .slice L.rl.1 L.rl.2.1 L.rl.2.2, .bool L.good, .int .i64 L.asking] := rfl
  rw [hLC]
  go_enter Tryz.func9, Tryz.ntmps9
  go_wp2_with fail
  change Code.wp _ _ _ _ (((w.alloc (.cells #[.pointer (some ⟨g, 0, none⟩)] 23)).alloc (.cells (lcells L) 35)).alloc (.cells out0 39))
  have hTS := hTS.out
  generalize (((w.alloc (.cells #[.pointer (some ⟨g, 0, none⟩)] 23)).alloc (.cells (lcells L) 35)).alloc (.cells out0 39)) = W0 at *
  refine wp_region_held_drew (S := TS g w.heap.size #[.int .i64 s.home, .map (some m), .slice A s.args.length c, .int .i64 s.num, .int .i64 s.bud] (lcells L) W0) (by kernel_rfl) (hTS.step ⟨rfl, rfl, rfl, Nat.le_refl _, fun _ _ => rfl⟩) (fun hHeld => ?_)
  refine wpAnyH_take (i := 0) (oi := ⟨some 8, _, _, _, _, _⟩) (v := .pointer (some ⟨g, 0, none⟩)) rfl (by kernel_rfl) (by kernel_rfl) (by kernel_rfl) (fun _ _ _ h => h) (Or.inl ⟨by rfl, fun W hW => by have q := hW.c0; go_simp⟩) (by assumption) ?_
  try simp only [Act.put, List.setIfInBounds_toArray, List.set_cons_zero, List.set_cons_succ]
  refine wpAnyH_ready (rs := [1]) (by kernel_rfl) (by simp) ?_
  refine AllReadyH.cons (o := ⟨some 9, _, _, _, _, _⟩) rfl (fun K hK => ?_) AllReadyH.nil
  go_simp
  refine (Busy_calls m g s _ (hcl0.out.below (TS.below (by assumption)))).mono ?_
  rintro e w1 ⟨rfl, rfl⟩
  rw [dbusy]
  go_wp2_with fail
  refine hK.out _ _ (by assumption) (fun hHeld1 => ?_)
  clear hK K
  try simp only [Act.put, List.setIfInBounds_toArray, List.set_cons_zero, List.set_cons_succ]
  refine wpAnyH_take (i := 2) (oi := ⟨some 10, _, _, _, _, _⟩) (v := .bool false) rfl (by kernel_rfl) (by kernel_rfl) (by kernel_rfl) (fun _ _ _ h => h) (Or.inl ⟨by rfl, fun W hW => by go_simp⟩) (by assumption) ?_
  try simp only [Act.put, List.setIfInBounds_toArray, List.set_cons_zero, List.set_cons_succ]
  refine wpAnyH_take (i := 3) (oi := ⟨some 11, _, _, _, _, _⟩) (v := .bool false) rfl (by kernel_rfl) (by kernel_rfl) (by kernel_rfl) (fun _ _ _ h => h) (Or.inl ⟨by rfl, fun W hW => by go_simp⟩) (by assumption) ?_
  try simp only [Act.put, List.setIfInBounds_toArray, List.set_cons_zero, List.set_cons_succ]
  refine wpAnyH_take (i := 4) (oi := ⟨some 12, _, _, _, _, _⟩) (v := .pointer (some ⟨w.heap.size + 1, 0, none⟩)) rfl (by kernel_rfl) (by kernel_rfl) (by kernel_rfl) (fun _ _ _ h => h) (Or.inl ⟨by rfl, fun W hW => by go_simp⟩) (by assumption) ?_
  try simp only [Act.put, List.setIfInBounds_toArray, List.set_cons_zero, List.set_cons_succ]
  refine wpAnyH_take (i := 5) (oi := ⟨some 13, _, _, _, _, _⟩) (v := .int .i64 L.kind) rfl (by kernel_rfl) (by kernel_rfl) (by kernel_rfl) (fun _ _ _ h => h) (Or.inl ⟨by rfl, fun W hW => by have q := hW.l0; go_simp⟩) (by assumption) ?_
  try simp only [Act.put, List.setIfInBounds_toArray, List.set_cons_zero, List.set_cons_succ]
  refine wpAnyH_take (i := 6) (oi := ⟨some 14, _, _, _, _, _⟩) (v := .bool false) rfl (by kernel_rfl) (by kernel_rfl) (by kernel_rfl) (fun _ _ _ h => h) (Or.inl ⟨by rfl, fun W hW => by have q := d1'.out; go_simp⟩) (by assumption) ?_
  try simp only [Act.put, List.setIfInBounds_toArray, List.set_cons_zero, List.set_cons_succ]
  refine wpAnyH_take (i := 7) (oi := ⟨some 15, _, _, _, _, _⟩) (v := .bool false) rfl (by kernel_rfl) (by kernel_rfl) (by kernel_rfl) (fun _ _ _ h => h) (Or.inl ⟨by rfl, fun W hW => by go_simp⟩) (by assumption) ?_
  try simp only [Act.put, List.setIfInBounds_toArray, List.set_cons_zero, List.set_cons_succ]
  refine wpAnyH_take (i := 8) (oi := ⟨some 16, _, _, _, _, _⟩) (v := .bool false) rfl (by kernel_rfl) (by kernel_rfl) (by kernel_rfl) (fun _ _ _ h => h) (Or.inl ⟨by rfl, fun W hW => by go_simp⟩) (by assumption) ?_
  try simp only [Act.put, List.setIfInBounds_toArray, List.set_cons_zero, List.set_cons_succ]
  refine wpAnyH_take (i := 9) (oi := ⟨some 17, _, _, _, _, _⟩) (v := .pointer (some ⟨w.heap.size + 1, 1, none⟩)) rfl (by kernel_rfl) (by kernel_rfl) (by kernel_rfl) (fun _ _ _ h => h) (Or.inl ⟨by rfl, fun W hW => by go_simp⟩) (by assumption) ?_
  try simp only [Act.put, List.setIfInBounds_toArray, List.set_cons_zero, List.set_cons_succ]
  refine wpAnyH_take (i := 10) (oi := ⟨some 18, _, _, _, _, _⟩) (v := .int .i64 L.num) rfl (by kernel_rfl) (by kernel_rfl) (by kernel_rfl) (fun _ _ _ h => h) (Or.inl ⟨by rfl, fun W hW => by have q := hW.l1; go_simp⟩) (by assumption) ?_
  try simp only [Act.put, List.setIfInBounds_toArray, List.set_cons_zero, List.set_cons_succ]
  refine wpAnyH_take (i := 11) (oi := ⟨some 19, _, _, _, _, _⟩) (v := .pointer (some ⟨g, 0, none⟩)) rfl (by kernel_rfl) (by kernel_rfl) (by kernel_rfl) (fun _ _ _ h => h) (Or.inl ⟨by rfl, fun W hW => by have q := hW.c0; go_simp⟩) (by assumption) ?_
  try simp only [Act.put, List.setIfInBounds_toArray, List.set_cons_zero, List.set_cons_succ]
  refine wpAnyH_take (i := 12) (oi := ⟨some 20, _, _, _, _, _⟩) (v := .pointer (some ⟨g, 0, none⟩)) rfl (by kernel_rfl) (by kernel_rfl) (by kernel_rfl) (fun _ _ _ h => h) (Or.inl ⟨by rfl, fun W hW => by go_simp⟩) (by assumption) ?_
  try simp only [Act.put, List.setIfInBounds_toArray, List.set_cons_zero, List.set_cons_succ]
  refine wpAnyH_take (i := 13) (oi := ⟨some 21, _, _, _, _, _⟩) (v := .pointer (some ⟨g, 3, none⟩)) rfl (by kernel_rfl) (by kernel_rfl) (by kernel_rfl) (fun _ _ _ h => h) (Or.inl ⟨by rfl, fun W hW => by go_simp⟩) (by assumption) ?_
  try simp only [Act.put, List.setIfInBounds_toArray, List.set_cons_zero, List.set_cons_succ]
  refine wpAnyH_take (i := 14) (oi := ⟨some 22, _, _, _, _, _⟩) (v := .int .i64 s.num) rfl (by kernel_rfl) (by kernel_rfl) (by kernel_rfl) (fun _ _ _ h => h) (Or.inl ⟨by rfl, fun W hW => by obtain ⟨q0, q1, q2, q3, q4⟩ := box_cells hW.bx; go_simp⟩) (by assumption) ?_
  try simp only [Act.put, List.setIfInBounds_toArray, List.set_cons_zero, List.set_cons_succ]
  refine wpAnyH_take (i := 15) (oi := ⟨some 23, _, _, _, _, _⟩) (v := .bool false) rfl (by kernel_rfl) (by kernel_rfl) (by kernel_rfl) (fun _ _ _ h => h) (Or.inl ⟨by rfl, fun W hW => by have q := d2'.out; go_simp⟩) (by assumption) ?_
  try simp only [Act.put, List.setIfInBounds_toArray, List.set_cons_zero, List.set_cons_succ]
  refine wpAnyH_take (i := 16) (oi := ⟨some 24, _, _, _, _, _⟩) (v := .bool false) rfl (by kernel_rfl) (by kernel_rfl) (by kernel_rfl) (fun _ _ _ h => h) (Or.inl ⟨by rfl, fun W hW => by go_simp⟩) (by assumption) ?_
  try simp only [Act.put, List.setIfInBounds_toArray, List.set_cons_zero, List.set_cons_succ]
  refine wpAnyH_done (by kernel_rfl) ?_ _
  generalize W0.drew = W1 at *
  have hTW : TS g w.heap.size #[.int .i64 s.home, .map (some m), .slice A s.args.length c, .int .i64 s.num, .int .i64 s.bud] (lcells L) W0 W1 := by assumption
  obtain ⟨q7, q8, q9, q10⟩ := letter_cells hTW
  have qb := hTW.c0
  have hbw1 : Below w.heap.size w W1 := hb0.out.trans (hTW.below.mono hb0.out.size)
  have hE1 := hE0.below (hB0.trans (hbw1.mono hB0.size))
  have hRd := Read_calls L.rt hrt W1 hE1
  have hc1 := hcl0.out.below hTW.below
  replace hTW := Lib.hid hTW
  replace hbw1 := Lib.hid hbw1
  replace hc1 := Lib.hid hc1
  clear hTS hHeld hHeld1 hE1
  rw [hrv] at hRd
  go_wp2_with fail
  refine hRd.mono ?_
  rintro e w2 ⟨rfl, hb2⟩
  have hT2 := hTW.out.step hb2
  have hc2 := hc1.out.below hb2
  have hbw2 := hbw1.out.trans (hb2.mono hbw1.out.size)
  obtain ⟨q7', q8', q9', q10'⟩ := letter_cells hT2
  have qb' := hT2.c0
  obtain ⟨k0, k1, k2, k3, k4⟩ := box_cells hT2.bx
  obtain ⟨z0, z1, z2, z3⟩ := hT2.lt
  clear q7 q8 q9 q10 qb hRd hb2 hTW hc1 hbw1

  have hbd : Below w2.heap.size w2 (w2.alloc (.cells #[.int .i64 0, .int .i64 0, .int .i64 0, .int .i64 0] 60)) := below_alloc (Below.refl _ _) _
  have hc3 := hc2.below hbd
  have hT3 := hT2.step hbd
  have hbw3 := hbw2.trans (hbd.mono hbw2.size)
  have hEnd := End_calls m g w.heap.size s L.rk L.ri L.rt (L.rl.1) (L.rl.2.1) (L.rl.2.2) (w2.alloc (.cells #[.int .i64 0, .int .i64 0, .int .i64 0, .int .i64 0] 60)) hc3 hT3.c0
  replace hc3 := Lib.hid hc3
  replace hT3 := Lib.hid hT3
  replace hbw3 := Lib.hid hbw3
  replace hbd := Lib.hid hbd
  replace hc2 := Lib.hid hc2
  replace hT2 := Lib.hid hT2
  replace hbw2 := Lib.hid hbw2
  go_wp2_with fail
  refine hEnd.mono ?_
  rintro e w4 ⟨ho, hcl4, hk4⟩
  have ho' : e = .returned (.agg (outC 0 0 0 (.slice none 0 0) 0 false L.rk L.ri L.rt (.slice (L.rl.1) (L.rl.2.1) (L.rl.2.2)) true)) := ho
  subst ho'
  have hz4 := (hk4.block (w.heap.size + 2) hT3.out.lt.2.2.1 (by omega) (by omega)).trans hT3.out.b2
  have hkw4 : Keep2 m g w w4 := ((Keep2.refl m g w).below hbw3.out).trans hk4
  generalize hOUT : outC 0 0 0 (.slice none 0 0) 0 false L.rk L.ri L.rt (.slice (L.rl.1) (L.rl.2.1) (L.rl.2.2)) true = OUT
  have hone : OUT.all (·.oneCell') = true := by rw [← hOUT]; exact out_one _ _ _ _ _ _ _ _ _ _ _ _ _ _ _
  have hsz : OUT.size = 20 := by rw [← hOUT]; rfl
  have hi : (Tryz.prog.info? 39).map (·.size) = some OUT.size := by rw [hsz]; exact info32
  have hsz0 : out0.size = OUT.size := by rw [hsz]; rfl
  replace hOUT := Lib.hid hOUT
  replace hi := Lib.hid hi
  replace hz4 := Lib.hid hz4
  replace hkw4 := Lib.hid hkw4
  replace hcl4 := Lib.hid hcl4
  clear hEnd
  go_wp2_with ((with_reducible refine store_at (ty := 39) (x := .tmp 4) (y := .tmp 55) ?_); refine ⟨w.heap.size + 2, OUT, 39, out0, rfl, rfl, hz4.out, hi.out, hsz0, hone, ?_⟩)
  refine bodyPost_ret (results_cell1 Tryz.results9 _ _ (w.heap.size + 2) 39 OUT (0, 0) _ rfl (setRow_heap _ _ _ _ _ _ hz4.out) Tryz.underlying39 rfl hi.out) rfl ⟨by rw [← hOUT.out]; rfl, ?_, ?_⟩
  · exact hcl4.out.row hz4.out (by decide) (by omega) (by omega)
  · exact hkw4.out.below (below_setRow (Below.refl _ _) (by omega) _)
set_option maxHeartbeats 4000000 in
set_option maxRecDepth 100000 in
theorem Take_end2 (m g : Nat) (s : CS) (L : LV) (hn : 0 ≤ s.num ∧ s.num ≤ 1000000000) (hrt : L.rt.size < 4294967281) (w : World) (h : Cl m g s w) (w0 : World) (hE0 : Env w0) (hB0 : Below w0.heap.size w0 w) (hm0 : w0.heap.size ≤ m) (hg0 : w0.heap.size ≤ g) (hbz : 0 < s.args.length) (hk : L.kind = 2) (hnn : L.num = s.num) (k sl nd tk : Int) (hrv : readV L.rt.data.toList = (k, sl, nd, tk, true)) (hrk : (L.rk != 2) = true) : Calls Tryz.prog 9 #[.pointer (some ⟨g, 0, none⟩), .agg (lcells L)] w (DoPost m g ({ s with args := [] }, .done L.rk L.ri L.rt (.slice L.rl.1 L.rl.2.1 L.rl.2.2)) w) := by
  have dbusy : decide (0 < s.args.length) = true := decide_eq_true hbz
  have d1' := Lib.hid (show (L.kind != 2) = false by rw [hk]; rfl)
  have d2' := Lib.hid (show (L.num != s.num) = false by rw [hnn]; simp)
  clear hk hnn
  obtain ⟨A, c, hb, hr, hc, hT⟩ := h.box
  have hm := h.lt.1
  have hg := h.lt.2
  obtain ⟨hTS, hb0⟩ := take_world w g L hg hb
  have hcl0 := h.below hb0
  have hsz : (((w.alloc (.cells #[.pointer (some ⟨g, 0, none⟩)] 23)).alloc (.cells (lcells L) 35)).alloc (.cells out0 39)).heap.size = w.heap.size + 3 := by simp
  replace h := Lib.hid h
  replace hb := Lib.hid hb
  replace hr := Lib.hid hr
  replace hT := Lib.hid hT
  replace hcl0 := Lib.hid hcl0
  replace hTS := Lib.hid hTS
  replace hb0 := Lib.hid hb0
  replace hsz := Lib.hid hsz
  have hLC : lcells L = #[.int .i64 L.kind, .int .i64 L.num, .int .i64 L.slot, .int .i64 L.ends, .string L.key, .string L.text, .slice L.args.1 L.args.2.1 L.args.2.2, .int .i64 L.rk, .int .i64 L.ri, .string L.rt, .slice L.rl.1 L.rl.2.1 L.rl.2.2, .bool L.good, .int .i64 L.asking] := rfl
  rw [hLC]
  go_enter Tryz.func9, Tryz.ntmps9
  go_wp2_with fail
  change Code.wp _ _ _ _ (((w.alloc (.cells #[.pointer (some ⟨g, 0, none⟩)] 23)).alloc (.cells (lcells L) 35)).alloc (.cells out0 39))
  have hTS := hTS.out
  generalize (((w.alloc (.cells #[.pointer (some ⟨g, 0, none⟩)] 23)).alloc (.cells (lcells L) 35)).alloc (.cells out0 39)) = W0 at *
  refine wp_region_held_drew (S := TS g w.heap.size #[.int .i64 s.home, .map (some m), .slice A s.args.length c, .int .i64 s.num, .int .i64 s.bud] (lcells L) W0) (by kernel_rfl) (hTS.step ⟨rfl, rfl, rfl, Nat.le_refl _, fun _ _ => rfl⟩) (fun hHeld => ?_)
  refine wpAnyH_take (i := 0) (oi := ⟨some 8, _, _, _, _, _⟩) (v := .pointer (some ⟨g, 0, none⟩)) rfl (by kernel_rfl) (by kernel_rfl) (by kernel_rfl) (fun _ _ _ h => h) (Or.inl ⟨by rfl, fun W hW => by have q := hW.c0; go_simp⟩) (by assumption) ?_
  try simp only [Act.put, List.setIfInBounds_toArray, List.set_cons_zero, List.set_cons_succ]
  refine wpAnyH_ready (rs := [1]) (by kernel_rfl) (by simp) ?_
  refine AllReadyH.cons (o := ⟨some 9, _, _, _, _, _⟩) rfl (fun K hK => ?_) AllReadyH.nil
  go_simp
  refine (Busy_calls m g s _ (hcl0.out.below (TS.below (by assumption)))).mono ?_
  rintro e w1 ⟨rfl, rfl⟩
  rw [dbusy]
  go_wp2_with fail
  refine hK.out _ _ (by assumption) (fun hHeld1 => ?_)
  clear hK K
  try simp only [Act.put, List.setIfInBounds_toArray, List.set_cons_zero, List.set_cons_succ]
  refine wpAnyH_take (i := 2) (oi := ⟨some 10, _, _, _, _, _⟩) (v := .bool false) rfl (by kernel_rfl) (by kernel_rfl) (by kernel_rfl) (fun _ _ _ h => h) (Or.inl ⟨by rfl, fun W hW => by go_simp⟩) (by assumption) ?_
  try simp only [Act.put, List.setIfInBounds_toArray, List.set_cons_zero, List.set_cons_succ]
  refine wpAnyH_take (i := 3) (oi := ⟨some 11, _, _, _, _, _⟩) (v := .bool false) rfl (by kernel_rfl) (by kernel_rfl) (by kernel_rfl) (fun _ _ _ h => h) (Or.inl ⟨by rfl, fun W hW => by go_simp⟩) (by assumption) ?_
  try simp only [Act.put, List.setIfInBounds_toArray, List.set_cons_zero, List.set_cons_succ]
  refine wpAnyH_take (i := 4) (oi := ⟨some 12, _, _, _, _, _⟩) (v := .pointer (some ⟨w.heap.size + 1, 0, none⟩)) rfl (by kernel_rfl) (by kernel_rfl) (by kernel_rfl) (fun _ _ _ h => h) (Or.inl ⟨by rfl, fun W hW => by go_simp⟩) (by assumption) ?_
  try simp only [Act.put, List.setIfInBounds_toArray, List.set_cons_zero, List.set_cons_succ]
  refine wpAnyH_take (i := 5) (oi := ⟨some 13, _, _, _, _, _⟩) (v := .int .i64 L.kind) rfl (by kernel_rfl) (by kernel_rfl) (by kernel_rfl) (fun _ _ _ h => h) (Or.inl ⟨by rfl, fun W hW => by have q := hW.l0; go_simp⟩) (by assumption) ?_
  try simp only [Act.put, List.setIfInBounds_toArray, List.set_cons_zero, List.set_cons_succ]
  refine wpAnyH_take (i := 6) (oi := ⟨some 14, _, _, _, _, _⟩) (v := .bool false) rfl (by kernel_rfl) (by kernel_rfl) (by kernel_rfl) (fun _ _ _ h => h) (Or.inl ⟨by rfl, fun W hW => by have q := d1'.out; go_simp⟩) (by assumption) ?_
  try simp only [Act.put, List.setIfInBounds_toArray, List.set_cons_zero, List.set_cons_succ]
  refine wpAnyH_take (i := 7) (oi := ⟨some 15, _, _, _, _, _⟩) (v := .bool false) rfl (by kernel_rfl) (by kernel_rfl) (by kernel_rfl) (fun _ _ _ h => h) (Or.inl ⟨by rfl, fun W hW => by go_simp⟩) (by assumption) ?_
  try simp only [Act.put, List.setIfInBounds_toArray, List.set_cons_zero, List.set_cons_succ]
  refine wpAnyH_take (i := 8) (oi := ⟨some 16, _, _, _, _, _⟩) (v := .bool false) rfl (by kernel_rfl) (by kernel_rfl) (by kernel_rfl) (fun _ _ _ h => h) (Or.inl ⟨by rfl, fun W hW => by go_simp⟩) (by assumption) ?_
  try simp only [Act.put, List.setIfInBounds_toArray, List.set_cons_zero, List.set_cons_succ]
  refine wpAnyH_take (i := 9) (oi := ⟨some 17, _, _, _, _, _⟩) (v := .pointer (some ⟨w.heap.size + 1, 1, none⟩)) rfl (by kernel_rfl) (by kernel_rfl) (by kernel_rfl) (fun _ _ _ h => h) (Or.inl ⟨by rfl, fun W hW => by go_simp⟩) (by assumption) ?_
  try simp only [Act.put, List.setIfInBounds_toArray, List.set_cons_zero, List.set_cons_succ]
  refine wpAnyH_take (i := 10) (oi := ⟨some 18, _, _, _, _, _⟩) (v := .int .i64 L.num) rfl (by kernel_rfl) (by kernel_rfl) (by kernel_rfl) (fun _ _ _ h => h) (Or.inl ⟨by rfl, fun W hW => by have q := hW.l1; go_simp⟩) (by assumption) ?_
  try simp only [Act.put, List.setIfInBounds_toArray, List.set_cons_zero, List.set_cons_succ]
  refine wpAnyH_take (i := 11) (oi := ⟨some 19, _, _, _, _, _⟩) (v := .pointer (some ⟨g, 0, none⟩)) rfl (by kernel_rfl) (by kernel_rfl) (by kernel_rfl) (fun _ _ _ h => h) (Or.inl ⟨by rfl, fun W hW => by have q := hW.c0; go_simp⟩) (by assumption) ?_
  try simp only [Act.put, List.setIfInBounds_toArray, List.set_cons_zero, List.set_cons_succ]
  refine wpAnyH_take (i := 12) (oi := ⟨some 20, _, _, _, _, _⟩) (v := .pointer (some ⟨g, 0, none⟩)) rfl (by kernel_rfl) (by kernel_rfl) (by kernel_rfl) (fun _ _ _ h => h) (Or.inl ⟨by rfl, fun W hW => by go_simp⟩) (by assumption) ?_
  try simp only [Act.put, List.setIfInBounds_toArray, List.set_cons_zero, List.set_cons_succ]
  refine wpAnyH_take (i := 13) (oi := ⟨some 21, _, _, _, _, _⟩) (v := .pointer (some ⟨g, 3, none⟩)) rfl (by kernel_rfl) (by kernel_rfl) (by kernel_rfl) (fun _ _ _ h => h) (Or.inl ⟨by rfl, fun W hW => by go_simp⟩) (by assumption) ?_
  try simp only [Act.put, List.setIfInBounds_toArray, List.set_cons_zero, List.set_cons_succ]
  refine wpAnyH_take (i := 14) (oi := ⟨some 22, _, _, _, _, _⟩) (v := .int .i64 s.num) rfl (by kernel_rfl) (by kernel_rfl) (by kernel_rfl) (fun _ _ _ h => h) (Or.inl ⟨by rfl, fun W hW => by obtain ⟨q0, q1, q2, q3, q4⟩ := box_cells hW.bx; go_simp⟩) (by assumption) ?_
  try simp only [Act.put, List.setIfInBounds_toArray, List.set_cons_zero, List.set_cons_succ]
  refine wpAnyH_take (i := 15) (oi := ⟨some 23, _, _, _, _, _⟩) (v := .bool false) rfl (by kernel_rfl) (by kernel_rfl) (by kernel_rfl) (fun _ _ _ h => h) (Or.inl ⟨by rfl, fun W hW => by have q := d2'.out; go_simp⟩) (by assumption) ?_
  try simp only [Act.put, List.setIfInBounds_toArray, List.set_cons_zero, List.set_cons_succ]
  refine wpAnyH_take (i := 16) (oi := ⟨some 24, _, _, _, _, _⟩) (v := .bool false) rfl (by kernel_rfl) (by kernel_rfl) (by kernel_rfl) (fun _ _ _ h => h) (Or.inl ⟨by rfl, fun W hW => by go_simp⟩) (by assumption) ?_
  try simp only [Act.put, List.setIfInBounds_toArray, List.set_cons_zero, List.set_cons_succ]
  refine wpAnyH_done (by kernel_rfl) ?_ _
  generalize W0.drew = W1 at *
  have hTW : TS g w.heap.size #[.int .i64 s.home, .map (some m), .slice A s.args.length c, .int .i64 s.num, .int .i64 s.bud] (lcells L) W0 W1 := by assumption
  obtain ⟨q7, q8, q9, q10⟩ := letter_cells hTW
  have qb := hTW.c0
  have hbw1 : Below w.heap.size w W1 := hb0.out.trans (hTW.below.mono hb0.out.size)
  have hE1 := hE0.below (hB0.trans (hbw1.mono hB0.size))
  have hRd := Read_calls L.rt hrt W1 hE1
  have hc1 := hcl0.out.below hTW.below
  replace hTW := Lib.hid hTW
  replace hbw1 := Lib.hid hbw1
  replace hc1 := Lib.hid hc1
  clear hTS hHeld hHeld1 hE1
  rw [hrv] at hRd
  go_wp2_with fail
  refine hRd.mono ?_
  rintro e w2 ⟨rfl, hb2⟩
  have hT2 := hTW.out.step hb2
  have hc2 := hc1.out.below hb2
  have hbw2 := hbw1.out.trans (hb2.mono hbw1.out.size)
  obtain ⟨q7', q8', q9', q10'⟩ := letter_cells hT2
  have qb' := hT2.c0
  obtain ⟨k0, k1, k2, k3, k4⟩ := box_cells hT2.bx
  obtain ⟨z0, z1, z2, z3⟩ := hT2.lt
  clear q7 q8 q9 q10 qb hRd hb2 hTW hc1 hbw1

  have hbd : Below w2.heap.size w2 (w2.alloc (.cells #[.int .i64 k, .int .i64 sl, .int .i64 nd, .int .i64 tk] 60)) := below_alloc (Below.refl _ _) _
  have hc3 := hc2.below hbd
  have hT3 := hT2.step hbd
  have hbw3 := hbw2.trans (hbd.mono hbw2.size)
  have hEnd := End_calls m g w.heap.size s L.rk L.ri L.rt (L.rl.1) (L.rl.2.1) (L.rl.2.2) (w2.alloc (.cells #[.int .i64 k, .int .i64 sl, .int .i64 nd, .int .i64 tk] 60)) hc3 hT3.c0
  replace hc3 := Lib.hid hc3
  replace hT3 := Lib.hid hT3
  replace hbw3 := Lib.hid hbw3
  replace hbd := Lib.hid hbd
  replace hc2 := Lib.hid hc2
  replace hT2 := Lib.hid hT2
  replace hbw2 := Lib.hid hbw2
  go_wp2_with fail
  refine hEnd.mono ?_
  rintro e w4 ⟨ho, hcl4, hk4⟩
  have ho' : e = .returned (.agg (outC 0 0 0 (.slice none 0 0) 0 false L.rk L.ri L.rt (.slice (L.rl.1) (L.rl.2.1) (L.rl.2.2)) true)) := ho
  subst ho'
  have hz4 := (hk4.block (w.heap.size + 2) hT3.out.lt.2.2.1 (by omega) (by omega)).trans hT3.out.b2
  have hkw4 : Keep2 m g w w4 := ((Keep2.refl m g w).below hbw3.out).trans hk4
  generalize hOUT : outC 0 0 0 (.slice none 0 0) 0 false L.rk L.ri L.rt (.slice (L.rl.1) (L.rl.2.1) (L.rl.2.2)) true = OUT
  have hone : OUT.all (·.oneCell') = true := by rw [← hOUT]; exact out_one _ _ _ _ _ _ _ _ _ _ _ _ _ _ _
  have hsz : OUT.size = 20 := by rw [← hOUT]; rfl
  have hi : (Tryz.prog.info? 39).map (·.size) = some OUT.size := by rw [hsz]; exact info32
  have hsz0 : out0.size = OUT.size := by rw [hsz]; rfl
  replace hOUT := Lib.hid hOUT
  replace hi := Lib.hid hi
  replace hz4 := Lib.hid hz4
  replace hkw4 := Lib.hid hkw4
  replace hcl4 := Lib.hid hcl4
  clear hEnd
  go_wp2_with ((with_reducible refine store_at (ty := 39) (x := .tmp 4) (y := .tmp 55) ?_); refine ⟨w.heap.size + 2, OUT, 39, out0, rfl, rfl, hz4.out, hi.out, hsz0, hone, ?_⟩)
  refine bodyPost_ret (results_cell1 Tryz.results9 _ _ (w.heap.size + 2) 39 OUT (0, 0) _ rfl (setRow_heap _ _ _ _ _ _ hz4.out) Tryz.underlying39 rfl hi.out) rfl ⟨by rw [← hOUT.out]; rfl, ?_, ?_⟩
  · exact hcl4.out.row hz4.out (by decide) (by omega) (by omega)
  · exact hkw4.out.below (below_setRow (Below.refl _ _) (by omega) _)
set_option maxHeartbeats 4000000 in
set_option maxRecDepth 100000 in
theorem Take_end3 (m g : Nat) (s : CS) (L : LV) (hn : 0 ≤ s.num ∧ s.num ≤ 1000000000) (hrt : L.rt.size < 4294967281) (w : World) (h : Cl m g s w) (w0 : World) (hE0 : Env w0) (hB0 : Below w0.heap.size w0 w) (hm0 : w0.heap.size ≤ m) (hg0 : w0.heap.size ≤ g) (hbz : 0 < s.args.length) (hk : L.kind = 2) (hnn : L.num = s.num) (sl nd tk : Int) (hrv : readV L.rt.data.toList = (5, sl, nd, tk, true)) (hrk : (L.rk != 2) = false) : Calls Tryz.prog 9 #[.pointer (some ⟨g, 0, none⟩), .agg (lcells L)] w (DoPost m g ({ s with args := [] }, .done L.rk L.ri L.rt (.slice L.rl.1 L.rl.2.1 L.rl.2.2)) w) := by
  have dbusy : decide (0 < s.args.length) = true := decide_eq_true hbz
  have d1' := Lib.hid (show (L.kind != 2) = false by rw [hk]; rfl)
  have d2' := Lib.hid (show (L.num != s.num) = false by rw [hnn]; simp)
  clear hk hnn
  obtain ⟨A, c, hb, hr, hc, hT⟩ := h.box
  have hm := h.lt.1
  have hg := h.lt.2
  obtain ⟨hTS, hb0⟩ := take_world w g L hg hb
  have hcl0 := h.below hb0
  have hsz : (((w.alloc (.cells #[.pointer (some ⟨g, 0, none⟩)] 23)).alloc (.cells (lcells L) 35)).alloc (.cells out0 39)).heap.size = w.heap.size + 3 := by simp
  replace h := Lib.hid h
  replace hb := Lib.hid hb
  replace hr := Lib.hid hr
  replace hT := Lib.hid hT
  replace hcl0 := Lib.hid hcl0
  replace hTS := Lib.hid hTS
  replace hb0 := Lib.hid hb0
  replace hsz := Lib.hid hsz
  have hLC : lcells L = #[.int .i64 L.kind, .int .i64 L.num, .int .i64 L.slot, .int .i64 L.ends, .string L.key, .string L.text, .slice L.args.1 L.args.2.1 L.args.2.2, .int .i64 L.rk, .int .i64 L.ri, .string L.rt, .slice L.rl.1 L.rl.2.1 L.rl.2.2, .bool L.good, .int .i64 L.asking] := rfl
  rw [hLC]
  go_enter Tryz.func9, Tryz.ntmps9
  go_wp2_with fail
  change Code.wp _ _ _ _ (((w.alloc (.cells #[.pointer (some ⟨g, 0, none⟩)] 23)).alloc (.cells (lcells L) 35)).alloc (.cells out0 39))
  have hTS := hTS.out
  generalize (((w.alloc (.cells #[.pointer (some ⟨g, 0, none⟩)] 23)).alloc (.cells (lcells L) 35)).alloc (.cells out0 39)) = W0 at *
  refine wp_region_held_drew (S := TS g w.heap.size #[.int .i64 s.home, .map (some m), .slice A s.args.length c, .int .i64 s.num, .int .i64 s.bud] (lcells L) W0) (by kernel_rfl) (hTS.step ⟨rfl, rfl, rfl, Nat.le_refl _, fun _ _ => rfl⟩) (fun hHeld => ?_)
  refine wpAnyH_take (i := 0) (oi := ⟨some 8, _, _, _, _, _⟩) (v := .pointer (some ⟨g, 0, none⟩)) rfl (by kernel_rfl) (by kernel_rfl) (by kernel_rfl) (fun _ _ _ h => h) (Or.inl ⟨by rfl, fun W hW => by have q := hW.c0; go_simp⟩) (by assumption) ?_
  try simp only [Act.put, List.setIfInBounds_toArray, List.set_cons_zero, List.set_cons_succ]
  refine wpAnyH_ready (rs := [1]) (by kernel_rfl) (by simp) ?_
  refine AllReadyH.cons (o := ⟨some 9, _, _, _, _, _⟩) rfl (fun K hK => ?_) AllReadyH.nil
  go_simp
  refine (Busy_calls m g s _ (hcl0.out.below (TS.below (by assumption)))).mono ?_
  rintro e w1 ⟨rfl, rfl⟩
  rw [dbusy]
  go_wp2_with fail
  refine hK.out _ _ (by assumption) (fun hHeld1 => ?_)
  clear hK K
  try simp only [Act.put, List.setIfInBounds_toArray, List.set_cons_zero, List.set_cons_succ]
  refine wpAnyH_take (i := 2) (oi := ⟨some 10, _, _, _, _, _⟩) (v := .bool false) rfl (by kernel_rfl) (by kernel_rfl) (by kernel_rfl) (fun _ _ _ h => h) (Or.inl ⟨by rfl, fun W hW => by go_simp⟩) (by assumption) ?_
  try simp only [Act.put, List.setIfInBounds_toArray, List.set_cons_zero, List.set_cons_succ]
  refine wpAnyH_take (i := 3) (oi := ⟨some 11, _, _, _, _, _⟩) (v := .bool false) rfl (by kernel_rfl) (by kernel_rfl) (by kernel_rfl) (fun _ _ _ h => h) (Or.inl ⟨by rfl, fun W hW => by go_simp⟩) (by assumption) ?_
  try simp only [Act.put, List.setIfInBounds_toArray, List.set_cons_zero, List.set_cons_succ]
  refine wpAnyH_take (i := 4) (oi := ⟨some 12, _, _, _, _, _⟩) (v := .pointer (some ⟨w.heap.size + 1, 0, none⟩)) rfl (by kernel_rfl) (by kernel_rfl) (by kernel_rfl) (fun _ _ _ h => h) (Or.inl ⟨by rfl, fun W hW => by go_simp⟩) (by assumption) ?_
  try simp only [Act.put, List.setIfInBounds_toArray, List.set_cons_zero, List.set_cons_succ]
  refine wpAnyH_take (i := 5) (oi := ⟨some 13, _, _, _, _, _⟩) (v := .int .i64 L.kind) rfl (by kernel_rfl) (by kernel_rfl) (by kernel_rfl) (fun _ _ _ h => h) (Or.inl ⟨by rfl, fun W hW => by have q := hW.l0; go_simp⟩) (by assumption) ?_
  try simp only [Act.put, List.setIfInBounds_toArray, List.set_cons_zero, List.set_cons_succ]
  refine wpAnyH_take (i := 6) (oi := ⟨some 14, _, _, _, _, _⟩) (v := .bool false) rfl (by kernel_rfl) (by kernel_rfl) (by kernel_rfl) (fun _ _ _ h => h) (Or.inl ⟨by rfl, fun W hW => by have q := d1'.out; go_simp⟩) (by assumption) ?_
  try simp only [Act.put, List.setIfInBounds_toArray, List.set_cons_zero, List.set_cons_succ]
  refine wpAnyH_take (i := 7) (oi := ⟨some 15, _, _, _, _, _⟩) (v := .bool false) rfl (by kernel_rfl) (by kernel_rfl) (by kernel_rfl) (fun _ _ _ h => h) (Or.inl ⟨by rfl, fun W hW => by go_simp⟩) (by assumption) ?_
  try simp only [Act.put, List.setIfInBounds_toArray, List.set_cons_zero, List.set_cons_succ]
  refine wpAnyH_take (i := 8) (oi := ⟨some 16, _, _, _, _, _⟩) (v := .bool false) rfl (by kernel_rfl) (by kernel_rfl) (by kernel_rfl) (fun _ _ _ h => h) (Or.inl ⟨by rfl, fun W hW => by go_simp⟩) (by assumption) ?_
  try simp only [Act.put, List.setIfInBounds_toArray, List.set_cons_zero, List.set_cons_succ]
  refine wpAnyH_take (i := 9) (oi := ⟨some 17, _, _, _, _, _⟩) (v := .pointer (some ⟨w.heap.size + 1, 1, none⟩)) rfl (by kernel_rfl) (by kernel_rfl) (by kernel_rfl) (fun _ _ _ h => h) (Or.inl ⟨by rfl, fun W hW => by go_simp⟩) (by assumption) ?_
  try simp only [Act.put, List.setIfInBounds_toArray, List.set_cons_zero, List.set_cons_succ]
  refine wpAnyH_take (i := 10) (oi := ⟨some 18, _, _, _, _, _⟩) (v := .int .i64 L.num) rfl (by kernel_rfl) (by kernel_rfl) (by kernel_rfl) (fun _ _ _ h => h) (Or.inl ⟨by rfl, fun W hW => by have q := hW.l1; go_simp⟩) (by assumption) ?_
  try simp only [Act.put, List.setIfInBounds_toArray, List.set_cons_zero, List.set_cons_succ]
  refine wpAnyH_take (i := 11) (oi := ⟨some 19, _, _, _, _, _⟩) (v := .pointer (some ⟨g, 0, none⟩)) rfl (by kernel_rfl) (by kernel_rfl) (by kernel_rfl) (fun _ _ _ h => h) (Or.inl ⟨by rfl, fun W hW => by have q := hW.c0; go_simp⟩) (by assumption) ?_
  try simp only [Act.put, List.setIfInBounds_toArray, List.set_cons_zero, List.set_cons_succ]
  refine wpAnyH_take (i := 12) (oi := ⟨some 20, _, _, _, _, _⟩) (v := .pointer (some ⟨g, 0, none⟩)) rfl (by kernel_rfl) (by kernel_rfl) (by kernel_rfl) (fun _ _ _ h => h) (Or.inl ⟨by rfl, fun W hW => by go_simp⟩) (by assumption) ?_
  try simp only [Act.put, List.setIfInBounds_toArray, List.set_cons_zero, List.set_cons_succ]
  refine wpAnyH_take (i := 13) (oi := ⟨some 21, _, _, _, _, _⟩) (v := .pointer (some ⟨g, 3, none⟩)) rfl (by kernel_rfl) (by kernel_rfl) (by kernel_rfl) (fun _ _ _ h => h) (Or.inl ⟨by rfl, fun W hW => by go_simp⟩) (by assumption) ?_
  try simp only [Act.put, List.setIfInBounds_toArray, List.set_cons_zero, List.set_cons_succ]
  refine wpAnyH_take (i := 14) (oi := ⟨some 22, _, _, _, _, _⟩) (v := .int .i64 s.num) rfl (by kernel_rfl) (by kernel_rfl) (by kernel_rfl) (fun _ _ _ h => h) (Or.inl ⟨by rfl, fun W hW => by obtain ⟨q0, q1, q2, q3, q4⟩ := box_cells hW.bx; go_simp⟩) (by assumption) ?_
  try simp only [Act.put, List.setIfInBounds_toArray, List.set_cons_zero, List.set_cons_succ]
  refine wpAnyH_take (i := 15) (oi := ⟨some 23, _, _, _, _, _⟩) (v := .bool false) rfl (by kernel_rfl) (by kernel_rfl) (by kernel_rfl) (fun _ _ _ h => h) (Or.inl ⟨by rfl, fun W hW => by have q := d2'.out; go_simp⟩) (by assumption) ?_
  try simp only [Act.put, List.setIfInBounds_toArray, List.set_cons_zero, List.set_cons_succ]
  refine wpAnyH_take (i := 16) (oi := ⟨some 24, _, _, _, _, _⟩) (v := .bool false) rfl (by kernel_rfl) (by kernel_rfl) (by kernel_rfl) (fun _ _ _ h => h) (Or.inl ⟨by rfl, fun W hW => by go_simp⟩) (by assumption) ?_
  try simp only [Act.put, List.setIfInBounds_toArray, List.set_cons_zero, List.set_cons_succ]
  refine wpAnyH_done (by kernel_rfl) ?_ _
  generalize W0.drew = W1 at *
  have hTW : TS g w.heap.size #[.int .i64 s.home, .map (some m), .slice A s.args.length c, .int .i64 s.num, .int .i64 s.bud] (lcells L) W0 W1 := by assumption
  obtain ⟨q7, q8, q9, q10⟩ := letter_cells hTW
  have qb := hTW.c0
  have hbw1 : Below w.heap.size w W1 := hb0.out.trans (hTW.below.mono hb0.out.size)
  have hE1 := hE0.below (hB0.trans (hbw1.mono hB0.size))
  have hRd := Read_calls L.rt hrt W1 hE1
  have hc1 := hcl0.out.below hTW.below
  replace hTW := Lib.hid hTW
  replace hbw1 := Lib.hid hbw1
  replace hc1 := Lib.hid hc1
  clear hTS hHeld hHeld1 hE1
  rw [hrv] at hRd
  go_wp2_with fail
  refine hRd.mono ?_
  rintro e w2 ⟨rfl, hb2⟩
  have hT2 := hTW.out.step hb2
  have hc2 := hc1.out.below hb2
  have hbw2 := hbw1.out.trans (hb2.mono hbw1.out.size)
  obtain ⟨q7', q8', q9', q10'⟩ := letter_cells hT2
  have qb' := hT2.c0
  obtain ⟨k0, k1, k2, k3, k4⟩ := box_cells hT2.bx
  obtain ⟨z0, z1, z2, z3⟩ := hT2.lt
  clear q7 q8 q9 q10 qb hRd hb2 hTW hc1 hbw1

  have hbd : Below w2.heap.size w2 (w2.alloc (.cells #[.int .i64 5, .int .i64 sl, .int .i64 nd, .int .i64 tk] 60)) := below_alloc (Below.refl _ _) _
  have hc3 := hc2.below hbd
  have hT3 := hT2.step hbd
  have hbw3 := hbw2.trans (hbd.mono hbw2.size)
  have hEnd := End_calls m g w.heap.size s L.rk L.ri L.rt (L.rl.1) (L.rl.2.1) (L.rl.2.2) (w2.alloc (.cells #[.int .i64 5, .int .i64 sl, .int .i64 nd, .int .i64 tk] 60)) hc3 hT3.c0
  replace hc3 := Lib.hid hc3
  replace hT3 := Lib.hid hT3
  replace hbw3 := Lib.hid hbw3
  replace hbd := Lib.hid hbd
  replace hc2 := Lib.hid hc2
  replace hT2 := Lib.hid hT2
  replace hbw2 := Lib.hid hbw2
  go_wp2_with fail
  refine hEnd.mono ?_
  rintro e w4 ⟨ho, hcl4, hk4⟩
  have ho' : e = .returned (.agg (outC 0 0 0 (.slice none 0 0) 0 false L.rk L.ri L.rt (.slice (L.rl.1) (L.rl.2.1) (L.rl.2.2)) true)) := ho
  subst ho'
  have hz4 := (hk4.block (w.heap.size + 2) hT3.out.lt.2.2.1 (by omega) (by omega)).trans hT3.out.b2
  have hkw4 : Keep2 m g w w4 := ((Keep2.refl m g w).below hbw3.out).trans hk4
  generalize hOUT : outC 0 0 0 (.slice none 0 0) 0 false L.rk L.ri L.rt (.slice (L.rl.1) (L.rl.2.1) (L.rl.2.2)) true = OUT
  have hone : OUT.all (·.oneCell') = true := by rw [← hOUT]; exact out_one _ _ _ _ _ _ _ _ _ _ _ _ _ _ _
  have hsz : OUT.size = 20 := by rw [← hOUT]; rfl
  have hi : (Tryz.prog.info? 39).map (·.size) = some OUT.size := by rw [hsz]; exact info32
  have hsz0 : out0.size = OUT.size := by rw [hsz]; rfl
  replace hOUT := Lib.hid hOUT
  replace hi := Lib.hid hi
  replace hz4 := Lib.hid hz4
  replace hkw4 := Lib.hid hkw4
  replace hcl4 := Lib.hid hcl4
  clear hEnd
  go_wp2_with ((with_reducible refine store_at (ty := 39) (x := .tmp 4) (y := .tmp 55) ?_); refine ⟨w.heap.size + 2, OUT, 39, out0, rfl, rfl, hz4.out, hi.out, hsz0, hone, ?_⟩)
  refine bodyPost_ret (results_cell1 Tryz.results9 _ _ (w.heap.size + 2) 39 OUT (0, 0) _ rfl (setRow_heap _ _ _ _ _ _ hz4.out) Tryz.underlying39 rfl hi.out) rfl ⟨by rw [← hOUT.out]; rfl, ?_, ?_⟩
  · exact hcl4.out.row hz4.out (by decide) (by omega) (by omega)
  · exact hkw4.out.below (below_setRow (Below.refl _ _) (by omega) _)
set_option maxHeartbeats 4000000 in
set_option maxRecDepth 100000 in
theorem Take_end4 (m g : Nat) (s : CS) (L : LV) (hn : 0 ≤ s.num ∧ s.num ≤ 1000000000) (hrt : L.rt.size < 4294967281) (w : World) (h : Cl m g s w) (w0 : World) (hE0 : Env w0) (hB0 : Below w0.heap.size w0 w) (hm0 : w0.heap.size ≤ m) (hg0 : w0.heap.size ≤ g) (hbz : 0 < s.args.length) (hk : L.kind = 2) (hnn : L.num = s.num) (sl nd tk : Int) (hrv : readV L.rt.data.toList = (6, sl, nd, tk, true)) (hrk : (L.rk != 2) = false) : Calls Tryz.prog 9 #[.pointer (some ⟨g, 0, none⟩), .agg (lcells L)] w (DoPost m g ({ s with args := [] }, .done L.rk L.ri L.rt (.slice L.rl.1 L.rl.2.1 L.rl.2.2)) w) := by
  have dbusy : decide (0 < s.args.length) = true := decide_eq_true hbz
  have d1' := Lib.hid (show (L.kind != 2) = false by rw [hk]; rfl)
  have d2' := Lib.hid (show (L.num != s.num) = false by rw [hnn]; simp)
  clear hk hnn
  obtain ⟨A, c, hb, hr, hc, hT⟩ := h.box
  have hm := h.lt.1
  have hg := h.lt.2
  obtain ⟨hTS, hb0⟩ := take_world w g L hg hb
  have hcl0 := h.below hb0
  have hsz : (((w.alloc (.cells #[.pointer (some ⟨g, 0, none⟩)] 23)).alloc (.cells (lcells L) 35)).alloc (.cells out0 39)).heap.size = w.heap.size + 3 := by simp
  replace h := Lib.hid h
  replace hb := Lib.hid hb
  replace hr := Lib.hid hr
  replace hT := Lib.hid hT
  replace hcl0 := Lib.hid hcl0
  replace hTS := Lib.hid hTS
  replace hb0 := Lib.hid hb0
  replace hsz := Lib.hid hsz
  have hLC : lcells L = #[.int .i64 L.kind, .int .i64 L.num, .int .i64 L.slot, .int .i64 L.ends, .string L.key, .string L.text, .slice L.args.1 L.args.2.1 L.args.2.2, .int .i64 L.rk, .int .i64 L.ri, .string L.rt, .slice L.rl.1 L.rl.2.1 L.rl.2.2, .bool L.good, .int .i64 L.asking] := rfl
  rw [hLC]
  go_enter Tryz.func9, Tryz.ntmps9
  go_wp2_with fail
  change Code.wp _ _ _ _ (((w.alloc (.cells #[.pointer (some ⟨g, 0, none⟩)] 23)).alloc (.cells (lcells L) 35)).alloc (.cells out0 39))
  have hTS := hTS.out
  generalize (((w.alloc (.cells #[.pointer (some ⟨g, 0, none⟩)] 23)).alloc (.cells (lcells L) 35)).alloc (.cells out0 39)) = W0 at *
  refine wp_region_held_drew (S := TS g w.heap.size #[.int .i64 s.home, .map (some m), .slice A s.args.length c, .int .i64 s.num, .int .i64 s.bud] (lcells L) W0) (by kernel_rfl) (hTS.step ⟨rfl, rfl, rfl, Nat.le_refl _, fun _ _ => rfl⟩) (fun hHeld => ?_)
  refine wpAnyH_take (i := 0) (oi := ⟨some 8, _, _, _, _, _⟩) (v := .pointer (some ⟨g, 0, none⟩)) rfl (by kernel_rfl) (by kernel_rfl) (by kernel_rfl) (fun _ _ _ h => h) (Or.inl ⟨by rfl, fun W hW => by have q := hW.c0; go_simp⟩) (by assumption) ?_
  try simp only [Act.put, List.setIfInBounds_toArray, List.set_cons_zero, List.set_cons_succ]
  refine wpAnyH_ready (rs := [1]) (by kernel_rfl) (by simp) ?_
  refine AllReadyH.cons (o := ⟨some 9, _, _, _, _, _⟩) rfl (fun K hK => ?_) AllReadyH.nil
  go_simp
  refine (Busy_calls m g s _ (hcl0.out.below (TS.below (by assumption)))).mono ?_
  rintro e w1 ⟨rfl, rfl⟩
  rw [dbusy]
  go_wp2_with fail
  refine hK.out _ _ (by assumption) (fun hHeld1 => ?_)
  clear hK K
  try simp only [Act.put, List.setIfInBounds_toArray, List.set_cons_zero, List.set_cons_succ]
  refine wpAnyH_take (i := 2) (oi := ⟨some 10, _, _, _, _, _⟩) (v := .bool false) rfl (by kernel_rfl) (by kernel_rfl) (by kernel_rfl) (fun _ _ _ h => h) (Or.inl ⟨by rfl, fun W hW => by go_simp⟩) (by assumption) ?_
  try simp only [Act.put, List.setIfInBounds_toArray, List.set_cons_zero, List.set_cons_succ]
  refine wpAnyH_take (i := 3) (oi := ⟨some 11, _, _, _, _, _⟩) (v := .bool false) rfl (by kernel_rfl) (by kernel_rfl) (by kernel_rfl) (fun _ _ _ h => h) (Or.inl ⟨by rfl, fun W hW => by go_simp⟩) (by assumption) ?_
  try simp only [Act.put, List.setIfInBounds_toArray, List.set_cons_zero, List.set_cons_succ]
  refine wpAnyH_take (i := 4) (oi := ⟨some 12, _, _, _, _, _⟩) (v := .pointer (some ⟨w.heap.size + 1, 0, none⟩)) rfl (by kernel_rfl) (by kernel_rfl) (by kernel_rfl) (fun _ _ _ h => h) (Or.inl ⟨by rfl, fun W hW => by go_simp⟩) (by assumption) ?_
  try simp only [Act.put, List.setIfInBounds_toArray, List.set_cons_zero, List.set_cons_succ]
  refine wpAnyH_take (i := 5) (oi := ⟨some 13, _, _, _, _, _⟩) (v := .int .i64 L.kind) rfl (by kernel_rfl) (by kernel_rfl) (by kernel_rfl) (fun _ _ _ h => h) (Or.inl ⟨by rfl, fun W hW => by have q := hW.l0; go_simp⟩) (by assumption) ?_
  try simp only [Act.put, List.setIfInBounds_toArray, List.set_cons_zero, List.set_cons_succ]
  refine wpAnyH_take (i := 6) (oi := ⟨some 14, _, _, _, _, _⟩) (v := .bool false) rfl (by kernel_rfl) (by kernel_rfl) (by kernel_rfl) (fun _ _ _ h => h) (Or.inl ⟨by rfl, fun W hW => by have q := d1'.out; go_simp⟩) (by assumption) ?_
  try simp only [Act.put, List.setIfInBounds_toArray, List.set_cons_zero, List.set_cons_succ]
  refine wpAnyH_take (i := 7) (oi := ⟨some 15, _, _, _, _, _⟩) (v := .bool false) rfl (by kernel_rfl) (by kernel_rfl) (by kernel_rfl) (fun _ _ _ h => h) (Or.inl ⟨by rfl, fun W hW => by go_simp⟩) (by assumption) ?_
  try simp only [Act.put, List.setIfInBounds_toArray, List.set_cons_zero, List.set_cons_succ]
  refine wpAnyH_take (i := 8) (oi := ⟨some 16, _, _, _, _, _⟩) (v := .bool false) rfl (by kernel_rfl) (by kernel_rfl) (by kernel_rfl) (fun _ _ _ h => h) (Or.inl ⟨by rfl, fun W hW => by go_simp⟩) (by assumption) ?_
  try simp only [Act.put, List.setIfInBounds_toArray, List.set_cons_zero, List.set_cons_succ]
  refine wpAnyH_take (i := 9) (oi := ⟨some 17, _, _, _, _, _⟩) (v := .pointer (some ⟨w.heap.size + 1, 1, none⟩)) rfl (by kernel_rfl) (by kernel_rfl) (by kernel_rfl) (fun _ _ _ h => h) (Or.inl ⟨by rfl, fun W hW => by go_simp⟩) (by assumption) ?_
  try simp only [Act.put, List.setIfInBounds_toArray, List.set_cons_zero, List.set_cons_succ]
  refine wpAnyH_take (i := 10) (oi := ⟨some 18, _, _, _, _, _⟩) (v := .int .i64 L.num) rfl (by kernel_rfl) (by kernel_rfl) (by kernel_rfl) (fun _ _ _ h => h) (Or.inl ⟨by rfl, fun W hW => by have q := hW.l1; go_simp⟩) (by assumption) ?_
  try simp only [Act.put, List.setIfInBounds_toArray, List.set_cons_zero, List.set_cons_succ]
  refine wpAnyH_take (i := 11) (oi := ⟨some 19, _, _, _, _, _⟩) (v := .pointer (some ⟨g, 0, none⟩)) rfl (by kernel_rfl) (by kernel_rfl) (by kernel_rfl) (fun _ _ _ h => h) (Or.inl ⟨by rfl, fun W hW => by have q := hW.c0; go_simp⟩) (by assumption) ?_
  try simp only [Act.put, List.setIfInBounds_toArray, List.set_cons_zero, List.set_cons_succ]
  refine wpAnyH_take (i := 12) (oi := ⟨some 20, _, _, _, _, _⟩) (v := .pointer (some ⟨g, 0, none⟩)) rfl (by kernel_rfl) (by kernel_rfl) (by kernel_rfl) (fun _ _ _ h => h) (Or.inl ⟨by rfl, fun W hW => by go_simp⟩) (by assumption) ?_
  try simp only [Act.put, List.setIfInBounds_toArray, List.set_cons_zero, List.set_cons_succ]
  refine wpAnyH_take (i := 13) (oi := ⟨some 21, _, _, _, _, _⟩) (v := .pointer (some ⟨g, 3, none⟩)) rfl (by kernel_rfl) (by kernel_rfl) (by kernel_rfl) (fun _ _ _ h => h) (Or.inl ⟨by rfl, fun W hW => by go_simp⟩) (by assumption) ?_
  try simp only [Act.put, List.setIfInBounds_toArray, List.set_cons_zero, List.set_cons_succ]
  refine wpAnyH_take (i := 14) (oi := ⟨some 22, _, _, _, _, _⟩) (v := .int .i64 s.num) rfl (by kernel_rfl) (by kernel_rfl) (by kernel_rfl) (fun _ _ _ h => h) (Or.inl ⟨by rfl, fun W hW => by obtain ⟨q0, q1, q2, q3, q4⟩ := box_cells hW.bx; go_simp⟩) (by assumption) ?_
  try simp only [Act.put, List.setIfInBounds_toArray, List.set_cons_zero, List.set_cons_succ]
  refine wpAnyH_take (i := 15) (oi := ⟨some 23, _, _, _, _, _⟩) (v := .bool false) rfl (by kernel_rfl) (by kernel_rfl) (by kernel_rfl) (fun _ _ _ h => h) (Or.inl ⟨by rfl, fun W hW => by have q := d2'.out; go_simp⟩) (by assumption) ?_
  try simp only [Act.put, List.setIfInBounds_toArray, List.set_cons_zero, List.set_cons_succ]
  refine wpAnyH_take (i := 16) (oi := ⟨some 24, _, _, _, _, _⟩) (v := .bool false) rfl (by kernel_rfl) (by kernel_rfl) (by kernel_rfl) (fun _ _ _ h => h) (Or.inl ⟨by rfl, fun W hW => by go_simp⟩) (by assumption) ?_
  try simp only [Act.put, List.setIfInBounds_toArray, List.set_cons_zero, List.set_cons_succ]
  refine wpAnyH_done (by kernel_rfl) ?_ _
  generalize W0.drew = W1 at *
  have hTW : TS g w.heap.size #[.int .i64 s.home, .map (some m), .slice A s.args.length c, .int .i64 s.num, .int .i64 s.bud] (lcells L) W0 W1 := by assumption
  obtain ⟨q7, q8, q9, q10⟩ := letter_cells hTW
  have qb := hTW.c0
  have hbw1 : Below w.heap.size w W1 := hb0.out.trans (hTW.below.mono hb0.out.size)
  have hE1 := hE0.below (hB0.trans (hbw1.mono hB0.size))
  have hRd := Read_calls L.rt hrt W1 hE1
  have hc1 := hcl0.out.below hTW.below
  replace hTW := Lib.hid hTW
  replace hbw1 := Lib.hid hbw1
  replace hc1 := Lib.hid hc1
  clear hTS hHeld hHeld1 hE1
  rw [hrv] at hRd
  go_wp2_with fail
  refine hRd.mono ?_
  rintro e w2 ⟨rfl, hb2⟩
  have hT2 := hTW.out.step hb2
  have hc2 := hc1.out.below hb2
  have hbw2 := hbw1.out.trans (hb2.mono hbw1.out.size)
  obtain ⟨q7', q8', q9', q10'⟩ := letter_cells hT2
  have qb' := hT2.c0
  obtain ⟨k0, k1, k2, k3, k4⟩ := box_cells hT2.bx
  obtain ⟨z0, z1, z2, z3⟩ := hT2.lt
  clear q7 q8 q9 q10 qb hRd hb2 hTW hc1 hbw1

  have hbd : Below w2.heap.size w2 (w2.alloc (.cells #[.int .i64 6, .int .i64 sl, .int .i64 nd, .int .i64 tk] 60)) := below_alloc (Below.refl _ _) _
  have hc3 := hc2.below hbd
  have hT3 := hT2.step hbd
  have hbw3 := hbw2.trans (hbd.mono hbw2.size)
  have hEnd := End_calls m g w.heap.size s L.rk L.ri L.rt (L.rl.1) (L.rl.2.1) (L.rl.2.2) (w2.alloc (.cells #[.int .i64 6, .int .i64 sl, .int .i64 nd, .int .i64 tk] 60)) hc3 hT3.c0
  replace hc3 := Lib.hid hc3
  replace hT3 := Lib.hid hT3
  replace hbw3 := Lib.hid hbw3
  replace hbd := Lib.hid hbd
  replace hc2 := Lib.hid hc2
  replace hT2 := Lib.hid hT2
  replace hbw2 := Lib.hid hbw2
  go_wp2_with fail
  refine hEnd.mono ?_
  rintro e w4 ⟨ho, hcl4, hk4⟩
  have ho' : e = .returned (.agg (outC 0 0 0 (.slice none 0 0) 0 false L.rk L.ri L.rt (.slice (L.rl.1) (L.rl.2.1) (L.rl.2.2)) true)) := ho
  subst ho'
  have hz4 := (hk4.block (w.heap.size + 2) hT3.out.lt.2.2.1 (by omega) (by omega)).trans hT3.out.b2
  have hkw4 : Keep2 m g w w4 := ((Keep2.refl m g w).below hbw3.out).trans hk4
  generalize hOUT : outC 0 0 0 (.slice none 0 0) 0 false L.rk L.ri L.rt (.slice (L.rl.1) (L.rl.2.1) (L.rl.2.2)) true = OUT
  have hone : OUT.all (·.oneCell') = true := by rw [← hOUT]; exact out_one _ _ _ _ _ _ _ _ _ _ _ _ _ _ _
  have hsz : OUT.size = 20 := by rw [← hOUT]; rfl
  have hi : (Tryz.prog.info? 39).map (·.size) = some OUT.size := by rw [hsz]; exact info32
  have hsz0 : out0.size = OUT.size := by rw [hsz]; rfl
  replace hOUT := Lib.hid hOUT
  replace hi := Lib.hid hi
  replace hz4 := Lib.hid hz4
  replace hkw4 := Lib.hid hkw4
  replace hcl4 := Lib.hid hcl4
  clear hEnd
  go_wp2_with ((with_reducible refine store_at (ty := 39) (x := .tmp 4) (y := .tmp 55) ?_); refine ⟨w.heap.size + 2, OUT, 39, out0, rfl, rfl, hz4.out, hi.out, hsz0, hone, ?_⟩)
  refine bodyPost_ret (results_cell1 Tryz.results9 _ _ (w.heap.size + 2) 39 OUT (0, 0) _ rfl (setRow_heap _ _ _ _ _ _ hz4.out) Tryz.underlying39 rfl hi.out) rfl ⟨by rw [← hOUT.out]; rfl, ?_, ?_⟩
  · exact hcl4.out.row hz4.out (by decide) (by omega) (by omega)
  · exact hkw4.out.below (below_setRow (Below.refl _ _) (by omega) _)
end Go.Proofs.YtpbiohnmmngccaaGreatDoor

namespace Go.Proofs.YtpbiohnmmngccaaGreatDoor
open Go Go.RowKit Go.Maps Go.Proofs.YtpbiohnmmngccaaGreatDoorW.PrintWords
open RtS
theorem Wrong_calls (t : ByteArray) (w : World) : Calls Tryz.prog 22 #[.string t] w fun e w' => e = .returned (.agg #[.int .i64 2, .int .i64 0, .string t, .slice none 0 0]) ∧ Below w.heap.size w w' := by
  go_enter Tryz.func22, Tryz.ntmps22
  go_wp2_with fail
  exact bodyPost_ret (results_cell1 Tryz.results22 _ _ w.heap.size 33 _ (0, 0) _ rfl (heap_alloc_new _ _) Tryz.underlying33 rfl (by kernel_rfl)) rfl ⟨rfl, below_alloc (Below.refl _ _) _⟩
set_option maxHeartbeats 4000000 in
set_option maxRecDepth 100000 in
theorem Take_spent (m g : Nat) (s : CS) (L : LV) (hn : 0 ≤ s.num ∧ s.num ≤ 1000000000) (hrt : L.rt.size < 4294967281) (w : World) (h : Cl m g s w) (w0 : World) (hE0 : Env w0) (hB0 : Below w0.heap.size w0 w) (hm0 : w0.heap.size ≤ m) (hg0 : w0.heap.size ≤ g) (hbz : 0 < s.args.length) (hk : L.kind = 2) (hnn : L.num = s.num) (k sl nd tk : Int) (hrv : readV L.rt.data.toList = (k, sl, nd, tk, true)) (hrk : (L.rk != 2) = false) (h5 : (k == 5) = false) (h6 : (k == 6) = false) (hbud : (s.bud == 0) = true) : Calls Tryz.prog 9 #[.pointer (some ⟨g, 0, none⟩), .agg (lcells L)] w (DoPost m g ({ s with args := [] }, .done 2 0 wrongT (.slice none 0 0)) w) := by
  have dbusy : decide (0 < s.args.length) = true := decide_eq_true hbz
  have d1' := Lib.hid (show (L.kind != 2) = false by rw [hk]; rfl)
  have d2' := Lib.hid (show (L.num != s.num) = false by rw [hnn]; simp)
  clear hk hnn
  obtain ⟨A, c, hb, hr, hc, hT⟩ := h.box
  have hm := h.lt.1
  have hg := h.lt.2
  obtain ⟨hTS, hb0⟩ := take_world w g L hg hb
  have hcl0 := h.below hb0
  have hsz : (((w.alloc (.cells #[.pointer (some ⟨g, 0, none⟩)] 23)).alloc (.cells (lcells L) 35)).alloc (.cells out0 39)).heap.size = w.heap.size + 3 := by simp
  replace h := Lib.hid h
  replace hb := Lib.hid hb
  replace hr := Lib.hid hr
  replace hT := Lib.hid hT
  replace hcl0 := Lib.hid hcl0
  replace hTS := Lib.hid hTS
  replace hb0 := Lib.hid hb0
  replace hsz := Lib.hid hsz
  have hLC : lcells L = #[.int .i64 L.kind, .int .i64 L.num, .int .i64 L.slot, .int .i64 L.ends, .string L.key, .string L.text, .slice L.args.1 L.args.2.1 L.args.2.2, .int .i64 L.rk, .int .i64 L.ri, .string L.rt, .slice L.rl.1 L.rl.2.1 L.rl.2.2, .bool L.good, .int .i64 L.asking] := rfl
  rw [hLC]
  go_enter Tryz.func9, Tryz.ntmps9
  go_wp2_with fail
  change Code.wp _ _ _ _ (((w.alloc (.cells #[.pointer (some ⟨g, 0, none⟩)] 23)).alloc (.cells (lcells L) 35)).alloc (.cells out0 39))
  have hTS := hTS.out
  generalize (((w.alloc (.cells #[.pointer (some ⟨g, 0, none⟩)] 23)).alloc (.cells (lcells L) 35)).alloc (.cells out0 39)) = W0 at *
  refine wp_region_held_drew (S := TS g w.heap.size #[.int .i64 s.home, .map (some m), .slice A s.args.length c, .int .i64 s.num, .int .i64 s.bud] (lcells L) W0) (by kernel_rfl) (hTS.step ⟨rfl, rfl, rfl, Nat.le_refl _, fun _ _ => rfl⟩) (fun hHeld => ?_)
  refine wpAnyH_take (i := 0) (oi := ⟨some 8, _, _, _, _, _⟩) (v := .pointer (some ⟨g, 0, none⟩)) rfl (by kernel_rfl) (by kernel_rfl) (by kernel_rfl) (fun _ _ _ h => h) (Or.inl ⟨by rfl, fun W hW => by have q := hW.c0; go_simp⟩) (by assumption) ?_
  try simp only [Act.put, List.setIfInBounds_toArray, List.set_cons_zero, List.set_cons_succ]
  refine wpAnyH_ready (rs := [1]) (by kernel_rfl) (by simp) ?_
  refine AllReadyH.cons (o := ⟨some 9, _, _, _, _, _⟩) rfl (fun K hK => ?_) AllReadyH.nil
  go_simp
  refine (Busy_calls m g s _ (hcl0.out.below (TS.below (by assumption)))).mono ?_
  rintro e w1 ⟨rfl, rfl⟩
  rw [dbusy]
  go_wp2_with fail
  refine hK.out _ _ (by assumption) (fun hHeld1 => ?_)
  clear hK K
  try simp only [Act.put, List.setIfInBounds_toArray, List.set_cons_zero, List.set_cons_succ]
  refine wpAnyH_take (i := 2) (oi := ⟨some 10, _, _, _, _, _⟩) (v := .bool false) rfl (by kernel_rfl) (by kernel_rfl) (by kernel_rfl) (fun _ _ _ h => h) (Or.inl ⟨by rfl, fun W hW => by go_simp⟩) (by assumption) ?_
  try simp only [Act.put, List.setIfInBounds_toArray, List.set_cons_zero, List.set_cons_succ]
  refine wpAnyH_take (i := 3) (oi := ⟨some 11, _, _, _, _, _⟩) (v := .bool false) rfl (by kernel_rfl) (by kernel_rfl) (by kernel_rfl) (fun _ _ _ h => h) (Or.inl ⟨by rfl, fun W hW => by go_simp⟩) (by assumption) ?_
  try simp only [Act.put, List.setIfInBounds_toArray, List.set_cons_zero, List.set_cons_succ]
  refine wpAnyH_take (i := 4) (oi := ⟨some 12, _, _, _, _, _⟩) (v := .pointer (some ⟨w.heap.size + 1, 0, none⟩)) rfl (by kernel_rfl) (by kernel_rfl) (by kernel_rfl) (fun _ _ _ h => h) (Or.inl ⟨by rfl, fun W hW => by go_simp⟩) (by assumption) ?_
  try simp only [Act.put, List.setIfInBounds_toArray, List.set_cons_zero, List.set_cons_succ]
  refine wpAnyH_take (i := 5) (oi := ⟨some 13, _, _, _, _, _⟩) (v := .int .i64 L.kind) rfl (by kernel_rfl) (by kernel_rfl) (by kernel_rfl) (fun _ _ _ h => h) (Or.inl ⟨by rfl, fun W hW => by have q := hW.l0; go_simp⟩) (by assumption) ?_
  try simp only [Act.put, List.setIfInBounds_toArray, List.set_cons_zero, List.set_cons_succ]
  refine wpAnyH_take (i := 6) (oi := ⟨some 14, _, _, _, _, _⟩) (v := .bool false) rfl (by kernel_rfl) (by kernel_rfl) (by kernel_rfl) (fun _ _ _ h => h) (Or.inl ⟨by rfl, fun W hW => by have q := d1'.out; go_simp⟩) (by assumption) ?_
  try simp only [Act.put, List.setIfInBounds_toArray, List.set_cons_zero, List.set_cons_succ]
  refine wpAnyH_take (i := 7) (oi := ⟨some 15, _, _, _, _, _⟩) (v := .bool false) rfl (by kernel_rfl) (by kernel_rfl) (by kernel_rfl) (fun _ _ _ h => h) (Or.inl ⟨by rfl, fun W hW => by go_simp⟩) (by assumption) ?_
  try simp only [Act.put, List.setIfInBounds_toArray, List.set_cons_zero, List.set_cons_succ]
  refine wpAnyH_take (i := 8) (oi := ⟨some 16, _, _, _, _, _⟩) (v := .bool false) rfl (by kernel_rfl) (by kernel_rfl) (by kernel_rfl) (fun _ _ _ h => h) (Or.inl ⟨by rfl, fun W hW => by go_simp⟩) (by assumption) ?_
  try simp only [Act.put, List.setIfInBounds_toArray, List.set_cons_zero, List.set_cons_succ]
  refine wpAnyH_take (i := 9) (oi := ⟨some 17, _, _, _, _, _⟩) (v := .pointer (some ⟨w.heap.size + 1, 1, none⟩)) rfl (by kernel_rfl) (by kernel_rfl) (by kernel_rfl) (fun _ _ _ h => h) (Or.inl ⟨by rfl, fun W hW => by go_simp⟩) (by assumption) ?_
  try simp only [Act.put, List.setIfInBounds_toArray, List.set_cons_zero, List.set_cons_succ]
  refine wpAnyH_take (i := 10) (oi := ⟨some 18, _, _, _, _, _⟩) (v := .int .i64 L.num) rfl (by kernel_rfl) (by kernel_rfl) (by kernel_rfl) (fun _ _ _ h => h) (Or.inl ⟨by rfl, fun W hW => by have q := hW.l1; go_simp⟩) (by assumption) ?_
  try simp only [Act.put, List.setIfInBounds_toArray, List.set_cons_zero, List.set_cons_succ]
  refine wpAnyH_take (i := 11) (oi := ⟨some 19, _, _, _, _, _⟩) (v := .pointer (some ⟨g, 0, none⟩)) rfl (by kernel_rfl) (by kernel_rfl) (by kernel_rfl) (fun _ _ _ h => h) (Or.inl ⟨by rfl, fun W hW => by have q := hW.c0; go_simp⟩) (by assumption) ?_
  try simp only [Act.put, List.setIfInBounds_toArray, List.set_cons_zero, List.set_cons_succ]
  refine wpAnyH_take (i := 12) (oi := ⟨some 20, _, _, _, _, _⟩) (v := .pointer (some ⟨g, 0, none⟩)) rfl (by kernel_rfl) (by kernel_rfl) (by kernel_rfl) (fun _ _ _ h => h) (Or.inl ⟨by rfl, fun W hW => by go_simp⟩) (by assumption) ?_
  try simp only [Act.put, List.setIfInBounds_toArray, List.set_cons_zero, List.set_cons_succ]
  refine wpAnyH_take (i := 13) (oi := ⟨some 21, _, _, _, _, _⟩) (v := .pointer (some ⟨g, 3, none⟩)) rfl (by kernel_rfl) (by kernel_rfl) (by kernel_rfl) (fun _ _ _ h => h) (Or.inl ⟨by rfl, fun W hW => by go_simp⟩) (by assumption) ?_
  try simp only [Act.put, List.setIfInBounds_toArray, List.set_cons_zero, List.set_cons_succ]
  refine wpAnyH_take (i := 14) (oi := ⟨some 22, _, _, _, _, _⟩) (v := .int .i64 s.num) rfl (by kernel_rfl) (by kernel_rfl) (by kernel_rfl) (fun _ _ _ h => h) (Or.inl ⟨by rfl, fun W hW => by obtain ⟨q0, q1, q2, q3, q4⟩ := box_cells hW.bx; go_simp⟩) (by assumption) ?_
  try simp only [Act.put, List.setIfInBounds_toArray, List.set_cons_zero, List.set_cons_succ]
  refine wpAnyH_take (i := 15) (oi := ⟨some 23, _, _, _, _, _⟩) (v := .bool false) rfl (by kernel_rfl) (by kernel_rfl) (by kernel_rfl) (fun _ _ _ h => h) (Or.inl ⟨by rfl, fun W hW => by have q := d2'.out; go_simp⟩) (by assumption) ?_
  try simp only [Act.put, List.setIfInBounds_toArray, List.set_cons_zero, List.set_cons_succ]
  refine wpAnyH_take (i := 16) (oi := ⟨some 24, _, _, _, _, _⟩) (v := .bool false) rfl (by kernel_rfl) (by kernel_rfl) (by kernel_rfl) (fun _ _ _ h => h) (Or.inl ⟨by rfl, fun W hW => by go_simp⟩) (by assumption) ?_
  try simp only [Act.put, List.setIfInBounds_toArray, List.set_cons_zero, List.set_cons_succ]
  refine wpAnyH_done (by kernel_rfl) ?_ _
  generalize W0.drew = W1 at *
  have hTW : TS g w.heap.size #[.int .i64 s.home, .map (some m), .slice A s.args.length c, .int .i64 s.num, .int .i64 s.bud] (lcells L) W0 W1 := by assumption
  obtain ⟨q7, q8, q9, q10⟩ := letter_cells hTW
  have qb := hTW.c0
  have hbw1 : Below w.heap.size w W1 := hb0.out.trans (hTW.below.mono hb0.out.size)
  have hE1 := hE0.below (hB0.trans (hbw1.mono hB0.size))
  have hRd := Read_calls L.rt hrt W1 hE1
  have hc1 := hcl0.out.below hTW.below
  replace hTW := Lib.hid hTW
  replace hbw1 := Lib.hid hbw1
  replace hc1 := Lib.hid hc1
  clear hTS hHeld hHeld1 hE1
  rw [hrv] at hRd
  go_wp2_with fail
  refine hRd.mono ?_
  rintro e w2 ⟨rfl, hb2⟩
  have hT2 := hTW.out.step hb2
  have hc2 := hc1.out.below hb2
  have hbw2 := hbw1.out.trans (hb2.mono hbw1.out.size)
  obtain ⟨q7', q8', q9', q10'⟩ := letter_cells hT2
  have qb' := hT2.c0
  obtain ⟨k0, k1, k2, k3, k4⟩ := box_cells hT2.bx
  obtain ⟨z0, z1, z2, z3⟩ := hT2.lt
  clear q7 q8 q9 q10 qb hRd hb2 hTW hc1 hbw1

  have hbd : Below w2.heap.size w2 (w2.alloc (.cells #[.int .i64 k, .int .i64 sl, .int .i64 nd, .int .i64 tk] 60)) := below_alloc (Below.refl _ _) _
  have hc3 := hc2.below hbd
  have hT3 := hT2.step hbd
  have hbw3 := hbw2.trans (hbd.mono hbw2.size)
  have hWr := Wrong_calls wrongT (w2.alloc (.cells #[.int .i64 k, .int .i64 sl, .int .i64 nd, .int .i64 tk] 60))
  replace hc3 := Lib.hid hc3
  replace hT3 := Lib.hid hT3
  replace hbw3 := Lib.hid hbw3
  replace hbd := Lib.hid hbd
  replace hc2 := Lib.hid hc2
  replace hT2 := Lib.hid hT2
  replace hbw2 := Lib.hid hbw2
  go_wp2_with fail
  refine hWr.mono ?_
  rintro e w5 ⟨rfl, hb5⟩
  have hc5 := hc3.out.below hb5
  have hT5 := hT3.out.step hb5
  have hbw5 := hbw3.out.trans (hb5.mono hbw3.out.size)
  have hEnd := End_calls m g w.heap.size s 2 0 wrongT none 0 0 w5 hc5 hT5.c0
  replace hc5 := Lib.hid hc5
  replace hT5 := Lib.hid hT5
  replace hbw5 := Lib.hid hbw5
  clear hc3 hT3 hbw3 hb5 hWr hbd
  go_wp2_with fail
  refine hEnd.mono ?_
  rintro e w4 ⟨ho, hcl4, hk4⟩
  have ho' : e = .returned (.agg (outC 0 0 0 (.slice none 0 0) 0 false 2 0 wrongT (.slice none 0 0) true)) := ho
  subst ho'
  have hz4 := (hk4.block (w.heap.size + 2) hT5.out.lt.2.2.1 (by omega) (by omega)).trans hT5.out.b2
  have hkw4 : Keep2 m g w w4 := ((Keep2.refl m g w).below hbw5.out).trans hk4
  generalize hOUT : outC 0 0 0 (.slice none 0 0) 0 false 2 0 wrongT (.slice none 0 0) true = OUT
  have hone : OUT.all (·.oneCell') = true := by rw [← hOUT]; exact out_one _ _ _ _ _ _ _ _ _ _ _ _ _ _ _
  have hsz : OUT.size = 20 := by rw [← hOUT]; rfl
  have hi : (Tryz.prog.info? 39).map (·.size) = some OUT.size := by rw [hsz]; exact info32
  have hsz0 : out0.size = OUT.size := by rw [hsz]; rfl
  replace hOUT := Lib.hid hOUT
  replace hi := Lib.hid hi
  replace hz4 := Lib.hid hz4
  replace hkw4 := Lib.hid hkw4
  replace hcl4 := Lib.hid hcl4
  clear hEnd
  go_wp2_with ((with_reducible refine store_at (ty := 39) (x := .tmp 4) (y := .tmp 63) ?_); refine ⟨w.heap.size + 2, OUT, 39, out0, rfl, rfl, hz4.out, hi.out, hsz0, hone, ?_⟩)
  refine bodyPost_ret (results_cell1 Tryz.results9 _ _ (w.heap.size + 2) 39 OUT (0, 0) _ rfl (setRow_heap _ _ _ _ _ _ hz4.out) Tryz.underlying39 rfl hi.out) rfl ⟨by rw [← hOUT.out]; rfl, ?_, ?_⟩
  · exact hcl4.out.row hz4.out (by decide) (by omega) (by omega)
  · exact hkw4.out.below (below_setRow (Below.refl _ _) (by omega) _)
end Go.Proofs.YtpbiohnmmngccaaGreatDoor

namespace Go.Proofs.YtpbiohnmmngccaaGreatDoor
open Go Go.RowKit Go.Maps Go.Proofs.YtpbiohnmmngccaaGreatDoorW.PrintWords
open RtS
theorem Cl.spend {m g : Nat} {s : CS} {W : World} (h : Cl m g s W) (v : Int) : Cl m g { s with bud := v } (W.setCell ⟨g, 4, none⟩ (.int .i64 v)) ∧ Keep2 m g W (W.setCell ⟨g, 4, none⟩ (.int .i64 v)) := by
  have ho : ∀ k, k ≠ g → (W.setCell ⟨g, 4, none⟩ (.int .i64 v)).heap[k]? = W.heap[k]? := fun k hk => Below.heap_setCell _ _ _ k hk
  have hk : Keep2 m g W (W.setCell ⟨g, 4, none⟩ (.int .i64 v)) := ⟨rfl, rfl, rfl, by simp, fun k _ _ h2 => ho k h2⟩
  obtain ⟨A, c, h1, h2, h3, h8⟩ := h.box
  obtain ⟨n, D, ⟨es, ck, h4, h5⟩, h6, h7⟩ := h.map
  have hs := hk.str ⟨_, _, h1⟩ ⟨_, _, h4⟩
  exact ⟨⟨⟨A, c, heap_setCell_same _ g 4 _ _ _ h1, strs_keep h2 h8 hs, h3, T9.keep h8 hs⟩, ⟨n, D, ⟨es, ck, (ho m h.ne).trans h4, h5⟩, h6, h7⟩, h.ne⟩, hk⟩
set_option maxHeartbeats 4000000 in
set_option maxRecDepth 100000 in
theorem Take_ask (m g : Nat) (s : CS) (L : LV) (hn : 0 ≤ s.num ∧ s.num ≤ 1000000000) (hrt : L.rt.size < 4294967281) (w : World) (h : Cl m g s w) (w0 : World) (hE0 : Env w0) (hB0 : Below w0.heap.size w0 w) (hm0 : w0.heap.size ≤ m) (hg0 : w0.heap.size ≤ g) (hbz : 0 < s.args.length) (hk : L.kind = 2) (hnn : L.num = s.num) (hl : s.args.length ≤ 1000000) (hbu : 1 ≤ s.bud ∧ s.bud ≤ 1000) (sl nd tk : Int) (hrv : readV L.rt.data.toList = (3, sl, nd, tk, true)) (hrk : (L.rk != 2) = false) : Calls Tryz.prog 9 #[.pointer (some ⟨g, 0, none⟩), .agg (lcells L)] w (DoPost m g ({ s with bud := s.bud - 1, num := s.num + 1 }, .send nd tk) w) := by
  have dbusy : decide (0 < s.args.length) = true := decide_eq_true hbz
  have d1' := Lib.hid (show (L.kind != 2) = false by rw [hk]; rfl)
  have d2' := Lib.hid (show (L.num != s.num) = false by rw [hnn]; simp)
  clear hk hnn
  have hwb : IntKind.i64.wrap (s.bud - 1) = s.bud - 1 := by simp [IntKind.wrap, IntKind.bits, IntKind.signed]; omega
  have hbne : (s.bud == 0) = false := by rw [beq_eq_false_iff_ne]; omega
  obtain ⟨A, c, hb, hr, hc, hT⟩ := h.box
  have hm := h.lt.1
  have hg := h.lt.2
  obtain ⟨hTS, hb0⟩ := take_world w g L hg hb
  have hcl0 := h.below hb0
  have hsz : (((w.alloc (.cells #[.pointer (some ⟨g, 0, none⟩)] 23)).alloc (.cells (lcells L) 35)).alloc (.cells out0 39)).heap.size = w.heap.size + 3 := by simp
  replace h := Lib.hid h
  replace hb := Lib.hid hb
  replace hr := Lib.hid hr
  replace hT := Lib.hid hT
  replace hcl0 := Lib.hid hcl0
  replace hTS := Lib.hid hTS
  replace hb0 := Lib.hid hb0
  replace hsz := Lib.hid hsz
  have hLC : lcells L = #[.int .i64 L.kind, .int .i64 L.num, .int .i64 L.slot, .int .i64 L.ends, .string L.key, .string L.text, .slice L.args.1 L.args.2.1 L.args.2.2, .int .i64 L.rk, .int .i64 L.ri, .string L.rt, .slice L.rl.1 L.rl.2.1 L.rl.2.2, .bool L.good, .int .i64 L.asking] := rfl
  rw [hLC]
  go_enter Tryz.func9, Tryz.ntmps9
  go_wp2_with fail
  change Code.wp _ _ _ _ (((w.alloc (.cells #[.pointer (some ⟨g, 0, none⟩)] 23)).alloc (.cells (lcells L) 35)).alloc (.cells out0 39))
  have hTS := hTS.out
  generalize (((w.alloc (.cells #[.pointer (some ⟨g, 0, none⟩)] 23)).alloc (.cells (lcells L) 35)).alloc (.cells out0 39)) = W0 at *
  refine wp_region_held_drew (S := TS g w.heap.size #[.int .i64 s.home, .map (some m), .slice A s.args.length c, .int .i64 s.num, .int .i64 s.bud] (lcells L) W0) (by kernel_rfl) (hTS.step ⟨rfl, rfl, rfl, Nat.le_refl _, fun _ _ => rfl⟩) (fun hHeld => ?_)
  refine wpAnyH_take (i := 0) (oi := ⟨some 8, _, _, _, _, _⟩) (v := .pointer (some ⟨g, 0, none⟩)) rfl (by kernel_rfl) (by kernel_rfl) (by kernel_rfl) (fun _ _ _ h => h) (Or.inl ⟨by rfl, fun W hW => by have q := hW.c0; go_simp⟩) (by assumption) ?_
  try simp only [Act.put, List.setIfInBounds_toArray, List.set_cons_zero, List.set_cons_succ]
  refine wpAnyH_ready (rs := [1]) (by kernel_rfl) (by simp) ?_
  refine AllReadyH.cons (o := ⟨some 9, _, _, _, _, _⟩) rfl (fun K hK => ?_) AllReadyH.nil
  go_simp
  refine (Busy_calls m g s _ (hcl0.out.below (TS.below (by assumption)))).mono ?_
  rintro e w1 ⟨rfl, rfl⟩
  rw [dbusy]
  go_wp2_with fail
  refine hK.out _ _ (by assumption) (fun hHeld1 => ?_)
  clear hK K
  try simp only [Act.put, List.setIfInBounds_toArray, List.set_cons_zero, List.set_cons_succ]
  refine wpAnyH_take (i := 2) (oi := ⟨some 10, _, _, _, _, _⟩) (v := .bool false) rfl (by kernel_rfl) (by kernel_rfl) (by kernel_rfl) (fun _ _ _ h => h) (Or.inl ⟨by rfl, fun W hW => by go_simp⟩) (by assumption) ?_
  try simp only [Act.put, List.setIfInBounds_toArray, List.set_cons_zero, List.set_cons_succ]
  refine wpAnyH_take (i := 3) (oi := ⟨some 11, _, _, _, _, _⟩) (v := .bool false) rfl (by kernel_rfl) (by kernel_rfl) (by kernel_rfl) (fun _ _ _ h => h) (Or.inl ⟨by rfl, fun W hW => by go_simp⟩) (by assumption) ?_
  try simp only [Act.put, List.setIfInBounds_toArray, List.set_cons_zero, List.set_cons_succ]
  refine wpAnyH_take (i := 4) (oi := ⟨some 12, _, _, _, _, _⟩) (v := .pointer (some ⟨w.heap.size + 1, 0, none⟩)) rfl (by kernel_rfl) (by kernel_rfl) (by kernel_rfl) (fun _ _ _ h => h) (Or.inl ⟨by rfl, fun W hW => by go_simp⟩) (by assumption) ?_
  try simp only [Act.put, List.setIfInBounds_toArray, List.set_cons_zero, List.set_cons_succ]
  refine wpAnyH_take (i := 5) (oi := ⟨some 13, _, _, _, _, _⟩) (v := .int .i64 L.kind) rfl (by kernel_rfl) (by kernel_rfl) (by kernel_rfl) (fun _ _ _ h => h) (Or.inl ⟨by rfl, fun W hW => by have q := hW.l0; go_simp⟩) (by assumption) ?_
  try simp only [Act.put, List.setIfInBounds_toArray, List.set_cons_zero, List.set_cons_succ]
  refine wpAnyH_take (i := 6) (oi := ⟨some 14, _, _, _, _, _⟩) (v := .bool false) rfl (by kernel_rfl) (by kernel_rfl) (by kernel_rfl) (fun _ _ _ h => h) (Or.inl ⟨by rfl, fun W hW => by have q := d1'.out; go_simp⟩) (by assumption) ?_
  try simp only [Act.put, List.setIfInBounds_toArray, List.set_cons_zero, List.set_cons_succ]
  refine wpAnyH_take (i := 7) (oi := ⟨some 15, _, _, _, _, _⟩) (v := .bool false) rfl (by kernel_rfl) (by kernel_rfl) (by kernel_rfl) (fun _ _ _ h => h) (Or.inl ⟨by rfl, fun W hW => by go_simp⟩) (by assumption) ?_
  try simp only [Act.put, List.setIfInBounds_toArray, List.set_cons_zero, List.set_cons_succ]
  refine wpAnyH_take (i := 8) (oi := ⟨some 16, _, _, _, _, _⟩) (v := .bool false) rfl (by kernel_rfl) (by kernel_rfl) (by kernel_rfl) (fun _ _ _ h => h) (Or.inl ⟨by rfl, fun W hW => by go_simp⟩) (by assumption) ?_
  try simp only [Act.put, List.setIfInBounds_toArray, List.set_cons_zero, List.set_cons_succ]
  refine wpAnyH_take (i := 9) (oi := ⟨some 17, _, _, _, _, _⟩) (v := .pointer (some ⟨w.heap.size + 1, 1, none⟩)) rfl (by kernel_rfl) (by kernel_rfl) (by kernel_rfl) (fun _ _ _ h => h) (Or.inl ⟨by rfl, fun W hW => by go_simp⟩) (by assumption) ?_
  try simp only [Act.put, List.setIfInBounds_toArray, List.set_cons_zero, List.set_cons_succ]
  refine wpAnyH_take (i := 10) (oi := ⟨some 18, _, _, _, _, _⟩) (v := .int .i64 L.num) rfl (by kernel_rfl) (by kernel_rfl) (by kernel_rfl) (fun _ _ _ h => h) (Or.inl ⟨by rfl, fun W hW => by have q := hW.l1; go_simp⟩) (by assumption) ?_
  try simp only [Act.put, List.setIfInBounds_toArray, List.set_cons_zero, List.set_cons_succ]
  refine wpAnyH_take (i := 11) (oi := ⟨some 19, _, _, _, _, _⟩) (v := .pointer (some ⟨g, 0, none⟩)) rfl (by kernel_rfl) (by kernel_rfl) (by kernel_rfl) (fun _ _ _ h => h) (Or.inl ⟨by rfl, fun W hW => by have q := hW.c0; go_simp⟩) (by assumption) ?_
  try simp only [Act.put, List.setIfInBounds_toArray, List.set_cons_zero, List.set_cons_succ]
  refine wpAnyH_take (i := 12) (oi := ⟨some 20, _, _, _, _, _⟩) (v := .pointer (some ⟨g, 0, none⟩)) rfl (by kernel_rfl) (by kernel_rfl) (by kernel_rfl) (fun _ _ _ h => h) (Or.inl ⟨by rfl, fun W hW => by go_simp⟩) (by assumption) ?_
  try simp only [Act.put, List.setIfInBounds_toArray, List.set_cons_zero, List.set_cons_succ]
  refine wpAnyH_take (i := 13) (oi := ⟨some 21, _, _, _, _, _⟩) (v := .pointer (some ⟨g, 3, none⟩)) rfl (by kernel_rfl) (by kernel_rfl) (by kernel_rfl) (fun _ _ _ h => h) (Or.inl ⟨by rfl, fun W hW => by go_simp⟩) (by assumption) ?_
  try simp only [Act.put, List.setIfInBounds_toArray, List.set_cons_zero, List.set_cons_succ]
  refine wpAnyH_take (i := 14) (oi := ⟨some 22, _, _, _, _, _⟩) (v := .int .i64 s.num) rfl (by kernel_rfl) (by kernel_rfl) (by kernel_rfl) (fun _ _ _ h => h) (Or.inl ⟨by rfl, fun W hW => by obtain ⟨q0, q1, q2, q3, q4⟩ := box_cells hW.bx; go_simp⟩) (by assumption) ?_
  try simp only [Act.put, List.setIfInBounds_toArray, List.set_cons_zero, List.set_cons_succ]
  refine wpAnyH_take (i := 15) (oi := ⟨some 23, _, _, _, _, _⟩) (v := .bool false) rfl (by kernel_rfl) (by kernel_rfl) (by kernel_rfl) (fun _ _ _ h => h) (Or.inl ⟨by rfl, fun W hW => by have q := d2'.out; go_simp⟩) (by assumption) ?_
  try simp only [Act.put, List.setIfInBounds_toArray, List.set_cons_zero, List.set_cons_succ]
  refine wpAnyH_take (i := 16) (oi := ⟨some 24, _, _, _, _, _⟩) (v := .bool false) rfl (by kernel_rfl) (by kernel_rfl) (by kernel_rfl) (fun _ _ _ h => h) (Or.inl ⟨by rfl, fun W hW => by go_simp⟩) (by assumption) ?_
  try simp only [Act.put, List.setIfInBounds_toArray, List.set_cons_zero, List.set_cons_succ]
  refine wpAnyH_done (by kernel_rfl) ?_ _
  generalize W0.drew = W1 at *
  have hTW : TS g w.heap.size #[.int .i64 s.home, .map (some m), .slice A s.args.length c, .int .i64 s.num, .int .i64 s.bud] (lcells L) W0 W1 := by assumption
  obtain ⟨q7, q8, q9, q10⟩ := letter_cells hTW
  have qb := hTW.c0
  have hbw1 : Below w.heap.size w W1 := hb0.out.trans (hTW.below.mono hb0.out.size)
  have hE1 := hE0.below (hB0.trans (hbw1.mono hB0.size))
  have hRd := Read_calls L.rt hrt W1 hE1
  have hc1 := hcl0.out.below hTW.below
  replace hTW := Lib.hid hTW
  replace hbw1 := Lib.hid hbw1
  replace hc1 := Lib.hid hc1
  clear hTS hHeld hHeld1 hE1
  rw [hrv] at hRd
  go_wp2_with fail
  refine hRd.mono ?_
  rintro e w2 ⟨rfl, hb2⟩
  have hT2 := hTW.out.step hb2
  have hc2 := hc1.out.below hb2
  have hbw2 := hbw1.out.trans (hb2.mono hbw1.out.size)
  obtain ⟨q7', q8', q9', q10'⟩ := letter_cells hT2
  have qb' := hT2.c0
  obtain ⟨k0, k1, k2, k3, k4⟩ := box_cells hT2.bx
  obtain ⟨z0, z1, z2, z3⟩ := hT2.lt
  clear q7 q8 q9 q10 qb hRd hb2 hTW hc1 hbw1

  have f4 : w2.frozen? ⟨g, 4, none⟩ = false := box_open hT2.bx
  obtain ⟨hc4, hkk4⟩ := hc2.spend (s.bud - 1)
  have ho4 : ∀ k, k ≠ g → (w2.setCell ⟨g, 4, none⟩ (.int .i64 (s.bud - 1))).heap[k]? = w2.heap[k]? := fun k hk => Below.heap_setCell _ _ _ k hk
  have hT4 : TS g w.heap.size #[.int .i64 s.home, .map (some m), .slice A s.args.length c, .int .i64 s.num, .int .i64 (s.bud - 1)] (lcells L) (w2.setCell ⟨g, 4, none⟩ (.int .i64 (s.bud - 1))) (w2.setCell ⟨g, 4, none⟩ (.int .i64 (s.bud - 1))) := ⟨(ho4 _ (by omega)).trans hT2.b0, (ho4 _ (by omega)).trans hT2.b1, (ho4 _ (by omega)).trans hT2.b2, heap_setCell_same _ g 4 _ _ _ hT2.bx, Below.refl _ _⟩
  have hbd : Below (w2.setCell ⟨g, 4, none⟩ (.int .i64 (s.bud - 1))).heap.size (w2.setCell ⟨g, 4, none⟩ (.int .i64 (s.bud - 1))) ((w2.setCell ⟨g, 4, none⟩ (.int .i64 (s.bud - 1))).alloc (.cells #[.int .i64 3, .int .i64 sl, .int .i64 nd, .int .i64 tk] 60)) := below_alloc (Below.refl _ _) _
  have hc5 := hc4.below hbd
  have hT5 := hT4.step hbd
  have hdb : ((w2.setCell ⟨g, 4, none⟩ (.int .i64 (s.bud - 1))).alloc (.cells #[.int .i64 3, .int .i64 sl, .int .i64 nd, .int .i64 tk] 60)).heap[w2.heap.size]? = some (.cells #[.int .i64 3, .int .i64 sl, .int .i64 nd, .int .i64 tk] 60 (0, 0)) := by
    have := heap_alloc_new (w2.setCell ⟨g, 4, none⟩ (.int .i64 (s.bud - 1))) (.cells #[.int .i64 3, .int .i64 sl, .int .i64 nd, .int .i64 tk] 60)
    rwa [World.size_setCell] at this
  have hkw5 : Keep2 m g w ((w2.setCell ⟨g, 4, none⟩ (.int .i64 (s.bud - 1))).alloc (.cells #[.int .i64 3, .int .i64 sl, .int .i64 nd, .int .i64 tk] 60)) := (((Keep2.refl m g w).below hbw2).trans hkk4).below (hbd.mono (by have := hbw2.size; simpa using this))
  have hlt5 : w2.heap.size < ((w2.setCell ⟨g, 4, none⟩ (.int .i64 (s.bud - 1))).alloc (.cells #[.int .i64 3, .int .i64 sl, .int .i64 nd, .int .i64 tk] 60)).heap.size := (Array.getElem?_eq_some_iff.1 hdb).1
  replace hc5 := Lib.hid hc5
  replace hT5 := Lib.hid hT5
  replace hdb := Lib.hid hdb
  replace hkw5 := Lib.hid hkw5
  replace hlt5 := Lib.hid hlt5
  clear hc4 hkk4 ho4 hT4 hbd hc2 hT2 hbw2
  have hS := send_calls m g { s with bud := s.bud - 1 } nd tk hn hl ((w2.setCell ⟨g, 4, none⟩ (.int .i64 (s.bud - 1))).alloc (.cells #[.int .i64 3, .int .i64 sl, .int .i64 nd, .int .i64 tk] 60)) hc5.out
  go_wp2_with fail
  refine hS.mono ?_
  rintro e w6 ⟨A5, c5, rfl, hcl6, hk6, hsA, hsc, hsT⟩
  clear hS
  have hz6 := (hk6.block (w.heap.size + 2) hT5.out.lt.2.2.1 (by omega) (by omega)).trans hT5.out.b2
  have hkw6 : Keep2 m g w w6 := hkw5.out.trans hk6
  generalize hOUT : outC nd 1 (s.num + 1) (.slice A5 s.args.length c5) tk true 0 0 ⟨#[]⟩ (.slice none 0 0) false = OUT
  have hone : OUT.all (·.oneCell') = true := by rw [← hOUT]; exact out_one _ _ _ _ _ _ _ _ _ _ _ _ _ _ _
  have hsz : OUT.size = 20 := by rw [← hOUT]; rfl
  have hi : (Tryz.prog.info? 39).map (·.size) = some OUT.size := by rw [hsz]; exact info32
  have hsz0 : out0.size = OUT.size := by rw [hsz]; rfl
  replace hOUT := Lib.hid hOUT
  replace hi := Lib.hid hi
  replace hz6 := Lib.hid hz6
  replace hkw6 := Lib.hid hkw6
  replace hcl6 := Lib.hid hcl6
  go_wp2_with ((with_reducible refine store_at (ty := 39) (x := .tmp 4) (y := .tmp 94) ?_); refine ⟨w.heap.size + 2, OUT, 39, out0, rfl, rfl, hz6.out, hi.out, hsz0, hone, ?_⟩)
  refine bodyPost_ret (results_cell1 Tryz.results9 _ _ (w.heap.size + 2) 39 OUT (0, 0) _ rfl (setRow_heap _ _ _ _ _ _ hz6.out) Tryz.underlying39 rfl hi.out) rfl ⟨⟨A5, c5, by rw [← hOUT.out], sent_row hsA hsT hz6.out, hsc, sent_t9 hsT hz6.out⟩, ?_, ?_⟩
  · exact hcl6.out.row hz6.out (by decide) (by omega) (by omega)
  · exact hkw6.out.below (below_setRow (Below.refl _ _) (by omega) _)
set_option maxHeartbeats 4000000 in
set_option maxRecDepth 100000 in
theorem Take_again (m g : Nat) (s : CS) (L : LV) (hn : 0 ≤ s.num ∧ s.num ≤ 1000000000) (hrt : L.rt.size < 4294967281) (w : World) (h : Cl m g s w) (w0 : World) (hE0 : Env w0) (hB0 : Below w0.heap.size w0 w) (hm0 : w0.heap.size ≤ m) (hg0 : w0.heap.size ≤ g) (hbz : 0 < s.args.length) (hk : L.kind = 2) (hnn : L.num = s.num) (hl : s.args.length ≤ 1000000) (hbu : 1 ≤ s.bud ∧ s.bud ≤ 1000) (hbig : ∀ x ∈ s.args, x.size ≤ 9223372036854775807) (sl nd tk : Int) (hrv : readV L.rt.data.toList = (4, sl, nd, tk, true)) (hrk : (L.rk != 2) = false) : Calls Tryz.prog 9 #[.pointer (some ⟨g, 0, none⟩), .agg (lcells L)] w (DoPost m g ({ s with bud := s.bud - 1, num := s.num + 1 }, .send (ownerV { s with bud := s.bud - 1 }) 0) w) := by
  have dbusy : decide (0 < s.args.length) = true := decide_eq_true hbz
  have d1' := Lib.hid (show (L.kind != 2) = false by rw [hk]; rfl)
  have d2' := Lib.hid (show (L.num != s.num) = false by rw [hnn]; simp)
  clear hk hnn
  have hwb : IntKind.i64.wrap (s.bud - 1) = s.bud - 1 := by simp [IntKind.wrap, IntKind.bits, IntKind.signed]; omega
  have hbne : (s.bud == 0) = false := by rw [beq_eq_false_iff_ne]; omega
  obtain ⟨A, c, hb, hr, hc, hT⟩ := h.box
  have hm := h.lt.1
  have hg := h.lt.2
  obtain ⟨hTS, hb0⟩ := take_world w g L hg hb
  have hcl0 := h.below hb0
  have hsz : (((w.alloc (.cells #[.pointer (some ⟨g, 0, none⟩)] 23)).alloc (.cells (lcells L) 35)).alloc (.cells out0 39)).heap.size = w.heap.size + 3 := by simp
  replace h := Lib.hid h
  replace hb := Lib.hid hb
  replace hr := Lib.hid hr
  replace hT := Lib.hid hT
  replace hcl0 := Lib.hid hcl0
  replace hTS := Lib.hid hTS
  replace hb0 := Lib.hid hb0
  replace hsz := Lib.hid hsz
  have hLC : lcells L = #[.int .i64 L.kind, .int .i64 L.num, .int .i64 L.slot, .int .i64 L.ends, .string L.key, .string L.text, .slice L.args.1 L.args.2.1 L.args.2.2, .int .i64 L.rk, .int .i64 L.ri, .string L.rt, .slice L.rl.1 L.rl.2.1 L.rl.2.2, .bool L.good, .int .i64 L.asking] := rfl
  rw [hLC]
  go_enter Tryz.func9, Tryz.ntmps9
  go_wp2_with fail
  change Code.wp _ _ _ _ (((w.alloc (.cells #[.pointer (some ⟨g, 0, none⟩)] 23)).alloc (.cells (lcells L) 35)).alloc (.cells out0 39))
  have hTS := hTS.out
  generalize (((w.alloc (.cells #[.pointer (some ⟨g, 0, none⟩)] 23)).alloc (.cells (lcells L) 35)).alloc (.cells out0 39)) = W0 at *
  refine wp_region_held_drew (S := TS g w.heap.size #[.int .i64 s.home, .map (some m), .slice A s.args.length c, .int .i64 s.num, .int .i64 s.bud] (lcells L) W0) (by kernel_rfl) (hTS.step ⟨rfl, rfl, rfl, Nat.le_refl _, fun _ _ => rfl⟩) (fun hHeld => ?_)
  refine wpAnyH_take (i := 0) (oi := ⟨some 8, _, _, _, _, _⟩) (v := .pointer (some ⟨g, 0, none⟩)) rfl (by kernel_rfl) (by kernel_rfl) (by kernel_rfl) (fun _ _ _ h => h) (Or.inl ⟨by rfl, fun W hW => by have q := hW.c0; go_simp⟩) (by assumption) ?_
  try simp only [Act.put, List.setIfInBounds_toArray, List.set_cons_zero, List.set_cons_succ]
  refine wpAnyH_ready (rs := [1]) (by kernel_rfl) (by simp) ?_
  refine AllReadyH.cons (o := ⟨some 9, _, _, _, _, _⟩) rfl (fun K hK => ?_) AllReadyH.nil
  go_simp
  refine (Busy_calls m g s _ (hcl0.out.below (TS.below (by assumption)))).mono ?_
  rintro e w1 ⟨rfl, rfl⟩
  rw [dbusy]
  go_wp2_with fail
  refine hK.out _ _ (by assumption) (fun hHeld1 => ?_)
  clear hK K
  try simp only [Act.put, List.setIfInBounds_toArray, List.set_cons_zero, List.set_cons_succ]
  refine wpAnyH_take (i := 2) (oi := ⟨some 10, _, _, _, _, _⟩) (v := .bool false) rfl (by kernel_rfl) (by kernel_rfl) (by kernel_rfl) (fun _ _ _ h => h) (Or.inl ⟨by rfl, fun W hW => by go_simp⟩) (by assumption) ?_
  try simp only [Act.put, List.setIfInBounds_toArray, List.set_cons_zero, List.set_cons_succ]
  refine wpAnyH_take (i := 3) (oi := ⟨some 11, _, _, _, _, _⟩) (v := .bool false) rfl (by kernel_rfl) (by kernel_rfl) (by kernel_rfl) (fun _ _ _ h => h) (Or.inl ⟨by rfl, fun W hW => by go_simp⟩) (by assumption) ?_
  try simp only [Act.put, List.setIfInBounds_toArray, List.set_cons_zero, List.set_cons_succ]
  refine wpAnyH_take (i := 4) (oi := ⟨some 12, _, _, _, _, _⟩) (v := .pointer (some ⟨w.heap.size + 1, 0, none⟩)) rfl (by kernel_rfl) (by kernel_rfl) (by kernel_rfl) (fun _ _ _ h => h) (Or.inl ⟨by rfl, fun W hW => by go_simp⟩) (by assumption) ?_
  try simp only [Act.put, List.setIfInBounds_toArray, List.set_cons_zero, List.set_cons_succ]
  refine wpAnyH_take (i := 5) (oi := ⟨some 13, _, _, _, _, _⟩) (v := .int .i64 L.kind) rfl (by kernel_rfl) (by kernel_rfl) (by kernel_rfl) (fun _ _ _ h => h) (Or.inl ⟨by rfl, fun W hW => by have q := hW.l0; go_simp⟩) (by assumption) ?_
  try simp only [Act.put, List.setIfInBounds_toArray, List.set_cons_zero, List.set_cons_succ]
  refine wpAnyH_take (i := 6) (oi := ⟨some 14, _, _, _, _, _⟩) (v := .bool false) rfl (by kernel_rfl) (by kernel_rfl) (by kernel_rfl) (fun _ _ _ h => h) (Or.inl ⟨by rfl, fun W hW => by have q := d1'.out; go_simp⟩) (by assumption) ?_
  try simp only [Act.put, List.setIfInBounds_toArray, List.set_cons_zero, List.set_cons_succ]
  refine wpAnyH_take (i := 7) (oi := ⟨some 15, _, _, _, _, _⟩) (v := .bool false) rfl (by kernel_rfl) (by kernel_rfl) (by kernel_rfl) (fun _ _ _ h => h) (Or.inl ⟨by rfl, fun W hW => by go_simp⟩) (by assumption) ?_
  try simp only [Act.put, List.setIfInBounds_toArray, List.set_cons_zero, List.set_cons_succ]
  refine wpAnyH_take (i := 8) (oi := ⟨some 16, _, _, _, _, _⟩) (v := .bool false) rfl (by kernel_rfl) (by kernel_rfl) (by kernel_rfl) (fun _ _ _ h => h) (Or.inl ⟨by rfl, fun W hW => by go_simp⟩) (by assumption) ?_
  try simp only [Act.put, List.setIfInBounds_toArray, List.set_cons_zero, List.set_cons_succ]
  refine wpAnyH_take (i := 9) (oi := ⟨some 17, _, _, _, _, _⟩) (v := .pointer (some ⟨w.heap.size + 1, 1, none⟩)) rfl (by kernel_rfl) (by kernel_rfl) (by kernel_rfl) (fun _ _ _ h => h) (Or.inl ⟨by rfl, fun W hW => by go_simp⟩) (by assumption) ?_
  try simp only [Act.put, List.setIfInBounds_toArray, List.set_cons_zero, List.set_cons_succ]
  refine wpAnyH_take (i := 10) (oi := ⟨some 18, _, _, _, _, _⟩) (v := .int .i64 L.num) rfl (by kernel_rfl) (by kernel_rfl) (by kernel_rfl) (fun _ _ _ h => h) (Or.inl ⟨by rfl, fun W hW => by have q := hW.l1; go_simp⟩) (by assumption) ?_
  try simp only [Act.put, List.setIfInBounds_toArray, List.set_cons_zero, List.set_cons_succ]
  refine wpAnyH_take (i := 11) (oi := ⟨some 19, _, _, _, _, _⟩) (v := .pointer (some ⟨g, 0, none⟩)) rfl (by kernel_rfl) (by kernel_rfl) (by kernel_rfl) (fun _ _ _ h => h) (Or.inl ⟨by rfl, fun W hW => by have q := hW.c0; go_simp⟩) (by assumption) ?_
  try simp only [Act.put, List.setIfInBounds_toArray, List.set_cons_zero, List.set_cons_succ]
  refine wpAnyH_take (i := 12) (oi := ⟨some 20, _, _, _, _, _⟩) (v := .pointer (some ⟨g, 0, none⟩)) rfl (by kernel_rfl) (by kernel_rfl) (by kernel_rfl) (fun _ _ _ h => h) (Or.inl ⟨by rfl, fun W hW => by go_simp⟩) (by assumption) ?_
  try simp only [Act.put, List.setIfInBounds_toArray, List.set_cons_zero, List.set_cons_succ]
  refine wpAnyH_take (i := 13) (oi := ⟨some 21, _, _, _, _, _⟩) (v := .pointer (some ⟨g, 3, none⟩)) rfl (by kernel_rfl) (by kernel_rfl) (by kernel_rfl) (fun _ _ _ h => h) (Or.inl ⟨by rfl, fun W hW => by go_simp⟩) (by assumption) ?_
  try simp only [Act.put, List.setIfInBounds_toArray, List.set_cons_zero, List.set_cons_succ]
  refine wpAnyH_take (i := 14) (oi := ⟨some 22, _, _, _, _, _⟩) (v := .int .i64 s.num) rfl (by kernel_rfl) (by kernel_rfl) (by kernel_rfl) (fun _ _ _ h => h) (Or.inl ⟨by rfl, fun W hW => by obtain ⟨q0, q1, q2, q3, q4⟩ := box_cells hW.bx; go_simp⟩) (by assumption) ?_
  try simp only [Act.put, List.setIfInBounds_toArray, List.set_cons_zero, List.set_cons_succ]
  refine wpAnyH_take (i := 15) (oi := ⟨some 23, _, _, _, _, _⟩) (v := .bool false) rfl (by kernel_rfl) (by kernel_rfl) (by kernel_rfl) (fun _ _ _ h => h) (Or.inl ⟨by rfl, fun W hW => by have q := d2'.out; go_simp⟩) (by assumption) ?_
  try simp only [Act.put, List.setIfInBounds_toArray, List.set_cons_zero, List.set_cons_succ]
  refine wpAnyH_take (i := 16) (oi := ⟨some 24, _, _, _, _, _⟩) (v := .bool false) rfl (by kernel_rfl) (by kernel_rfl) (by kernel_rfl) (fun _ _ _ h => h) (Or.inl ⟨by rfl, fun W hW => by go_simp⟩) (by assumption) ?_
  try simp only [Act.put, List.setIfInBounds_toArray, List.set_cons_zero, List.set_cons_succ]
  refine wpAnyH_done (by kernel_rfl) ?_ _
  generalize W0.drew = W1 at *
  have hTW : TS g w.heap.size #[.int .i64 s.home, .map (some m), .slice A s.args.length c, .int .i64 s.num, .int .i64 s.bud] (lcells L) W0 W1 := by assumption
  obtain ⟨q7, q8, q9, q10⟩ := letter_cells hTW
  have qb := hTW.c0
  have hbw1 : Below w.heap.size w W1 := hb0.out.trans (hTW.below.mono hb0.out.size)
  have hE1 := hE0.below (hB0.trans (hbw1.mono hB0.size))
  have hRd := Read_calls L.rt hrt W1 hE1
  have hc1 := hcl0.out.below hTW.below
  replace hTW := Lib.hid hTW
  replace hbw1 := Lib.hid hbw1
  replace hc1 := Lib.hid hc1
  clear hTS hHeld hHeld1 hE1
  rw [hrv] at hRd
  go_wp2_with fail
  refine hRd.mono ?_
  rintro e w2 ⟨rfl, hb2⟩
  have hT2 := hTW.out.step hb2
  have hc2 := hc1.out.below hb2
  have hbw2 := hbw1.out.trans (hb2.mono hbw1.out.size)
  obtain ⟨q7', q8', q9', q10'⟩ := letter_cells hT2
  have qb' := hT2.c0
  obtain ⟨k0, k1, k2, k3, k4⟩ := box_cells hT2.bx
  obtain ⟨z0, z1, z2, z3⟩ := hT2.lt
  clear q7 q8 q9 q10 qb hRd hb2 hTW hc1 hbw1

  have f4 : w2.frozen? ⟨g, 4, none⟩ = false := box_open hT2.bx
  obtain ⟨hc4, hkk4⟩ := hc2.spend (s.bud - 1)
  have ho4 : ∀ k, k ≠ g → (w2.setCell ⟨g, 4, none⟩ (.int .i64 (s.bud - 1))).heap[k]? = w2.heap[k]? := fun k hk => Below.heap_setCell _ _ _ k hk
  have hT4 : TS g w.heap.size #[.int .i64 s.home, .map (some m), .slice A s.args.length c, .int .i64 s.num, .int .i64 (s.bud - 1)] (lcells L) (w2.setCell ⟨g, 4, none⟩ (.int .i64 (s.bud - 1))) (w2.setCell ⟨g, 4, none⟩ (.int .i64 (s.bud - 1))) := ⟨(ho4 _ (by omega)).trans hT2.b0, (ho4 _ (by omega)).trans hT2.b1, (ho4 _ (by omega)).trans hT2.b2, heap_setCell_same _ g 4 _ _ _ hT2.bx, Below.refl _ _⟩
  have hbd : Below (w2.setCell ⟨g, 4, none⟩ (.int .i64 (s.bud - 1))).heap.size (w2.setCell ⟨g, 4, none⟩ (.int .i64 (s.bud - 1))) ((w2.setCell ⟨g, 4, none⟩ (.int .i64 (s.bud - 1))).alloc (.cells #[.int .i64 4, .int .i64 sl, .int .i64 nd, .int .i64 tk] 60)) := below_alloc (Below.refl _ _) _
  have hc5 := hc4.below hbd
  have hT5 := hT4.step hbd
  have hdb : ((w2.setCell ⟨g, 4, none⟩ (.int .i64 (s.bud - 1))).alloc (.cells #[.int .i64 4, .int .i64 sl, .int .i64 nd, .int .i64 tk] 60)).heap[w2.heap.size]? = some (.cells #[.int .i64 4, .int .i64 sl, .int .i64 nd, .int .i64 tk] 60 (0, 0)) := by
    have := heap_alloc_new (w2.setCell ⟨g, 4, none⟩ (.int .i64 (s.bud - 1))) (.cells #[.int .i64 4, .int .i64 sl, .int .i64 nd, .int .i64 tk] 60)
    rwa [World.size_setCell] at this
  have hkw5 : Keep2 m g w ((w2.setCell ⟨g, 4, none⟩ (.int .i64 (s.bud - 1))).alloc (.cells #[.int .i64 4, .int .i64 sl, .int .i64 nd, .int .i64 tk] 60)) := (((Keep2.refl m g w).below hbw2).trans hkk4).below (hbd.mono (by have := hbw2.size; simpa using this))
  have hlt5 : w2.heap.size < ((w2.setCell ⟨g, 4, none⟩ (.int .i64 (s.bud - 1))).alloc (.cells #[.int .i64 4, .int .i64 sl, .int .i64 nd, .int .i64 tk] 60)).heap.size := (Array.getElem?_eq_some_iff.1 hdb).1
  replace hc5 := Lib.hid hc5
  replace hT5 := Lib.hid hT5
  replace hdb := Lib.hid hdb
  replace hkw5 := Lib.hid hkw5
  replace hlt5 := Lib.hid hlt5
  clear hc4 hkk4 ho4 hT4 hbd hc2 hT2 hbw2
  go_wp2_with fail
  change Code.wp _ _ _ _ ((w2.setCell ⟨g, 4, none⟩ (.int .i64 (s.bud - 1))).alloc (.cells #[.int .i64 4, .int .i64 sl, .int .i64 nd, .int .i64 tk] 60))
  generalize ((w2.setCell ⟨g, 4, none⟩ (.int .i64 (s.bud - 1))).alloc (.cells #[.int .i64 4, .int .i64 sl, .int .i64 nd, .int .i64 tk] 60)) = W5 at *
  have hS0 : TS g w.heap.size #[.int .i64 s.home, .map (some m), .slice A s.args.length c, .int .i64 s.num, .int .i64 (s.bud - 1)] (lcells L) (w2.setCell ⟨g, 4, none⟩ (.int .i64 (s.bud - 1))) W5.drew := hT5.out.step ⟨rfl, rfl, rfl, Nat.le_refl _, fun _ _ => rfl⟩
  have hc6 : Cl m g { s with bud := s.bud - 1 } W5.drew := hc5.out.below ⟨rfl, rfl, rfl, Nat.le_refl _, fun _ _ => rfl⟩
  have hkw5' : Keep2 m g w W5.drew := hkw5.out.below ⟨rfl, rfl, rfl, Nat.le_refl _, fun _ _ => rfl⟩
  have hE5 : Env W5.drew := hE0.below (Keep2.base hB0 hm0 hg0 hkw5')
  generalize (w2.setCell ⟨g, 4, none⟩ (.int .i64 (s.bud - 1))) = W7 at *
  refine wp_region_last (S := fun W => W.cell? ⟨w.heap.size, 0, none⟩ = some (.pointer (some ⟨g, 0, none⟩))) 4 (by kernel_rfl) ?_
  have hS1 := hS0.c0
  refine wpAnyT_take (i := 0) (oi := ⟨some 95, _, _, _, _, _⟩) (v := .pointer (some ⟨g, 0, none⟩)) rfl (by kernel_rfl) (by kernel_rfl) (by kernel_rfl) (by kernel_rfl) (fun _ _ _ h => h) (Or.inl ⟨by rfl, fun W hW => by go_simp⟩) hS1 ?_
  try simp only [Act.put, List.setIfInBounds_toArray, List.set_cons_zero, List.set_cons_succ]
  refine wpAnyT_take (i := 1) (oi := ⟨some 96, _, _, _, _, _⟩) (v := .pointer (some ⟨g, 0, none⟩)) rfl (by kernel_rfl) (by kernel_rfl) (by kernel_rfl) (by kernel_rfl) (fun _ _ _ h => h) (Or.inl ⟨by rfl, fun W hW => by go_simp⟩) hS1 ?_
  try simp only [Act.put, List.setIfInBounds_toArray, List.set_cons_zero, List.set_cons_succ]
  refine wpAnyT_one (i := 2) (o := ⟨some 97, _, _, _, _, _⟩) (by kernel_rfl) rfl (fun K hK => ?_)
  go_simp
  refine (owner_calls m g { s with bud := s.bud - 1 } hbig W5.drew hc6 hE5).mono ?_
  rintro e w8 ⟨rfl, hb8⟩
  have hS8 := hS0.step hb8
  have hc8 := hc6.below hb8
  have hkw8 := hkw5'.below (hb8.mono hkw5'.size)
  go_wp2_with fail
  refine hK.out _ _ (fun _ => hS8.c0) ?_
  clear hK K
  try simp only [Act.put, List.setIfInBounds_toArray, List.set_cons_zero, List.set_cons_succ]
  refine wpAnyT_one (i := 3) (o := ⟨some 98, _, _, _, _, _⟩) (by kernel_rfl) rfl (fun K hK => ?_)
  go_simp
  refine (send_calls m g { s with bud := s.bud - 1 } (ownerV { s with bud := s.bud - 1 }) 0 hn hl w8 hc8).mono ?_
  rintro e w6 ⟨A5, c5, rfl, hcl6, hk6, hsA, hsc, hsT⟩
  have hS6 : w6.cell? ⟨w.heap.size, 0, none⟩ = some (.pointer (some ⟨g, 0, none⟩)) := by
    rw [cell_of_box ((hk6.block w.heap.size hS8.lt.1 (by omega) (by omega)).trans hS8.b0)]; rfl
  go_wp2_with fail
  refine hK.out _ _ (fun _ => hS6) ?_
  clear hK K
  try simp only [Act.put, List.setIfInBounds_toArray, List.set_cons_zero, List.set_cons_succ]
  have hz6 := (hk6.block (w.heap.size + 2) hS8.lt.2.2.1 (by omega) (by omega)).trans hS8.b2
  have hkw6 : Keep2 m g w w6 := hkw8.trans hk6
  generalize hOUT : outC (ownerV { s with bud := s.bud - 1 }) 1 (s.num + 1) (.slice A5 s.args.length c5) 0 true 0 0 ⟨#[]⟩ (.slice none 0 0) false = OUT
  have hone : OUT.all (·.oneCell') = true := by rw [← hOUT]; exact out_one _ _ _ _ _ _ _ _ _ _ _ _ _ _ _
  have hsz : OUT.size = 20 := by rw [← hOUT]; rfl
  have hi : (Tryz.prog.info? 39).map (·.size) = some OUT.size := by rw [hsz]; exact info32
  have hsz0 : out0.size = OUT.size := by rw [hsz]; rfl
  replace hOUT := Lib.hid hOUT
  replace hi := Lib.hid hi
  replace hz6 := Lib.hid hz6
  replace hkw6 := Lib.hid hkw6
  replace hcl6 := Lib.hid hcl6
  refine wpAnyT_one (i := 4) (o := ⟨none, _, _, _, _, _⟩) (by kernel_rfl) rfl (fun K hK => ?_)
  refine wp_store_row 39 _ _ rfl (w.heap.size + 2) OUT rfl rfl 39 out0 hz6.out hi.out hsz0 hone (hK.out _ _ (fun h => absurd rfl h) ?_)
  clear hK K
  try simp only [Act.put, List.setIfInBounds_toArray, List.set_cons_zero, List.set_cons_succ]
  refine wpAnyT_done (by kernel_rfl) ?_ _
  go_wp2_with fail
  refine bodyPost_ret (results_cell1 Tryz.results9 _ _ (w.heap.size + 2) 39 OUT (0, 0) _ rfl (setRow_heap _ _ _ _ _ _ hz6.out) Tryz.underlying39 rfl hi.out) rfl ⟨⟨A5, c5, by rw [← hOUT.out], sent_row hsA hsT hz6.out, hsc, sent_t9 hsT hz6.out⟩, ?_, ?_⟩
  · exact hcl6.out.row hz6.out (by decide) (by omega) (by omega)
  · exact hkw6.out.below (below_setRow (Below.refl _ _) (by omega) _)
end Go.Proofs.YtpbiohnmmngccaaGreatDoor

namespace Go.Proofs.YtpbiohnmmngccaaGreatDoor
open Go Go.RowKit Go.Maps Go.Proofs.YtpbiohnmmngccaaGreatDoorW.PrintWords
open RtS
theorem key_is (k : Int) : WideAt.IsKeyLit (.int .i64 k) := trivial
theorem knows_put {D : DataW Unit} {kn : Int → Option Int} (h : Knows D kn) (sl nd : Int) (hs : I64 sl) : Knows (D.put (.int .i64 sl) (.lit (.int .i64 nd))) (fun k => if k = sl then some nd else kn k) := by
  obtain ⟨hI, hk⟩ := h
  refine ⟨hI.put _ _, fun k hk64 => ?_⟩
  by_cases he : k = sl
  · subst he
    simp only [if_true]
    refine ⟨has_put_same hI (key_is k) _, fun v hv => ?_⟩
    injection hv with hv
    subst hv
    exact atKey_put_same hI (key_is k) _ _
  · simp only [he, if_false]
    have hne : (Lit.int .i64 k) ≠ .int .i64 sl := fun h => he (by injection h)
    obtain ⟨h1, h2⟩ := hk k hk64
    exact ⟨(has_put_other hne _).trans h1, fun v hv => (atKey_put_other hne _ _).trans (h2 v hv)⟩
theorem wp_mapUpdate_run {P : Program} {o : Oper} {a : Act} {W w' : World} {K : Act → World → Prop} {Q : Exit → Act → World → Prop} (mm x v : Operand) (t : TypeId) (hop : o.op = Op.mapUpdate t mm x v) (b : Nat) (key val : Value) (hm : a.eval mm = .map (some b)) (hx : a.eval x = key) (hv : a.eval v = val)
    (hrun : (Instr.mapUpdate t (.map (some b)) key val).run P W = .ok () w') (h : K (a.put o.dst undef) w') : o.wp P a W K Q := by
  unfold Oper.wp
  simp [execOp, hop, hm, hx, hv, hrun, Result.andThen]
  exact h
theorem drew_below' (W : World) : Below W.heap.size W W.drew := ⟨rfl, rfl, rfl, Nat.le_refl _, fun _ _ => rfl⟩
set_option maxHeartbeats 4000000 in
set_option maxRecDepth 100000 in
theorem Take_moved (m g : Nat) (s : CS) (L : LV) (hn : 0 ≤ s.num ∧ s.num ≤ 1000000000) (hrt : L.rt.size < 4294967281) (w : World) (h : Cl m g s w) (w0 : World) (hE0 : Env w0) (hB0 : Below w0.heap.size w0 w) (hm0 : w0.heap.size ≤ m) (hg0 : w0.heap.size ≤ g) (hbz : 0 < s.args.length) (hk : L.kind = 2) (hnn : L.num = s.num) (hl : s.args.length ≤ 1000000) (hbu : 1 ≤ s.bud ∧ s.bud ≤ 1000) (hct : s.cnt ≤ 1000000) (sl nd tk : Int) (hsl : I64 sl) (hnd : I64 nd) (hrv : readV L.rt.data.toList = (2, sl, nd, tk, true)) (hrk : (L.rk != 2) = false) : Calls Tryz.prog 9 #[.pointer (some ⟨g, 0, none⟩), .agg (lcells L)] w (DoPost m g ({ s with bud := s.bud - 1, kn := fun k => if k = sl then some nd else s.kn k, num := s.num + 1, cnt := s.cnt + 1 }, .send nd 0) w) := by
  have dbusy : decide (0 < s.args.length) = true := decide_eq_true hbz
  have d1' := Lib.hid (show (L.kind != 2) = false by rw [hk]; rfl)
  have d2' := Lib.hid (show (L.num != s.num) = false by rw [hnn]; simp)
  clear hk hnn
  have hwb : IntKind.i64.wrap (s.bud - 1) = s.bud - 1 := by simp [IntKind.wrap, IntKind.bits, IntKind.signed]; omega
  have hbne : (s.bud == 0) = false := by rw [beq_eq_false_iff_ne]; omega
  obtain ⟨A, c, hb, hr, hc, hT⟩ := h.box
  have hm := h.lt.1
  have hg := h.lt.2
  obtain ⟨hTS, hb0⟩ := take_world w g L hg hb
  have hcl0 := h.below hb0
  have hsz : (((w.alloc (.cells #[.pointer (some ⟨g, 0, none⟩)] 23)).alloc (.cells (lcells L) 35)).alloc (.cells out0 39)).heap.size = w.heap.size + 3 := by simp
  replace h := Lib.hid h
  replace hb := Lib.hid hb
  replace hr := Lib.hid hr
  replace hT := Lib.hid hT
  replace hcl0 := Lib.hid hcl0
  replace hTS := Lib.hid hTS
  replace hb0 := Lib.hid hb0
  replace hsz := Lib.hid hsz
  have hLC : lcells L = #[.int .i64 L.kind, .int .i64 L.num, .int .i64 L.slot, .int .i64 L.ends, .string L.key, .string L.text, .slice L.args.1 L.args.2.1 L.args.2.2, .int .i64 L.rk, .int .i64 L.ri, .string L.rt, .slice L.rl.1 L.rl.2.1 L.rl.2.2, .bool L.good, .int .i64 L.asking] := rfl
  rw [hLC]
  go_enter Tryz.func9, Tryz.ntmps9
  go_wp2_with fail
  change Code.wp _ _ _ _ (((w.alloc (.cells #[.pointer (some ⟨g, 0, none⟩)] 23)).alloc (.cells (lcells L) 35)).alloc (.cells out0 39))
  have hTS := hTS.out
  generalize (((w.alloc (.cells #[.pointer (some ⟨g, 0, none⟩)] 23)).alloc (.cells (lcells L) 35)).alloc (.cells out0 39)) = W0 at *
  refine wp_region_held_drew (S := TS g w.heap.size #[.int .i64 s.home, .map (some m), .slice A s.args.length c, .int .i64 s.num, .int .i64 s.bud] (lcells L) W0) (by kernel_rfl) (hTS.step ⟨rfl, rfl, rfl, Nat.le_refl _, fun _ _ => rfl⟩) (fun hHeld => ?_)
  refine wpAnyH_take (i := 0) (oi := ⟨some 8, _, _, _, _, _⟩) (v := .pointer (some ⟨g, 0, none⟩)) rfl (by kernel_rfl) (by kernel_rfl) (by kernel_rfl) (fun _ _ _ h => h) (Or.inl ⟨by rfl, fun W hW => by have q := hW.c0; go_simp⟩) (by assumption) ?_
  try simp only [Act.put, List.setIfInBounds_toArray, List.set_cons_zero, List.set_cons_succ]
  refine wpAnyH_ready (rs := [1]) (by kernel_rfl) (by simp) ?_
  refine AllReadyH.cons (o := ⟨some 9, _, _, _, _, _⟩) rfl (fun K hK => ?_) AllReadyH.nil
  go_simp
  refine (Busy_calls m g s _ (hcl0.out.below (TS.below (by assumption)))).mono ?_
  rintro e w1 ⟨rfl, rfl⟩
  rw [dbusy]
  go_wp2_with fail
  refine hK.out _ _ (by assumption) (fun hHeld1 => ?_)
  clear hK K
  try simp only [Act.put, List.setIfInBounds_toArray, List.set_cons_zero, List.set_cons_succ]
  refine wpAnyH_take (i := 2) (oi := ⟨some 10, _, _, _, _, _⟩) (v := .bool false) rfl (by kernel_rfl) (by kernel_rfl) (by kernel_rfl) (fun _ _ _ h => h) (Or.inl ⟨by rfl, fun W hW => by go_simp⟩) (by assumption) ?_
  try simp only [Act.put, List.setIfInBounds_toArray, List.set_cons_zero, List.set_cons_succ]
  refine wpAnyH_take (i := 3) (oi := ⟨some 11, _, _, _, _, _⟩) (v := .bool false) rfl (by kernel_rfl) (by kernel_rfl) (by kernel_rfl) (fun _ _ _ h => h) (Or.inl ⟨by rfl, fun W hW => by go_simp⟩) (by assumption) ?_
  try simp only [Act.put, List.setIfInBounds_toArray, List.set_cons_zero, List.set_cons_succ]
  refine wpAnyH_take (i := 4) (oi := ⟨some 12, _, _, _, _, _⟩) (v := .pointer (some ⟨w.heap.size + 1, 0, none⟩)) rfl (by kernel_rfl) (by kernel_rfl) (by kernel_rfl) (fun _ _ _ h => h) (Or.inl ⟨by rfl, fun W hW => by go_simp⟩) (by assumption) ?_
  try simp only [Act.put, List.setIfInBounds_toArray, List.set_cons_zero, List.set_cons_succ]
  refine wpAnyH_take (i := 5) (oi := ⟨some 13, _, _, _, _, _⟩) (v := .int .i64 L.kind) rfl (by kernel_rfl) (by kernel_rfl) (by kernel_rfl) (fun _ _ _ h => h) (Or.inl ⟨by rfl, fun W hW => by have q := hW.l0; go_simp⟩) (by assumption) ?_
  try simp only [Act.put, List.setIfInBounds_toArray, List.set_cons_zero, List.set_cons_succ]
  refine wpAnyH_take (i := 6) (oi := ⟨some 14, _, _, _, _, _⟩) (v := .bool false) rfl (by kernel_rfl) (by kernel_rfl) (by kernel_rfl) (fun _ _ _ h => h) (Or.inl ⟨by rfl, fun W hW => by have q := d1'.out; go_simp⟩) (by assumption) ?_
  try simp only [Act.put, List.setIfInBounds_toArray, List.set_cons_zero, List.set_cons_succ]
  refine wpAnyH_take (i := 7) (oi := ⟨some 15, _, _, _, _, _⟩) (v := .bool false) rfl (by kernel_rfl) (by kernel_rfl) (by kernel_rfl) (fun _ _ _ h => h) (Or.inl ⟨by rfl, fun W hW => by go_simp⟩) (by assumption) ?_
  try simp only [Act.put, List.setIfInBounds_toArray, List.set_cons_zero, List.set_cons_succ]
  refine wpAnyH_take (i := 8) (oi := ⟨some 16, _, _, _, _, _⟩) (v := .bool false) rfl (by kernel_rfl) (by kernel_rfl) (by kernel_rfl) (fun _ _ _ h => h) (Or.inl ⟨by rfl, fun W hW => by go_simp⟩) (by assumption) ?_
  try simp only [Act.put, List.setIfInBounds_toArray, List.set_cons_zero, List.set_cons_succ]
  refine wpAnyH_take (i := 9) (oi := ⟨some 17, _, _, _, _, _⟩) (v := .pointer (some ⟨w.heap.size + 1, 1, none⟩)) rfl (by kernel_rfl) (by kernel_rfl) (by kernel_rfl) (fun _ _ _ h => h) (Or.inl ⟨by rfl, fun W hW => by go_simp⟩) (by assumption) ?_
  try simp only [Act.put, List.setIfInBounds_toArray, List.set_cons_zero, List.set_cons_succ]
  refine wpAnyH_take (i := 10) (oi := ⟨some 18, _, _, _, _, _⟩) (v := .int .i64 L.num) rfl (by kernel_rfl) (by kernel_rfl) (by kernel_rfl) (fun _ _ _ h => h) (Or.inl ⟨by rfl, fun W hW => by have q := hW.l1; go_simp⟩) (by assumption) ?_
  try simp only [Act.put, List.setIfInBounds_toArray, List.set_cons_zero, List.set_cons_succ]
  refine wpAnyH_take (i := 11) (oi := ⟨some 19, _, _, _, _, _⟩) (v := .pointer (some ⟨g, 0, none⟩)) rfl (by kernel_rfl) (by kernel_rfl) (by kernel_rfl) (fun _ _ _ h => h) (Or.inl ⟨by rfl, fun W hW => by have q := hW.c0; go_simp⟩) (by assumption) ?_
  try simp only [Act.put, List.setIfInBounds_toArray, List.set_cons_zero, List.set_cons_succ]
  refine wpAnyH_take (i := 12) (oi := ⟨some 20, _, _, _, _, _⟩) (v := .pointer (some ⟨g, 0, none⟩)) rfl (by kernel_rfl) (by kernel_rfl) (by kernel_rfl) (fun _ _ _ h => h) (Or.inl ⟨by rfl, fun W hW => by go_simp⟩) (by assumption) ?_
  try simp only [Act.put, List.setIfInBounds_toArray, List.set_cons_zero, List.set_cons_succ]
  refine wpAnyH_take (i := 13) (oi := ⟨some 21, _, _, _, _, _⟩) (v := .pointer (some ⟨g, 3, none⟩)) rfl (by kernel_rfl) (by kernel_rfl) (by kernel_rfl) (fun _ _ _ h => h) (Or.inl ⟨by rfl, fun W hW => by go_simp⟩) (by assumption) ?_
  try simp only [Act.put, List.setIfInBounds_toArray, List.set_cons_zero, List.set_cons_succ]
  refine wpAnyH_take (i := 14) (oi := ⟨some 22, _, _, _, _, _⟩) (v := .int .i64 s.num) rfl (by kernel_rfl) (by kernel_rfl) (by kernel_rfl) (fun _ _ _ h => h) (Or.inl ⟨by rfl, fun W hW => by obtain ⟨q0, q1, q2, q3, q4⟩ := box_cells hW.bx; go_simp⟩) (by assumption) ?_
  try simp only [Act.put, List.setIfInBounds_toArray, List.set_cons_zero, List.set_cons_succ]
  refine wpAnyH_take (i := 15) (oi := ⟨some 23, _, _, _, _, _⟩) (v := .bool false) rfl (by kernel_rfl) (by kernel_rfl) (by kernel_rfl) (fun _ _ _ h => h) (Or.inl ⟨by rfl, fun W hW => by have q := d2'.out; go_simp⟩) (by assumption) ?_
  try simp only [Act.put, List.setIfInBounds_toArray, List.set_cons_zero, List.set_cons_succ]
  refine wpAnyH_take (i := 16) (oi := ⟨some 24, _, _, _, _, _⟩) (v := .bool false) rfl (by kernel_rfl) (by kernel_rfl) (by kernel_rfl) (fun _ _ _ h => h) (Or.inl ⟨by rfl, fun W hW => by go_simp⟩) (by assumption) ?_
  try simp only [Act.put, List.setIfInBounds_toArray, List.set_cons_zero, List.set_cons_succ]
  refine wpAnyH_done (by kernel_rfl) ?_ _
  generalize W0.drew = W1 at *
  have hTW : TS g w.heap.size #[.int .i64 s.home, .map (some m), .slice A s.args.length c, .int .i64 s.num, .int .i64 s.bud] (lcells L) W0 W1 := by assumption
  obtain ⟨q7, q8, q9, q10⟩ := letter_cells hTW
  have qb := hTW.c0
  have hbw1 : Below w.heap.size w W1 := hb0.out.trans (hTW.below.mono hb0.out.size)
  have hE1 := hE0.below (hB0.trans (hbw1.mono hB0.size))
  have hRd := Read_calls L.rt hrt W1 hE1
  have hc1 := hcl0.out.below hTW.below
  replace hTW := Lib.hid hTW
  replace hbw1 := Lib.hid hbw1
  replace hc1 := Lib.hid hc1
  clear hTS hHeld hHeld1 hE1
  rw [hrv] at hRd
  go_wp2_with fail
  refine hRd.mono ?_
  rintro e w2 ⟨rfl, hb2⟩
  have hT2 := hTW.out.step hb2
  have hc2 := hc1.out.below hb2
  have hbw2 := hbw1.out.trans (hb2.mono hbw1.out.size)
  obtain ⟨q7', q8', q9', q10'⟩ := letter_cells hT2
  have qb' := hT2.c0
  obtain ⟨k0, k1, k2, k3, k4⟩ := box_cells hT2.bx
  obtain ⟨z0, z1, z2, z3⟩ := hT2.lt
  clear q7 q8 q9 q10 qb hRd hb2 hTW hc1 hbw1

  have f4 : w2.frozen? ⟨g, 4, none⟩ = false := box_open hT2.bx
  obtain ⟨hc4, hkk4⟩ := hc2.spend (s.bud - 1)
  have ho4 : ∀ k, k ≠ g → (w2.setCell ⟨g, 4, none⟩ (.int .i64 (s.bud - 1))).heap[k]? = w2.heap[k]? := fun k hk => Below.heap_setCell _ _ _ k hk
  have hT4 : TS g w.heap.size #[.int .i64 s.home, .map (some m), .slice A s.args.length c, .int .i64 s.num, .int .i64 (s.bud - 1)] (lcells L) (w2.setCell ⟨g, 4, none⟩ (.int .i64 (s.bud - 1))) (w2.setCell ⟨g, 4, none⟩ (.int .i64 (s.bud - 1))) := ⟨(ho4 _ (by omega)).trans hT2.b0, (ho4 _ (by omega)).trans hT2.b1, (ho4 _ (by omega)).trans hT2.b2, heap_setCell_same _ g 4 _ _ _ hT2.bx, Below.refl _ _⟩
  have hbd : Below (w2.setCell ⟨g, 4, none⟩ (.int .i64 (s.bud - 1))).heap.size (w2.setCell ⟨g, 4, none⟩ (.int .i64 (s.bud - 1))) ((w2.setCell ⟨g, 4, none⟩ (.int .i64 (s.bud - 1))).alloc (.cells #[.int .i64 2, .int .i64 sl, .int .i64 nd, .int .i64 tk] 60)) := below_alloc (Below.refl _ _) _
  have hc5 := hc4.below hbd
  have hT5 := hT4.step hbd
  have hdb : ((w2.setCell ⟨g, 4, none⟩ (.int .i64 (s.bud - 1))).alloc (.cells #[.int .i64 2, .int .i64 sl, .int .i64 nd, .int .i64 tk] 60)).heap[w2.heap.size]? = some (.cells #[.int .i64 2, .int .i64 sl, .int .i64 nd, .int .i64 tk] 60 (0, 0)) := by
    have := heap_alloc_new (w2.setCell ⟨g, 4, none⟩ (.int .i64 (s.bud - 1))) (.cells #[.int .i64 2, .int .i64 sl, .int .i64 nd, .int .i64 tk] 60)
    rwa [World.size_setCell] at this
  have hkw5 : Keep2 m g w ((w2.setCell ⟨g, 4, none⟩ (.int .i64 (s.bud - 1))).alloc (.cells #[.int .i64 2, .int .i64 sl, .int .i64 nd, .int .i64 tk] 60)) := (((Keep2.refl m g w).below hbw2).trans hkk4).below (hbd.mono (by have := hbw2.size; simpa using this))
  have hlt5 : w2.heap.size < ((w2.setCell ⟨g, 4, none⟩ (.int .i64 (s.bud - 1))).alloc (.cells #[.int .i64 2, .int .i64 sl, .int .i64 nd, .int .i64 tk] 60)).heap.size := (Array.getElem?_eq_some_iff.1 hdb).1
  replace hc5 := Lib.hid hc5
  replace hT5 := Lib.hid hT5
  replace hdb := Lib.hid hdb
  replace hkw5 := Lib.hid hkw5
  replace hlt5 := Lib.hid hlt5
  clear hc4 hkk4 ho4 hT4 hbd hc2 hT2 hbw2
  go_wp2_with fail
  change Code.wp _ _ _ _ ((w2.setCell ⟨g, 4, none⟩ (.int .i64 (s.bud - 1))).alloc (.cells #[.int .i64 2, .int .i64 sl, .int .i64 nd, .int .i64 tk] 60))
  generalize ((w2.setCell ⟨g, 4, none⟩ (.int .i64 (s.bud - 1))).alloc (.cells #[.int .i64 2, .int .i64 sl, .int .i64 nd, .int .i64 tk] 60)) = W5 at *
  have hS0 : TS g w.heap.size #[.int .i64 s.home, .map (some m), .slice A s.args.length c, .int .i64 s.num, .int .i64 (s.bud - 1)] (lcells L) (w2.setCell ⟨g, 4, none⟩ (.int .i64 (s.bud - 1))) W5.drew := hT5.out.step (drew_below' _)
  have hc6 : Cl m g { s with bud := s.bud - 1 } W5.drew := hc5.out.below (drew_below' _)
  have hkw5' : Keep2 m g w W5.drew := hkw5.out.below ⟨rfl, rfl, rfl, Nat.le_refl _, fun _ _ => rfl⟩
  have hdb' : W5.drew.heap[w2.heap.size]? = some (.cells #[.int .i64 2, .int .i64 sl, .int .i64 nd, .int .i64 tk] 60 (0, 0)) := hdb.out
  have hmw2 : m ≠ w2.heap.size := by omega
  have hgw2 : g ≠ w2.heap.size := by omega
  have hBw2 : w.heap.size + 2 < w2.heap.size := z2
  have hS1 : TS g w.heap.size #[.int .i64 s.home, .map (some m), .slice A s.args.length c, .int .i64 s.num, .int .i64 (s.bud - 1)] (lcells L) (w2.setCell ⟨g, 4, none⟩ (.int .i64 (s.bud - 1))) W5.drew ∧ W5.drew.heap[w2.heap.size]? = some (.cells #[.int .i64 2, .int .i64 sl, .int .i64 nd, .int .i64 tk] 60 (0, 0)) := ⟨hS0, hdb'⟩
  generalize (w2.setCell ⟨g, 4, none⟩ (.int .i64 (s.bud - 1))) = W7 at *
  generalize w2.heap.size = db at *
  refine wp_region_last (S := fun W => TS g w.heap.size #[.int .i64 s.home, .map (some m), .slice A s.args.length c, .int .i64 s.num, .int .i64 (s.bud - 1)] (lcells L) W7 W ∧ W.heap[db]? = some (.cells #[.int .i64 2, .int .i64 sl, .int .i64 nd, .int .i64 tk] 60 (0, 0))) 8 (by kernel_rfl) ?_
  refine wpAnyT_take (i := 0) (oi := ⟨some 75, _, _, _, _, _⟩) (v := .pointer (some ⟨g, 0, none⟩)) rfl (by kernel_rfl) (by kernel_rfl) (by kernel_rfl) (by kernel_rfl) (fun _ _ _ h => h) (Or.inl ⟨by rfl, fun W hW => by have q := hW.1.c0; go_simp⟩) hS1 ?_
  try simp only [Act.put, List.setIfInBounds_toArray, List.set_cons_zero, List.set_cons_succ]
  refine wpAnyT_take (i := 1) (oi := ⟨some 76, _, _, _, _, _⟩) (v := .pointer (some ⟨g, 0, none⟩)) rfl (by kernel_rfl) (by kernel_rfl) (by kernel_rfl) (by kernel_rfl) (fun _ _ _ h => h) (Or.inl ⟨by rfl, fun W hW => by go_simp⟩) hS1 ?_
  try simp only [Act.put, List.setIfInBounds_toArray, List.set_cons_zero, List.set_cons_succ]
  refine wpAnyT_take (i := 2) (oi := ⟨some 77, _, _, _, _, _⟩) (v := .pointer (some ⟨g, 1, none⟩)) rfl (by kernel_rfl) (by kernel_rfl) (by kernel_rfl) (by kernel_rfl) (fun _ _ _ h => h) (Or.inl ⟨by rfl, fun W hW => by go_simp⟩) hS1 ?_
  try simp only [Act.put, List.setIfInBounds_toArray, List.set_cons_zero, List.set_cons_succ]
  refine wpAnyT_take (i := 3) (oi := ⟨some 78, _, _, _, _, _⟩) (v := .map (some m)) rfl (by kernel_rfl) (by kernel_rfl) (by kernel_rfl) (by kernel_rfl) (fun _ _ _ h => h) (Or.inl ⟨by rfl, fun W hW => by obtain ⟨q0, q1, q2, q3, q4⟩ := box_cells hW.1.bx; go_simp⟩) hS1 ?_
  try simp only [Act.put, List.setIfInBounds_toArray, List.set_cons_zero, List.set_cons_succ]
  refine wpAnyT_take (i := 4) (oi := ⟨some 79, _, _, _, _, _⟩) (v := .pointer (some ⟨db, 1, none⟩)) rfl (by kernel_rfl) (by kernel_rfl) (by kernel_rfl) (by kernel_rfl) (fun _ _ _ h => h) (Or.inl ⟨by rfl, fun W hW => by go_simp⟩) hS1 ?_
  try simp only [Act.put, List.setIfInBounds_toArray, List.set_cons_zero, List.set_cons_succ]
  refine wpAnyT_take (i := 5) (oi := ⟨some 80, _, _, _, _, _⟩) (v := .int .i64 sl) rfl (by kernel_rfl) (by kernel_rfl) (by kernel_rfl) (by kernel_rfl) (fun _ _ _ h => h) (Or.inl ⟨by rfl, fun W hW => by have q : W.cell? ⟨db, 1, none⟩ = some (.int .i64 sl) := (by rw [cell_of_box hW.2]; rfl); go_simp⟩) hS1 ?_
  try simp only [Act.put, List.setIfInBounds_toArray, List.set_cons_zero, List.set_cons_succ]
  refine wpAnyT_take (i := 6) (oi := ⟨some 81, _, _, _, _, _⟩) (v := .pointer (some ⟨db, 2, none⟩)) rfl (by kernel_rfl) (by kernel_rfl) (by kernel_rfl) (by kernel_rfl) (fun _ _ _ h => h) (Or.inl ⟨by rfl, fun W hW => by go_simp⟩) hS1 ?_
  try simp only [Act.put, List.setIfInBounds_toArray, List.set_cons_zero, List.set_cons_succ]
  refine wpAnyT_take (i := 7) (oi := ⟨some 82, _, _, _, _, _⟩) (v := .int .i64 nd) rfl (by kernel_rfl) (by kernel_rfl) (by kernel_rfl) (by kernel_rfl) (fun _ _ _ h => h) (Or.inl ⟨by rfl, fun W hW => by have q : W.cell? ⟨db, 2, none⟩ = some (.int .i64 nd) := (by rw [cell_of_box hW.2]; rfl); go_simp⟩) hS1 ?_
  try simp only [Act.put, List.setIfInBounds_toArray, List.set_cons_zero, List.set_cons_succ]
  generalize W5.drew = W8 at *
  refine wpAnyT_one (i := 8) (o := ⟨none, _, _, _, _, _⟩) (by kernel_rfl) rfl (fun K hK => ?_)
  show Oper.wp Tryz.prog _ _ _ K _
  obtain ⟨n, D, hmp, hkn, hcn⟩ := hc6.map
  have hcn' : n ≤ s.cnt := hcn
  obtain ⟨w9, hrun, ho1, hg1⟩ := hmp.update (int_keyed Tryz.underlying3) Tryz.underlying50 (by unfold maxLen; omega) (key_lit sl hsl) (val := .int .i64 nd) (plainElem_int Tryz.underlying3 (wf64 hnd))
  have hk9 : Keep2 m g W8 w9 := ⟨hg1.os, hg1.tape, hg1.output, hg1.size, fun k hk h1 _ => hg1.block k hk (by simpa using h1)⟩
  have hb9 : ∀ k, k < W8.heap.size → k ≠ m → w9.heap[k]? = W8.heap[k]? := fun k hk h1 => hg1.block k hk (by simpa using h1)
  obtain ⟨l0, l1, l2, l3⟩ := hS0.lt
  have hz9 := (hb9 _ l2 (by omega)).trans hS0.b2
  have q0 : w9.cell? ⟨w.heap.size, 0, none⟩ = some (.pointer (some ⟨g, 0, none⟩)) := by rw [cell_of_box ((hb9 _ l0 (by omega)).trans hS0.b0)]; rfl
  have qd : w9.cell? ⟨db, 2, none⟩ = some (.int .i64 nd) := by rw [cell_of_box ((hb9 _ (Array.getElem?_eq_some_iff.1 hdb').1 (Ne.symm hmw2)).trans hdb')]; rfl
  have hlz : w.heap.size + 2 < w9.heap.size := (Array.getElem?_eq_some_iff.1 hz9).1
  have hc9 : Cl m g { s with bud := s.bud - 1, kn := fun k => if k = sl then some nd else s.kn k, cnt := s.cnt + 1 } w9 := by
    obtain ⟨A2, c2, e1, e2, e3, e8⟩ := hc6.box
    obtain ⟨es, ck, e4, -⟩ := hmp
    have hs := hk9.str ⟨_, _, e1⟩ ⟨_, _, e4⟩
    have hgk : w9.heap[g]? = W8.heap[g]? := hb9 g (Array.getElem?_eq_some_iff.1 e1).1 (Ne.symm h.out.ne)
    exact ⟨⟨A2, c2, hgk.trans e1, strs_keep e2 e8 hs, e3, T9.keep e8 hs⟩, ⟨n + 1, _, ho1, knows_put hkn sl nd hsl, Nat.succ_le_succ hcn'⟩, h.out.ne⟩
  have hkw9 : Keep2 m g w w9 := hkw5'.trans hk9
  replace hz9 := Lib.hid hz9
  replace hkw9 := Lib.hid hkw9
  replace hc9 := Lib.hid hc9
  refine wp_mapUpdate_run (.tmp 78) (.tmp 80) (.tmp 82) 50 rfl m _ _ rfl rfl rfl hrun (hK.out _ _ (fun h => absurd rfl h) ?_)
  clear hK K
  try simp only [Act.put, List.setIfInBounds_toArray, List.set_cons_zero, List.set_cons_succ]
  refine wpAnyT_done (by kernel_rfl) ?_ _
  clear hrun ho1 hg1 hk9 hb9 hmp hkn hcn hcn' hS0 hS1 hc6 hkw5' hdb'
  have hS := send_calls m g { s with bud := s.bud - 1, kn := fun k => if k = sl then some nd else s.kn k, cnt := s.cnt + 1 } nd 0 hn hl w9 hc9.out
  go_wp2_with fail
  refine hS.mono ?_
  rintro e w6 ⟨A5, c5, rfl, hcl6, hk6, hsA, hsc, hsT⟩
  clear hS
  have hz6 := (hk6.block (w.heap.size + 2) hlz (by omega) (by omega)).trans hz9.out
  have hkw6 : Keep2 m g w w6 := hkw9.out.trans hk6
  generalize hOUT : outC nd 1 (s.num + 1) (.slice A5 s.args.length c5) 0 true 0 0 ⟨#[]⟩ (.slice none 0 0) false = OUT
  have hone : OUT.all (·.oneCell') = true := by rw [← hOUT]; exact out_one _ _ _ _ _ _ _ _ _ _ _ _ _ _ _
  have hsz : OUT.size = 20 := by rw [← hOUT]; rfl
  have hi : (Tryz.prog.info? 39).map (·.size) = some OUT.size := by rw [hsz]; exact info32
  have hsz0 : out0.size = OUT.size := by rw [hsz]; rfl
  replace hOUT := Lib.hid hOUT
  replace hi := Lib.hid hi
  replace hz6 := Lib.hid hz6
  replace hkw6 := Lib.hid hkw6
  replace hcl6 := Lib.hid hcl6
  go_wp2_with ((with_reducible refine store_at (ty := 39) (x := .tmp 4) (y := .tmp 86) ?_); refine ⟨w.heap.size + 2, OUT, 39, out0, rfl, rfl, hz6.out, hi.out, hsz0, hone, ?_⟩)
  refine bodyPost_ret (results_cell1 Tryz.results9 _ _ (w.heap.size + 2) 39 OUT (0, 0) _ rfl (setRow_heap _ _ _ _ _ _ hz6.out) Tryz.underlying39 rfl hi.out) rfl ⟨⟨A5, c5, by rw [← hOUT.out], sent_row hsA hsT hz6.out, hsc, sent_t9 hsT hz6.out⟩, ?_, ?_⟩
  · exact hcl6.out.row hz6.out (by decide) (by omega) (by omega)
  · exact hkw6.out.below (below_setRow (Below.refl _ _) (by omega) _)
end Go.Proofs.YtpbiohnmmngccaaGreatDoor
