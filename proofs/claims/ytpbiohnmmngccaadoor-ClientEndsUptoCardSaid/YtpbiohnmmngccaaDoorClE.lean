/- An answer is taken. Conditions: the listed variables as laid; texts within the machine's reach. -/
import Derived.Test.YtpbiohnmmngccaaDoorClB
set_option linter.unusedVariables false
set_option linter.unusedSimpArgs false
namespace Go.Proofs.YtpbiohnmmngccaaDoor
open Go Go.RowKit Go.Maps Go.Proofs.YtpbiohnmmngccaaDoorW.PrintWords
open RtS
structure LV where
  kind : Int
  num : Int
  slot : Int
  ends : Int
  key : ByteArray
  text : ByteArray
  args : Option Addr × Nat × Nat
  rk : Int
  ri : Int
  rt : ByteArray
  rl : Option Addr × Nat × Nat
  good : Bool
  asking : Int
def lcells (L : LV) : Array Value := #[.int .i64 L.kind, .int .i64 L.num, .int .i64 L.slot, .int .i64 L.ends, .string L.key, .string L.text, .slice L.args.1 L.args.2.1 L.args.2.2, .int .i64 L.rk, .int .i64 L.ri, .string L.rt, .slice L.rl.1 L.rl.2.1 L.rl.2.2, .bool L.good, .int .i64 L.asking]
structure TS (g B : Nat) (bx lc : Array Value) (W0 W : World) : Prop where
  b0 : W.heap[B]? = some (.cells #[.pointer (some ⟨g, 0, none⟩)] 24 (0, 0))
  b1 : W.heap[B + 1]? = some (.cells lc 30 (0, 0))
  b2 : W.heap[B + 2]? = some (.cells out0 32 (0, 0))
  bx : W.heap[g]? = some (.cells bx 51 (0, 0))
  below : Below W0.heap.size W0 W
theorem TS.step {g B : Nat} {bx lc : Array Value} {W0 W W' : World} (h : TS g B bx lc W0 W) (hb : Below W.heap.size W W') : TS g B bx lc W0 W' :=
  ⟨(hb.block _ (Array.getElem?_eq_some_iff.1 h.b0).1).trans h.b0, (hb.block _ (Array.getElem?_eq_some_iff.1 h.b1).1).trans h.b1, (hb.block _ (Array.getElem?_eq_some_iff.1 h.b2).1).trans h.b2, (hb.block _ (Array.getElem?_eq_some_iff.1 h.bx).1).trans h.bx, h.below.trans (hb.mono h.below.size)⟩
theorem TS.c0 {g B : Nat} {bx lc : Array Value} {W0 W : World} (h : TS g B bx lc W0 W) : W.cell? ⟨B, 0, none⟩ = some (.pointer (some ⟨g, 0, none⟩)) := by rw [cell_of_box h.b0]; rfl
theorem TS.l0 {g B : Nat} {bx : Array Value} {L : LV} {W0 W : World} (h : TS g B bx (lcells L) W0 W) : W.cell? ⟨B + 1, 0, none⟩ = some (.int .i64 L.kind) := by rw [cell_of_box h.b1]; rfl
theorem TS.l1 {g B : Nat} {bx : Array Value} {L : LV} {W0 W : World} (h : TS g B bx (lcells L) W0 W) : W.cell? ⟨B + 1, 1, none⟩ = some (.int .i64 L.num) := by rw [cell_of_box h.b1]; rfl
def wrongT : ByteArray := ⟨#[82, 69, 68, 73, 82, 69, 67, 84, 83]⟩
def takeV (s : CS) (L : LV) : CS × Next :=
  if ¬ (0 < s.args.length) ∨ L.kind ≠ 2 ∨ L.num ≠ s.num then (s, .none)
  else
    let d := readV L.rt.data.toList
    if d.2.2.2.2 = false ∨ L.rk ≠ 2 ∨ d.1 = 5 ∨ d.1 = 6 then ({ s with args := [] }, .done L.rk L.ri L.rt (.slice L.rl.1 L.rl.2.1 L.rl.2.2))
    else if s.bud = 0 then ({ s with args := [] }, .done 2 0 wrongT (.slice none 0 0))
    else
      let s1 := { s with bud := s.bud - 1 }
      if d.1 = 2 then ({ s1 with kn := fun k => if k = d.2.1 then some d.2.2.1 else s.kn k, num := s.num + 1, cnt := s.cnt + 1 }, .send d.2.2.1 0)
      else if d.1 = 3 then ({ s1 with num := s.num + 1 }, .send d.2.2.1 d.2.2.2.1)
      else ({ s1 with num := s.num + 1 }, .send (ownerV s1) 0)
theorem take_world (w : World) (g : Nat) (L : LV) {bx : Array Value} (hg : g < w.heap.size) (hb : w.heap[g]? = some (.cells bx 51 (0, 0))) :
    TS g w.heap.size bx (lcells L) (((w.alloc (.cells #[.pointer (some ⟨g, 0, none⟩)] 24)).alloc (.cells (lcells L) 30)).alloc (.cells out0 32)) (((w.alloc (.cells #[.pointer (some ⟨g, 0, none⟩)] 24)).alloc (.cells (lcells L) 30)).alloc (.cells out0 32)) ∧
    Below w.heap.size w (((w.alloc (.cells #[.pointer (some ⟨g, 0, none⟩)] 24)).alloc (.cells (lcells L) 30)).alloc (.cells out0 32)) := by
  have hb3 : Below w.heap.size w (((w.alloc (.cells #[.pointer (some ⟨g, 0, none⟩)] 24)).alloc (.cells (lcells L) 30)).alloc (.cells out0 32)) := below_alloc (below_alloc (below_alloc (Below.refl _ _) _) _) _
  refine ⟨⟨?_, ?_, ?_, (hb3.block g hg).trans hb, Below.refl _ _⟩, hb3⟩
  · exact ((below_alloc (Below.refl ((w.alloc (.cells #[.pointer (some ⟨g, 0, none⟩)] 24)).alloc (.cells (lcells L) 30)).heap.size _) _).block _ (by simp; omega)).trans (heap0 _ _ _)
  · exact ((below_alloc (Below.refl ((w.alloc (.cells #[.pointer (some ⟨g, 0, none⟩)] 24)).alloc (.cells (lcells L) 30)).heap.size _) _).block _ (by simp)).trans (heap1 _ _ _)
  · have := heap_alloc_new ((w.alloc (.cells #[.pointer (some ⟨g, 0, none⟩)] 24)).alloc (.cells (lcells L) 30)) (.cells out0 32)
    simpa using this
theorem none_post {m g : Nat} {s : CS} {w W0 W : World} {bx lc : Array Value} (hW : TS g w.heap.size bx lc W0 W) (hb0 : Below w.heap.size w W0) (h : Cl m g s w) : DoPost m g (s, .none) w (.returned (.agg out0)) (W.setRow (w.heap.size + 2) out0) := by
  have hbw : Below w.heap.size w (W.setRow (w.heap.size + 2) out0) := below_setRow (hb0.trans (hW.below.mono hb0.size)) (by omega) _
  exact ⟨rfl, h.below hbw, (Keep2.refl m g w).below hbw⟩
set_option maxHeartbeats 2000000 in
theorem End_calls (m g B : Nat) (s : CS) (rk ri : Int) (rt : ByteArray) (rA : Option Addr) (rn rc : Nat) (w : World) (h : Cl m g s w) (hB : w.cell? ⟨B, 0, none⟩ = some (.pointer (some ⟨g, 0, none⟩))) :
    Calls Tryd.prog 19 #[.agg #[.int .i64 rk, .int .i64 ri, .string rt, .slice rA rn rc], .pointer (some ⟨B, 0, none⟩)] w (DoPost m g ({ s with args := [] }, .done rk ri rt (.slice rA rn rc)) w) := by
  obtain ⟨A, c, hb, hr, hc, hT⟩ := h.box
  obtain ⟨k0, k1, k2, k3, k4⟩ := cl_cells hb
  have hm := h.lt.1
  have hg := h.lt.2
  have hBl : B < w.heap.size := World.block_lt_of_cell? w _ hB
  have f2 : w.frozen? ⟨g, 2, none⟩ = false := box_open hb
  have hx : (w.setCell ⟨g, 2, none⟩ (.slice none 0 0)).heap[g]? = some (.cells #[.int .i64 s.home, .map (some m), .slice none 0 0, .int .i64 s.num, .int .i64 s.bud] 51 (0, 0)) := heap_setCell_same _ g 2 _ _ _ hb
  have hxm : (w.setCell ⟨g, 2, none⟩ (.slice none 0 0)).heap[m]? = w.heap[m]? := Below.heap_setCell _ _ _ m h.ne
  have hk : Keep2 m g w (w.setCell ⟨g, 2, none⟩ (.slice none 0 0)) := ⟨rfl, rfl, rfl, by simp, fun k _ _ h2 => Below.heap_setCell _ _ _ k h2⟩
  have hcl : Cl m g { s with args := [] } (w.setCell ⟨g, 2, none⟩ (.slice none 0 0)) := by
    obtain ⟨n, D, ⟨es, ck, h4, h5⟩, h6, h7⟩ := h.map
    exact ⟨⟨none, 0, hx, Kd.C_of_reads (d := (⟨#[]⟩ : ByteArray)) ⟨rfl, Nat.zero_le _, fun h => absurd h (Nat.lt_irrefl 0)⟩, Nat.le_refl _, fun ad h => by cases h⟩, ⟨n, D, ⟨es, ck, hxm.trans h4, h5⟩, h6, h7⟩, h.ne⟩
  have hba : Below (w.setCell ⟨g, 2, none⟩ (.slice none 0 0)).heap.size (w.setCell ⟨g, 2, none⟩ (.slice none 0 0)) (((w.setCell ⟨g, 2, none⟩ (.slice none 0 0)).alloc (.cells #[.int .i64 rk, .int .i64 ri, .string rt, .slice rA rn rc] 28)).alloc (.cells out0 32)) := below_alloc (below_alloc (Below.refl _ _) _) _
  have ho : (((w.setCell ⟨g, 2, none⟩ (.slice none 0 0)).alloc (.cells #[.int .i64 rk, .int .i64 ri, .string rt, .slice rA rn rc] 28)).alloc (.cells out0 32)).heap[w.heap.size + 1]? = some (.cells out0 32 (0, 0)) := by
    have := heap1 (w.setCell ⟨g, 2, none⟩ (.slice none 0 0)) (.cells #[.int .i64 rk, .int .i64 ri, .string rt, .slice rA rn rc] 28) (.cells out0 32)
    rwa [World.size_setCell] at this
  have hclf := hcl.below hba
  have hkf := hk.below (hba.mono (by simp))
  clear hx hxm hk hcl hba
  replace ho := Lib.hid ho
  replace hclf := Lib.hid hclf
  replace hkf := Lib.hid hkf
  replace hb := Lib.hid hb
  clear hr hT h
  go_enter Tryd.func19, Tryd.ntmps19
  go_wp2_with ((with_reducible refine store_at (ty := 32) (x := .tmp 3) (y := .tmp 8) ?_); refine ⟨w.heap.size + 1, (outC 0 0 0 (.slice none 0 0) 0 false rk ri rt (.slice rA rn rc) true), 32, out0, rfl, rfl, ho.out, info32, rfl, out_one _ _ _ _ _ _ _ _ _ _ _ _ _ _ _, ?_⟩)
  exact bodyPost_ret (results_cell1 Tryd.results19 _ _ (w.heap.size + 1) 32 (outC 0 0 0 (.slice none 0 0) 0 false rk ri rt (.slice rA rn rc) true) (0, 0) _ rfl (setRow_heap _ _ _ _ _ _ ho.out) Tryd.underlying32 rfl info32) rfl ⟨rfl, hclf.out.row ho.out (by decide) (by omega) (by omega), hkf.out.below (below_setRow (Below.refl _ _) (by omega) _)⟩
set_option maxHeartbeats 4000000 in
set_option maxRecDepth 100000 in
theorem Take_none (m g : Nat) (s : CS) (L : LV) (hn : 0 ≤ s.num ∧ s.num ≤ 1000000000) (w : World) (h : Cl m g s w) (hno : ¬ (0 < s.args.length) ∨ L.kind ≠ 2 ∨ L.num ≠ s.num) : Calls Tryd.prog 10 #[.pointer (some ⟨g, 0, none⟩), .agg (lcells L)] w (DoPost m g (s, .none) w) := by
  obtain ⟨A, c, hb, hr, hc, hT⟩ := h.box
  have hm := h.lt.1
  have hg := h.lt.2
  obtain ⟨hTS, hb0⟩ := take_world w g L hg hb
  have hcl0 := h.below hb0
  have hsz : (((w.alloc (.cells #[.pointer (some ⟨g, 0, none⟩)] 24)).alloc (.cells (lcells L) 30)).alloc (.cells out0 32)).heap.size = w.heap.size + 3 := by simp
  replace h := Lib.hid h
  replace hb := Lib.hid hb
  replace hr := Lib.hid hr
  replace hT := Lib.hid hT
  replace hcl0 := Lib.hid hcl0
  replace hTS := Lib.hid hTS
  replace hb0 := Lib.hid hb0
  replace hsz := Lib.hid hsz
  have hLC : lcells L = #[.int .i64 L.kind, .int .i64 L.num, .int .i64 L.slot, .int .i64 L.ends, .string L.key, .string L.text, .slice L.args.1 L.args.2.1 L.args.2.2, .int .i64 L.rk, .int .i64 L.ri, .string L.rt, .slice L.rl.1 L.rl.2.1 L.rl.2.2, .bool L.good, .int .i64 L.asking] := rfl
  rw [hLC]
  by_cases hbz : 0 < s.args.length
  · have dbusy : decide (0 < s.args.length) = true := decide_eq_true hbz
    by_cases hk : L.kind = 2
    · have hnn : L.num ≠ s.num := by rcases hno with h1 | h1 | h1; exact absurd hbz h1; exact absurd hk h1; exact h1
      have d1' := Lib.hid (show (L.kind != 2) = false by rw [hk]; rfl)
      have d2' := Lib.hid (show (L.num != s.num) = true by rw [bne_iff_ne]; exact hnn)
      clear hno hk hnn
      go_enter Tryd.func10, Tryd.ntmps10
      go_wp2_with fail
      change Code.wp _ _ _ _ (((w.alloc (.cells #[.pointer (some ⟨g, 0, none⟩)] 24)).alloc (.cells (lcells L) 30)).alloc (.cells out0 32))
      have hTS := hTS.out
      generalize (((w.alloc (.cells #[.pointer (some ⟨g, 0, none⟩)] 24)).alloc (.cells (lcells L) 30)).alloc (.cells out0 32)) = W0 at *
      refine wp_region_held_drew (S := TS g w.heap.size #[.int .i64 s.home, .map (some m), .slice A s.args.length c, .int .i64 s.num, .int .i64 s.bud] (lcells L) W0) (by kernel_rfl) (hTS.step ⟨rfl, rfl, rfl, Nat.le_refl _, fun _ _ => rfl⟩) (fun hHeld => ?_)
      refine wpAnyH_take (i := 0) (oi := ⟨some 8, _, _, _, _, _⟩) (v := .pointer (some ⟨g, 0, none⟩)) rfl (by kernel_rfl) (by kernel_rfl) (by kernel_rfl) (fun _ _ _ h => h) (Or.inl ⟨by rfl, fun W hW => by have q := hW.c0; go_simp⟩) (by assumption) ?_
      try simp only [Act.put, List.setIfInBounds_toArray, List.set_cons_zero, List.set_cons_succ]
      refine wpAnyH_ready (rs := [1]) (by kernel_rfl) (by simp) ?_
      refine AllReadyH.cons (o := ⟨some 9, _, _, _, _, _⟩) rfl (fun K hK => ?_) AllReadyH.nil
      go_simp
      refine (Busy_calls m g s _ (hcl0.out.below (TS.below (by assumption)))).mono ?_
      rintro e w1 ⟨rfl, rfl⟩
      rw [dbusy]
      go_wp2_with fail
      refine hK.out _ _ (by assumption) (fun hHeld1 => ?_)
      clear hK K
      try simp only [Act.put, List.setIfInBounds_toArray, List.set_cons_zero, List.set_cons_succ]
      refine wpAnyH_take (i := 2) (oi := ⟨some 10, _, _, _, _, _⟩) (v := .bool false) rfl (by kernel_rfl) (by kernel_rfl) (by kernel_rfl) (fun _ _ _ h => h) (Or.inl ⟨by rfl, fun W hW => by go_simp⟩) (by assumption) ?_
      try simp only [Act.put, List.setIfInBounds_toArray, List.set_cons_zero, List.set_cons_succ]
      refine wpAnyH_take (i := 3) (oi := ⟨some 11, _, _, _, _, _⟩) (v := .bool false) rfl (by kernel_rfl) (by kernel_rfl) (by kernel_rfl) (fun _ _ _ h => h) (Or.inl ⟨by rfl, fun W hW => by go_simp⟩) (by assumption) ?_
      try simp only [Act.put, List.setIfInBounds_toArray, List.set_cons_zero, List.set_cons_succ]
      refine wpAnyH_take (i := 4) (oi := ⟨some 12, _, _, _, _, _⟩) (v := .pointer (some ⟨w.heap.size + 1, 0, none⟩)) rfl (by kernel_rfl) (by kernel_rfl) (by kernel_rfl) (fun _ _ _ h => h) (Or.inl ⟨by rfl, fun W hW => by go_simp⟩) (by assumption) ?_
      try simp only [Act.put, List.setIfInBounds_toArray, List.set_cons_zero, List.set_cons_succ]
      refine wpAnyH_take (i := 5) (oi := ⟨some 13, _, _, _, _, _⟩) (v := .int .i64 L.kind) rfl (by kernel_rfl) (by kernel_rfl) (by kernel_rfl) (fun _ _ _ h => h) (Or.inl ⟨by rfl, fun W hW => by have q := hW.l0; go_simp⟩) (by assumption) ?_
      try simp only [Act.put, List.setIfInBounds_toArray, List.set_cons_zero, List.set_cons_succ]
      refine wpAnyH_take (i := 6) (oi := ⟨some 14, _, _, _, _, _⟩) (v := .bool false) rfl (by kernel_rfl) (by kernel_rfl) (by kernel_rfl) (fun _ _ _ h => h) (Or.inl ⟨by rfl, fun W hW => by have q := d1'.out; go_simp⟩) (by assumption) ?_
      try simp only [Act.put, List.setIfInBounds_toArray, List.set_cons_zero, List.set_cons_succ]
      refine wpAnyH_take (i := 7) (oi := ⟨some 15, _, _, _, _, _⟩) (v := .bool false) rfl (by kernel_rfl) (by kernel_rfl) (by kernel_rfl) (fun _ _ _ h => h) (Or.inl ⟨by rfl, fun W hW => by go_simp⟩) (by assumption) ?_
      try simp only [Act.put, List.setIfInBounds_toArray, List.set_cons_zero, List.set_cons_succ]
      refine wpAnyH_take (i := 8) (oi := ⟨some 16, _, _, _, _, _⟩) (v := .bool false) rfl (by kernel_rfl) (by kernel_rfl) (by kernel_rfl) (fun _ _ _ h => h) (Or.inl ⟨by rfl, fun W hW => by go_simp⟩) (by assumption) ?_
      try simp only [Act.put, List.setIfInBounds_toArray, List.set_cons_zero, List.set_cons_succ]
      refine wpAnyH_take (i := 9) (oi := ⟨some 17, _, _, _, _, _⟩) (v := .pointer (some ⟨w.heap.size + 1, 1, none⟩)) rfl (by kernel_rfl) (by kernel_rfl) (by kernel_rfl) (fun _ _ _ h => h) (Or.inl ⟨by rfl, fun W hW => by go_simp⟩) (by assumption) ?_
      try simp only [Act.put, List.setIfInBounds_toArray, List.set_cons_zero, List.set_cons_succ]
      refine wpAnyH_take (i := 10) (oi := ⟨some 18, _, _, _, _, _⟩) (v := .int .i64 L.num) rfl (by kernel_rfl) (by kernel_rfl) (by kernel_rfl) (fun _ _ _ h => h) (Or.inl ⟨by rfl, fun W hW => by have q := hW.l1; go_simp⟩) (by assumption) ?_
      try simp only [Act.put, List.setIfInBounds_toArray, List.set_cons_zero, List.set_cons_succ]
      refine wpAnyH_take (i := 11) (oi := ⟨some 19, _, _, _, _, _⟩) (v := .pointer (some ⟨g, 0, none⟩)) rfl (by kernel_rfl) (by kernel_rfl) (by kernel_rfl) (fun _ _ _ h => h) (Or.inl ⟨by rfl, fun W hW => by have q := hW.c0; go_simp⟩) (by assumption) ?_
      try simp only [Act.put, List.setIfInBounds_toArray, List.set_cons_zero, List.set_cons_succ]
      refine wpAnyH_take (i := 12) (oi := ⟨some 20, _, _, _, _, _⟩) (v := .pointer (some ⟨g, 0, none⟩)) rfl (by kernel_rfl) (by kernel_rfl) (by kernel_rfl) (fun _ _ _ h => h) (Or.inl ⟨by rfl, fun W hW => by go_simp⟩) (by assumption) ?_
      try simp only [Act.put, List.setIfInBounds_toArray, List.set_cons_zero, List.set_cons_succ]
      refine wpAnyH_take (i := 13) (oi := ⟨some 21, _, _, _, _, _⟩) (v := .pointer (some ⟨g, 3, none⟩)) rfl (by kernel_rfl) (by kernel_rfl) (by kernel_rfl) (fun _ _ _ h => h) (Or.inl ⟨by rfl, fun W hW => by go_simp⟩) (by assumption) ?_
      try simp only [Act.put, List.setIfInBounds_toArray, List.set_cons_zero, List.set_cons_succ]
      refine wpAnyH_take (i := 14) (oi := ⟨some 22, _, _, _, _, _⟩) (v := .int .i64 s.num) rfl (by kernel_rfl) (by kernel_rfl) (by kernel_rfl) (fun _ _ _ h => h) (Or.inl ⟨by rfl, fun W hW => by obtain ⟨q0, q1, q2, q3, q4⟩ := box_cells hW.bx; go_simp⟩) (by assumption) ?_
      try simp only [Act.put, List.setIfInBounds_toArray, List.set_cons_zero, List.set_cons_succ]
      refine wpAnyH_take (i := 15) (oi := ⟨some 23, _, _, _, _, _⟩) (v := .bool true) rfl (by kernel_rfl) (by kernel_rfl) (by kernel_rfl) (fun _ _ _ h => h) (Or.inl ⟨by rfl, fun W hW => by have q := d2'.out; go_simp⟩) (by assumption) ?_
      try simp only [Act.put, List.setIfInBounds_toArray, List.set_cons_zero, List.set_cons_succ]
      refine wpAnyH_take (i := 16) (oi := ⟨some 24, _, _, _, _, _⟩) (v := .bool true) rfl (by kernel_rfl) (by kernel_rfl) (by kernel_rfl) (fun _ _ _ h => h) (Or.inl ⟨by rfl, fun W hW => by go_simp⟩) (by assumption) ?_
      try simp only [Act.put, List.setIfInBounds_toArray, List.set_cons_zero, List.set_cons_succ]
      refine wpAnyH_done (by kernel_rfl) ?_ _
      go_wp2_with ((with_reducible refine store_at (ty := 32) (x := .tmp 4) (y := .tmp 25) ?_); refine ⟨w.heap.size + 2, out0, 32, out0, rfl, rfl, (TS.b2 (by assumption)), info32, rfl, out_one _ _ _ _ _ _ _ _ _ _ _ _ _ _ _, ?_⟩)
      exact bodyPost_ret (results_cell1 Tryd.results10 _ _ (w.heap.size + 2) 32 out0 (0, 0) _ rfl (setRow_heap _ _ _ _ _ _ (TS.b2 (by assumption))) Tryd.underlying32 rfl info32) rfl (none_post (by assumption) hb0.out h.out)
    · have d1' := Lib.hid (show (L.kind != 2) = true by rw [bne_iff_ne]; exact hk)
      clear hno hk
      go_enter Tryd.func10, Tryd.ntmps10
      go_wp2_with fail
      change Code.wp _ _ _ _ (((w.alloc (.cells #[.pointer (some ⟨g, 0, none⟩)] 24)).alloc (.cells (lcells L) 30)).alloc (.cells out0 32))
      have hTS := hTS.out
      generalize (((w.alloc (.cells #[.pointer (some ⟨g, 0, none⟩)] 24)).alloc (.cells (lcells L) 30)).alloc (.cells out0 32)) = W0 at *
      refine wp_region_held_drew (S := TS g w.heap.size #[.int .i64 s.home, .map (some m), .slice A s.args.length c, .int .i64 s.num, .int .i64 s.bud] (lcells L) W0) (by kernel_rfl) (hTS.step ⟨rfl, rfl, rfl, Nat.le_refl _, fun _ _ => rfl⟩) (fun hHeld => ?_)
      refine wpAnyH_take (i := 0) (oi := ⟨some 8, _, _, _, _, _⟩) (v := .pointer (some ⟨g, 0, none⟩)) rfl (by kernel_rfl) (by kernel_rfl) (by kernel_rfl) (fun _ _ _ h => h) (Or.inl ⟨by rfl, fun W hW => by have q := hW.c0; go_simp⟩) (by assumption) ?_
      try simp only [Act.put, List.setIfInBounds_toArray, List.set_cons_zero, List.set_cons_succ]
      refine wpAnyH_ready (rs := [1]) (by kernel_rfl) (by simp) ?_
      refine AllReadyH.cons (o := ⟨some 9, _, _, _, _, _⟩) rfl (fun K hK => ?_) AllReadyH.nil
      go_simp
      refine (Busy_calls m g s _ (hcl0.out.below (TS.below (by assumption)))).mono ?_
      rintro e w1 ⟨rfl, rfl⟩
      rw [dbusy]
      go_wp2_with fail
      refine hK.out _ _ (by assumption) (fun hHeld1 => ?_)
      clear hK K
      try simp only [Act.put, List.setIfInBounds_toArray, List.set_cons_zero, List.set_cons_succ]
      refine wpAnyH_take (i := 2) (oi := ⟨some 10, _, _, _, _, _⟩) (v := .bool false) rfl (by kernel_rfl) (by kernel_rfl) (by kernel_rfl) (fun _ _ _ h => h) (Or.inl ⟨by rfl, fun W hW => by go_simp⟩) (by assumption) ?_
      try simp only [Act.put, List.setIfInBounds_toArray, List.set_cons_zero, List.set_cons_succ]
      refine wpAnyH_take (i := 3) (oi := ⟨some 11, _, _, _, _, _⟩) (v := .bool false) rfl (by kernel_rfl) (by kernel_rfl) (by kernel_rfl) (fun _ _ _ h => h) (Or.inl ⟨by rfl, fun W hW => by go_simp⟩) (by assumption) ?_
      try simp only [Act.put, List.setIfInBounds_toArray, List.set_cons_zero, List.set_cons_succ]
      refine wpAnyH_take (i := 4) (oi := ⟨some 12, _, _, _, _, _⟩) (v := .pointer (some ⟨w.heap.size + 1, 0, none⟩)) rfl (by kernel_rfl) (by kernel_rfl) (by kernel_rfl) (fun _ _ _ h => h) (Or.inl ⟨by rfl, fun W hW => by go_simp⟩) (by assumption) ?_
      try simp only [Act.put, List.setIfInBounds_toArray, List.set_cons_zero, List.set_cons_succ]
      refine wpAnyH_take (i := 5) (oi := ⟨some 13, _, _, _, _, _⟩) (v := .int .i64 L.kind) rfl (by kernel_rfl) (by kernel_rfl) (by kernel_rfl) (fun _ _ _ h => h) (Or.inl ⟨by rfl, fun W hW => by have q := hW.l0; go_simp⟩) (by assumption) ?_
      try simp only [Act.put, List.setIfInBounds_toArray, List.set_cons_zero, List.set_cons_succ]
      refine wpAnyH_take (i := 6) (oi := ⟨some 14, _, _, _, _, _⟩) (v := .bool true) rfl (by kernel_rfl) (by kernel_rfl) (by kernel_rfl) (fun _ _ _ h => h) (Or.inl ⟨by rfl, fun W hW => by have q := d1'.out; go_simp⟩) (by assumption) ?_
      try simp only [Act.put, List.setIfInBounds_toArray, List.set_cons_zero, List.set_cons_succ]
      refine wpAnyH_take (i := 7) (oi := ⟨some 15, _, _, _, _, _⟩) (v := .bool true) rfl (by kernel_rfl) (by kernel_rfl) (by kernel_rfl) (fun _ _ _ h => h) (Or.inl ⟨by rfl, fun W hW => by go_simp⟩) (by assumption) ?_
      try simp only [Act.put, List.setIfInBounds_toArray, List.set_cons_zero, List.set_cons_succ]
      refine wpAnyH_take (i := 8) (oi := ⟨some 16, _, _, _, _, _⟩) (v := .bool true) rfl (by kernel_rfl) (by kernel_rfl) (by kernel_rfl) (fun _ _ _ h => h) (Or.inl ⟨by rfl, fun W hW => by go_simp⟩) (by assumption) ?_
      try simp only [Act.put, List.setIfInBounds_toArray, List.set_cons_zero, List.set_cons_succ]
      refine wpAnyH_take (i := 9) (oi := ⟨some 17, _, _, _, _, _⟩) (v := undef) rfl (by kernel_rfl) (by kernel_rfl) (by kernel_rfl) (fun _ _ _ h => h) (Or.inr ⟨by rfl, rfl⟩) (by assumption) ?_
      try simp only [Act.put, List.setIfInBounds_toArray, List.set_cons_zero, List.set_cons_succ]
      refine wpAnyH_take (i := 10) (oi := ⟨some 18, _, _, _, _, _⟩) (v := undef) rfl (by kernel_rfl) (by kernel_rfl) (by kernel_rfl) (fun _ _ _ h => h) (Or.inr ⟨by rfl, rfl⟩) (by assumption) ?_
      try simp only [Act.put, List.setIfInBounds_toArray, List.set_cons_zero, List.set_cons_succ]
      refine wpAnyH_take (i := 11) (oi := ⟨some 19, _, _, _, _, _⟩) (v := undef) rfl (by kernel_rfl) (by kernel_rfl) (by kernel_rfl) (fun _ _ _ h => h) (Or.inr ⟨by rfl, rfl⟩) (by assumption) ?_
      try simp only [Act.put, List.setIfInBounds_toArray, List.set_cons_zero, List.set_cons_succ]
      refine wpAnyH_take (i := 12) (oi := ⟨some 20, _, _, _, _, _⟩) (v := undef) rfl (by kernel_rfl) (by kernel_rfl) (by kernel_rfl) (fun _ _ _ h => h) (Or.inr ⟨by rfl, rfl⟩) (by assumption) ?_
      try simp only [Act.put, List.setIfInBounds_toArray, List.set_cons_zero, List.set_cons_succ]
      refine wpAnyH_take (i := 13) (oi := ⟨some 21, _, _, _, _, _⟩) (v := undef) rfl (by kernel_rfl) (by kernel_rfl) (by kernel_rfl) (fun _ _ _ h => h) (Or.inr ⟨by rfl, rfl⟩) (by assumption) ?_
      try simp only [Act.put, List.setIfInBounds_toArray, List.set_cons_zero, List.set_cons_succ]
      refine wpAnyH_take (i := 14) (oi := ⟨some 22, _, _, _, _, _⟩) (v := undef) rfl (by kernel_rfl) (by kernel_rfl) (by kernel_rfl) (fun _ _ _ h => h) (Or.inr ⟨by rfl, rfl⟩) (by assumption) ?_
      try simp only [Act.put, List.setIfInBounds_toArray, List.set_cons_zero, List.set_cons_succ]
      refine wpAnyH_take (i := 15) (oi := ⟨some 23, _, _, _, _, _⟩) (v := undef) rfl (by kernel_rfl) (by kernel_rfl) (by kernel_rfl) (fun _ _ _ h => h) (Or.inr ⟨by rfl, rfl⟩) (by assumption) ?_
      try simp only [Act.put, List.setIfInBounds_toArray, List.set_cons_zero, List.set_cons_succ]
      refine wpAnyH_take (i := 16) (oi := ⟨some 24, _, _, _, _, _⟩) (v := .bool true) rfl (by kernel_rfl) (by kernel_rfl) (by kernel_rfl) (fun _ _ _ h => h) (Or.inl ⟨by rfl, fun W hW => by go_simp⟩) (by assumption) ?_
      try simp only [Act.put, List.setIfInBounds_toArray, List.set_cons_zero, List.set_cons_succ]
      refine wpAnyH_done (by kernel_rfl) ?_ _
      go_wp2_with ((with_reducible refine store_at (ty := 32) (x := .tmp 4) (y := .tmp 25) ?_); refine ⟨w.heap.size + 2, out0, 32, out0, rfl, rfl, (TS.b2 (by assumption)), info32, rfl, out_one _ _ _ _ _ _ _ _ _ _ _ _ _ _ _, ?_⟩)
      exact bodyPost_ret (results_cell1 Tryd.results10 _ _ (w.heap.size + 2) 32 out0 (0, 0) _ rfl (setRow_heap _ _ _ _ _ _ (TS.b2 (by assumption))) Tryd.underlying32 rfl info32) rfl (none_post (by assumption) hb0.out h.out)
  · have dbusy : decide (0 < s.args.length) = false := decide_eq_false hbz
    clear hno
    go_enter Tryd.func10, Tryd.ntmps10
    go_wp2_with fail
    change Code.wp _ _ _ _ (((w.alloc (.cells #[.pointer (some ⟨g, 0, none⟩)] 24)).alloc (.cells (lcells L) 30)).alloc (.cells out0 32))
    have hTS := hTS.out
    generalize (((w.alloc (.cells #[.pointer (some ⟨g, 0, none⟩)] 24)).alloc (.cells (lcells L) 30)).alloc (.cells out0 32)) = W0 at *
    refine wp_region_held_drew (S := TS g w.heap.size #[.int .i64 s.home, .map (some m), .slice A s.args.length c, .int .i64 s.num, .int .i64 s.bud] (lcells L) W0) (by kernel_rfl) (hTS.step ⟨rfl, rfl, rfl, Nat.le_refl _, fun _ _ => rfl⟩) (fun hHeld => ?_)
    refine wpAnyH_take (i := 0) (oi := ⟨some 8, _, _, _, _, _⟩) (v := .pointer (some ⟨g, 0, none⟩)) rfl (by kernel_rfl) (by kernel_rfl) (by kernel_rfl) (fun _ _ _ h => h) (Or.inl ⟨by rfl, fun W hW => by have q := hW.c0; go_simp⟩) (by assumption) ?_
    try simp only [Act.put, List.setIfInBounds_toArray, List.set_cons_zero, List.set_cons_succ]
    refine wpAnyH_ready (rs := [1]) (by kernel_rfl) (by simp) ?_
    refine AllReadyH.cons (o := ⟨some 9, _, _, _, _, _⟩) rfl (fun K hK => ?_) AllReadyH.nil
    go_simp
    refine (Busy_calls m g s _ (hcl0.out.below (TS.below (by assumption)))).mono ?_
    rintro e w1 ⟨rfl, rfl⟩
    rw [dbusy]
    go_wp2_with fail
    refine hK.out _ _ (by assumption) (fun hHeld1 => ?_)
    clear hK K
    try simp only [Act.put, List.setIfInBounds_toArray, List.set_cons_zero, List.set_cons_succ]
    refine wpAnyH_take (i := 2) (oi := ⟨some 10, _, _, _, _, _⟩) (v := .bool true) rfl (by kernel_rfl) (by kernel_rfl) (by kernel_rfl) (fun _ _ _ h => h) (Or.inl ⟨by rfl, fun W hW => by go_simp⟩) (by assumption) ?_
    try simp only [Act.put, List.setIfInBounds_toArray, List.set_cons_zero, List.set_cons_succ]
    refine wpAnyH_take (i := 3) (oi := ⟨some 11, _, _, _, _, _⟩) (v := .bool true) rfl (by kernel_rfl) (by kernel_rfl) (by kernel_rfl) (fun _ _ _ h => h) (Or.inl ⟨by rfl, fun W hW => by go_simp⟩) (by assumption) ?_
    try simp only [Act.put, List.setIfInBounds_toArray, List.set_cons_zero, List.set_cons_succ]
    refine wpAnyH_take (i := 4) (oi := ⟨some 12, _, _, _, _, _⟩) (v := undef) rfl (by kernel_rfl) (by kernel_rfl) (by kernel_rfl) (fun _ _ _ h => h) (Or.inr ⟨by rfl, rfl⟩) (by assumption) ?_
    try simp only [Act.put, List.setIfInBounds_toArray, List.set_cons_zero, List.set_cons_succ]
    refine wpAnyH_take (i := 5) (oi := ⟨some 13, _, _, _, _, _⟩) (v := undef) rfl (by kernel_rfl) (by kernel_rfl) (by kernel_rfl) (fun _ _ _ h => h) (Or.inr ⟨by rfl, rfl⟩) (by assumption) ?_
    try simp only [Act.put, List.setIfInBounds_toArray, List.set_cons_zero, List.set_cons_succ]
    refine wpAnyH_take (i := 6) (oi := ⟨some 14, _, _, _, _, _⟩) (v := undef) rfl (by kernel_rfl) (by kernel_rfl) (by kernel_rfl) (fun _ _ _ h => h) (Or.inr ⟨by rfl, rfl⟩) (by assumption) ?_
    try simp only [Act.put, List.setIfInBounds_toArray, List.set_cons_zero, List.set_cons_succ]
    refine wpAnyH_take (i := 7) (oi := ⟨some 15, _, _, _, _, _⟩) (v := .bool true) rfl (by kernel_rfl) (by kernel_rfl) (by kernel_rfl) (fun _ _ _ h => h) (Or.inl ⟨by rfl, fun W hW => by go_simp⟩) (by assumption) ?_
    try simp only [Act.put, List.setIfInBounds_toArray, List.set_cons_zero, List.set_cons_succ]
    refine wpAnyH_take (i := 8) (oi := ⟨some 16, _, _, _, _, _⟩) (v := .bool true) rfl (by kernel_rfl) (by kernel_rfl) (by kernel_rfl) (fun _ _ _ h => h) (Or.inl ⟨by rfl, fun W hW => by go_simp⟩) (by assumption) ?_
    try simp only [Act.put, List.setIfInBounds_toArray, List.set_cons_zero, List.set_cons_succ]
    refine wpAnyH_take (i := 9) (oi := ⟨some 17, _, _, _, _, _⟩) (v := undef) rfl (by kernel_rfl) (by kernel_rfl) (by kernel_rfl) (fun _ _ _ h => h) (Or.inr ⟨by rfl, rfl⟩) (by assumption) ?_
    try simp only [Act.put, List.setIfInBounds_toArray, List.set_cons_zero, List.set_cons_succ]
    refine wpAnyH_take (i := 10) (oi := ⟨some 18, _, _, _, _, _⟩) (v := undef) rfl (by kernel_rfl) (by kernel_rfl) (by kernel_rfl) (fun _ _ _ h => h) (Or.inr ⟨by rfl, rfl⟩) (by assumption) ?_
    try simp only [Act.put, List.setIfInBounds_toArray, List.set_cons_zero, List.set_cons_succ]
    refine wpAnyH_take (i := 11) (oi := ⟨some 19, _, _, _, _, _⟩) (v := undef) rfl (by kernel_rfl) (by kernel_rfl) (by kernel_rfl) (fun _ _ _ h => h) (Or.inr ⟨by rfl, rfl⟩) (by assumption) ?_
    try simp only [Act.put, List.setIfInBounds_toArray, List.set_cons_zero, List.set_cons_succ]
    refine wpAnyH_take (i := 12) (oi := ⟨some 20, _, _, _, _, _⟩) (v := undef) rfl (by kernel_rfl) (by kernel_rfl) (by kernel_rfl) (fun _ _ _ h => h) (Or.inr ⟨by rfl, rfl⟩) (by assumption) ?_
    try simp only [Act.put, List.setIfInBounds_toArray, List.set_cons_zero, List.set_cons_succ]
    refine wpAnyH_take (i := 13) (oi := ⟨some 21, _, _, _, _, _⟩) (v := undef) rfl (by kernel_rfl) (by kernel_rfl) (by kernel_rfl) (fun _ _ _ h => h) (Or.inr ⟨by rfl, rfl⟩) (by assumption) ?_
    try simp only [Act.put, List.setIfInBounds_toArray, List.set_cons_zero, List.set_cons_succ]
    refine wpAnyH_take (i := 14) (oi := ⟨some 22, _, _, _, _, _⟩) (v := undef) rfl (by kernel_rfl) (by kernel_rfl) (by kernel_rfl) (fun _ _ _ h => h) (Or.inr ⟨by rfl, rfl⟩) (by assumption) ?_
    try simp only [Act.put, List.setIfInBounds_toArray, List.set_cons_zero, List.set_cons_succ]
    refine wpAnyH_take (i := 15) (oi := ⟨some 23, _, _, _, _, _⟩) (v := undef) rfl (by kernel_rfl) (by kernel_rfl) (by kernel_rfl) (fun _ _ _ h => h) (Or.inr ⟨by rfl, rfl⟩) (by assumption) ?_
    try simp only [Act.put, List.setIfInBounds_toArray, List.set_cons_zero, List.set_cons_succ]
    refine wpAnyH_take (i := 16) (oi := ⟨some 24, _, _, _, _, _⟩) (v := .bool true) rfl (by kernel_rfl) (by kernel_rfl) (by kernel_rfl) (fun _ _ _ h => h) (Or.inl ⟨by rfl, fun W hW => by go_simp⟩) (by assumption) ?_
    try simp only [Act.put, List.setIfInBounds_toArray, List.set_cons_zero, List.set_cons_succ]
    refine wpAnyH_done (by kernel_rfl) ?_ _
    go_wp2_with ((with_reducible refine store_at (ty := 32) (x := .tmp 4) (y := .tmp 25) ?_); refine ⟨w.heap.size + 2, out0, 32, out0, rfl, rfl, (TS.b2 (by assumption)), info32, rfl, out_one _ _ _ _ _ _ _ _ _ _ _ _ _ _ _, ?_⟩)
    exact bodyPost_ret (results_cell1 Tryd.results10 _ _ (w.heap.size + 2) 32 out0 (0, 0) _ rfl (setRow_heap _ _ _ _ _ _ (TS.b2 (by assumption))) Tryd.underlying32 rfl info32) rfl (none_post (by assumption) hb0.out h.out)
end Go.Proofs.YtpbiohnmmngccaaDoor
