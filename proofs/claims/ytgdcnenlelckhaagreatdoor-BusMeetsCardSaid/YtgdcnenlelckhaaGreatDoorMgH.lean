/- Has gone out what the document says? A call on a bus, and on the document's. A document's bus that knows nothing; what calls leave of a node's numbers. What comes twice changes nothing the second time, plain. What calls leave of a node's numbers, plain. Conditions: the listed variables as laid. -/
import Derived.Test.YtgdcnenlelckhaaGreatDoorMgG
import Derived.Test.YtgdcnenlelckhaaGreatDoorMgA
set_option linter.unusedVariables false
set_option linter.unusedSimpArgs false
namespace Go.Proofs.YtgdcnenlelckhaaGreatDoor
open Go.RowKit Go.Proofs.YtgdcnenlelckhaaGreatDoorW.PrintWords
open SlS SlT
set_option maxHeartbeats 4000000 in
set_option maxRecDepth 100000 in
theorem same_calls {A B : Option Addr} {c d : Nat} {l m : List (Int × ByteArray)} (w : World) (hl : w.ownsRow 0 35 2 (.slice A l.length c) l.length (outR l)) (hls : l.length ≤ 1000000000) (hm : w.ownsRow 0 97 2 (.slice B m.length d) m.length (outR m)) :
    Calls Tryz.prog 17 #[.slice A l.length c, .slice B m.length d] w fun e w' => ∃ r, e = .returned (.bool r) ∧ (l = m → r = true) ∧ Below w.heap.size w w' := by
  obtain ⟨hlc, hlq⟩ := out_cells hl
  obtain ⟨hmd, hmq⟩ := out_cells hm
  clear hl hm
  have hbr : Below w.heap.size w w := Below.refl _ _
  by_cases hn : l.length = m.length
  · have hgo : ((l.length : Int) == (m.length : Int)) = true := beq_iff_eq.2 (by omega)
    have hn' := Lib.hid hn
    clear hn
    go_enter Tryz.func17, Tryz.ntmps17
    go_wp2_with fail
    go_loopw [13] (fun s13 wr => ∃ i : Nat, i ≤ l.length ∧ s13 = .int .i64 i ∧ Below w.heap.size w wr) (fun s13 _ => l.length - (intOf s13).toNat)
    case atStart => exact ⟨0, by omega, rfl, hbr⟩
    case round =>
      obtain ⟨i, hi, rfl, hb⟩ := hrel
      by_cases hil : i < l.length
      · have hgo3 : decide ((i : Int) < (l.length : Int)) = true := decide_eq_true (by omega)
        have him : i < m.length := by have := hn'.out; omega
        have hi0 : (0 : Int) ≤ (i : Int) := by omega
        obtain ⟨p, hp⟩ : ∃ p, l[i]? = some p := ⟨l[i], List.getElem?_eq_getElem hil⟩
        obtain ⟨q, hq⟩ : ∃ q, m[i]? = some q := ⟨m[i], List.getElem?_eq_getElem him⟩
        obtain ⟨g, rfl, hg, u0, u1⟩ := hlq i p hp
        obtain ⟨k, rfl, hk, v0, v1⟩ := hmq i q hq
        replace u0 := (hb.cell (p := ⟨g, i * 2, none⟩) hg).trans u0
        replace u1 := (hb.cell (p := ⟨g, i * 2 + 1, none⟩) hg).trans u1
        replace v0 := (hb.cell (p := ⟨k, i * 2, none⟩) hk).trans v0
        replace v1 := (hb.cell (p := ⟨k, i * 2 + 1, none⟩) hk).trans v1
        have hne : p ≠ q → l ≠ m := fun h e => by
          subst e
          rw [hp] at hq
          injection hq with hq
          exact h hq
        have hS : wr.drew.cell? ⟨g, i * 2, none⟩ = some (.int .i64 p.1) ∧ wr.drew.cell? ⟨g, i * 2 + 1, none⟩ = some (.string p.2) ∧ wr.drew.cell? ⟨k, i * 2, none⟩ = some (.int .i64 q.1) ∧ wr.drew.cell? ⟨k, i * 2 + 1, none⟩ = some (.string q.2) := ⟨u0, u1, v0, v1⟩
        replace hS := Lib.hid hS
        have hbd := Lib.hid (hb.trans ((below_drew (Below.refl wr.heap.size wr)).mono hb.size))
        clear hlq hmq u0 u1 v0 v1 hb hp hq
        go_wp2_with fail
        refine wp_region_held_drew (S := fun W => W.cell? ⟨g, i * 2, none⟩ = some (.int .i64 p.1) ∧ W.cell? ⟨g, i * 2 + 1, none⟩ = some (.string p.2) ∧ W.cell? ⟨k, i * 2, none⟩ = some (.int .i64 q.1) ∧ W.cell? ⟨k, i * 2 + 1, none⟩ = some (.string q.2)) (by kernel_rfl) hS.out (fun hHeld => ?_)
        clear hHeld
        replace hS := hS.out
        generalize World.drew _ = W2 at *
        by_cases h1 : p.1 = q.1
        · by_cases h2 : p.2.toList = q.2.toList
          · replace h1 := Lib.hid h1
            replace h2 := Lib.hid h2
            refine wpAnyH_take (i := 0) (oi := ⟨some 16, _, _, _, _, _⟩) (v := .slice (some ⟨g, 0, none⟩) l.length c) rfl (by kernel_rfl) (by kernel_rfl) (by kernel_rfl) (fun _ _ _ h => h) (Or.inl ⟨by rfl, fun W hW => by go_simp; try (first | exact h1.out | exact h2.out | exact fun h => h1.out h | exact fun h => h2.out h | (intro h; omega))⟩) hS ?_
            try simp only [Act.put, List.setIfInBounds_toArray, List.set_cons_zero, List.set_cons_succ]
            refine wpAnyH_take (i := 1) (oi := ⟨some 17, _, _, _, _, _⟩) (v := .int .i64 (i : Int)) rfl (by kernel_rfl) (by kernel_rfl) (by kernel_rfl) (fun _ _ _ h => h) (Or.inl ⟨by rfl, fun W hW => by go_simp; try (first | exact h1.out | exact h2.out | exact fun h => h1.out h | exact fun h => h2.out h | (intro h; omega))⟩) hS ?_
            try simp only [Act.put, List.setIfInBounds_toArray, List.set_cons_zero, List.set_cons_succ]
            refine wpAnyH_take (i := 2) (oi := ⟨some 18, _, _, _, _, _⟩) (v := .pointer (some ⟨g, i * 2, none⟩)) rfl (by kernel_rfl) (by kernel_rfl) (by kernel_rfl) (fun _ _ _ h => h) (Or.inl ⟨by rfl, fun W hW => by go_simp; try (first | exact h1.out | exact h2.out | exact fun h => h1.out h | exact fun h => h2.out h | (intro h; omega))⟩) hS ?_
            try simp only [Act.put, List.setIfInBounds_toArray, List.set_cons_zero, List.set_cons_succ]
            refine wpAnyH_take (i := 3) (oi := ⟨some 19, _, _, _, _, _⟩) (v := .pointer (some ⟨g, i * 2, none⟩)) rfl (by kernel_rfl) (by kernel_rfl) (by kernel_rfl) (fun _ _ _ h => h) (Or.inl ⟨by rfl, fun W hW => by go_simp; try (first | exact h1.out | exact h2.out | exact fun h => h1.out h | exact fun h => h2.out h | (intro h; omega))⟩) hS ?_
            try simp only [Act.put, List.setIfInBounds_toArray, List.set_cons_zero, List.set_cons_succ]
            refine wpAnyH_take (i := 4) (oi := ⟨some 20, _, _, _, _, _⟩) (v := .int .i64 p.1) rfl (by kernel_rfl) (by kernel_rfl) (by kernel_rfl) (fun _ _ _ h => h) (Or.inl ⟨by rfl, fun W hW => by obtain ⟨p0, p1, p2, p3⟩ := hW; go_simp; try (first | exact h1.out | exact h2.out | exact fun h => h1.out h | exact fun h => h2.out h | (intro h; omega))⟩) hS ?_
            try simp only [Act.put, List.setIfInBounds_toArray, List.set_cons_zero, List.set_cons_succ]
            refine wpAnyH_take (i := 5) (oi := ⟨some 21, _, _, _, _, _⟩) (v := .slice (some ⟨k, 0, none⟩) m.length d) rfl (by kernel_rfl) (by kernel_rfl) (by kernel_rfl) (fun _ _ _ h => h) (Or.inl ⟨by rfl, fun W hW => by go_simp; try (first | exact h1.out | exact h2.out | exact fun h => h1.out h | exact fun h => h2.out h | (intro h; omega))⟩) hS ?_
            try simp only [Act.put, List.setIfInBounds_toArray, List.set_cons_zero, List.set_cons_succ]
            refine wpAnyH_take (i := 6) (oi := ⟨some 22, _, _, _, _, _⟩) (v := .int .i64 (i : Int)) rfl (by kernel_rfl) (by kernel_rfl) (by kernel_rfl) (fun _ _ _ h => h) (Or.inl ⟨by rfl, fun W hW => by go_simp; try (first | exact h1.out | exact h2.out | exact fun h => h1.out h | exact fun h => h2.out h | (intro h; omega))⟩) hS ?_
            try simp only [Act.put, List.setIfInBounds_toArray, List.set_cons_zero, List.set_cons_succ]
            refine wpAnyH_take (i := 7) (oi := ⟨some 23, _, _, _, _, _⟩) (v := .pointer (some ⟨k, i * 2, none⟩)) rfl (by kernel_rfl) (by kernel_rfl) (by kernel_rfl) (fun _ _ _ h => h) (Or.inl ⟨by rfl, fun W hW => by go_simp; try (first | exact h1.out | exact h2.out | exact fun h => h1.out h | exact fun h => h2.out h | (intro h; omega))⟩) hS ?_
            try simp only [Act.put, List.setIfInBounds_toArray, List.set_cons_zero, List.set_cons_succ]
            refine wpAnyH_take (i := 8) (oi := ⟨some 24, _, _, _, _, _⟩) (v := .pointer (some ⟨k, i * 2, none⟩)) rfl (by kernel_rfl) (by kernel_rfl) (by kernel_rfl) (fun _ _ _ h => h) (Or.inl ⟨by rfl, fun W hW => by go_simp; try (first | exact h1.out | exact h2.out | exact fun h => h1.out h | exact fun h => h2.out h | (intro h; omega))⟩) hS ?_
            try simp only [Act.put, List.setIfInBounds_toArray, List.set_cons_zero, List.set_cons_succ]
            refine wpAnyH_take (i := 9) (oi := ⟨some 25, _, _, _, _, _⟩) (v := .int .i64 q.1) rfl (by kernel_rfl) (by kernel_rfl) (by kernel_rfl) (fun _ _ _ h => h) (Or.inl ⟨by rfl, fun W hW => by obtain ⟨p0, p1, p2, p3⟩ := hW; go_simp; try (first | exact h1.out | exact h2.out | exact fun h => h1.out h | exact fun h => h2.out h | (intro h; omega))⟩) hS ?_
            try simp only [Act.put, List.setIfInBounds_toArray, List.set_cons_zero, List.set_cons_succ]
            refine wpAnyH_take (i := 10) (oi := ⟨some 26, _, _, _, _, _⟩) (v := .bool false) rfl (by kernel_rfl) (by kernel_rfl) (by kernel_rfl) (fun _ _ _ h => h) (Or.inl ⟨by rfl, fun W hW => by go_simp; try (first | exact h1.out | exact h2.out | exact fun h => h1.out h | exact fun h => h2.out h | (intro h; omega))⟩) hS ?_
            try simp only [Act.put, List.setIfInBounds_toArray, List.set_cons_zero, List.set_cons_succ]
            refine wpAnyH_take (i := 11) (oi := ⟨some 27, _, _, _, _, _⟩) (v := .bool false) rfl (by kernel_rfl) (by kernel_rfl) (by kernel_rfl) (fun _ _ _ h => h) (Or.inl ⟨by rfl, fun W hW => by go_simp; try (first | exact h1.out | exact h2.out | exact fun h => h1.out h | exact fun h => h2.out h | (intro h; omega))⟩) hS ?_
            try simp only [Act.put, List.setIfInBounds_toArray, List.set_cons_zero, List.set_cons_succ]
            refine wpAnyH_take (i := 12) (oi := ⟨some 28, _, _, _, _, _⟩) (v := .slice (some ⟨g, 0, none⟩) l.length c) rfl (by kernel_rfl) (by kernel_rfl) (by kernel_rfl) (fun _ _ _ h => h) (Or.inl ⟨by rfl, fun W hW => by go_simp; try (first | exact h1.out | exact h2.out | exact fun h => h1.out h | exact fun h => h2.out h | (intro h; omega))⟩) hS ?_
            try simp only [Act.put, List.setIfInBounds_toArray, List.set_cons_zero, List.set_cons_succ]
            refine wpAnyH_take (i := 13) (oi := ⟨some 29, _, _, _, _, _⟩) (v := .int .i64 (i : Int)) rfl (by kernel_rfl) (by kernel_rfl) (by kernel_rfl) (fun _ _ _ h => h) (Or.inl ⟨by rfl, fun W hW => by go_simp; try (first | exact h1.out | exact h2.out | exact fun h => h1.out h | exact fun h => h2.out h | (intro h; omega))⟩) hS ?_
            try simp only [Act.put, List.setIfInBounds_toArray, List.set_cons_zero, List.set_cons_succ]
            refine wpAnyH_take (i := 14) (oi := ⟨some 30, _, _, _, _, _⟩) (v := .pointer (some ⟨g, i * 2, none⟩)) rfl (by kernel_rfl) (by kernel_rfl) (by kernel_rfl) (fun _ _ _ h => h) (Or.inl ⟨by rfl, fun W hW => by go_simp; try (first | exact h1.out | exact h2.out | exact fun h => h1.out h | exact fun h => h2.out h | (intro h; omega))⟩) hS ?_
            try simp only [Act.put, List.setIfInBounds_toArray, List.set_cons_zero, List.set_cons_succ]
            refine wpAnyH_take (i := 15) (oi := ⟨some 31, _, _, _, _, _⟩) (v := .pointer (some ⟨g, i * 2 + 1, none⟩)) rfl (by kernel_rfl) (by kernel_rfl) (by kernel_rfl) (fun _ _ _ h => h) (Or.inl ⟨by rfl, fun W hW => by go_simp; try (first | exact h1.out | exact h2.out | exact fun h => h1.out h | exact fun h => h2.out h | (intro h; omega))⟩) hS ?_
            try simp only [Act.put, List.setIfInBounds_toArray, List.set_cons_zero, List.set_cons_succ]
            refine wpAnyH_take (i := 16) (oi := ⟨some 32, _, _, _, _, _⟩) (v := .string p.2) rfl (by kernel_rfl) (by kernel_rfl) (by kernel_rfl) (fun _ _ _ h => h) (Or.inl ⟨by rfl, fun W hW => by obtain ⟨p0, p1, p2, p3⟩ := hW; go_simp; try (first | exact h1.out | exact h2.out | exact fun h => h1.out h | exact fun h => h2.out h | (intro h; omega))⟩) hS ?_
            try simp only [Act.put, List.setIfInBounds_toArray, List.set_cons_zero, List.set_cons_succ]
            refine wpAnyH_take (i := 17) (oi := ⟨some 33, _, _, _, _, _⟩) (v := .slice (some ⟨k, 0, none⟩) m.length d) rfl (by kernel_rfl) (by kernel_rfl) (by kernel_rfl) (fun _ _ _ h => h) (Or.inl ⟨by rfl, fun W hW => by go_simp; try (first | exact h1.out | exact h2.out | exact fun h => h1.out h | exact fun h => h2.out h | (intro h; omega))⟩) hS ?_
            try simp only [Act.put, List.setIfInBounds_toArray, List.set_cons_zero, List.set_cons_succ]
            refine wpAnyH_take (i := 18) (oi := ⟨some 34, _, _, _, _, _⟩) (v := .int .i64 (i : Int)) rfl (by kernel_rfl) (by kernel_rfl) (by kernel_rfl) (fun _ _ _ h => h) (Or.inl ⟨by rfl, fun W hW => by go_simp; try (first | exact h1.out | exact h2.out | exact fun h => h1.out h | exact fun h => h2.out h | (intro h; omega))⟩) hS ?_
            try simp only [Act.put, List.setIfInBounds_toArray, List.set_cons_zero, List.set_cons_succ]
            refine wpAnyH_take (i := 19) (oi := ⟨some 35, _, _, _, _, _⟩) (v := .pointer (some ⟨k, i * 2, none⟩)) rfl (by kernel_rfl) (by kernel_rfl) (by kernel_rfl) (fun _ _ _ h => h) (Or.inl ⟨by rfl, fun W hW => by go_simp; try (first | exact h1.out | exact h2.out | exact fun h => h1.out h | exact fun h => h2.out h | (intro h; omega))⟩) hS ?_
            try simp only [Act.put, List.setIfInBounds_toArray, List.set_cons_zero, List.set_cons_succ]
            refine wpAnyH_take (i := 20) (oi := ⟨some 36, _, _, _, _, _⟩) (v := .pointer (some ⟨k, i * 2 + 1, none⟩)) rfl (by kernel_rfl) (by kernel_rfl) (by kernel_rfl) (fun _ _ _ h => h) (Or.inl ⟨by rfl, fun W hW => by go_simp; try (first | exact h1.out | exact h2.out | exact fun h => h1.out h | exact fun h => h2.out h | (intro h; omega))⟩) hS ?_
            try simp only [Act.put, List.setIfInBounds_toArray, List.set_cons_zero, List.set_cons_succ]
            refine wpAnyH_take (i := 21) (oi := ⟨some 37, _, _, _, _, _⟩) (v := .string q.2) rfl (by kernel_rfl) (by kernel_rfl) (by kernel_rfl) (fun _ _ _ h => h) (Or.inl ⟨by rfl, fun W hW => by obtain ⟨p0, p1, p2, p3⟩ := hW; go_simp; try (first | exact h1.out | exact h2.out | exact fun h => h1.out h | exact fun h => h2.out h | (intro h; omega))⟩) hS ?_
            try simp only [Act.put, List.setIfInBounds_toArray, List.set_cons_zero, List.set_cons_succ]
            refine wpAnyH_take (i := 22) (oi := ⟨some 38, _, _, _, _, _⟩) (v := .bool false) rfl (by kernel_rfl) (by kernel_rfl) (by kernel_rfl) (fun _ _ _ h => h) (Or.inl ⟨by rfl, fun W hW => by go_simp; try (first | exact h1.out | exact h2.out | exact fun h => h1.out h | exact fun h => h2.out h | (intro h; omega))⟩) hS ?_
            try simp only [Act.put, List.setIfInBounds_toArray, List.set_cons_zero, List.set_cons_succ]
            refine wpAnyH_take (i := 23) (oi := ⟨some 39, _, _, _, _, _⟩) (v := .bool false) rfl (by kernel_rfl) (by kernel_rfl) (by kernel_rfl) (fun _ _ _ h => h) (Or.inl ⟨by rfl, fun W hW => by go_simp; try (first | exact h1.out | exact h2.out | exact fun h => h1.out h | exact fun h => h2.out h | (intro h; omega))⟩) hS ?_
            try simp only [Act.put, List.setIfInBounds_toArray, List.set_cons_zero, List.set_cons_succ]
            refine wpAnyH_done (by kernel_rfl) ?_ _
            clear hS
            go_wp2_with fail
            exact ⟨⟨i + 1, by omega, by go_num, hbd.out⟩, by simp [intOf]; omega⟩
          · replace h1 := Lib.hid h1
            replace h2 := Lib.hid h2
            refine wpAnyH_take (i := 0) (oi := ⟨some 16, _, _, _, _, _⟩) (v := .slice (some ⟨g, 0, none⟩) l.length c) rfl (by kernel_rfl) (by kernel_rfl) (by kernel_rfl) (fun _ _ _ h => h) (Or.inl ⟨by rfl, fun W hW => by go_simp; try (first | exact h1.out | exact h2.out | exact fun h => h1.out h | exact fun h => h2.out h | (intro h; omega))⟩) hS ?_
            try simp only [Act.put, List.setIfInBounds_toArray, List.set_cons_zero, List.set_cons_succ]
            refine wpAnyH_take (i := 1) (oi := ⟨some 17, _, _, _, _, _⟩) (v := .int .i64 (i : Int)) rfl (by kernel_rfl) (by kernel_rfl) (by kernel_rfl) (fun _ _ _ h => h) (Or.inl ⟨by rfl, fun W hW => by go_simp; try (first | exact h1.out | exact h2.out | exact fun h => h1.out h | exact fun h => h2.out h | (intro h; omega))⟩) hS ?_
            try simp only [Act.put, List.setIfInBounds_toArray, List.set_cons_zero, List.set_cons_succ]
            refine wpAnyH_take (i := 2) (oi := ⟨some 18, _, _, _, _, _⟩) (v := .pointer (some ⟨g, i * 2, none⟩)) rfl (by kernel_rfl) (by kernel_rfl) (by kernel_rfl) (fun _ _ _ h => h) (Or.inl ⟨by rfl, fun W hW => by go_simp; try (first | exact h1.out | exact h2.out | exact fun h => h1.out h | exact fun h => h2.out h | (intro h; omega))⟩) hS ?_
            try simp only [Act.put, List.setIfInBounds_toArray, List.set_cons_zero, List.set_cons_succ]
            refine wpAnyH_take (i := 3) (oi := ⟨some 19, _, _, _, _, _⟩) (v := .pointer (some ⟨g, i * 2, none⟩)) rfl (by kernel_rfl) (by kernel_rfl) (by kernel_rfl) (fun _ _ _ h => h) (Or.inl ⟨by rfl, fun W hW => by go_simp; try (first | exact h1.out | exact h2.out | exact fun h => h1.out h | exact fun h => h2.out h | (intro h; omega))⟩) hS ?_
            try simp only [Act.put, List.setIfInBounds_toArray, List.set_cons_zero, List.set_cons_succ]
            refine wpAnyH_take (i := 4) (oi := ⟨some 20, _, _, _, _, _⟩) (v := .int .i64 p.1) rfl (by kernel_rfl) (by kernel_rfl) (by kernel_rfl) (fun _ _ _ h => h) (Or.inl ⟨by rfl, fun W hW => by obtain ⟨p0, p1, p2, p3⟩ := hW; go_simp; try (first | exact h1.out | exact h2.out | exact fun h => h1.out h | exact fun h => h2.out h | (intro h; omega))⟩) hS ?_
            try simp only [Act.put, List.setIfInBounds_toArray, List.set_cons_zero, List.set_cons_succ]
            refine wpAnyH_take (i := 5) (oi := ⟨some 21, _, _, _, _, _⟩) (v := .slice (some ⟨k, 0, none⟩) m.length d) rfl (by kernel_rfl) (by kernel_rfl) (by kernel_rfl) (fun _ _ _ h => h) (Or.inl ⟨by rfl, fun W hW => by go_simp; try (first | exact h1.out | exact h2.out | exact fun h => h1.out h | exact fun h => h2.out h | (intro h; omega))⟩) hS ?_
            try simp only [Act.put, List.setIfInBounds_toArray, List.set_cons_zero, List.set_cons_succ]
            refine wpAnyH_take (i := 6) (oi := ⟨some 22, _, _, _, _, _⟩) (v := .int .i64 (i : Int)) rfl (by kernel_rfl) (by kernel_rfl) (by kernel_rfl) (fun _ _ _ h => h) (Or.inl ⟨by rfl, fun W hW => by go_simp; try (first | exact h1.out | exact h2.out | exact fun h => h1.out h | exact fun h => h2.out h | (intro h; omega))⟩) hS ?_
            try simp only [Act.put, List.setIfInBounds_toArray, List.set_cons_zero, List.set_cons_succ]
            refine wpAnyH_take (i := 7) (oi := ⟨some 23, _, _, _, _, _⟩) (v := .pointer (some ⟨k, i * 2, none⟩)) rfl (by kernel_rfl) (by kernel_rfl) (by kernel_rfl) (fun _ _ _ h => h) (Or.inl ⟨by rfl, fun W hW => by go_simp; try (first | exact h1.out | exact h2.out | exact fun h => h1.out h | exact fun h => h2.out h | (intro h; omega))⟩) hS ?_
            try simp only [Act.put, List.setIfInBounds_toArray, List.set_cons_zero, List.set_cons_succ]
            refine wpAnyH_take (i := 8) (oi := ⟨some 24, _, _, _, _, _⟩) (v := .pointer (some ⟨k, i * 2, none⟩)) rfl (by kernel_rfl) (by kernel_rfl) (by kernel_rfl) (fun _ _ _ h => h) (Or.inl ⟨by rfl, fun W hW => by go_simp; try (first | exact h1.out | exact h2.out | exact fun h => h1.out h | exact fun h => h2.out h | (intro h; omega))⟩) hS ?_
            try simp only [Act.put, List.setIfInBounds_toArray, List.set_cons_zero, List.set_cons_succ]
            refine wpAnyH_take (i := 9) (oi := ⟨some 25, _, _, _, _, _⟩) (v := .int .i64 q.1) rfl (by kernel_rfl) (by kernel_rfl) (by kernel_rfl) (fun _ _ _ h => h) (Or.inl ⟨by rfl, fun W hW => by obtain ⟨p0, p1, p2, p3⟩ := hW; go_simp; try (first | exact h1.out | exact h2.out | exact fun h => h1.out h | exact fun h => h2.out h | (intro h; omega))⟩) hS ?_
            try simp only [Act.put, List.setIfInBounds_toArray, List.set_cons_zero, List.set_cons_succ]
            refine wpAnyH_take (i := 10) (oi := ⟨some 26, _, _, _, _, _⟩) (v := .bool false) rfl (by kernel_rfl) (by kernel_rfl) (by kernel_rfl) (fun _ _ _ h => h) (Or.inl ⟨by rfl, fun W hW => by go_simp; try (first | exact h1.out | exact h2.out | exact fun h => h1.out h | exact fun h => h2.out h | (intro h; omega))⟩) hS ?_
            try simp only [Act.put, List.setIfInBounds_toArray, List.set_cons_zero, List.set_cons_succ]
            refine wpAnyH_take (i := 11) (oi := ⟨some 27, _, _, _, _, _⟩) (v := .bool false) rfl (by kernel_rfl) (by kernel_rfl) (by kernel_rfl) (fun _ _ _ h => h) (Or.inl ⟨by rfl, fun W hW => by go_simp; try (first | exact h1.out | exact h2.out | exact fun h => h1.out h | exact fun h => h2.out h | (intro h; omega))⟩) hS ?_
            try simp only [Act.put, List.setIfInBounds_toArray, List.set_cons_zero, List.set_cons_succ]
            refine wpAnyH_take (i := 12) (oi := ⟨some 28, _, _, _, _, _⟩) (v := .slice (some ⟨g, 0, none⟩) l.length c) rfl (by kernel_rfl) (by kernel_rfl) (by kernel_rfl) (fun _ _ _ h => h) (Or.inl ⟨by rfl, fun W hW => by go_simp; try (first | exact h1.out | exact h2.out | exact fun h => h1.out h | exact fun h => h2.out h | (intro h; omega))⟩) hS ?_
            try simp only [Act.put, List.setIfInBounds_toArray, List.set_cons_zero, List.set_cons_succ]
            refine wpAnyH_take (i := 13) (oi := ⟨some 29, _, _, _, _, _⟩) (v := .int .i64 (i : Int)) rfl (by kernel_rfl) (by kernel_rfl) (by kernel_rfl) (fun _ _ _ h => h) (Or.inl ⟨by rfl, fun W hW => by go_simp; try (first | exact h1.out | exact h2.out | exact fun h => h1.out h | exact fun h => h2.out h | (intro h; omega))⟩) hS ?_
            try simp only [Act.put, List.setIfInBounds_toArray, List.set_cons_zero, List.set_cons_succ]
            refine wpAnyH_take (i := 14) (oi := ⟨some 30, _, _, _, _, _⟩) (v := .pointer (some ⟨g, i * 2, none⟩)) rfl (by kernel_rfl) (by kernel_rfl) (by kernel_rfl) (fun _ _ _ h => h) (Or.inl ⟨by rfl, fun W hW => by go_simp; try (first | exact h1.out | exact h2.out | exact fun h => h1.out h | exact fun h => h2.out h | (intro h; omega))⟩) hS ?_
            try simp only [Act.put, List.setIfInBounds_toArray, List.set_cons_zero, List.set_cons_succ]
            refine wpAnyH_take (i := 15) (oi := ⟨some 31, _, _, _, _, _⟩) (v := .pointer (some ⟨g, i * 2 + 1, none⟩)) rfl (by kernel_rfl) (by kernel_rfl) (by kernel_rfl) (fun _ _ _ h => h) (Or.inl ⟨by rfl, fun W hW => by go_simp; try (first | exact h1.out | exact h2.out | exact fun h => h1.out h | exact fun h => h2.out h | (intro h; omega))⟩) hS ?_
            try simp only [Act.put, List.setIfInBounds_toArray, List.set_cons_zero, List.set_cons_succ]
            refine wpAnyH_take (i := 16) (oi := ⟨some 32, _, _, _, _, _⟩) (v := .string p.2) rfl (by kernel_rfl) (by kernel_rfl) (by kernel_rfl) (fun _ _ _ h => h) (Or.inl ⟨by rfl, fun W hW => by obtain ⟨p0, p1, p2, p3⟩ := hW; go_simp; try (first | exact h1.out | exact h2.out | exact fun h => h1.out h | exact fun h => h2.out h | (intro h; omega))⟩) hS ?_
            try simp only [Act.put, List.setIfInBounds_toArray, List.set_cons_zero, List.set_cons_succ]
            refine wpAnyH_take (i := 17) (oi := ⟨some 33, _, _, _, _, _⟩) (v := .slice (some ⟨k, 0, none⟩) m.length d) rfl (by kernel_rfl) (by kernel_rfl) (by kernel_rfl) (fun _ _ _ h => h) (Or.inl ⟨by rfl, fun W hW => by go_simp; try (first | exact h1.out | exact h2.out | exact fun h => h1.out h | exact fun h => h2.out h | (intro h; omega))⟩) hS ?_
            try simp only [Act.put, List.setIfInBounds_toArray, List.set_cons_zero, List.set_cons_succ]
            refine wpAnyH_take (i := 18) (oi := ⟨some 34, _, _, _, _, _⟩) (v := .int .i64 (i : Int)) rfl (by kernel_rfl) (by kernel_rfl) (by kernel_rfl) (fun _ _ _ h => h) (Or.inl ⟨by rfl, fun W hW => by go_simp; try (first | exact h1.out | exact h2.out | exact fun h => h1.out h | exact fun h => h2.out h | (intro h; omega))⟩) hS ?_
            try simp only [Act.put, List.setIfInBounds_toArray, List.set_cons_zero, List.set_cons_succ]
            refine wpAnyH_take (i := 19) (oi := ⟨some 35, _, _, _, _, _⟩) (v := .pointer (some ⟨k, i * 2, none⟩)) rfl (by kernel_rfl) (by kernel_rfl) (by kernel_rfl) (fun _ _ _ h => h) (Or.inl ⟨by rfl, fun W hW => by go_simp; try (first | exact h1.out | exact h2.out | exact fun h => h1.out h | exact fun h => h2.out h | (intro h; omega))⟩) hS ?_
            try simp only [Act.put, List.setIfInBounds_toArray, List.set_cons_zero, List.set_cons_succ]
            refine wpAnyH_take (i := 20) (oi := ⟨some 36, _, _, _, _, _⟩) (v := .pointer (some ⟨k, i * 2 + 1, none⟩)) rfl (by kernel_rfl) (by kernel_rfl) (by kernel_rfl) (fun _ _ _ h => h) (Or.inl ⟨by rfl, fun W hW => by go_simp; try (first | exact h1.out | exact h2.out | exact fun h => h1.out h | exact fun h => h2.out h | (intro h; omega))⟩) hS ?_
            try simp only [Act.put, List.setIfInBounds_toArray, List.set_cons_zero, List.set_cons_succ]
            refine wpAnyH_take (i := 21) (oi := ⟨some 37, _, _, _, _, _⟩) (v := .string q.2) rfl (by kernel_rfl) (by kernel_rfl) (by kernel_rfl) (fun _ _ _ h => h) (Or.inl ⟨by rfl, fun W hW => by obtain ⟨p0, p1, p2, p3⟩ := hW; go_simp; try (first | exact h1.out | exact h2.out | exact fun h => h1.out h | exact fun h => h2.out h | (intro h; omega))⟩) hS ?_
            try simp only [Act.put, List.setIfInBounds_toArray, List.set_cons_zero, List.set_cons_succ]
            refine wpAnyH_take (i := 22) (oi := ⟨some 38, _, _, _, _, _⟩) (v := .bool true) rfl (by kernel_rfl) (by kernel_rfl) (by kernel_rfl) (fun _ _ _ h => h) (Or.inl ⟨by rfl, fun W hW => by go_simp; try (first | exact h1.out | exact h2.out | exact fun h => h1.out h | exact fun h => h2.out h | (intro h; omega))⟩) hS ?_
            try simp only [Act.put, List.setIfInBounds_toArray, List.set_cons_zero, List.set_cons_succ]
            refine wpAnyH_take (i := 23) (oi := ⟨some 39, _, _, _, _, _⟩) (v := .bool true) rfl (by kernel_rfl) (by kernel_rfl) (by kernel_rfl) (fun _ _ _ h => h) (Or.inl ⟨by rfl, fun W hW => by go_simp; try (first | exact h1.out | exact h2.out | exact fun h => h1.out h | exact fun h => h2.out h | (intro h; omega))⟩) hS ?_
            try simp only [Act.put, List.setIfInBounds_toArray, List.set_cons_zero, List.set_cons_succ]
            refine wpAnyH_done (by kernel_rfl) ?_ _
            clear hS
            go_wp2_with fail
            go_ret
            exact ⟨false, rfl, fun h => absurd h (hne (fun e => h2.out (by rw [e]))), hbd.out⟩
        · replace h1 := Lib.hid h1
          refine wpAnyH_take (i := 0) (oi := ⟨some 16, _, _, _, _, _⟩) (v := .slice (some ⟨g, 0, none⟩) l.length c) rfl (by kernel_rfl) (by kernel_rfl) (by kernel_rfl) (fun _ _ _ h => h) (Or.inl ⟨by rfl, fun W hW => by go_simp; try (first | exact h1.out | exact h2.out | exact fun h => h1.out h | exact fun h => h2.out h | (intro h; omega))⟩) hS ?_
          try simp only [Act.put, List.setIfInBounds_toArray, List.set_cons_zero, List.set_cons_succ]
          refine wpAnyH_take (i := 1) (oi := ⟨some 17, _, _, _, _, _⟩) (v := .int .i64 (i : Int)) rfl (by kernel_rfl) (by kernel_rfl) (by kernel_rfl) (fun _ _ _ h => h) (Or.inl ⟨by rfl, fun W hW => by go_simp; try (first | exact h1.out | exact h2.out | exact fun h => h1.out h | exact fun h => h2.out h | (intro h; omega))⟩) hS ?_
          try simp only [Act.put, List.setIfInBounds_toArray, List.set_cons_zero, List.set_cons_succ]
          refine wpAnyH_take (i := 2) (oi := ⟨some 18, _, _, _, _, _⟩) (v := .pointer (some ⟨g, i * 2, none⟩)) rfl (by kernel_rfl) (by kernel_rfl) (by kernel_rfl) (fun _ _ _ h => h) (Or.inl ⟨by rfl, fun W hW => by go_simp; try (first | exact h1.out | exact h2.out | exact fun h => h1.out h | exact fun h => h2.out h | (intro h; omega))⟩) hS ?_
          try simp only [Act.put, List.setIfInBounds_toArray, List.set_cons_zero, List.set_cons_succ]
          refine wpAnyH_take (i := 3) (oi := ⟨some 19, _, _, _, _, _⟩) (v := .pointer (some ⟨g, i * 2, none⟩)) rfl (by kernel_rfl) (by kernel_rfl) (by kernel_rfl) (fun _ _ _ h => h) (Or.inl ⟨by rfl, fun W hW => by go_simp; try (first | exact h1.out | exact h2.out | exact fun h => h1.out h | exact fun h => h2.out h | (intro h; omega))⟩) hS ?_
          try simp only [Act.put, List.setIfInBounds_toArray, List.set_cons_zero, List.set_cons_succ]
          refine wpAnyH_take (i := 4) (oi := ⟨some 20, _, _, _, _, _⟩) (v := .int .i64 p.1) rfl (by kernel_rfl) (by kernel_rfl) (by kernel_rfl) (fun _ _ _ h => h) (Or.inl ⟨by rfl, fun W hW => by obtain ⟨p0, p1, p2, p3⟩ := hW; go_simp; try (first | exact h1.out | exact h2.out | exact fun h => h1.out h | exact fun h => h2.out h | (intro h; omega))⟩) hS ?_
          try simp only [Act.put, List.setIfInBounds_toArray, List.set_cons_zero, List.set_cons_succ]
          refine wpAnyH_take (i := 5) (oi := ⟨some 21, _, _, _, _, _⟩) (v := .slice (some ⟨k, 0, none⟩) m.length d) rfl (by kernel_rfl) (by kernel_rfl) (by kernel_rfl) (fun _ _ _ h => h) (Or.inl ⟨by rfl, fun W hW => by go_simp; try (first | exact h1.out | exact h2.out | exact fun h => h1.out h | exact fun h => h2.out h | (intro h; omega))⟩) hS ?_
          try simp only [Act.put, List.setIfInBounds_toArray, List.set_cons_zero, List.set_cons_succ]
          refine wpAnyH_take (i := 6) (oi := ⟨some 22, _, _, _, _, _⟩) (v := .int .i64 (i : Int)) rfl (by kernel_rfl) (by kernel_rfl) (by kernel_rfl) (fun _ _ _ h => h) (Or.inl ⟨by rfl, fun W hW => by go_simp; try (first | exact h1.out | exact h2.out | exact fun h => h1.out h | exact fun h => h2.out h | (intro h; omega))⟩) hS ?_
          try simp only [Act.put, List.setIfInBounds_toArray, List.set_cons_zero, List.set_cons_succ]
          refine wpAnyH_take (i := 7) (oi := ⟨some 23, _, _, _, _, _⟩) (v := .pointer (some ⟨k, i * 2, none⟩)) rfl (by kernel_rfl) (by kernel_rfl) (by kernel_rfl) (fun _ _ _ h => h) (Or.inl ⟨by rfl, fun W hW => by go_simp; try (first | exact h1.out | exact h2.out | exact fun h => h1.out h | exact fun h => h2.out h | (intro h; omega))⟩) hS ?_
          try simp only [Act.put, List.setIfInBounds_toArray, List.set_cons_zero, List.set_cons_succ]
          refine wpAnyH_take (i := 8) (oi := ⟨some 24, _, _, _, _, _⟩) (v := .pointer (some ⟨k, i * 2, none⟩)) rfl (by kernel_rfl) (by kernel_rfl) (by kernel_rfl) (fun _ _ _ h => h) (Or.inl ⟨by rfl, fun W hW => by go_simp; try (first | exact h1.out | exact h2.out | exact fun h => h1.out h | exact fun h => h2.out h | (intro h; omega))⟩) hS ?_
          try simp only [Act.put, List.setIfInBounds_toArray, List.set_cons_zero, List.set_cons_succ]
          refine wpAnyH_take (i := 9) (oi := ⟨some 25, _, _, _, _, _⟩) (v := .int .i64 q.1) rfl (by kernel_rfl) (by kernel_rfl) (by kernel_rfl) (fun _ _ _ h => h) (Or.inl ⟨by rfl, fun W hW => by obtain ⟨p0, p1, p2, p3⟩ := hW; go_simp; try (first | exact h1.out | exact h2.out | exact fun h => h1.out h | exact fun h => h2.out h | (intro h; omega))⟩) hS ?_
          try simp only [Act.put, List.setIfInBounds_toArray, List.set_cons_zero, List.set_cons_succ]
          refine wpAnyH_take (i := 10) (oi := ⟨some 26, _, _, _, _, _⟩) (v := .bool true) rfl (by kernel_rfl) (by kernel_rfl) (by kernel_rfl) (fun _ _ _ h => h) (Or.inl ⟨by rfl, fun W hW => by go_simp; try (first | exact h1.out | exact h2.out | exact fun h => h1.out h | exact fun h => h2.out h | (intro h; omega))⟩) hS ?_
          try simp only [Act.put, List.setIfInBounds_toArray, List.set_cons_zero, List.set_cons_succ]
          refine wpAnyH_take (i := 11) (oi := ⟨some 27, _, _, _, _, _⟩) (v := .bool true) rfl (by kernel_rfl) (by kernel_rfl) (by kernel_rfl) (fun _ _ _ h => h) (Or.inl ⟨by rfl, fun W hW => by go_simp; try (first | exact h1.out | exact h2.out | exact fun h => h1.out h | exact fun h => h2.out h | (intro h; omega))⟩) hS ?_
          try simp only [Act.put, List.setIfInBounds_toArray, List.set_cons_zero, List.set_cons_succ]
          refine wpAnyH_take (i := 12) (oi := ⟨some 28, _, _, _, _, _⟩) (v := undef) rfl (by kernel_rfl) (by kernel_rfl) (by kernel_rfl) (fun _ _ _ h => h) (Or.inr ⟨by rfl, rfl⟩) hS ?_
          try simp only [Act.put, List.setIfInBounds_toArray, List.set_cons_zero, List.set_cons_succ]
          refine wpAnyH_take (i := 13) (oi := ⟨some 29, _, _, _, _, _⟩) (v := undef) rfl (by kernel_rfl) (by kernel_rfl) (by kernel_rfl) (fun _ _ _ h => h) (Or.inr ⟨by rfl, rfl⟩) hS ?_
          try simp only [Act.put, List.setIfInBounds_toArray, List.set_cons_zero, List.set_cons_succ]
          refine wpAnyH_take (i := 14) (oi := ⟨some 30, _, _, _, _, _⟩) (v := undef) rfl (by kernel_rfl) (by kernel_rfl) (by kernel_rfl) (fun _ _ _ h => h) (Or.inr ⟨by rfl, rfl⟩) hS ?_
          try simp only [Act.put, List.setIfInBounds_toArray, List.set_cons_zero, List.set_cons_succ]
          refine wpAnyH_take (i := 15) (oi := ⟨some 31, _, _, _, _, _⟩) (v := undef) rfl (by kernel_rfl) (by kernel_rfl) (by kernel_rfl) (fun _ _ _ h => h) (Or.inr ⟨by rfl, rfl⟩) hS ?_
          try simp only [Act.put, List.setIfInBounds_toArray, List.set_cons_zero, List.set_cons_succ]
          refine wpAnyH_take (i := 16) (oi := ⟨some 32, _, _, _, _, _⟩) (v := undef) rfl (by kernel_rfl) (by kernel_rfl) (by kernel_rfl) (fun _ _ _ h => h) (Or.inr ⟨by rfl, rfl⟩) hS ?_
          try simp only [Act.put, List.setIfInBounds_toArray, List.set_cons_zero, List.set_cons_succ]
          refine wpAnyH_take (i := 17) (oi := ⟨some 33, _, _, _, _, _⟩) (v := undef) rfl (by kernel_rfl) (by kernel_rfl) (by kernel_rfl) (fun _ _ _ h => h) (Or.inr ⟨by rfl, rfl⟩) hS ?_
          try simp only [Act.put, List.setIfInBounds_toArray, List.set_cons_zero, List.set_cons_succ]
          refine wpAnyH_take (i := 18) (oi := ⟨some 34, _, _, _, _, _⟩) (v := undef) rfl (by kernel_rfl) (by kernel_rfl) (by kernel_rfl) (fun _ _ _ h => h) (Or.inr ⟨by rfl, rfl⟩) hS ?_
          try simp only [Act.put, List.setIfInBounds_toArray, List.set_cons_zero, List.set_cons_succ]
          refine wpAnyH_take (i := 19) (oi := ⟨some 35, _, _, _, _, _⟩) (v := undef) rfl (by kernel_rfl) (by kernel_rfl) (by kernel_rfl) (fun _ _ _ h => h) (Or.inr ⟨by rfl, rfl⟩) hS ?_
          try simp only [Act.put, List.setIfInBounds_toArray, List.set_cons_zero, List.set_cons_succ]
          refine wpAnyH_take (i := 20) (oi := ⟨some 36, _, _, _, _, _⟩) (v := undef) rfl (by kernel_rfl) (by kernel_rfl) (by kernel_rfl) (fun _ _ _ h => h) (Or.inr ⟨by rfl, rfl⟩) hS ?_
          try simp only [Act.put, List.setIfInBounds_toArray, List.set_cons_zero, List.set_cons_succ]
          refine wpAnyH_take (i := 21) (oi := ⟨some 37, _, _, _, _, _⟩) (v := undef) rfl (by kernel_rfl) (by kernel_rfl) (by kernel_rfl) (fun _ _ _ h => h) (Or.inr ⟨by rfl, rfl⟩) hS ?_
          try simp only [Act.put, List.setIfInBounds_toArray, List.set_cons_zero, List.set_cons_succ]
          refine wpAnyH_take (i := 22) (oi := ⟨some 38, _, _, _, _, _⟩) (v := undef) rfl (by kernel_rfl) (by kernel_rfl) (by kernel_rfl) (fun _ _ _ h => h) (Or.inr ⟨by rfl, rfl⟩) hS ?_
          try simp only [Act.put, List.setIfInBounds_toArray, List.set_cons_zero, List.set_cons_succ]
          refine wpAnyH_take (i := 23) (oi := ⟨some 39, _, _, _, _, _⟩) (v := .bool true) rfl (by kernel_rfl) (by kernel_rfl) (by kernel_rfl) (fun _ _ _ h => h) (Or.inl ⟨by rfl, fun W hW => by go_simp; try (first | exact h1.out | exact h2.out | exact fun h => h1.out h | exact fun h => h2.out h | (intro h; omega))⟩) hS ?_
          try simp only [Act.put, List.setIfInBounds_toArray, List.set_cons_zero, List.set_cons_succ]
          refine wpAnyH_done (by kernel_rfl) ?_ _
          clear hS
          go_wp2_with fail
          go_ret
          exact ⟨false, rfl, fun h => absurd h (hne (fun e => h1.out (by rw [e]))), hbd.out⟩
      · obtain rfl : i = l.length := by omega
        have hgo3 : decide ((l.length : Int) < (l.length : Int)) = false := decide_eq_false (by omega)
        replace hb := Lib.hid hb
        go_wp2_with fail
        go_ret
        exact ⟨true, rfl, fun _ => rfl, hb.out⟩
  · have hgo : ((l.length : Int) == (m.length : Int)) = false := beq_eq_false_iff_ne.2 (by omega)
    replace hn := Lib.hid hn
    go_enter Tryz.func17, Tryz.ntmps17
    go_wp2_with fail
    go_ret
    exact ⟨false, rfl, fun e => absurd (by rw [e]) hn.out, hbr⟩
end Go.Proofs.YtgdcnenlelckhaaGreatDoor

namespace Go.Proofs.YtgdcnenlelckhaaGreatDoor
open Go.RowKit Go.Proofs.YtgdcnenlelckhaaGreatDoorW.PrintWords
open SlS SlT
def tellL (v : VS) (l : List (Int × ByteArray)) (kind tgt : Int) : List (Int × ByteArray) := if 0 ≤ tgt ∧ tgt < 64 ∧ tgt ≠ (v.self : Int) then l ++ layL tgt [tellV v kind] else l
def tellE (v : VS) (tgt : Int) : Int := if 0 ≤ tgt ∧ tgt < 64 ∧ tgt ≠ (v.self : Int) then 0 else 150
theorem tell_form {w w' : World} {b g : Nat} {x : Value} {v : VS} {l : List (Int × ByteArray)} {kind tgt : Int} {r : Ending} (h : TellPost w b g x v l kind tgt r w') : r = .returned (.int .i64 (tellE v tgt)) ∧ BusPost w b g x v (tellL v l kind tgt) w' := by
  unfold TellPost at h
  unfold tellE tellL
  by_cases h1 : 0 ≤ tgt ∧ tgt < 64 ∧ tgt ≠ (v.self : Int)
  · rw [if_pos h1] at h ⊢; rw [if_pos h1]; exact h
  · rw [if_neg h1] at h ⊢; rw [if_neg h1]; exact h
/-- what a call does to what a bus knows, and to what goes out -/
noncomputable def doV (v : VS) (l : List (Int × ByteArray)) (O : OpV) : VS × List (Int × ByteArray) :=
  if O.kind = 0 then (v, tellL v l 1 O.n) else if O.kind = 1 then (v, tellL v l 4 O.n) else if O.kind = 2 then ((takeB v O.s.data.toList).1, l ++ (takeB v O.s.data.toList).2.1)
  else if O.kind = 3 then (winVR v O.slot O.least, l) else if O.kind = 4 then (giveVR v O.slot O.n, l) else if O.kind = 5 then (v, []) else (v, l)
noncomputable def doX (x : XS) (l : List (Int × ByteArray)) (O : OpV) : XS × List (Int × ByteArray) :=
  if O.kind = 0 then (x, tellR x l 1 O.n) else if O.kind = 1 then (x, tellR x l 4 O.n) else if O.kind = 2 then ((takeR x O.s.data.toList).1, l ++ (takeR x O.s.data.toList).2.1)
  else if O.kind = 3 then (winR x O.slot O.least, l) else if O.kind = 4 then (giveR x O.slot O.n, l) else if O.kind = 5 then (x, []) else (x, l)
/-- a call on both: what it leaves -/
def DoesPost (w : World) (b g : Nat) (x : Value) (vl : VS × List (Int × ByteArray)) (xl : XS × List (Int × ByteArray)) (good : Prop) (r : Ending) (w' : World) : Prop :=
  ∃ g' c' y' ok, r = .returned (.tuple #[.agg #[.int .i64 (xl.1.self : Int), .slice (some ⟨g', 0, none⟩) 64 c', .int .u64 (xl.1.cur : Int), y'], .bool ok]) ∧ XBus w' g' y' xl.1 xl.2 ∧ BusPost w b g x vl.1 vl.2 w' ∧ (good → ok = true)
theorem blk_type {W : World} {i j : Nat} {a b : Array Value} {s t : TypeId} {f : Nat × Nat} (h1 : W.heap[i]? = some (.cells a s f)) (h2 : W.heap[j]? = some (.cells b t f)) (h : s ≠ t) : i ≠ j := fun e => by
  rw [e, h2] at h1
  injection h1 with h1
  injection h1 with q1 q2 q3
  exact h q2.symm
theorem own_type {W : World} {i : Nat} {a : Array Value} {s e : TypeId} {f : Nat × Nat} {n size base : Nat} {v : Value} {xs : List Value} (h1 : W.heap[i]? = some (.cells a s f)) (h2 : W.ownsRow base e size v n xs) (h : s ≠ e) : v.ownBlock ≠ some i := fun q => by
  rcases h2.2 with ⟨hx0, -⟩ | ⟨gx, cap, cur, hx0, -, hgx, -⟩
  · rw [hx0] at q; simp [Value.ownBlock] at q
  · rw [hx0] at q
    simp [Value.ownBlock] at q
    rw [q, h1] at hgx
    injection hgx with hgx
    injection hgx with q1 q2 q3
    exact h q2
theorem foot_type {W : World} {b g : Nat} {x : Value} {v : VS} {l : List (Int × ByteArray)} (h : BB W b g x v l) {i : Nat} {a : Array Value} {s : TypeId} (h1 : W.heap[i]? = some (.cells a s (0, 0))) (n1 : s ≠ 78) (n2 : s ≠ 107) (n3 : s ≠ 35) : ¬ foot b g x i := by
  rintro (e | e | e)
  · exact blk_type h1 h.box n1 e
  · obtain ⟨cv, hcv, -⟩ := h.view
    exact blk_type h1 hcv n2 e
  · exact own_type h1 h.outs n3 e
theorem XBus.foot {W W' : World} {b g gx : Nat} {x y : Value} {v : VS} {l lx : List (Int × ByteArray)} {X : XS} (h : XBus W gx y X lx) (hB : BB W b g x v l) (hb : But (foot b g x) W W') : XBus W' gx y X lx := by
  refine h.keep hb ?_ ?_
  · obtain ⟨c, hc, -⟩ := h.row
    exact foot_type hB hc (by decide) (by decide) (by decide)
  · intro k hk
    rcases h.outs.2 with ⟨hx0, -⟩ | ⟨g2, cap, cur, hx0, -, hgx, -⟩
    · rw [hx0] at hk; simp [Value.ownBlock] at hk
    · rw [hx0] at hk
      simp [Value.ownBlock] at hk
      rw [← hk]
      exact foot_type hB hgx (by decide) (by decide) (by decide)
/-- the document's bus is not where its answer is laid -/
theorem XBus.rv {W W' : World} {gx rv : Nat} {y : Value} {lx : List (Int × ByteArray)} {X : XS} (h : XBus W gx y X lx) {a : Array Value} (hr : W.heap[rv]? = some (.cells a 57 (0, 0))) (hb : But (fun k => k = rv) W W') : XBus W' gx y X lx := by
  refine h.keep hb ?_ ?_
  · obtain ⟨c, hc, -⟩ := h.row
    exact blk_type hc hr (by decide)
  · intro k hk e
    exact own_type hr h.outs (by decide) (by rw [hk, e])
/-- what stands while a call is done on both -/
structure DoW (w : World) (b g : Nat) (x : Value) (v : VS) (l : List (Int × ByteArray)) (D Oc : Array Value) (W : World) : Prop where
  bel : Below w.heap.size w W
  box : W.heap[w.heap.size]? = some (.cells D 57 (0, 0))
  op : W.heap[w.heap.size + 1]? = some (.cells Oc 59 (0, 0))
  rvb : W.heap[w.heap.size + 1 + 1]? = some (.cells #[.int .i64 0, .slice none 0 0, .int .u64 0, .slice none 0 0] 57 (0, 0))
  bus : BB W b g x v l
theorem DoW.below {w : World} {b g : Nat} {x : Value} {v : VS} {l : List (Int × ByteArray)} {D Oc : Array Value} {W W' : World} (h : DoW w b g x v l D Oc W) (hb : Below W.heap.size W W') : DoW w b g x v l D Oc W' :=
  ⟨h.bel.trans (hb.mono h.bel.size), (hb.block _ (blk_lt h.box)).trans h.box, (hb.block _ (blk_lt h.op)).trans h.op, (hb.block _ (blk_lt h.rvb)).trans h.rvb, h.bus.below hb⟩
theorem doW_start {w : World} {b g : Nat} {x : Value} {v : VS} {l : List (Int × ByteArray)} (h : BB w b g x v l) (D Oc : Array Value) : DoW w b g x v l D Oc (((w.alloc (.cells D 57)).alloc (.cells Oc 59)).alloc (.cells #[.int .i64 0, .slice none 0 0, .int .u64 0, .slice none 0 0] 57)) := by
  have n1 := below_new' w (.cells D 57)
  have s1 : (w.alloc (.cells D 57)).heap.size = w.heap.size + 1 := by simp
  have k1 := heapN w (.cells D 57)
  have h1 := h.below n1
  generalize w.alloc (.cells D 57) = w1 at *
  have n2 := below_new' w1 (.cells Oc 59)
  have s2 : (w1.alloc (.cells Oc 59)).heap.size = w1.heap.size + 1 := by simp
  have k2 := heapN w1 (.cells Oc 59)
  have k1' := (n2.block _ (blk_lt k1)).trans k1
  have h2 := h1.below n2
  have b2 := n1.trans (n2.mono n1.size)
  generalize w1.alloc (.cells Oc 59) = w2 at *
  have n3 := below_new' w2 (.cells #[.int .i64 0, .slice none 0 0, .int .u64 0, .slice none 0 0] 57)
  refine ⟨b2.trans (n3.mono b2.size), (n3.block _ (blk_lt k1')).trans k1', ?_, ?_, h2.below n3⟩
  · rw [← s1]; exact (n3.block _ (blk_lt k2)).trans k2
  · rw [← s1, ← s2]; exact heapN w2 _
theorem DoW.foot {w : World} {b g : Nat} {x : Value} {v : VS} {l : List (Int × ByteArray)} {D Oc : Array Value} {W : World} (h : DoW w b g x v l D Oc W) : But (foot b g x) w W := but_below h.bel _
/-- the two boxes -/
structure DoB (p o : Nat) (D Oc : Array Value) (W : World) : Prop where
  box : W.heap[p]? = some (.cells D 57 (0, 0))
  op : W.heap[o]? = some (.cells Oc 59 (0, 0))
theorem DoB.keep {S : Nat → Prop} {p o : Nat} {D Oc : Array Value} {W W' : World} (h : DoB p o D Oc W) (hb : But S W W') (h1 : ¬ S p) (h2 : ¬ S o) : DoB p o D Oc W' := ⟨(hb.block _ (blk_lt h.box) h1).trans h.box, (hb.block _ (blk_lt h.op) h2).trans h.op⟩
theorem opBox {W : World} {p : Nat} {a b c d e : Value} (h : W.heap[p]? = some (.cells #[a, b, c, d, e] 59 (0, 0))) : W.cell? ⟨p, 0, none⟩ = some a ∧ W.cell? ⟨p, 1, none⟩ = some b ∧ W.cell? ⟨p, 2, none⟩ = some c ∧ W.cell? ⟨p, 3, none⟩ = some d ∧ W.cell? ⟨p, 4, none⟩ = some e :=
  ⟨by rw [cellBox h]; rfl, by rw [cellBox h]; rfl, by rw [cellBox h]; rfl, by rw [cellBox h]; rfl, by rw [cellBox h]; rfl⟩
theorem but_row {W : World} {g : Nat} (cs : Array Value) : But (fun k => k = g) W (W.setRow g cs) := by
  have h9 := below_setRow (g := g) (Below.refl g W) (Nat.le_refl _) cs
  exact ⟨h9.os, h9.tape, h9.output, h9.size, fun k _ hn => setRow_other _ _ _ _ (fun e => hn e)⟩
theorem box3set {W : World} {p : Nat} {a0 b0 c0 d0 : Value} (h : W.heap[p]? = some (.cells #[a0, b0, c0, d0] 57 (0, 0))) (a b c : Value) :
    (((W.setCell ⟨p, 0, none⟩ a).setCell ⟨p, 1, none⟩ b).setCell ⟨p, 2, none⟩ c).heap[p]? = some (.cells #[a, b, c, d0] 57 (0, 0)) ∧ But (fun k => k = p) W (((W.setCell ⟨p, 0, none⟩ a).setCell ⟨p, 1, none⟩ b).setCell ⟨p, 2, none⟩ c) := by
  have h1 := heap_setCell_same _ p 0 _ _ a h
  have h2 := heap_setCell_same _ p 1 _ _ b h1
  have h3 := heap_setCell_same _ p 2 _ _ c h2
  exact ⟨by simpa using h3, (((But.refl (fun k => k = p) W).set (p := ⟨p, 0, none⟩) (fun _ => rfl) a).set (p := ⟨p, 1, none⟩) (fun _ => rfl) b).set (p := ⟨p, 2, none⟩) (fun _ => rfl) c⟩
theorem DoW.put3 {w : World} {b g : Nat} {x : Value} {v : VS} {l : List (Int × ByteArray)} {a0 b0 c0 d0 : Value} {Oc : Array Value} {W : World} (h : DoW w b g x v l #[a0, b0, c0, d0] Oc W) (a e c : Value) :
    DoW w b g x v l #[a, e, c, d0] Oc (((W.setCell ⟨w.heap.size, 0, none⟩ a).setCell ⟨w.heap.size, 1, none⟩ e).setCell ⟨w.heap.size, 2, none⟩ c) := by
  obtain ⟨h1, h2⟩ := box3set h.box a e c
  exact ⟨h.bel.trans (h2.below (n := w.heap.size) h.bel.size fun i hi e => by omega), h1, (h2.block _ (blk_lt h.op) (by omega)).trans h.op, (h2.block _ (blk_lt h.rvb) (by omega)).trans h.rvb, h.bus.keep h2 fun k hk e => foot_type h.bus h.box (by decide) (by decide) (by decide) (by rw [← e]; exact hk)⟩
set_option maxHeartbeats 4000000 in
set_option maxRecDepth 100000 in
theorem does_0 {b g gx c : Nat} {x y : Value} {v : VS} {X : XS} {l lx : List (Int × ByteArray)} (w : World) (hE : Env w) (h : BB w b g x v l) (hfE : ∀ W, But (foot b g x) w W → Env W) (hX : XBus w gx y X lx)
    (hs64 : X.self < 64) (hcv : v.cur + 1 < 18446744073709551616) (hcx : X.cur + 1 < 18446744073709551616) (hl : l.length ≤ 1000000000) (hlx : lx.length ≤ 1000000000) (n slot : Int) (least : Nat) (hle : least < 18446744073709551616) (s : ByteArray) (hs : s.size ≤ 2000) :
    Calls Tryz.prog 16 #[.pointer (some ⟨b, 0, none⟩), .agg #[.int .i64 (X.self : Int), .slice (some ⟨gx, 0, none⟩) 64 c, .int .u64 (X.cur : Int), y], .agg #[.int .i64 0, .int .i64 n, .int .i64 slot, .int .u64 (least : Int), .string s]] w (DoesPost w b g x (v, tellL v l 1 n) (X, tellR X lx 1 n) (v.self = X.self ∧ (takeB v s.data.toList).2.2 = (takeR X s.data.toList).2.2 ∧ l = lx)) := by
  obtain ⟨Y, yc, rfl⟩ := own_slice hX.outs
  have hD := Lib.hid (doW_start h #[.int .i64 (X.self : Int), .slice (some ⟨gx, 0, none⟩) 64 c, .int .u64 (X.cur : Int), .slice Y lx.length yc] #[.int .i64 0, .int .i64 n, .int .i64 slot, .int .u64 (least : Int), .string s])
  have hX0 : XBus _ gx (.slice Y lx.length yc) X lx := ((hX.below (below_new' w (.cells #[.int .i64 (X.self : Int), .slice (some ⟨gx, 0, none⟩) 64 c, .int .u64 (X.cur : Int), .slice Y lx.length yc] 57))).below (below_new' _ (.cells #[.int .i64 0, .int .i64 n, .int .i64 slot, .int .u64 (least : Int), .string s] 59))).below (below_new' _ (.cells #[.int .i64 0, .slice none 0 0, .int .u64 0, .slice none 0 0] 57))
  replace hX0 := Lib.hid hX0
  clear h hX
  go_enter Tryz.func16, Tryz.ntmps16
  refine wp_cut (fun a W => a = ⟨#[.pointer (some ⟨b, 0, none⟩), .agg #[.int .i64 (X.self : Int), .slice (some ⟨gx, 0, none⟩) 64 c, .int .u64 (X.cur : Int), .slice Y lx.length yc], .agg #[.int .i64 0, .int .i64 n, .int .i64 slot, .int .u64 (least : Int), .string s], undef, .pointer (some ⟨w.heap.size, 0, none⟩), .pointer (some ⟨w.heap.size + 1, 0, none⟩), .pointer (some ⟨w.heap.size + 1 + 1, 0, none⟩), .bool false, undef, undef, undef, undef, undef, undef, undef, undef, undef, undef, undef, undef, undef, undef, undef, undef, undef, undef, undef, undef, undef, undef, undef, undef, undef, undef, undef, undef, undef, undef, undef, undef, undef, undef, undef, undef, undef, undef, undef, undef, undef, undef, undef, undef, undef, undef, undef, undef, undef, undef, undef, undef, undef, undef, undef, undef, undef, undef, undef, undef, undef, undef, undef, undef, undef, undef, undef, undef, undef, undef, undef, undef, undef, undef, undef, undef, undef, undef, undef, undef, undef, undef, undef, undef, undef, undef, undef, undef, undef, undef, undef, undef, undef, undef, undef, undef, undef, undef, undef, undef, undef, undef, undef, undef, undef, undef, undef, undef, undef, undef, undef, undef, undef, undef, undef, undef, undef, undef], []⟩ ∧ DoW w b g x v l #[.int .i64 (X.self : Int), .slice (some ⟨gx, 0, none⟩) 64 c, .int .u64 (X.cur : Int), .slice Y lx.length yc] #[.int .i64 0, .int .i64 n, .int .i64 slot, .int .u64 (least : Int), .string s] W ∧ XBus W gx (.slice Y lx.length yc) X lx) ?_ ?_
  · go_wp2_with fail
    exact ⟨trivial, hD.out, hX0.out⟩
  clear hD hX0
  rintro _ W ⟨rfl, hD, hX⟩
  obtain ⟨e0, e1, e2, e3⟩ := box4 hD.box
  obtain ⟨o0, o1, o2, o3, o4⟩ := opBox hD.op
  have hws := blk_lt hD.rvb
  have hT := Lib.hid (rTell_calls (c := c) W (hE.below hD.bel) hX 1 n hs64 (by omega) hlx)
  replace hD := Lib.hid hD
  replace hX := Lib.hid hX
  go_wp2_with fail
  refine hT.out.mono ?_
  rintro r w1 ⟨g1, c1, y1, rfl, hX1, hb1⟩
  obtain ⟨Y1, yc1, rfl⟩ := own_slice hX1.outs
  generalize hL1 : tellR X lx 1 n = L1 at *
  have hL1 := Lib.hid hL1
  have hD1 := hD.out.below hb1
  have n1 := below_new' w1 (.cells #[.int .i64 (X.self : Int), .slice (some ⟨g1, 0, none⟩) 64 c1, .int .u64 (X.cur : Int), .slice Y1 L1.length yc1] 57)
  have hD2 := (hD1.below n1).below (below_drew (Below.refl _ _))
  have hX2 := (hX1.below n1).below (below_drew (Below.refl _ _))
  have hN := heapN w1 (.cells #[.int .i64 (X.self : Int), .slice (some ⟨g1, 0, none⟩) 64 c1, .int .u64 (X.cur : Int), .slice Y1 L1.length yc1] 57)
  have hw1 : w.heap.size + 1 + 1 < w1.heap.size := blk_lt hD1.rvb
  have hS : DoB w1.heap.size (w.heap.size + 1) #[.int .i64 (X.self : Int), .slice (some ⟨g1, 0, none⟩) 64 c1, .int .u64 (X.cur : Int), .slice Y1 L1.length yc1] #[.int .i64 0, .int .i64 n, .int .i64 slot, .int .u64 (least : Int), .string s] (w1.alloc (.cells #[.int .i64 (X.self : Int), .slice (some ⟨g1, 0, none⟩) 64 c1, .int .u64 (X.cur : Int), .slice Y1 L1.length yc1] 57)).drew := ⟨hN, hD2.op⟩
  replace hD2 := Lib.hid hD2
  replace hX2 := Lib.hid hX2
  replace hS := Lib.hid hS
  clear hT hD hX hD1 hX1 hb1 n1 hN e0 e1 e2 e3 o0 o1 o2 o3 o4
  go_wp2_with fail
  refine wp_region_last (S := DoB w1.heap.size (w.heap.size + 1) #[.int .i64 (X.self : Int), .slice (some ⟨g1, 0, none⟩) 64 c1, .int .u64 (X.cur : Int), .slice Y1 L1.length yc1] #[.int .i64 0, .int .i64 n, .int .i64 slot, .int .u64 (least : Int), .string s]) 8 (by kernel_rfl) ?_
  replace hD := hD2.out
  replace hX := hX2.out
  replace hS := hS.out
  clear hD2 hX2
  generalize World.drew _ = W4 at *
  generalize w1.heap.size = p at *
  refine wpAnyT_take (i := 0) (oi := ⟨some 30, _, _, _, _, _⟩) (v := .agg #[.int .i64 (X.self : Int), .slice (some ⟨g1, 0, none⟩) 64 c1, .int .u64 (X.cur : Int), .slice Y1 L1.length yc1]) rfl (by kernel_rfl) (by kernel_rfl) (by kernel_rfl) (by kernel_rfl) (fun _ _ _ h => h) (Or.inl ⟨by rfl, fun W hW => by have q0 := (box4 hW.box).1; have q1 := (box4 hW.box).2.1; have q2 := (box4 hW.box).2.2.1; have q3 := (box4 hW.box).2.2.2; have p0 := (opBox hW.op).1; have p1 := (opBox hW.op).2.1; have p2 := (opBox hW.op).2.2.1; have p3 := (opBox hW.op).2.2.2.1; have p4 := (opBox hW.op).2.2.2.2; go_simp⟩) hS ?_
  try simp only [Act.put, List.setIfInBounds_toArray, List.set_cons_zero, List.set_cons_succ]
  refine wpAnyT_take (i := 1) (oi := ⟨some 31, _, _, _, _, _⟩) (v := .pointer (some ⟨b, 0, none⟩)) rfl (by kernel_rfl) (by kernel_rfl) (by kernel_rfl) (by kernel_rfl) (fun _ _ _ h => h) (Or.inl ⟨by rfl, fun W hW => by go_simp⟩) hS ?_
  try simp only [Act.put, List.setIfInBounds_toArray, List.set_cons_zero, List.set_cons_succ]
  refine wpAnyT_take (i := 2) (oi := ⟨some 32, _, _, _, _, _⟩) (v := .pointer (some ⟨(w.heap.size + 1), 1, none⟩)) rfl (by kernel_rfl) (by kernel_rfl) (by kernel_rfl) (by kernel_rfl) (fun _ _ _ h => h) (Or.inl ⟨by rfl, fun W hW => by go_simp⟩) hS ?_
  try simp only [Act.put, List.setIfInBounds_toArray, List.set_cons_zero, List.set_cons_succ]
  refine wpAnyT_take (i := 3) (oi := ⟨some 33, _, _, _, _, _⟩) (v := .int .i64 n) rfl (by kernel_rfl) (by kernel_rfl) (by kernel_rfl) (by kernel_rfl) (fun _ _ _ h => h) (Or.inl ⟨by rfl, fun W hW => by have q0 := (box4 hW.box).1; have q1 := (box4 hW.box).2.1; have q2 := (box4 hW.box).2.2.1; have q3 := (box4 hW.box).2.2.2; have p0 := (opBox hW.op).1; have p1 := (opBox hW.op).2.1; have p2 := (opBox hW.op).2.2.1; have p3 := (opBox hW.op).2.2.2.1; have p4 := (opBox hW.op).2.2.2.2; go_simp⟩) hS ?_
  try simp only [Act.put, List.setIfInBounds_toArray, List.set_cons_zero, List.set_cons_succ]
  refine wpAnyT_take (i := 5) (oi := ⟨some 35, _, _, _, _, _⟩) (v := .int .i64 (tellEr X n)) rfl (by kernel_rfl) (by kernel_rfl) (by kernel_rfl) (by kernel_rfl) (fun _ _ _ h => h) (Or.inl ⟨by rfl, fun W hW => by go_simp⟩) hS ?_
  try simp only [Act.put, List.setIfInBounds_toArray, List.set_cons_zero, List.set_cons_succ]
  refine wpAnyT_one (i := 4) (o := ⟨some 34, _, _, _, _, _⟩) (by kernel_rfl) rfl (fun K hK => ?_)
  go_simp
  refine (bPing_calls W4 hD.bus (fun W hW => hfE W (hD.foot.trans hW fun _ _ h => h)) n hl).mono ?_
  rintro e W5 hTe
  obtain ⟨rfl, hP⟩ := tell_form hTe
  clear hTe
  obtain ⟨x5, hB5, hbut5, hx5⟩ := hP
  have hS5 := hS.keep hbut5 (foot_type hD.bus hS.box (by decide) (by decide) (by decide)) (foot_type hD.bus hS.op (by decide) (by decide) (by decide))
  have hX5 := hX.foot hD.bus hbut5
  have hv5 := (hbut5.block _ (blk_lt hD.rvb) (foot_type hD.bus hD.rvb (by decide) (by decide) (by decide))).trans hD.rvb
  have hbt5 : But (foot b g x) w W5 := hD.foot.trans hbut5 fun _ _ h => h
  have hsz5 := hD.bel.size
  replace hS5 := Lib.hid hS5
  replace hX5 := Lib.hid hX5
  replace hB5 := Lib.hid hB5
  replace hbt5 := Lib.hid hbt5
  replace hv5 := Lib.hid hv5
  clear hS hX hD hbut5
  go_wp2_with fail
  refine hK.out _ _ (fun _ => hS5.out) ?_
  clear hK K
  have hS := hS5.out
  try simp only [Act.put, List.setIfInBounds_toArray, List.set_cons_zero, List.set_cons_succ]
  refine wpAnyT_take (i := 6) (oi := ⟨some 36, _, _, _, _, _⟩) (v := .bool (tellE v n == tellEr X n)) rfl (by kernel_rfl) (by kernel_rfl) (by kernel_rfl) (by kernel_rfl) (fun _ _ _ h => h) (Or.inl ⟨by rfl, fun W hW => by go_simp⟩) hS ?_
  try simp only [Act.put, List.setIfInBounds_toArray, List.set_cons_zero, List.set_cons_succ]
  have hb6 := but_row (W := W5) (g := w.heap.size + 1 + 1) #[.int .i64 (X.self : Int), .slice (some ⟨g1, 0, none⟩) 64 c1, .int .u64 (X.cur : Int), .slice Y1 L1.length yc1]
  have hrow := setRow_heap _ _ _ #[.int .i64 (X.self : Int), .slice (some ⟨g1, 0, none⟩) 64 c1, .int .u64 (X.cur : Int), .slice Y1 L1.length yc1] _ _ hv5.out
  have hnp : p ≠ w.heap.size + 1 + 1 := by omega
  have hno : w.heap.size + 1 ≠ w.heap.size + 1 + 1 := by omega
  have hS6 := hS.keep hb6 (fun e => hnp e) (fun e => hno e)
  have hX6 := hX5.out.rv hv5.out hb6
  have hB6 : BusPost w b g x (v, tellL v l 1 n).1 (v, tellL v l 1 n).2 (W5.setRow (w.heap.size + 1 + 1) #[.int .i64 (X.self : Int), .slice (some ⟨g1, 0, none⟩) 64 c1, .int .u64 (X.cur : Int), .slice Y1 L1.length yc1]) := ⟨x5, hB5.out.keep hb6 (fun k hk e => foot_type hB5.out hv5.out (by decide) (by decide) (by decide) (by rw [← e]; exact hk)), hbt5.out.trans hb6 (fun i hi e => absurd e (by omega)), fun k hk => by
    rcases hx5 k hk with h1 | h1
    · exact Or.inl h1
    · exact Or.inr (by omega)⟩
  replace hrow := Lib.hid hrow
  replace hX6 := Lib.hid hX6
  replace hB6 := Lib.hid hB6
  replace hS6 := Lib.hid hS6
  clear hS hS5 hX5 hB5 hbt5 hb6 hx5
  refine wpAnyT_one (i := 7) (o := ⟨none, _, _, _, _, _⟩) (by kernel_rfl) rfl (fun K hK => ?_)
  refine wp_store_row 57 _ _ rfl (w.heap.size + 1 + 1) #[.int .i64 (X.self : Int), .slice (some ⟨g1, 0, none⟩) 64 c1, .int .u64 (X.cur : Int), .slice Y1 L1.length yc1] rfl rfl 57 _ hv5.out (info57 _ _ _ _) rfl (one57 _ _ _ _ _ _ _) (hK.out _ _ (fun _ => hS6.out) ?_)
  clear hK K
  try simp only [Act.put, List.setIfInBounds_toArray, List.set_cons_zero, List.set_cons_succ]
  refine wpAnyT_one (i := 8) (o := ⟨some 7, _, _, _, _, _⟩) (by kernel_rfl) rfl (fun K hK => ?_)
  go_simp
  go_wp2_with fail
  refine hK.out _ _ (fun h => absurd rfl h) ?_
  clear hK K
  try simp only [Act.put, List.setIfInBounds_toArray, List.set_cons_zero, List.set_cons_succ]
  refine wpAnyT_done (by kernel_rfl) ?_ _
  go_wp2_with fail
  refine bodyPost_ret (results_cell_row2 Tryz.results16 _ _ (w.heap.size + 1 + 1) 57 _ (0, 0) _ _ rfl rfl hrow.out Tryz.underlying57 rfl (info57 _ _ _ _)) rfl ?_
  exact ⟨_, _, _, _, rfl, hX6.out, hB6.out, fun hg => by rw [show tellE v n = tellEr X n from by unfold tellE tellEr; rw [hg.1]]; exact beq_self_eq_true _⟩
set_option maxHeartbeats 4000000 in
set_option maxRecDepth 100000 in
theorem does_1 {b g gx c : Nat} {x y : Value} {v : VS} {X : XS} {l lx : List (Int × ByteArray)} (w : World) (hE : Env w) (h : BB w b g x v l) (hfE : ∀ W, But (foot b g x) w W → Env W) (hX : XBus w gx y X lx)
    (hs64 : X.self < 64) (hcv : v.cur + 1 < 18446744073709551616) (hcx : X.cur + 1 < 18446744073709551616) (hl : l.length ≤ 1000000000) (hlx : lx.length ≤ 1000000000) (n slot : Int) (least : Nat) (hle : least < 18446744073709551616) (s : ByteArray) (hs : s.size ≤ 2000) :
    Calls Tryz.prog 16 #[.pointer (some ⟨b, 0, none⟩), .agg #[.int .i64 (X.self : Int), .slice (some ⟨gx, 0, none⟩) 64 c, .int .u64 (X.cur : Int), y], .agg #[.int .i64 1, .int .i64 n, .int .i64 slot, .int .u64 (least : Int), .string s]] w (DoesPost w b g x (v, tellL v l 4 n) (X, tellR X lx 4 n) (v.self = X.self ∧ (takeB v s.data.toList).2.2 = (takeR X s.data.toList).2.2 ∧ l = lx)) := by
  obtain ⟨Y, yc, rfl⟩ := own_slice hX.outs
  have hD := Lib.hid (doW_start h #[.int .i64 (X.self : Int), .slice (some ⟨gx, 0, none⟩) 64 c, .int .u64 (X.cur : Int), .slice Y lx.length yc] #[.int .i64 1, .int .i64 n, .int .i64 slot, .int .u64 (least : Int), .string s])
  have hX0 : XBus _ gx (.slice Y lx.length yc) X lx := ((hX.below (below_new' w (.cells #[.int .i64 (X.self : Int), .slice (some ⟨gx, 0, none⟩) 64 c, .int .u64 (X.cur : Int), .slice Y lx.length yc] 57))).below (below_new' _ (.cells #[.int .i64 1, .int .i64 n, .int .i64 slot, .int .u64 (least : Int), .string s] 59))).below (below_new' _ (.cells #[.int .i64 0, .slice none 0 0, .int .u64 0, .slice none 0 0] 57))
  replace hX0 := Lib.hid hX0
  clear h hX
  go_enter Tryz.func16, Tryz.ntmps16
  refine wp_cut (fun a W => a = ⟨#[.pointer (some ⟨b, 0, none⟩), .agg #[.int .i64 (X.self : Int), .slice (some ⟨gx, 0, none⟩) 64 c, .int .u64 (X.cur : Int), .slice Y lx.length yc], .agg #[.int .i64 1, .int .i64 n, .int .i64 slot, .int .u64 (least : Int), .string s], undef, .pointer (some ⟨w.heap.size, 0, none⟩), .pointer (some ⟨w.heap.size + 1, 0, none⟩), .pointer (some ⟨w.heap.size + 1 + 1, 0, none⟩), .bool false, undef, undef, undef, undef, undef, undef, undef, undef, undef, undef, undef, undef, undef, undef, undef, undef, undef, undef, undef, undef, undef, undef, undef, undef, undef, undef, undef, undef, undef, undef, undef, undef, undef, undef, undef, undef, undef, undef, undef, undef, undef, undef, undef, undef, undef, undef, undef, undef, undef, undef, undef, undef, undef, undef, undef, undef, undef, undef, undef, undef, undef, undef, undef, undef, undef, undef, undef, undef, undef, undef, undef, undef, undef, undef, undef, undef, undef, undef, undef, undef, undef, undef, undef, undef, undef, undef, undef, undef, undef, undef, undef, undef, undef, undef, undef, undef, undef, undef, undef, undef, undef, undef, undef, undef, undef, undef, undef, undef, undef, undef, undef, undef, undef, undef, undef, undef, undef, undef], []⟩ ∧ DoW w b g x v l #[.int .i64 (X.self : Int), .slice (some ⟨gx, 0, none⟩) 64 c, .int .u64 (X.cur : Int), .slice Y lx.length yc] #[.int .i64 1, .int .i64 n, .int .i64 slot, .int .u64 (least : Int), .string s] W ∧ XBus W gx (.slice Y lx.length yc) X lx) ?_ ?_
  · go_wp2_with fail
    exact ⟨trivial, hD.out, hX0.out⟩
  clear hD hX0
  rintro _ W ⟨rfl, hD, hX⟩
  obtain ⟨e0, e1, e2, e3⟩ := box4 hD.box
  obtain ⟨o0, o1, o2, o3, o4⟩ := opBox hD.op
  have hws := blk_lt hD.rvb
  have hT := Lib.hid (rTell_calls (c := c) W (hE.below hD.bel) hX 4 n hs64 (by omega) hlx)
  replace hD := Lib.hid hD
  replace hX := Lib.hid hX
  go_wp2_with fail
  refine hT.out.mono ?_
  rintro r w1 ⟨g1, c1, y1, rfl, hX1, hb1⟩
  obtain ⟨Y1, yc1, rfl⟩ := own_slice hX1.outs
  generalize hL1 : tellR X lx 4 n = L1 at *
  have hL1 := Lib.hid hL1
  have hD1 := hD.out.below hb1
  have n1 := below_new' w1 (.cells #[.int .i64 (X.self : Int), .slice (some ⟨g1, 0, none⟩) 64 c1, .int .u64 (X.cur : Int), .slice Y1 L1.length yc1] 57)
  have hD2 := (hD1.below n1).below (below_drew (Below.refl _ _))
  have hX2 := (hX1.below n1).below (below_drew (Below.refl _ _))
  have hN := heapN w1 (.cells #[.int .i64 (X.self : Int), .slice (some ⟨g1, 0, none⟩) 64 c1, .int .u64 (X.cur : Int), .slice Y1 L1.length yc1] 57)
  have hw1 : w.heap.size + 1 + 1 < w1.heap.size := blk_lt hD1.rvb
  have hS : DoB w1.heap.size (w.heap.size + 1) #[.int .i64 (X.self : Int), .slice (some ⟨g1, 0, none⟩) 64 c1, .int .u64 (X.cur : Int), .slice Y1 L1.length yc1] #[.int .i64 1, .int .i64 n, .int .i64 slot, .int .u64 (least : Int), .string s] (w1.alloc (.cells #[.int .i64 (X.self : Int), .slice (some ⟨g1, 0, none⟩) 64 c1, .int .u64 (X.cur : Int), .slice Y1 L1.length yc1] 57)).drew := ⟨hN, hD2.op⟩
  replace hD2 := Lib.hid hD2
  replace hX2 := Lib.hid hX2
  replace hS := Lib.hid hS
  clear hT hD hX hD1 hX1 hb1 n1 hN e0 e1 e2 e3 o0 o1 o2 o3 o4
  go_wp2_with fail
  refine wp_region_last (S := DoB w1.heap.size (w.heap.size + 1) #[.int .i64 (X.self : Int), .slice (some ⟨g1, 0, none⟩) 64 c1, .int .u64 (X.cur : Int), .slice Y1 L1.length yc1] #[.int .i64 1, .int .i64 n, .int .i64 slot, .int .u64 (least : Int), .string s]) 8 (by kernel_rfl) ?_
  replace hD := hD2.out
  replace hX := hX2.out
  replace hS := hS.out
  clear hD2 hX2
  generalize World.drew _ = W4 at *
  generalize w1.heap.size = p at *
  refine wpAnyT_take (i := 0) (oi := ⟨some 46, _, _, _, _, _⟩) (v := .agg #[.int .i64 (X.self : Int), .slice (some ⟨g1, 0, none⟩) 64 c1, .int .u64 (X.cur : Int), .slice Y1 L1.length yc1]) rfl (by kernel_rfl) (by kernel_rfl) (by kernel_rfl) (by kernel_rfl) (fun _ _ _ h => h) (Or.inl ⟨by rfl, fun W hW => by have q0 := (box4 hW.box).1; have q1 := (box4 hW.box).2.1; have q2 := (box4 hW.box).2.2.1; have q3 := (box4 hW.box).2.2.2; have p0 := (opBox hW.op).1; have p1 := (opBox hW.op).2.1; have p2 := (opBox hW.op).2.2.1; have p3 := (opBox hW.op).2.2.2.1; have p4 := (opBox hW.op).2.2.2.2; go_simp⟩) hS ?_
  try simp only [Act.put, List.setIfInBounds_toArray, List.set_cons_zero, List.set_cons_succ]
  refine wpAnyT_take (i := 1) (oi := ⟨some 47, _, _, _, _, _⟩) (v := .pointer (some ⟨b, 0, none⟩)) rfl (by kernel_rfl) (by kernel_rfl) (by kernel_rfl) (by kernel_rfl) (fun _ _ _ h => h) (Or.inl ⟨by rfl, fun W hW => by go_simp⟩) hS ?_
  try simp only [Act.put, List.setIfInBounds_toArray, List.set_cons_zero, List.set_cons_succ]
  refine wpAnyT_take (i := 2) (oi := ⟨some 48, _, _, _, _, _⟩) (v := .pointer (some ⟨(w.heap.size + 1), 1, none⟩)) rfl (by kernel_rfl) (by kernel_rfl) (by kernel_rfl) (by kernel_rfl) (fun _ _ _ h => h) (Or.inl ⟨by rfl, fun W hW => by go_simp⟩) hS ?_
  try simp only [Act.put, List.setIfInBounds_toArray, List.set_cons_zero, List.set_cons_succ]
  refine wpAnyT_take (i := 3) (oi := ⟨some 49, _, _, _, _, _⟩) (v := .int .i64 n) rfl (by kernel_rfl) (by kernel_rfl) (by kernel_rfl) (by kernel_rfl) (fun _ _ _ h => h) (Or.inl ⟨by rfl, fun W hW => by have q0 := (box4 hW.box).1; have q1 := (box4 hW.box).2.1; have q2 := (box4 hW.box).2.2.1; have q3 := (box4 hW.box).2.2.2; have p0 := (opBox hW.op).1; have p1 := (opBox hW.op).2.1; have p2 := (opBox hW.op).2.2.1; have p3 := (opBox hW.op).2.2.2.1; have p4 := (opBox hW.op).2.2.2.2; go_simp⟩) hS ?_
  try simp only [Act.put, List.setIfInBounds_toArray, List.set_cons_zero, List.set_cons_succ]
  refine wpAnyT_take (i := 5) (oi := ⟨some 51, _, _, _, _, _⟩) (v := .int .i64 (tellEr X n)) rfl (by kernel_rfl) (by kernel_rfl) (by kernel_rfl) (by kernel_rfl) (fun _ _ _ h => h) (Or.inl ⟨by rfl, fun W hW => by go_simp⟩) hS ?_
  try simp only [Act.put, List.setIfInBounds_toArray, List.set_cons_zero, List.set_cons_succ]
  refine wpAnyT_one (i := 4) (o := ⟨some 50, _, _, _, _, _⟩) (by kernel_rfl) rfl (fun K hK => ?_)
  go_simp
  refine (bMeet_calls W4 hD.bus (fun W hW => hfE W (hD.foot.trans hW fun _ _ h => h)) n hl).mono ?_
  rintro e W5 hTe
  obtain ⟨rfl, hP⟩ := tell_form hTe
  clear hTe
  obtain ⟨x5, hB5, hbut5, hx5⟩ := hP
  have hS5 := hS.keep hbut5 (foot_type hD.bus hS.box (by decide) (by decide) (by decide)) (foot_type hD.bus hS.op (by decide) (by decide) (by decide))
  have hX5 := hX.foot hD.bus hbut5
  have hv5 := (hbut5.block _ (blk_lt hD.rvb) (foot_type hD.bus hD.rvb (by decide) (by decide) (by decide))).trans hD.rvb
  have hbt5 : But (foot b g x) w W5 := hD.foot.trans hbut5 fun _ _ h => h
  have hsz5 := hD.bel.size
  replace hS5 := Lib.hid hS5
  replace hX5 := Lib.hid hX5
  replace hB5 := Lib.hid hB5
  replace hbt5 := Lib.hid hbt5
  replace hv5 := Lib.hid hv5
  clear hS hX hD hbut5
  go_wp2_with fail
  refine hK.out _ _ (fun _ => hS5.out) ?_
  clear hK K
  have hS := hS5.out
  try simp only [Act.put, List.setIfInBounds_toArray, List.set_cons_zero, List.set_cons_succ]
  refine wpAnyT_take (i := 6) (oi := ⟨some 52, _, _, _, _, _⟩) (v := .bool (tellE v n == tellEr X n)) rfl (by kernel_rfl) (by kernel_rfl) (by kernel_rfl) (by kernel_rfl) (fun _ _ _ h => h) (Or.inl ⟨by rfl, fun W hW => by go_simp⟩) hS ?_
  try simp only [Act.put, List.setIfInBounds_toArray, List.set_cons_zero, List.set_cons_succ]
  have hb6 := but_row (W := W5) (g := w.heap.size + 1 + 1) #[.int .i64 (X.self : Int), .slice (some ⟨g1, 0, none⟩) 64 c1, .int .u64 (X.cur : Int), .slice Y1 L1.length yc1]
  have hrow := setRow_heap _ _ _ #[.int .i64 (X.self : Int), .slice (some ⟨g1, 0, none⟩) 64 c1, .int .u64 (X.cur : Int), .slice Y1 L1.length yc1] _ _ hv5.out
  have hnp : p ≠ w.heap.size + 1 + 1 := by omega
  have hno : w.heap.size + 1 ≠ w.heap.size + 1 + 1 := by omega
  have hS6 := hS.keep hb6 (fun e => hnp e) (fun e => hno e)
  have hX6 := hX5.out.rv hv5.out hb6
  have hB6 : BusPost w b g x (v, tellL v l 4 n).1 (v, tellL v l 4 n).2 (W5.setRow (w.heap.size + 1 + 1) #[.int .i64 (X.self : Int), .slice (some ⟨g1, 0, none⟩) 64 c1, .int .u64 (X.cur : Int), .slice Y1 L1.length yc1]) := ⟨x5, hB5.out.keep hb6 (fun k hk e => foot_type hB5.out hv5.out (by decide) (by decide) (by decide) (by rw [← e]; exact hk)), hbt5.out.trans hb6 (fun i hi e => absurd e (by omega)), fun k hk => by
    rcases hx5 k hk with h1 | h1
    · exact Or.inl h1
    · exact Or.inr (by omega)⟩
  replace hrow := Lib.hid hrow
  replace hX6 := Lib.hid hX6
  replace hB6 := Lib.hid hB6
  replace hS6 := Lib.hid hS6
  clear hS hS5 hX5 hB5 hbt5 hb6 hx5
  refine wpAnyT_one (i := 7) (o := ⟨none, _, _, _, _, _⟩) (by kernel_rfl) rfl (fun K hK => ?_)
  refine wp_store_row 57 _ _ rfl (w.heap.size + 1 + 1) #[.int .i64 (X.self : Int), .slice (some ⟨g1, 0, none⟩) 64 c1, .int .u64 (X.cur : Int), .slice Y1 L1.length yc1] rfl rfl 57 _ hv5.out (info57 _ _ _ _) rfl (one57 _ _ _ _ _ _ _) (hK.out _ _ (fun _ => hS6.out) ?_)
  clear hK K
  try simp only [Act.put, List.setIfInBounds_toArray, List.set_cons_zero, List.set_cons_succ]
  refine wpAnyT_one (i := 8) (o := ⟨some 7, _, _, _, _, _⟩) (by kernel_rfl) rfl (fun K hK => ?_)
  go_simp
  go_wp2_with fail
  refine hK.out _ _ (fun h => absurd rfl h) ?_
  clear hK K
  try simp only [Act.put, List.setIfInBounds_toArray, List.set_cons_zero, List.set_cons_succ]
  refine wpAnyT_done (by kernel_rfl) ?_ _
  go_wp2_with fail
  refine bodyPost_ret (results_cell_row2 Tryz.results16 _ _ (w.heap.size + 1 + 1) 57 _ (0, 0) _ _ rfl rfl hrow.out Tryz.underlying57 rfl (info57 _ _ _ _)) rfl ?_
  exact ⟨_, _, _, _, rfl, hX6.out, hB6.out, fun hg => by rw [show tellE v n = tellEr X n from by unfold tellE tellEr; rw [hg.1]]; exact beq_self_eq_true _⟩
set_option maxHeartbeats 4000000 in
set_option maxRecDepth 100000 in
theorem does_2 {b g gx c : Nat} {x y : Value} {v : VS} {X : XS} {l lx : List (Int × ByteArray)} (w : World) (hE : Env w) (h : BB w b g x v l) (hfE : ∀ W, But (foot b g x) w W → Env W) (hX : XBus w gx y X lx)
    (hs64 : X.self < 64) (hcv : v.cur + 1 < 18446744073709551616) (hcx : X.cur + 1 < 18446744073709551616) (hl : l.length ≤ 1000000000) (hlx : lx.length ≤ 1000000000) (n slot : Int) (least : Nat) (hle : least < 18446744073709551616) (s : ByteArray) (hs : s.size ≤ 2000) :
    Calls Tryz.prog 16 #[.pointer (some ⟨b, 0, none⟩), .agg #[.int .i64 (X.self : Int), .slice (some ⟨gx, 0, none⟩) 64 c, .int .u64 (X.cur : Int), y], .agg #[.int .i64 2, .int .i64 n, .int .i64 slot, .int .u64 (least : Int), .string s]] w (DoesPost w b g x ((takeB v s.data.toList).1, l ++ (takeB v s.data.toList).2.1) ((takeR X s.data.toList).1, lx ++ (takeR X s.data.toList).2.1) (v.self = X.self ∧ (takeB v s.data.toList).2.2 = (takeR X s.data.toList).2.2 ∧ l = lx)) := by
  obtain ⟨Y, yc, rfl⟩ := own_slice hX.outs
  have hD := Lib.hid (doW_start h #[.int .i64 (X.self : Int), .slice (some ⟨gx, 0, none⟩) 64 c, .int .u64 (X.cur : Int), .slice Y lx.length yc] #[.int .i64 2, .int .i64 n, .int .i64 slot, .int .u64 (least : Int), .string s])
  have hX0 : XBus _ gx (.slice Y lx.length yc) X lx := ((hX.below (below_new' w (.cells #[.int .i64 (X.self : Int), .slice (some ⟨gx, 0, none⟩) 64 c, .int .u64 (X.cur : Int), .slice Y lx.length yc] 57))).below (below_new' _ (.cells #[.int .i64 2, .int .i64 n, .int .i64 slot, .int .u64 (least : Int), .string s] 59))).below (below_new' _ (.cells #[.int .i64 0, .slice none 0 0, .int .u64 0, .slice none 0 0] 57))
  replace hX0 := Lib.hid hX0
  clear h hX
  go_enter Tryz.func16, Tryz.ntmps16
  refine wp_cut (fun a W => a = ⟨#[.pointer (some ⟨b, 0, none⟩), .agg #[.int .i64 (X.self : Int), .slice (some ⟨gx, 0, none⟩) 64 c, .int .u64 (X.cur : Int), .slice Y lx.length yc], .agg #[.int .i64 2, .int .i64 n, .int .i64 slot, .int .u64 (least : Int), .string s], undef, .pointer (some ⟨w.heap.size, 0, none⟩), .pointer (some ⟨w.heap.size + 1, 0, none⟩), .pointer (some ⟨w.heap.size + 1 + 1, 0, none⟩), .bool false, undef, undef, undef, undef, undef, undef, undef, undef, undef, undef, undef, undef, undef, undef, undef, undef, undef, undef, undef, undef, undef, undef, undef, undef, undef, undef, undef, undef, undef, undef, undef, undef, undef, undef, undef, undef, undef, undef, undef, undef, undef, undef, undef, undef, undef, undef, undef, undef, undef, undef, undef, undef, undef, undef, undef, undef, undef, undef, undef, undef, undef, undef, undef, undef, undef, undef, undef, undef, undef, undef, undef, undef, undef, undef, undef, undef, undef, undef, undef, undef, undef, undef, undef, undef, undef, undef, undef, undef, undef, undef, undef, undef, undef, undef, undef, undef, undef, undef, undef, undef, undef, undef, undef, undef, undef, undef, undef, undef, undef, undef, undef, undef, undef, undef, undef, undef, undef, undef], []⟩ ∧ DoW w b g x v l #[.int .i64 (X.self : Int), .slice (some ⟨gx, 0, none⟩) 64 c, .int .u64 (X.cur : Int), .slice Y lx.length yc] #[.int .i64 2, .int .i64 n, .int .i64 slot, .int .u64 (least : Int), .string s] W ∧ XBus W gx (.slice Y lx.length yc) X lx) ?_ ?_
  · go_wp2_with fail
    exact ⟨trivial, hD.out, hX0.out⟩
  clear hD hX0
  rintro _ W ⟨rfl, hD, hX⟩
  obtain ⟨e0, e1, e2, e3⟩ := box4 hD.box
  obtain ⟨o0, o1, o2, o3, o4⟩ := opBox hD.op
  have hws := blk_lt hD.rvb
  have hT := rTake_calls (c := c) W (hE.below hD.bel) hX s (by omega) hs64 hcx hlx
  have hgB : (takeB v s.data.toList).2.2 = (takeR X s.data.toList).2.2 → ((takeB v s.data.toList).2.2 == (takeR X s.data.toList).2.2) = true := fun h => by rw [h]; exact beq_self_eq_true _
  generalize takeR X s.data.toList = T at *
  generalize hL1 : lx ++ T.2.1 = L1 at *
  replace hL1 := Lib.hid hL1
  replace hT := Lib.hid hT
  replace hD := Lib.hid hD
  replace hX := Lib.hid hX
  go_wp2_with fail
  refine hT.out.mono ?_
  rintro r w1 ⟨g1, c1, y1, rfl, hX1, hb1⟩
  obtain ⟨Y1, yc1, rfl⟩ := own_slice hX1.outs
  have hD1 := hD.out.below hb1
  have n1 := below_new' w1 (.cells #[.int .i64 (T.1.self : Int), .slice (some ⟨g1, 0, none⟩) 64 c1, .int .u64 (T.1.cur : Int), .slice Y1 L1.length yc1] 57)
  have hD2 := (hD1.below n1).below (below_drew (Below.refl _ _))
  have hX2 := (hX1.below n1).below (below_drew (Below.refl _ _))
  have hN := heapN w1 (.cells #[.int .i64 (T.1.self : Int), .slice (some ⟨g1, 0, none⟩) 64 c1, .int .u64 (T.1.cur : Int), .slice Y1 L1.length yc1] 57)
  have hw1 : w.heap.size + 1 + 1 < w1.heap.size := blk_lt hD1.rvb
  have hS : DoB w1.heap.size (w.heap.size + 1) #[.int .i64 (T.1.self : Int), .slice (some ⟨g1, 0, none⟩) 64 c1, .int .u64 (T.1.cur : Int), .slice Y1 L1.length yc1] #[.int .i64 2, .int .i64 n, .int .i64 slot, .int .u64 (least : Int), .string s] (w1.alloc (.cells #[.int .i64 (T.1.self : Int), .slice (some ⟨g1, 0, none⟩) 64 c1, .int .u64 (T.1.cur : Int), .slice Y1 L1.length yc1] 57)).drew := ⟨hN, hD2.op⟩
  replace hD2 := Lib.hid hD2
  replace hX2 := Lib.hid hX2
  replace hS := Lib.hid hS
  clear hT hD hX hD1 hX1 hb1 n1 hN e0 e1 e2 e3 o0 o1 o2 o3 o4
  go_wp2_with fail
  refine wp_region_last (S := DoB w1.heap.size (w.heap.size + 1) #[.int .i64 (T.1.self : Int), .slice (some ⟨g1, 0, none⟩) 64 c1, .int .u64 (T.1.cur : Int), .slice Y1 L1.length yc1] #[.int .i64 2, .int .i64 n, .int .i64 slot, .int .u64 (least : Int), .string s]) 8 (by kernel_rfl) ?_
  replace hD := hD2.out
  replace hX := hX2.out
  replace hS := hS.out
  clear hD2 hX2
  generalize World.drew _ = W4 at *
  generalize w1.heap.size = p at *
  refine wpAnyT_take (i := 0) (oi := ⟨some 62, _, _, _, _, _⟩) (v := .agg #[.int .i64 (T.1.self : Int), .slice (some ⟨g1, 0, none⟩) 64 c1, .int .u64 (T.1.cur : Int), .slice Y1 L1.length yc1]) rfl (by kernel_rfl) (by kernel_rfl) (by kernel_rfl) (by kernel_rfl) (fun _ _ _ h => h) (Or.inl ⟨by rfl, fun W hW => by have q0 := (box4 hW.box).1; have q1 := (box4 hW.box).2.1; have q2 := (box4 hW.box).2.2.1; have q3 := (box4 hW.box).2.2.2; have p0 := (opBox hW.op).1; have p1 := (opBox hW.op).2.1; have p2 := (opBox hW.op).2.2.1; have p3 := (opBox hW.op).2.2.2.1; have p4 := (opBox hW.op).2.2.2.2; go_simp⟩) hS ?_
  try simp only [Act.put, List.setIfInBounds_toArray, List.set_cons_zero, List.set_cons_succ]
  refine wpAnyT_take (i := 1) (oi := ⟨some 63, _, _, _, _, _⟩) (v := .pointer (some ⟨b, 0, none⟩)) rfl (by kernel_rfl) (by kernel_rfl) (by kernel_rfl) (by kernel_rfl) (fun _ _ _ h => h) (Or.inl ⟨by rfl, fun W hW => by go_simp⟩) hS ?_
  try simp only [Act.put, List.setIfInBounds_toArray, List.set_cons_zero, List.set_cons_succ]
  refine wpAnyT_take (i := 2) (oi := ⟨some 64, _, _, _, _, _⟩) (v := .pointer (some ⟨(w.heap.size + 1), 4, none⟩)) rfl (by kernel_rfl) (by kernel_rfl) (by kernel_rfl) (by kernel_rfl) (fun _ _ _ h => h) (Or.inl ⟨by rfl, fun W hW => by go_simp⟩) hS ?_
  try simp only [Act.put, List.setIfInBounds_toArray, List.set_cons_zero, List.set_cons_succ]
  refine wpAnyT_take (i := 3) (oi := ⟨some 65, _, _, _, _, _⟩) (v := .string s) rfl (by kernel_rfl) (by kernel_rfl) (by kernel_rfl) (by kernel_rfl) (fun _ _ _ h => h) (Or.inl ⟨by rfl, fun W hW => by have q0 := (box4 hW.box).1; have q1 := (box4 hW.box).2.1; have q2 := (box4 hW.box).2.2.1; have q3 := (box4 hW.box).2.2.2; have p0 := (opBox hW.op).1; have p1 := (opBox hW.op).2.1; have p2 := (opBox hW.op).2.2.1; have p3 := (opBox hW.op).2.2.2.1; have p4 := (opBox hW.op).2.2.2.2; go_simp⟩) hS ?_
  try simp only [Act.put, List.setIfInBounds_toArray, List.set_cons_zero, List.set_cons_succ]
  refine wpAnyT_take (i := 5) (oi := ⟨some 67, _, _, _, _, _⟩) (v := .bool T.2.2) rfl (by kernel_rfl) (by kernel_rfl) (by kernel_rfl) (by kernel_rfl) (fun _ _ _ h => h) (Or.inl ⟨by rfl, fun W hW => by go_simp⟩) hS ?_
  try simp only [Act.put, List.setIfInBounds_toArray, List.set_cons_zero, List.set_cons_succ]
  refine wpAnyT_one (i := 4) (o := ⟨some 66, _, _, _, _, _⟩) (by kernel_rfl) rfl (fun K hK => ?_)
  go_simp
  refine (bTake_calls W4 hD.bus (fun W hW => hfE W (hD.foot.trans hW fun _ _ h => h)) s (by omega) hcv hl).mono ?_
  rintro e W5 ⟨rfl, hP⟩
  generalize takeB v s.data.toList = TB at *
  obtain ⟨x5, hB5, hbut5, hx5⟩ := hP
  have hS5 := hS.keep hbut5 (foot_type hD.bus hS.box (by decide) (by decide) (by decide)) (foot_type hD.bus hS.op (by decide) (by decide) (by decide))
  have hX5 := hX.foot hD.bus hbut5
  have hv5 := (hbut5.block _ (blk_lt hD.rvb) (foot_type hD.bus hD.rvb (by decide) (by decide) (by decide))).trans hD.rvb
  have hbt5 : But (foot b g x) w W5 := hD.foot.trans hbut5 fun _ _ h => h
  have hsz5 := hD.bel.size
  replace hS5 := Lib.hid hS5
  replace hX5 := Lib.hid hX5
  replace hB5 := Lib.hid hB5
  replace hbt5 := Lib.hid hbt5
  replace hv5 := Lib.hid hv5
  clear hS hX hD hbut5
  go_wp2_with fail
  refine hK.out _ _ (fun _ => hS5.out) ?_
  clear hK K
  have hS := hS5.out
  try simp only [Act.put, List.setIfInBounds_toArray, List.set_cons_zero, List.set_cons_succ]
  refine wpAnyT_take (i := 6) (oi := ⟨some 68, _, _, _, _, _⟩) (v := .bool (TB.2.2 == T.2.2)) rfl (by kernel_rfl) (by kernel_rfl) (by kernel_rfl) (by kernel_rfl) (fun _ _ _ h => h) (Or.inl ⟨by rfl, fun W hW => by go_simp⟩) hS ?_
  try simp only [Act.put, List.setIfInBounds_toArray, List.set_cons_zero, List.set_cons_succ]
  have hb6 := but_row (W := W5) (g := w.heap.size + 1 + 1) #[.int .i64 (T.1.self : Int), .slice (some ⟨g1, 0, none⟩) 64 c1, .int .u64 (T.1.cur : Int), .slice Y1 L1.length yc1]
  have hrow := setRow_heap _ _ _ #[.int .i64 (T.1.self : Int), .slice (some ⟨g1, 0, none⟩) 64 c1, .int .u64 (T.1.cur : Int), .slice Y1 L1.length yc1] _ _ hv5.out
  have hnp : p ≠ w.heap.size + 1 + 1 := by omega
  have hno : w.heap.size + 1 ≠ w.heap.size + 1 + 1 := by omega
  have hS6 := hS.keep hb6 (fun e => hnp e) (fun e => hno e)
  have hX6 := hX5.out.rv hv5.out hb6
  have hB6 : BusPost w b g x (TB.1, l ++ TB.2.1).1 (TB.1, l ++ TB.2.1).2 (W5.setRow (w.heap.size + 1 + 1) #[.int .i64 (T.1.self : Int), .slice (some ⟨g1, 0, none⟩) 64 c1, .int .u64 (T.1.cur : Int), .slice Y1 L1.length yc1]) := ⟨x5, hB5.out.keep hb6 (fun k hk e => foot_type hB5.out hv5.out (by decide) (by decide) (by decide) (by rw [← e]; exact hk)), hbt5.out.trans hb6 (fun i hi e => absurd e (by omega)), fun k hk => by
    rcases hx5 k hk with h1 | h1
    · exact Or.inl h1
    · exact Or.inr (by omega)⟩
  replace hrow := Lib.hid hrow
  replace hX6 := Lib.hid hX6
  replace hB6 := Lib.hid hB6
  replace hS6 := Lib.hid hS6
  clear hS hS5 hX5 hB5 hbt5 hb6 hx5
  refine wpAnyT_one (i := 7) (o := ⟨none, _, _, _, _, _⟩) (by kernel_rfl) rfl (fun K hK => ?_)
  refine wp_store_row 57 _ _ rfl (w.heap.size + 1 + 1) #[.int .i64 (T.1.self : Int), .slice (some ⟨g1, 0, none⟩) 64 c1, .int .u64 (T.1.cur : Int), .slice Y1 L1.length yc1] rfl rfl 57 _ hv5.out (info57 _ _ _ _) rfl (one57 _ _ _ _ _ _ _) (hK.out _ _ (fun _ => hS6.out) ?_)
  clear hK K
  try simp only [Act.put, List.setIfInBounds_toArray, List.set_cons_zero, List.set_cons_succ]
  refine wpAnyT_one (i := 8) (o := ⟨some 7, _, _, _, _, _⟩) (by kernel_rfl) rfl (fun K hK => ?_)
  go_simp
  go_wp2_with fail
  refine hK.out _ _ (fun h => absurd rfl h) ?_
  clear hK K
  try simp only [Act.put, List.setIfInBounds_toArray, List.set_cons_zero, List.set_cons_succ]
  refine wpAnyT_done (by kernel_rfl) ?_ _
  go_wp2_with fail
  refine bodyPost_ret (results_cell_row2 Tryz.results16 _ _ (w.heap.size + 1 + 1) 57 _ (0, 0) _ _ rfl rfl hrow.out Tryz.underlying57 rfl (info57 _ _ _ _)) rfl ?_
  exact ⟨_, _, _, _, rfl, hX6.out, hB6.out, fun hg => hgB hg.2.1⟩
set_option maxHeartbeats 4000000 in
set_option maxRecDepth 100000 in
theorem does_3 {b g gx c : Nat} {x y : Value} {v : VS} {X : XS} {l lx : List (Int × ByteArray)} (w : World) (hE : Env w) (h : BB w b g x v l) (hfE : ∀ W, But (foot b g x) w W → Env W) (hX : XBus w gx y X lx)
    (hs64 : X.self < 64) (hcv : v.cur + 1 < 18446744073709551616) (hcx : X.cur + 1 < 18446744073709551616) (hl : l.length ≤ 1000000000) (hlx : lx.length ≤ 1000000000) (n slot : Int) (least : Nat) (hle : least < 18446744073709551616) (s : ByteArray) (hs : s.size ≤ 2000) :
    Calls Tryz.prog 16 #[.pointer (some ⟨b, 0, none⟩), .agg #[.int .i64 (X.self : Int), .slice (some ⟨gx, 0, none⟩) 64 c, .int .u64 (X.cur : Int), y], .agg #[.int .i64 3, .int .i64 n, .int .i64 slot, .int .u64 (least : Int), .string s]] w (DoesPost w b g x (winVR v slot least, l) (winR X slot least, lx) (v.self = X.self ∧ (takeB v s.data.toList).2.2 = (takeR X s.data.toList).2.2 ∧ l = lx)) := by
  obtain ⟨Y, yc, rfl⟩ := own_slice hX.outs
  have hD := Lib.hid (doW_start h #[.int .i64 (X.self : Int), .slice (some ⟨gx, 0, none⟩) 64 c, .int .u64 (X.cur : Int), .slice Y lx.length yc] #[.int .i64 3, .int .i64 n, .int .i64 slot, .int .u64 (least : Int), .string s])
  have hX0 : XBus _ gx (.slice Y lx.length yc) X lx := ((hX.below (below_new' w (.cells #[.int .i64 (X.self : Int), .slice (some ⟨gx, 0, none⟩) 64 c, .int .u64 (X.cur : Int), .slice Y lx.length yc] 57))).below (below_new' _ (.cells #[.int .i64 3, .int .i64 n, .int .i64 slot, .int .u64 (least : Int), .string s] 59))).below (below_new' _ (.cells #[.int .i64 0, .slice none 0 0, .int .u64 0, .slice none 0 0] 57))
  replace hX0 := Lib.hid hX0
  clear h hX
  go_enter Tryz.func16, Tryz.ntmps16
  refine wp_cut (fun a W => a = ⟨#[.pointer (some ⟨b, 0, none⟩), .agg #[.int .i64 (X.self : Int), .slice (some ⟨gx, 0, none⟩) 64 c, .int .u64 (X.cur : Int), .slice Y lx.length yc], .agg #[.int .i64 3, .int .i64 n, .int .i64 slot, .int .u64 (least : Int), .string s], undef, .pointer (some ⟨w.heap.size, 0, none⟩), .pointer (some ⟨w.heap.size + 1, 0, none⟩), .pointer (some ⟨w.heap.size + 1 + 1, 0, none⟩), .bool false, undef, undef, undef, undef, undef, undef, undef, undef, undef, undef, undef, undef, undef, undef, undef, undef, undef, undef, undef, undef, undef, undef, undef, undef, undef, undef, undef, undef, undef, undef, undef, undef, undef, undef, undef, undef, undef, undef, undef, undef, undef, undef, undef, undef, undef, undef, undef, undef, undef, undef, undef, undef, undef, undef, undef, undef, undef, undef, undef, undef, undef, undef, undef, undef, undef, undef, undef, undef, undef, undef, undef, undef, undef, undef, undef, undef, undef, undef, undef, undef, undef, undef, undef, undef, undef, undef, undef, undef, undef, undef, undef, undef, undef, undef, undef, undef, undef, undef, undef, undef, undef, undef, undef, undef, undef, undef, undef, undef, undef, undef, undef, undef, undef, undef, undef, undef, undef, undef], []⟩ ∧ DoW w b g x v l #[.int .i64 (X.self : Int), .slice (some ⟨gx, 0, none⟩) 64 c, .int .u64 (X.cur : Int), .slice Y lx.length yc] #[.int .i64 3, .int .i64 n, .int .i64 slot, .int .u64 (least : Int), .string s] W ∧ XBus W gx (.slice Y lx.length yc) X lx) ?_ ?_
  · go_wp2_with fail
    exact ⟨trivial, hD.out, hX0.out⟩
  clear hD hX0
  rintro _ W ⟨rfl, hD, hX⟩
  obtain ⟨e0, e1, e2, e3⟩ := box4 hD.box
  obtain ⟨o0, o1, o2, o3, o4⟩ := opBox hD.op
  have hws := blk_lt hD.rvb
  have hT := xWin_calls (c := c) W hX.row slot least hs64 hcx
  generalize winR X slot least = X1 at *
  skip
  replace hT := Lib.hid hT
  replace hD := Lib.hid hD
  replace hX := Lib.hid hX
  go_wp2_with fail
  refine hT.out.mono ?_
  rintro r w1 ⟨g1, c1, rfl, hr1, hg1, hb1⟩
  have hD1 := hD.out.below hb1
  have hXo : XBus w1 g1 (.slice Y lx.length yc) X1 lx := ⟨hr1, (hX.out.below hb1).outs⟩
  obtain ⟨z0, z1, z2, z3⟩ := box4 hD1.box
  obtain ⟨t0, t1, t2, t3, t4⟩ := opBox hD1.op
  have f0 : w1.frozen? ⟨w.heap.size, 0, none⟩ = false := openBox hD1.box
  have f1 : w1.frozen? ⟨w.heap.size, 1, none⟩ = false := openBox hD1.box
  have f2 : w1.frozen? ⟨w.heap.size, 2, none⟩ = false := openBox hD1.box
  have hw0 : w.heap.size < w1.heap.size := blk_lt hD1.box
  have hw2 : w.heap.size + 1 < w1.heap.size := blk_lt hD1.op
  have hw1 : w.heap.size + 1 + 1 < w1.heap.size := blk_lt hD1.rvb
  obtain ⟨k1, k2⟩ := box3set hD1.box (.int .i64 (X1.self : Int)) (.slice (some ⟨g1, 0, none⟩) 64 c1) (.int .u64 (X1.cur : Int))
  have hX1 := hXo.rv hD1.box k2
  have hD5 := hD1.put3 (.int .i64 (X1.self : Int)) (.slice (some ⟨g1, 0, none⟩) 64 c1) (.int .u64 (X1.cur : Int))
  have n1 := below_new' (((w1.setCell ⟨w.heap.size, 0, none⟩ (.int .i64 (X1.self : Int))).setCell ⟨w.heap.size, 1, none⟩ (.slice (some ⟨g1, 0, none⟩) 64 c1)).setCell ⟨w.heap.size, 2, none⟩ (.int .u64 (X1.cur : Int))) (.cells #[.int .i64 (X1.self : Int), .slice (some ⟨g1, 0, none⟩) 64 c1, .int .u64 (X1.cur : Int)] 51)
  have hD2 := (hD5.below n1).below (below_drew (Below.refl _ _))
  have hX2 := (hX1.below n1).below (below_drew (Below.refl _ _))
  have hS : DoB w.heap.size (w.heap.size + 1) #[.int .i64 (X1.self : Int), .slice (some ⟨g1, 0, none⟩) 64 c1, .int .u64 (X1.cur : Int), .slice Y lx.length yc] #[.int .i64 3, .int .i64 n, .int .i64 slot, .int .u64 (least : Int), .string s] ((((w1.setCell ⟨w.heap.size, 0, none⟩ (.int .i64 (X1.self : Int))).setCell ⟨w.heap.size, 1, none⟩ (.slice (some ⟨g1, 0, none⟩) 64 c1)).setCell ⟨w.heap.size, 2, none⟩ (.int .u64 (X1.cur : Int))).alloc (.cells #[.int .i64 (X1.self : Int), .slice (some ⟨g1, 0, none⟩) 64 c1, .int .u64 (X1.cur : Int)] 51)).drew := ⟨hD2.box, hD2.op⟩
  replace hD2 := Lib.hid hD2
  replace hX2 := Lib.hid hX2
  replace hS := Lib.hid hS
  clear hT hD hX hD1 hX1 hXo hD5 hb1 n1 k1 k2 hr1 hg1 e0 e1 e2 e3 o0 o1 o2 o3 o4
  go_wp2_with fail
  refine wp_region_last (S := DoB w.heap.size (w.heap.size + 1) #[.int .i64 (X1.self : Int), .slice (some ⟨g1, 0, none⟩) 64 c1, .int .u64 (X1.cur : Int), .slice Y lx.length yc] #[.int .i64 3, .int .i64 n, .int .i64 slot, .int .u64 (least : Int), .string s]) 10 (by kernel_rfl) ?_
  replace hD := hD2.out
  replace hX := hX2.out
  replace hS := hS.out
  clear hD2 hX2 z0 z1 z2 z3 t0 t1 t2 t3 t4 f0 f1 f2
  generalize World.drew _ = W4 at *
  refine wpAnyT_take (i := 0) (oi := ⟨some 83, _, _, _, _, _⟩) (v := .agg #[.int .i64 (X1.self : Int), .slice (some ⟨g1, 0, none⟩) 64 c1, .int .u64 (X1.cur : Int), .slice Y lx.length yc]) rfl (by kernel_rfl) (by kernel_rfl) (by kernel_rfl) (by kernel_rfl) (fun _ _ _ h => h) (Or.inl ⟨by rfl, fun W hW => by have q0 := (box4 hW.box).1; have q1 := (box4 hW.box).2.1; have q2 := (box4 hW.box).2.2.1; have q3 := (box4 hW.box).2.2.2; have p0 := (opBox hW.op).1; have p1 := (opBox hW.op).2.1; have p2 := (opBox hW.op).2.2.1; have p3 := (opBox hW.op).2.2.2.1; have p4 := (opBox hW.op).2.2.2.2; go_simp⟩) hS ?_
  try simp only [Act.put, List.setIfInBounds_toArray, List.set_cons_zero, List.set_cons_succ]
  refine wpAnyT_take (i := 1) (oi := ⟨some 84, _, _, _, _, _⟩) (v := .pointer (some ⟨b, 0, none⟩)) rfl (by kernel_rfl) (by kernel_rfl) (by kernel_rfl) (by kernel_rfl) (fun _ _ _ h => h) (Or.inl ⟨by rfl, fun W hW => by go_simp⟩) hS ?_
  try simp only [Act.put, List.setIfInBounds_toArray, List.set_cons_zero, List.set_cons_succ]
  refine wpAnyT_take (i := 2) (oi := ⟨some 85, _, _, _, _, _⟩) (v := .pointer (some ⟨(w.heap.size + 1), 2, none⟩)) rfl (by kernel_rfl) (by kernel_rfl) (by kernel_rfl) (by kernel_rfl) (fun _ _ _ h => h) (Or.inl ⟨by rfl, fun W hW => by go_simp⟩) hS ?_
  try simp only [Act.put, List.setIfInBounds_toArray, List.set_cons_zero, List.set_cons_succ]
  refine wpAnyT_take (i := 3) (oi := ⟨some 86, _, _, _, _, _⟩) (v := .int .i64 slot) rfl (by kernel_rfl) (by kernel_rfl) (by kernel_rfl) (by kernel_rfl) (fun _ _ _ h => h) (Or.inl ⟨by rfl, fun W hW => by have q0 := (box4 hW.box).1; have q1 := (box4 hW.box).2.1; have q2 := (box4 hW.box).2.2.1; have q3 := (box4 hW.box).2.2.2; have p0 := (opBox hW.op).1; have p1 := (opBox hW.op).2.1; have p2 := (opBox hW.op).2.2.1; have p3 := (opBox hW.op).2.2.2.1; have p4 := (opBox hW.op).2.2.2.2; go_simp⟩) hS ?_
  try simp only [Act.put, List.setIfInBounds_toArray, List.set_cons_zero, List.set_cons_succ]
  refine wpAnyT_take (i := 4) (oi := ⟨some 87, _, _, _, _, _⟩) (v := .pointer (some ⟨(w.heap.size + 1), 3, none⟩)) rfl (by kernel_rfl) (by kernel_rfl) (by kernel_rfl) (by kernel_rfl) (fun _ _ _ h => h) (Or.inl ⟨by rfl, fun W hW => by go_simp⟩) hS ?_
  try simp only [Act.put, List.setIfInBounds_toArray, List.set_cons_zero, List.set_cons_succ]
  refine wpAnyT_take (i := 5) (oi := ⟨some 88, _, _, _, _, _⟩) (v := .int .u64 (least : Int)) rfl (by kernel_rfl) (by kernel_rfl) (by kernel_rfl) (by kernel_rfl) (fun _ _ _ h => h) (Or.inl ⟨by rfl, fun W hW => by have q0 := (box4 hW.box).1; have q1 := (box4 hW.box).2.1; have q2 := (box4 hW.box).2.2.1; have q3 := (box4 hW.box).2.2.2; have p0 := (opBox hW.op).1; have p1 := (opBox hW.op).2.1; have p2 := (opBox hW.op).2.2.1; have p3 := (opBox hW.op).2.2.2.1; have p4 := (opBox hW.op).2.2.2.2; go_simp⟩) hS ?_
  try simp only [Act.put, List.setIfInBounds_toArray, List.set_cons_zero, List.set_cons_succ]
  refine wpAnyT_take (i := 7) (oi := ⟨some 90, _, _, _, _, _⟩) (v := .int .i64 (winE slot least)) rfl (by kernel_rfl) (by kernel_rfl) (by kernel_rfl) (by kernel_rfl) (fun _ _ _ h => h) (Or.inl ⟨by rfl, fun W hW => by go_simp⟩) hS ?_
  try simp only [Act.put, List.setIfInBounds_toArray, List.set_cons_zero, List.set_cons_succ]
  refine wpAnyT_one (i := 6) (o := ⟨some 89, _, _, _, _, _⟩) (by kernel_rfl) rfl (fun K hK => ?_)
  go_simp
  refine (bWin_calls W4 hD.bus slot least hcv).mono ?_
  rintro e W5 ⟨rfl, hP⟩
  obtain ⟨x5, hB5, hbut5, hx5⟩ := hP
  have hS5 := hS.keep hbut5 (foot_type hD.bus hS.box (by decide) (by decide) (by decide)) (foot_type hD.bus hS.op (by decide) (by decide) (by decide))
  have hX5 := hX.foot hD.bus hbut5
  have hv5 := (hbut5.block _ (blk_lt hD.rvb) (foot_type hD.bus hD.rvb (by decide) (by decide) (by decide))).trans hD.rvb
  have hbt5 : But (foot b g x) w W5 := hD.foot.trans hbut5 fun _ _ h => h
  have hsz5 := hD.bel.size
  replace hS5 := Lib.hid hS5
  replace hX5 := Lib.hid hX5
  replace hB5 := Lib.hid hB5
  replace hbt5 := Lib.hid hbt5
  replace hv5 := Lib.hid hv5
  clear hS hX hD hbut5
  go_wp2_with fail
  refine hK.out _ _ (fun _ => hS5.out) ?_
  clear hK K
  have hS := hS5.out
  try simp only [Act.put, List.setIfInBounds_toArray, List.set_cons_zero, List.set_cons_succ]
  refine wpAnyT_take (i := 8) (oi := ⟨some 91, _, _, _, _, _⟩) (v := .bool (winE slot least == winE slot least)) rfl (by kernel_rfl) (by kernel_rfl) (by kernel_rfl) (by kernel_rfl) (fun _ _ _ h => h) (Or.inl ⟨by rfl, fun W hW => by go_simp⟩) hS ?_
  try simp only [Act.put, List.setIfInBounds_toArray, List.set_cons_zero, List.set_cons_succ]
  have hb6 := but_row (W := W5) (g := w.heap.size + 1 + 1) #[.int .i64 (X1.self : Int), .slice (some ⟨g1, 0, none⟩) 64 c1, .int .u64 (X1.cur : Int), .slice Y lx.length yc]
  have hrow := setRow_heap _ _ _ #[.int .i64 (X1.self : Int), .slice (some ⟨g1, 0, none⟩) 64 c1, .int .u64 (X1.cur : Int), .slice Y lx.length yc] _ _ hv5.out
  have hnp : w.heap.size ≠ w.heap.size + 1 + 1 := by omega
  have hno : w.heap.size + 1 ≠ w.heap.size + 1 + 1 := by omega
  have hS6 := hS.keep hb6 (fun e => hnp e) (fun e => hno e)
  have hX6 := hX5.out.rv hv5.out hb6
  have hB6 : BusPost w b g x (winVR v slot least, l).1 (winVR v slot least, l).2 (W5.setRow (w.heap.size + 1 + 1) #[.int .i64 (X1.self : Int), .slice (some ⟨g1, 0, none⟩) 64 c1, .int .u64 (X1.cur : Int), .slice Y lx.length yc]) := ⟨x5, hB5.out.keep hb6 (fun k hk e => foot_type hB5.out hv5.out (by decide) (by decide) (by decide) (by rw [← e]; exact hk)), hbt5.out.trans hb6 (fun i hi e => absurd e (by omega)), fun k hk => by
    rcases hx5 k hk with h1 | h1
    · exact Or.inl h1
    · exact Or.inr (by omega)⟩
  replace hrow := Lib.hid hrow
  replace hX6 := Lib.hid hX6
  replace hB6 := Lib.hid hB6
  replace hS6 := Lib.hid hS6
  clear hS hS5 hX5 hB5 hbt5 hb6 hx5
  refine wpAnyT_one (i := 9) (o := ⟨none, _, _, _, _, _⟩) (by kernel_rfl) rfl (fun K hK => ?_)
  refine wp_store_row 57 _ _ rfl (w.heap.size + 1 + 1) #[.int .i64 (X1.self : Int), .slice (some ⟨g1, 0, none⟩) 64 c1, .int .u64 (X1.cur : Int), .slice Y lx.length yc] rfl rfl 57 _ hv5.out (info57 _ _ _ _) rfl (one57 _ _ _ _ _ _ _) (hK.out _ _ (fun _ => hS6.out) ?_)
  clear hK K
  try simp only [Act.put, List.setIfInBounds_toArray, List.set_cons_zero, List.set_cons_succ]
  refine wpAnyT_one (i := 10) (o := ⟨some 7, _, _, _, _, _⟩) (by kernel_rfl) rfl (fun K hK => ?_)
  go_simp
  go_wp2_with fail
  refine hK.out _ _ (fun h => absurd rfl h) ?_
  clear hK K
  try simp only [Act.put, List.setIfInBounds_toArray, List.set_cons_zero, List.set_cons_succ]
  refine wpAnyT_done (by kernel_rfl) ?_ _
  go_wp2_with fail
  refine bodyPost_ret (results_cell_row2 Tryz.results16 _ _ (w.heap.size + 1 + 1) 57 _ (0, 0) _ _ rfl rfl hrow.out Tryz.underlying57 rfl (info57 _ _ _ _)) rfl ?_
  exact ⟨_, _, _, _, rfl, hX6.out, hB6.out, fun hg => rfl⟩
set_option maxHeartbeats 4000000 in
set_option maxRecDepth 100000 in
theorem does_4 {b g gx c : Nat} {x y : Value} {v : VS} {X : XS} {l lx : List (Int × ByteArray)} (w : World) (hE : Env w) (h : BB w b g x v l) (hfE : ∀ W, But (foot b g x) w W → Env W) (hX : XBus w gx y X lx)
    (hs64 : X.self < 64) (hcv : v.cur + 1 < 18446744073709551616) (hcx : X.cur + 1 < 18446744073709551616) (hl : l.length ≤ 1000000000) (hlx : lx.length ≤ 1000000000) (n slot : Int) (least : Nat) (hle : least < 18446744073709551616) (s : ByteArray) (hs : s.size ≤ 2000) :
    Calls Tryz.prog 16 #[.pointer (some ⟨b, 0, none⟩), .agg #[.int .i64 (X.self : Int), .slice (some ⟨gx, 0, none⟩) 64 c, .int .u64 (X.cur : Int), y], .agg #[.int .i64 4, .int .i64 n, .int .i64 slot, .int .u64 (least : Int), .string s]] w (DoesPost w b g x (giveVR v slot n, l) (giveR X slot n, lx) (v.self = X.self ∧ (takeB v s.data.toList).2.2 = (takeR X s.data.toList).2.2 ∧ l = lx)) := by
  obtain ⟨Y, yc, rfl⟩ := own_slice hX.outs
  have hD := Lib.hid (doW_start h #[.int .i64 (X.self : Int), .slice (some ⟨gx, 0, none⟩) 64 c, .int .u64 (X.cur : Int), .slice Y lx.length yc] #[.int .i64 4, .int .i64 n, .int .i64 slot, .int .u64 (least : Int), .string s])
  have hX0 : XBus _ gx (.slice Y lx.length yc) X lx := ((hX.below (below_new' w (.cells #[.int .i64 (X.self : Int), .slice (some ⟨gx, 0, none⟩) 64 c, .int .u64 (X.cur : Int), .slice Y lx.length yc] 57))).below (below_new' _ (.cells #[.int .i64 4, .int .i64 n, .int .i64 slot, .int .u64 (least : Int), .string s] 59))).below (below_new' _ (.cells #[.int .i64 0, .slice none 0 0, .int .u64 0, .slice none 0 0] 57))
  replace hX0 := Lib.hid hX0
  clear h hX
  go_enter Tryz.func16, Tryz.ntmps16
  refine wp_cut (fun a W => a = ⟨#[.pointer (some ⟨b, 0, none⟩), .agg #[.int .i64 (X.self : Int), .slice (some ⟨gx, 0, none⟩) 64 c, .int .u64 (X.cur : Int), .slice Y lx.length yc], .agg #[.int .i64 4, .int .i64 n, .int .i64 slot, .int .u64 (least : Int), .string s], undef, .pointer (some ⟨w.heap.size, 0, none⟩), .pointer (some ⟨w.heap.size + 1, 0, none⟩), .pointer (some ⟨w.heap.size + 1 + 1, 0, none⟩), .bool false, undef, undef, undef, undef, undef, undef, undef, undef, undef, undef, undef, undef, undef, undef, undef, undef, undef, undef, undef, undef, undef, undef, undef, undef, undef, undef, undef, undef, undef, undef, undef, undef, undef, undef, undef, undef, undef, undef, undef, undef, undef, undef, undef, undef, undef, undef, undef, undef, undef, undef, undef, undef, undef, undef, undef, undef, undef, undef, undef, undef, undef, undef, undef, undef, undef, undef, undef, undef, undef, undef, undef, undef, undef, undef, undef, undef, undef, undef, undef, undef, undef, undef, undef, undef, undef, undef, undef, undef, undef, undef, undef, undef, undef, undef, undef, undef, undef, undef, undef, undef, undef, undef, undef, undef, undef, undef, undef, undef, undef, undef, undef, undef, undef, undef, undef, undef, undef, undef], []⟩ ∧ DoW w b g x v l #[.int .i64 (X.self : Int), .slice (some ⟨gx, 0, none⟩) 64 c, .int .u64 (X.cur : Int), .slice Y lx.length yc] #[.int .i64 4, .int .i64 n, .int .i64 slot, .int .u64 (least : Int), .string s] W ∧ XBus W gx (.slice Y lx.length yc) X lx) ?_ ?_
  · go_wp2_with fail
    exact ⟨trivial, hD.out, hX0.out⟩
  clear hD hX0
  rintro _ W ⟨rfl, hD, hX⟩
  obtain ⟨e0, e1, e2, e3⟩ := box4 hD.box
  obtain ⟨o0, o1, o2, o3, o4⟩ := opBox hD.op
  have hws := blk_lt hD.rvb
  have hT := xGive_calls (c := c) W hX.row slot n
  generalize giveR X slot n = X1 at *
  skip
  replace hT := Lib.hid hT
  replace hD := Lib.hid hD
  replace hX := Lib.hid hX
  go_wp2_with fail
  refine hT.out.mono ?_
  rintro r w1 ⟨g1, c1, rfl, hr1, hg1, hb1⟩
  have hD1 := hD.out.below hb1
  have hXo : XBus w1 g1 (.slice Y lx.length yc) X1 lx := ⟨hr1, (hX.out.below hb1).outs⟩
  obtain ⟨z0, z1, z2, z3⟩ := box4 hD1.box
  obtain ⟨t0, t1, t2, t3, t4⟩ := opBox hD1.op
  have f0 : w1.frozen? ⟨w.heap.size, 0, none⟩ = false := openBox hD1.box
  have f1 : w1.frozen? ⟨w.heap.size, 1, none⟩ = false := openBox hD1.box
  have f2 : w1.frozen? ⟨w.heap.size, 2, none⟩ = false := openBox hD1.box
  have hw0 : w.heap.size < w1.heap.size := blk_lt hD1.box
  have hw2 : w.heap.size + 1 < w1.heap.size := blk_lt hD1.op
  have hw1 : w.heap.size + 1 + 1 < w1.heap.size := blk_lt hD1.rvb
  obtain ⟨k1, k2⟩ := box3set hD1.box (.int .i64 (X1.self : Int)) (.slice (some ⟨g1, 0, none⟩) 64 c1) (.int .u64 (X1.cur : Int))
  have hX1 := hXo.rv hD1.box k2
  have hD5 := hD1.put3 (.int .i64 (X1.self : Int)) (.slice (some ⟨g1, 0, none⟩) 64 c1) (.int .u64 (X1.cur : Int))
  have n1 := below_new' (((w1.setCell ⟨w.heap.size, 0, none⟩ (.int .i64 (X1.self : Int))).setCell ⟨w.heap.size, 1, none⟩ (.slice (some ⟨g1, 0, none⟩) 64 c1)).setCell ⟨w.heap.size, 2, none⟩ (.int .u64 (X1.cur : Int))) (.cells #[.int .i64 (X1.self : Int), .slice (some ⟨g1, 0, none⟩) 64 c1, .int .u64 (X1.cur : Int)] 51)
  have hD2 := (hD5.below n1).below (below_drew (Below.refl _ _))
  have hX2 := (hX1.below n1).below (below_drew (Below.refl _ _))
  have hS : DoB w.heap.size (w.heap.size + 1) #[.int .i64 (X1.self : Int), .slice (some ⟨g1, 0, none⟩) 64 c1, .int .u64 (X1.cur : Int), .slice Y lx.length yc] #[.int .i64 4, .int .i64 n, .int .i64 slot, .int .u64 (least : Int), .string s] ((((w1.setCell ⟨w.heap.size, 0, none⟩ (.int .i64 (X1.self : Int))).setCell ⟨w.heap.size, 1, none⟩ (.slice (some ⟨g1, 0, none⟩) 64 c1)).setCell ⟨w.heap.size, 2, none⟩ (.int .u64 (X1.cur : Int))).alloc (.cells #[.int .i64 (X1.self : Int), .slice (some ⟨g1, 0, none⟩) 64 c1, .int .u64 (X1.cur : Int)] 51)).drew := ⟨hD2.box, hD2.op⟩
  replace hD2 := Lib.hid hD2
  replace hX2 := Lib.hid hX2
  replace hS := Lib.hid hS
  clear hT hD hX hD1 hX1 hXo hD5 hb1 n1 k1 k2 hr1 hg1 e0 e1 e2 e3 o0 o1 o2 o3 o4
  go_wp2_with fail
  refine wp_region_last (S := DoB w.heap.size (w.heap.size + 1) #[.int .i64 (X1.self : Int), .slice (some ⟨g1, 0, none⟩) 64 c1, .int .u64 (X1.cur : Int), .slice Y lx.length yc] #[.int .i64 4, .int .i64 n, .int .i64 slot, .int .u64 (least : Int), .string s]) 10 (by kernel_rfl) ?_
  replace hD := hD2.out
  replace hX := hX2.out
  replace hS := hS.out
  clear hD2 hX2 z0 z1 z2 z3 t0 t1 t2 t3 t4 f0 f1 f2
  generalize World.drew _ = W4 at *
  refine wpAnyT_take (i := 0) (oi := ⟨some 106, _, _, _, _, _⟩) (v := .agg #[.int .i64 (X1.self : Int), .slice (some ⟨g1, 0, none⟩) 64 c1, .int .u64 (X1.cur : Int), .slice Y lx.length yc]) rfl (by kernel_rfl) (by kernel_rfl) (by kernel_rfl) (by kernel_rfl) (fun _ _ _ h => h) (Or.inl ⟨by rfl, fun W hW => by have q0 := (box4 hW.box).1; have q1 := (box4 hW.box).2.1; have q2 := (box4 hW.box).2.2.1; have q3 := (box4 hW.box).2.2.2; have p0 := (opBox hW.op).1; have p1 := (opBox hW.op).2.1; have p2 := (opBox hW.op).2.2.1; have p3 := (opBox hW.op).2.2.2.1; have p4 := (opBox hW.op).2.2.2.2; go_simp⟩) hS ?_
  try simp only [Act.put, List.setIfInBounds_toArray, List.set_cons_zero, List.set_cons_succ]
  refine wpAnyT_take (i := 1) (oi := ⟨some 107, _, _, _, _, _⟩) (v := .pointer (some ⟨b, 0, none⟩)) rfl (by kernel_rfl) (by kernel_rfl) (by kernel_rfl) (by kernel_rfl) (fun _ _ _ h => h) (Or.inl ⟨by rfl, fun W hW => by go_simp⟩) hS ?_
  try simp only [Act.put, List.setIfInBounds_toArray, List.set_cons_zero, List.set_cons_succ]
  refine wpAnyT_take (i := 2) (oi := ⟨some 108, _, _, _, _, _⟩) (v := .pointer (some ⟨(w.heap.size + 1), 2, none⟩)) rfl (by kernel_rfl) (by kernel_rfl) (by kernel_rfl) (by kernel_rfl) (fun _ _ _ h => h) (Or.inl ⟨by rfl, fun W hW => by go_simp⟩) hS ?_
  try simp only [Act.put, List.setIfInBounds_toArray, List.set_cons_zero, List.set_cons_succ]
  refine wpAnyT_take (i := 3) (oi := ⟨some 109, _, _, _, _, _⟩) (v := .int .i64 slot) rfl (by kernel_rfl) (by kernel_rfl) (by kernel_rfl) (by kernel_rfl) (fun _ _ _ h => h) (Or.inl ⟨by rfl, fun W hW => by have q0 := (box4 hW.box).1; have q1 := (box4 hW.box).2.1; have q2 := (box4 hW.box).2.2.1; have q3 := (box4 hW.box).2.2.2; have p0 := (opBox hW.op).1; have p1 := (opBox hW.op).2.1; have p2 := (opBox hW.op).2.2.1; have p3 := (opBox hW.op).2.2.2.1; have p4 := (opBox hW.op).2.2.2.2; go_simp⟩) hS ?_
  try simp only [Act.put, List.setIfInBounds_toArray, List.set_cons_zero, List.set_cons_succ]
  refine wpAnyT_take (i := 4) (oi := ⟨some 110, _, _, _, _, _⟩) (v := .pointer (some ⟨(w.heap.size + 1), 1, none⟩)) rfl (by kernel_rfl) (by kernel_rfl) (by kernel_rfl) (by kernel_rfl) (fun _ _ _ h => h) (Or.inl ⟨by rfl, fun W hW => by go_simp⟩) hS ?_
  try simp only [Act.put, List.setIfInBounds_toArray, List.set_cons_zero, List.set_cons_succ]
  refine wpAnyT_take (i := 5) (oi := ⟨some 111, _, _, _, _, _⟩) (v := .int .i64 n) rfl (by kernel_rfl) (by kernel_rfl) (by kernel_rfl) (by kernel_rfl) (fun _ _ _ h => h) (Or.inl ⟨by rfl, fun W hW => by have q0 := (box4 hW.box).1; have q1 := (box4 hW.box).2.1; have q2 := (box4 hW.box).2.2.1; have q3 := (box4 hW.box).2.2.2; have p0 := (opBox hW.op).1; have p1 := (opBox hW.op).2.1; have p2 := (opBox hW.op).2.2.1; have p3 := (opBox hW.op).2.2.2.1; have p4 := (opBox hW.op).2.2.2.2; go_simp⟩) hS ?_
  try simp only [Act.put, List.setIfInBounds_toArray, List.set_cons_zero, List.set_cons_succ]
  refine wpAnyT_take (i := 7) (oi := ⟨some 113, _, _, _, _, _⟩) (v := .int .i64 (giveE slot n)) rfl (by kernel_rfl) (by kernel_rfl) (by kernel_rfl) (by kernel_rfl) (fun _ _ _ h => h) (Or.inl ⟨by rfl, fun W hW => by go_simp⟩) hS ?_
  try simp only [Act.put, List.setIfInBounds_toArray, List.set_cons_zero, List.set_cons_succ]
  refine wpAnyT_one (i := 6) (o := ⟨some 112, _, _, _, _, _⟩) (by kernel_rfl) rfl (fun K hK => ?_)
  go_simp
  refine (bGive_calls W4 hD.bus slot n).mono ?_
  rintro e W5 ⟨rfl, hP⟩
  obtain ⟨x5, hB5, hbut5, hx5⟩ := hP
  have hS5 := hS.keep hbut5 (foot_type hD.bus hS.box (by decide) (by decide) (by decide)) (foot_type hD.bus hS.op (by decide) (by decide) (by decide))
  have hX5 := hX.foot hD.bus hbut5
  have hv5 := (hbut5.block _ (blk_lt hD.rvb) (foot_type hD.bus hD.rvb (by decide) (by decide) (by decide))).trans hD.rvb
  have hbt5 : But (foot b g x) w W5 := hD.foot.trans hbut5 fun _ _ h => h
  have hsz5 := hD.bel.size
  replace hS5 := Lib.hid hS5
  replace hX5 := Lib.hid hX5
  replace hB5 := Lib.hid hB5
  replace hbt5 := Lib.hid hbt5
  replace hv5 := Lib.hid hv5
  clear hS hX hD hbut5
  go_wp2_with fail
  refine hK.out _ _ (fun _ => hS5.out) ?_
  clear hK K
  have hS := hS5.out
  try simp only [Act.put, List.setIfInBounds_toArray, List.set_cons_zero, List.set_cons_succ]
  refine wpAnyT_take (i := 8) (oi := ⟨some 114, _, _, _, _, _⟩) (v := .bool (giveE slot n == giveE slot n)) rfl (by kernel_rfl) (by kernel_rfl) (by kernel_rfl) (by kernel_rfl) (fun _ _ _ h => h) (Or.inl ⟨by rfl, fun W hW => by go_simp⟩) hS ?_
  try simp only [Act.put, List.setIfInBounds_toArray, List.set_cons_zero, List.set_cons_succ]
  have hb6 := but_row (W := W5) (g := w.heap.size + 1 + 1) #[.int .i64 (X1.self : Int), .slice (some ⟨g1, 0, none⟩) 64 c1, .int .u64 (X1.cur : Int), .slice Y lx.length yc]
  have hrow := setRow_heap _ _ _ #[.int .i64 (X1.self : Int), .slice (some ⟨g1, 0, none⟩) 64 c1, .int .u64 (X1.cur : Int), .slice Y lx.length yc] _ _ hv5.out
  have hnp : w.heap.size ≠ w.heap.size + 1 + 1 := by omega
  have hno : w.heap.size + 1 ≠ w.heap.size + 1 + 1 := by omega
  have hS6 := hS.keep hb6 (fun e => hnp e) (fun e => hno e)
  have hX6 := hX5.out.rv hv5.out hb6
  have hB6 : BusPost w b g x (giveVR v slot n, l).1 (giveVR v slot n, l).2 (W5.setRow (w.heap.size + 1 + 1) #[.int .i64 (X1.self : Int), .slice (some ⟨g1, 0, none⟩) 64 c1, .int .u64 (X1.cur : Int), .slice Y lx.length yc]) := ⟨x5, hB5.out.keep hb6 (fun k hk e => foot_type hB5.out hv5.out (by decide) (by decide) (by decide) (by rw [← e]; exact hk)), hbt5.out.trans hb6 (fun i hi e => absurd e (by omega)), fun k hk => by
    rcases hx5 k hk with h1 | h1
    · exact Or.inl h1
    · exact Or.inr (by omega)⟩
  replace hrow := Lib.hid hrow
  replace hX6 := Lib.hid hX6
  replace hB6 := Lib.hid hB6
  replace hS6 := Lib.hid hS6
  clear hS hS5 hX5 hB5 hbt5 hb6 hx5
  refine wpAnyT_one (i := 9) (o := ⟨none, _, _, _, _, _⟩) (by kernel_rfl) rfl (fun K hK => ?_)
  refine wp_store_row 57 _ _ rfl (w.heap.size + 1 + 1) #[.int .i64 (X1.self : Int), .slice (some ⟨g1, 0, none⟩) 64 c1, .int .u64 (X1.cur : Int), .slice Y lx.length yc] rfl rfl 57 _ hv5.out (info57 _ _ _ _) rfl (one57 _ _ _ _ _ _ _) (hK.out _ _ (fun _ => hS6.out) ?_)
  clear hK K
  try simp only [Act.put, List.setIfInBounds_toArray, List.set_cons_zero, List.set_cons_succ]
  refine wpAnyT_one (i := 10) (o := ⟨some 7, _, _, _, _, _⟩) (by kernel_rfl) rfl (fun K hK => ?_)
  go_simp
  go_wp2_with fail
  refine hK.out _ _ (fun h => absurd rfl h) ?_
  clear hK K
  try simp only [Act.put, List.setIfInBounds_toArray, List.set_cons_zero, List.set_cons_succ]
  refine wpAnyT_done (by kernel_rfl) ?_ _
  go_wp2_with fail
  refine bodyPost_ret (results_cell_row2 Tryz.results16 _ _ (w.heap.size + 1 + 1) 57 _ (0, 0) _ _ rfl rfl hrow.out Tryz.underlying57 rfl (info57 _ _ _ _)) rfl ?_
  exact ⟨_, _, _, _, rfl, hX6.out, hB6.out, fun hg => rfl⟩
set_option maxHeartbeats 4000000 in
set_option maxRecDepth 100000 in
theorem does_5 {b g gx c : Nat} {x y : Value} {v : VS} {X : XS} {l lx : List (Int × ByteArray)} (w : World) (hE : Env w) (h : BB w b g x v l) (hfE : ∀ W, But (foot b g x) w W → Env W) (hX : XBus w gx y X lx)
    (hs64 : X.self < 64) (hcv : v.cur + 1 < 18446744073709551616) (hcx : X.cur + 1 < 18446744073709551616) (hl : l.length ≤ 1000000000) (hlx : lx.length ≤ 1000000000) (n slot : Int) (least : Nat) (hle : least < 18446744073709551616) (s : ByteArray) (hs : s.size ≤ 2000) :
    Calls Tryz.prog 16 #[.pointer (some ⟨b, 0, none⟩), .agg #[.int .i64 (X.self : Int), .slice (some ⟨gx, 0, none⟩) 64 c, .int .u64 (X.cur : Int), y], .agg #[.int .i64 5, .int .i64 n, .int .i64 slot, .int .u64 (least : Int), .string s]] w (DoesPost w b g x (v, []) (X, []) (v.self = X.self ∧ (takeB v s.data.toList).2.2 = (takeR X s.data.toList).2.2 ∧ l = lx)) := by
  obtain ⟨Y, yc, rfl⟩ := own_slice hX.outs
  have hD := Lib.hid (doW_start h #[.int .i64 (X.self : Int), .slice (some ⟨gx, 0, none⟩) 64 c, .int .u64 (X.cur : Int), .slice Y lx.length yc] #[.int .i64 5, .int .i64 n, .int .i64 slot, .int .u64 (least : Int), .string s])
  have hX0 : XBus _ gx (.slice Y lx.length yc) X lx := ((hX.below (below_new' w (.cells #[.int .i64 (X.self : Int), .slice (some ⟨gx, 0, none⟩) 64 c, .int .u64 (X.cur : Int), .slice Y lx.length yc] 57))).below (below_new' _ (.cells #[.int .i64 5, .int .i64 n, .int .i64 slot, .int .u64 (least : Int), .string s] 59))).below (below_new' _ (.cells #[.int .i64 0, .slice none 0 0, .int .u64 0, .slice none 0 0] 57))
  replace hX0 := Lib.hid hX0
  clear h hX
  go_enter Tryz.func16, Tryz.ntmps16
  refine wp_cut (fun a W => a = ⟨#[.pointer (some ⟨b, 0, none⟩), .agg #[.int .i64 (X.self : Int), .slice (some ⟨gx, 0, none⟩) 64 c, .int .u64 (X.cur : Int), .slice Y lx.length yc], .agg #[.int .i64 5, .int .i64 n, .int .i64 slot, .int .u64 (least : Int), .string s], undef, .pointer (some ⟨w.heap.size, 0, none⟩), .pointer (some ⟨w.heap.size + 1, 0, none⟩), .pointer (some ⟨w.heap.size + 1 + 1, 0, none⟩), .bool false, undef, undef, undef, undef, undef, undef, undef, undef, undef, undef, undef, undef, undef, undef, undef, undef, undef, undef, undef, undef, undef, undef, undef, undef, undef, undef, undef, undef, undef, undef, undef, undef, undef, undef, undef, undef, undef, undef, undef, undef, undef, undef, undef, undef, undef, undef, undef, undef, undef, undef, undef, undef, undef, undef, undef, undef, undef, undef, undef, undef, undef, undef, undef, undef, undef, undef, undef, undef, undef, undef, undef, undef, undef, undef, undef, undef, undef, undef, undef, undef, undef, undef, undef, undef, undef, undef, undef, undef, undef, undef, undef, undef, undef, undef, undef, undef, undef, undef, undef, undef, undef, undef, undef, undef, undef, undef, undef, undef, undef, undef, undef, undef, undef, undef, undef, undef, undef, undef], []⟩ ∧ DoW w b g x v l #[.int .i64 (X.self : Int), .slice (some ⟨gx, 0, none⟩) 64 c, .int .u64 (X.cur : Int), .slice Y lx.length yc] #[.int .i64 5, .int .i64 n, .int .i64 slot, .int .u64 (least : Int), .string s] W ∧ XBus W gx (.slice Y lx.length yc) X lx) ?_ ?_
  · go_wp2_with fail
    exact ⟨trivial, hD.out, hX0.out⟩
  clear hD hX0
  rintro _ W ⟨rfl, hD, hX⟩
  obtain ⟨e0, e1, e2, e3⟩ := box4 hD.box
  obtain ⟨o0, o1, o2, o3, o4⟩ := opBox hD.op
  have hws := blk_lt hD.rvb
  have hD2 := hD.below (below_drew (Below.refl _ _))
  have hX2 := hX.below (below_drew (Below.refl _ _))
  have hS : DoB w.heap.size (w.heap.size + 1) #[.int .i64 (X.self : Int), .slice (some ⟨gx, 0, none⟩) 64 c, .int .u64 (X.cur : Int), .slice Y lx.length yc] #[.int .i64 5, .int .i64 n, .int .i64 slot, .int .u64 (least : Int), .string s] W.drew := ⟨hD2.box, hD2.op⟩
  replace hD2 := Lib.hid hD2
  replace hX2 := Lib.hid hX2
  replace hS := Lib.hid hS
  clear hD hX e0 e1 e2 e3 o1 o2 o3 o4
  go_wp2_with fail
  refine wp_region_last (S := DoB w.heap.size (w.heap.size + 1) #[.int .i64 (X.self : Int), .slice (some ⟨gx, 0, none⟩) 64 c, .int .u64 (X.cur : Int), .slice Y lx.length yc] #[.int .i64 5, .int .i64 n, .int .i64 slot, .int .u64 (least : Int), .string s]) 5 (by kernel_rfl) ?_
  replace hD := hD2.out
  replace hX := hX2.out
  replace hS := hS.out
  clear hD2 hX2 o0
  generalize World.drew _ = W4 at *
  refine wpAnyT_take (i := 0) (oi := ⟨some 117, _, _, _, _, _⟩) (v := .pointer (some ⟨b, 0, none⟩)) rfl (by kernel_rfl) (by kernel_rfl) (by kernel_rfl) (by kernel_rfl) (fun _ _ _ h => h) (Or.inl ⟨by rfl, fun W hW => by go_simp⟩) hS ?_
  try simp only [Act.put, List.setIfInBounds_toArray, List.set_cons_zero, List.set_cons_succ]
  refine wpAnyT_take (i := 2) (oi := ⟨some 119, _, _, _, _, _⟩) (v := .pointer (some ⟨w.heap.size, 3, none⟩)) rfl (by kernel_rfl) (by kernel_rfl) (by kernel_rfl) (by kernel_rfl) (fun _ _ _ h => h) (Or.inl ⟨by rfl, fun W hW => by go_simp⟩) hS ?_
  try simp only [Act.put, List.setIfInBounds_toArray, List.set_cons_zero, List.set_cons_succ]
  refine wpAnyT_take (i := 3) (oi := ⟨some 120, _, _, _, _, _⟩) (v := .slice Y lx.length yc) rfl (by kernel_rfl) (by kernel_rfl) (by kernel_rfl) (by kernel_rfl) (fun _ _ _ h => h) (Or.inl ⟨by rfl, fun W hW => by have q3 := (box4 hW.box).2.2.2; go_simp⟩) hS ?_
  try simp only [Act.put, List.setIfInBounds_toArray, List.set_cons_zero, List.set_cons_succ]
  refine wpAnyT_one (i := 1) (o := ⟨some 118, _, _, _, _, _⟩) (by kernel_rfl) rfl (fun K hK => ?_)
  go_simp
  refine (bOuts_calls W4 hD.bus).mono ?_
  rintro e W5 ⟨rfl, hB5, hown5, hbut5⟩
  obtain ⟨A, ca, rfl⟩ := own_slice hown5
  have hf5 : But (foot b g (.slice A l.length ca)) W4 W5 := hbut5.weak fun k _ e => Or.inl e
  have hS5 := hS.keep hf5 (foot_type hD.bus hS.box (by decide) (by decide) (by decide)) (foot_type hD.bus hS.op (by decide) (by decide) (by decide))
  have hX5 := hX.foot hD.bus hf5
  have hv5 := (hf5.block _ (blk_lt hD.rvb) (foot_type hD.bus hD.rvb (by decide) (by decide) (by decide))).trans hD.rvb
  have hbt5 : But (foot b g (.slice A l.length ca)) w W5 := hD.foot.trans hf5 fun _ _ h => h
  have hsz5 := hD.bel.size
  have hsm := same_calls W5 hown5 hl hX5.outs
  replace hS5 := Lib.hid hS5
  replace hX5 := Lib.hid hX5
  replace hB5 := Lib.hid hB5
  replace hbt5 := Lib.hid hbt5
  replace hv5 := Lib.hid hv5
  replace hsm := Lib.hid hsm
  clear hS hX hD hf5 hbut5 hown5
  go_wp2_with fail
  refine hK.out _ _ (fun _ => hS5.out) ?_
  clear hK K
  try simp only [Act.put, List.setIfInBounds_toArray, List.set_cons_zero, List.set_cons_succ]
  refine wpAnyT_one (i := 4) (o := ⟨some 121, _, _, _, _, _⟩) (by kernel_rfl) rfl (fun K hK => ?_)
  go_simp
  refine hsm.out.mono ?_
  rintro e W6 ⟨ok, rfl, hok, hb6⟩
  have hS6 : DoB w.heap.size (w.heap.size + 1) #[.int .i64 (X.self : Int), .slice (some ⟨gx, 0, none⟩) 64 c, .int .u64 (X.cur : Int), .slice Y lx.length yc] #[.int .i64 5, .int .i64 n, .int .i64 slot, .int .u64 (least : Int), .string s] W6 := ⟨(hb6.block _ (blk_lt hS5.out.box)).trans hS5.out.box, (hb6.block _ (blk_lt hS5.out.op)).trans hS5.out.op⟩
  have hX6 := hX5.out.below hb6
  have hv6 := (hb6.block _ (blk_lt hv5.out)).trans hv5.out
  have hB6 := hB5.out.below hb6
  have hbt6 := hbt5.out.next hb6
  replace hS6 := Lib.hid hS6
  replace hX6 := Lib.hid hX6
  replace hB6 := Lib.hid hB6
  replace hbt6 := Lib.hid hbt6
  replace hv6 := Lib.hid hv6
  replace hok := Lib.hid hok
  clear hS5 hX5 hB5 hbt5 hv5 hb6 hsm
  go_wp2_with fail
  refine hK.out _ _ (fun _ => hS6.out) ?_
  clear hK K
  try simp only [Act.put, List.setIfInBounds_toArray, List.set_cons_zero, List.set_cons_succ]
  refine wpAnyT_one (i := 5) (o := ⟨some 18, _, _, _, _, _⟩) (by kernel_rfl) rfl (fun K hK => ?_)
  go_simp
  go_wp2_with fail
  refine hK.out _ _ (fun h => absurd rfl h) ?_
  clear hK K
  try simp only [Act.put, List.setIfInBounds_toArray, List.set_cons_zero, List.set_cons_succ]
  refine wpAnyT_done (by kernel_rfl) ?_ _
  obtain ⟨z0, z1, z2, z3⟩ := box4 hS6.out.box
  have fr3 : W6.frozen? ⟨w.heap.size, 3, none⟩ = false := openBox hS6.out.box
  obtain ⟨a0, a1, a2, a3⟩ := box4 hv6.out
  have o0 : W6.frozen? ⟨w.heap.size + 1 + 1, 0, none⟩ = false := openBox hv6.out
  have o1 : W6.frozen? ⟨w.heap.size + 1 + 1, 1, none⟩ = false := openBox hv6.out
  have o2 : W6.frozen? ⟨w.heap.size + 1 + 1, 2, none⟩ = false := openBox hv6.out
  have o3 : W6.frozen? ⟨w.heap.size + 1 + 1, 3, none⟩ = false := openBox hv6.out
  have c7 : But (fun k => k = w.heap.size) W6 (W6.setCell ⟨w.heap.size, 3, none⟩ (.slice none 0 0)) := (But.refl (fun k => k = w.heap.size) W6).set (p := ⟨w.heap.size, 3, none⟩) (fun _ => rfl) _
  have hv7 := (c7.block _ (blk_lt hv6.out) (by omega)).trans hv6.out
  obtain ⟨f1, f2⟩ := rv4 hv7 (.int .i64 (X.self : Int)) (.slice (some ⟨gx, 0, none⟩) 64 c) (.int .u64 (X.cur : Int)) (.slice none 0 0)
  have hX7 := hX6.out.rv hS6.out.box c7
  have hX8 := hX7.rv hv7 f2
  have hX9 : XBus _ gx (.slice none 0 0) X [] := ⟨hX8.row, World.ownsRow_nil _ _ _ _⟩
  have hB7 := hB6.out.keep c7 (fun k hk e => foot_type hB6.out hS6.out.box (by decide) (by decide) (by decide) (by rw [← e]; exact hk))
  have hB8 := hB7.keep f2 (fun k hk e => foot_type hB7 hv7 (by decide) (by decide) (by decide) (by rw [← e]; exact hk))
  have hBP : BusPost w b g (.slice A l.length ca) v [] _ := ⟨.slice none 0 0, hB8, (hbt6.out.trans c7 (fun i hi e => absurd e (by omega))).trans f2 (fun i hi e => absurd e (by omega)), fun k hk => by simp [Value.ownBlock] at hk⟩
  replace f1 := Lib.hid f1
  replace hX9 := Lib.hid hX9
  replace hBP := Lib.hid hBP
  replace f1 := Lib.hid f1
  replace hX9 := Lib.hid hX9
  replace hBP := Lib.hid hBP
  clear f2 hX7 hX8 hB7 hB8 c7 hv7 hS6 hX6 hB6 hbt6 hv6
  go_wp2_with fail
  refine bodyPost_ret (results_cell_row2 Tryz.results16 _ _ (w.heap.size + 1 + 1) 57 _ (0, 0) _ _ rfl rfl f1.out Tryz.underlying57 rfl (info57 _ _ _ _)) rfl ?_
  exact ⟨_, _, _, _, rfl, hX9.out, hBP.out, fun hg => hok.out hg.2.2⟩
set_option maxHeartbeats 4000000 in
set_option maxRecDepth 100000 in
theorem does_other {b g gx c : Nat} {x y : Value} {v : VS} {X : XS} {l lx : List (Int × ByteArray)} (w : World) (hE : Env w) (h : BB w b g x v l) (hfE : ∀ W, But (foot b g x) w W → Env W) (hX : XBus w gx y X lx)
    (hs64 : X.self < 64) (hcv : v.cur + 1 < 18446744073709551616) (hcx : X.cur + 1 < 18446744073709551616) (hl : l.length ≤ 1000000000) (hlx : lx.length ≤ 1000000000) (n slot : Int) (least : Nat) (hle : least < 18446744073709551616) (s : ByteArray) (hs : s.size ≤ 2000) (k : Int) (k0 : ¬ k = 0) (k1 : ¬ k = 1) (k2 : ¬ k = 2) (k3 : ¬ k = 3) (k4 : ¬ k = 4) (k5 : ¬ k = 5) :
    Calls Tryz.prog 16 #[.pointer (some ⟨b, 0, none⟩), .agg #[.int .i64 (X.self : Int), .slice (some ⟨gx, 0, none⟩) 64 c, .int .u64 (X.cur : Int), y], .agg #[.int .i64 k, .int .i64 n, .int .i64 slot, .int .u64 (least : Int), .string s]] w (DoesPost w b g x (v, l) (X, lx) (v.self = X.self ∧ (takeB v s.data.toList).2.2 = (takeR X s.data.toList).2.2 ∧ l = lx)) := by
  obtain ⟨Y, yc, rfl⟩ := own_slice hX.outs
  have hD := Lib.hid (doW_start h #[.int .i64 (X.self : Int), .slice (some ⟨gx, 0, none⟩) 64 c, .int .u64 (X.cur : Int), .slice Y lx.length yc] #[.int .i64 k, .int .i64 n, .int .i64 slot, .int .u64 (least : Int), .string s])
  have hX0 : XBus _ gx (.slice Y lx.length yc) X lx := ((hX.below (below_new' w (.cells #[.int .i64 (X.self : Int), .slice (some ⟨gx, 0, none⟩) 64 c, .int .u64 (X.cur : Int), .slice Y lx.length yc] 57))).below (below_new' _ (.cells #[.int .i64 k, .int .i64 n, .int .i64 slot, .int .u64 (least : Int), .string s] 59))).below (below_new' _ (.cells #[.int .i64 0, .slice none 0 0, .int .u64 0, .slice none 0 0] 57))
  replace hX0 := Lib.hid hX0
  clear h hX
  go_enter Tryz.func16, Tryz.ntmps16
  refine wp_cut (fun a W => a = ⟨#[.pointer (some ⟨b, 0, none⟩), .agg #[.int .i64 (X.self : Int), .slice (some ⟨gx, 0, none⟩) 64 c, .int .u64 (X.cur : Int), .slice Y lx.length yc], .agg #[.int .i64 k, .int .i64 n, .int .i64 slot, .int .u64 (least : Int), .string s], undef, .pointer (some ⟨w.heap.size, 0, none⟩), .pointer (some ⟨w.heap.size + 1, 0, none⟩), .pointer (some ⟨w.heap.size + 1 + 1, 0, none⟩), .bool false, undef, undef, undef, undef, undef, undef, undef, undef, undef, undef, undef, undef, undef, undef, undef, undef, undef, undef, undef, undef, undef, undef, undef, undef, undef, undef, undef, undef, undef, undef, undef, undef, undef, undef, undef, undef, undef, undef, undef, undef, undef, undef, undef, undef, undef, undef, undef, undef, undef, undef, undef, undef, undef, undef, undef, undef, undef, undef, undef, undef, undef, undef, undef, undef, undef, undef, undef, undef, undef, undef, undef, undef, undef, undef, undef, undef, undef, undef, undef, undef, undef, undef, undef, undef, undef, undef, undef, undef, undef, undef, undef, undef, undef, undef, undef, undef, undef, undef, undef, undef, undef, undef, undef, undef, undef, undef, undef, undef, undef, undef, undef, undef, undef, undef, undef, undef, undef, undef], []⟩ ∧ DoW w b g x v l #[.int .i64 (X.self : Int), .slice (some ⟨gx, 0, none⟩) 64 c, .int .u64 (X.cur : Int), .slice Y lx.length yc] #[.int .i64 k, .int .i64 n, .int .i64 slot, .int .u64 (least : Int), .string s] W ∧ XBus W gx (.slice Y lx.length yc) X lx) ?_ ?_
  · go_wp2_with fail
    exact ⟨trivial, hD.out, hX0.out⟩
  clear hD hX0
  rintro _ W ⟨rfl, hD, hX⟩
  obtain ⟨e0, e1, e2, e3⟩ := box4 hD.box
  obtain ⟨o0, o1, o2, o3, o4⟩ := opBox hD.op
  have hws := blk_lt hD.rvb
  have d0 : (k == (0 : Int)) = false := beq_eq_false_iff_ne.2 k0
  have d1 : (k == (1 : Int)) = false := beq_eq_false_iff_ne.2 k1
  have d2 : (k == (2 : Int)) = false := beq_eq_false_iff_ne.2 k2
  have d3 : (k == (3 : Int)) = false := beq_eq_false_iff_ne.2 k3
  have d4 : (k == (4 : Int)) = false := beq_eq_false_iff_ne.2 k4
  have d5 : (k == (5 : Int)) = false := beq_eq_false_iff_ne.2 k5
  obtain ⟨a0, a1, a2, a3⟩ := box4 hD.rvb
  have r0 : W.frozen? ⟨w.heap.size + 1 + 1, 0, none⟩ = false := openBox hD.rvb
  have r1 : W.frozen? ⟨w.heap.size + 1 + 1, 1, none⟩ = false := openBox hD.rvb
  have r2 : W.frozen? ⟨w.heap.size + 1 + 1, 2, none⟩ = false := openBox hD.rvb
  have r3 : W.frozen? ⟨w.heap.size + 1 + 1, 3, none⟩ = false := openBox hD.rvb
  obtain ⟨f1, f2⟩ := rv4 hD.rvb (.int .i64 (X.self : Int)) (.slice (some ⟨gx, 0, none⟩) 64 c) (.int .u64 (X.cur : Int)) (.slice Y lx.length yc)
  have hsz := hD.bel.size
  have hX9 := hX.rv hD.rvb f2
  have hB8 := hD.bus.keep f2 (fun k hk e => foot_type hD.bus hD.rvb (by decide) (by decide) (by decide) (by rw [← e]; exact hk))
  have hBP : BusPost w b g x v l _ := ⟨x, hB8, hD.foot.trans f2 (fun i hi e => absurd e (by omega)), fun k hk => Or.inl hk⟩
  replace f1 := Lib.hid f1
  replace hX9 := Lib.hid hX9
  replace hBP := Lib.hid hBP
  clear f2 hB8 hD hX
  go_wp2_with fail
  refine bodyPost_ret (results_cell_row2 Tryz.results16 _ _ (w.heap.size + 1 + 1) 57 _ (0, 0) _ _ rfl rfl f1.out Tryz.underlying57 rfl (info57 _ _ _ _)) rfl ?_
  exact ⟨_, _, _, _, rfl, hX9.out, hBP.out, fun hg => rfl⟩
theorem does_calls {b g gx c : Nat} {x y : Value} {v : VS} {X : XS} {l lx : List (Int × ByteArray)} (w : World) (hE : Env w) (h : BB w b g x v l) (hfE : ∀ W, But (foot b g x) w W → Env W) (hX : XBus w gx y X lx)
    (hs64 : X.self < 64) (hcv : v.cur + 1 < 18446744073709551616) (hcx : X.cur + 1 < 18446744073709551616) (hl : l.length ≤ 1000000000) (hlx : lx.length ≤ 1000000000) (O : OpV) (hle : O.least < 18446744073709551616) (hs : O.s.size ≤ 2000) :
    Calls Tryz.prog 16 #[.pointer (some ⟨b, 0, none⟩), .agg #[.int .i64 (X.self : Int), .slice (some ⟨gx, 0, none⟩) 64 c, .int .u64 (X.cur : Int), y], .agg (opC O).toArray] w (DoesPost w b g x (doV v l O) (doX X lx O) (v.self = X.self ∧ (takeB v O.s.data.toList).2.2 = (takeR X O.s.data.toList).2.2 ∧ l = lx)) := by
  obtain ⟨k, n, slot, least, s⟩ := O
  by_cases k0 : k = 0
  · subst k0; exact does_0 w hE h hfE hX hs64 hcv hcx hl hlx n slot least hle s hs
  by_cases k1 : k = 1
  · subst k1; exact does_1 w hE h hfE hX hs64 hcv hcx hl hlx n slot least hle s hs
  by_cases k2 : k = 2
  · subst k2; exact does_2 w hE h hfE hX hs64 hcv hcx hl hlx n slot least hle s hs
  by_cases k3 : k = 3
  · subst k3; exact does_3 w hE h hfE hX hs64 hcv hcx hl hlx n slot least hle s hs
  by_cases k4 : k = 4
  · subst k4; exact does_4 w hE h hfE hX hs64 hcv hcx hl hlx n slot least hle s hs
  by_cases k5 : k = 5
  · subst k5; exact does_5 w hE h hfE hX hs64 hcv hcx hl hlx n slot least hle s hs
  have hv : doV v l ⟨k, n, slot, least, s⟩ = (v, l) := by unfold doV; simp only [if_neg k0, if_neg k1, if_neg k2, if_neg k3, if_neg k4, if_neg k5]
  have hx : doX X lx ⟨k, n, slot, least, s⟩ = (X, lx) := by unfold doX; simp only [if_neg k0, if_neg k1, if_neg k2, if_neg k3, if_neg k4, if_neg k5]
  rw [hv, hx]
  exact does_other w hE h hfE hX hs64 hcv hcx hl hlx n slot least hle s hs k k0 k1 k2 k3 k4 k5
end Go.Proofs.YtgdcnenlelckhaaGreatDoor

namespace Go.Proofs.YtgdcnenlelckhaaGreatDoor
open Go.RowKit Go.Proofs.YtgdcnenlelckhaaGreatDoorW.PrintWords
open SlS SlT
def X0 : XS := ⟨0, fun _ => 0, fun _ _ => 0, 0⟩
theorem node_zero : Tryz.zeroCells87 = #[.int .u64 0] ++ Tryz.zeroCells43 := by kernel_rfl
theorem node_all (k : Nat) (hk : k < 257) : Tryz.zeroCells87[k]? = some (.int .u64 0) := by
  rw [node_zero]
  by_cases h : k = 0
  · subst h; simp [Array.getElem?_append]
  · rw [Array.getElem?_append_right (by simp; omega)]
    exact zero_words.get _ (by simp; omega)
theorem info_node' : ∃ i0, Tryz.prog.info? 87 = some i0 ∧ i0.zero = some (.agg Tryz.zeroCells87) ∧ i0.size = 257 ∧ i0.bytes = 2056 := info_parts (by kernel_rfl)
theorem made_all (n j : Nat) (hj : j < n) : (madeCells Tryz.zeroCells87 n)[j]? = some (.int .u64 0) := by
  have hz : Tryz.zeroCells87.size = 257 := by rw [node_zero, Array.size_append, zero_size]; rfl
  unfold madeCells
  rw [Array.getElem?_map, Array.getElem?_range, if_pos hj]
  have h := node_all (j % 257) (Nat.mod_lt _ (by decide))
  rw [← hz] at h
  show some (Tryz.zeroCells87[j % Tryz.zeroCells87.size]!) = _
  rw [Array.getElem!_eq_getD, Array.getD_eq_getD_getElem?, h]
  rfl
theorem make_nodes (W : World) : ∃ W', (Instr.makeSlice 49 (.int .i64 64) (.int .i64 64)).run Tryz.prog W = .ok (.slice (some ⟨W.heap.size, 0, none⟩) 64 64) W' ∧ XR W' W.heap.size X0 ∧ Below W.heap.size W W' := by
  obtain ⟨i0, hi0, hz0, hz1, hz2⟩ := info_node'
  obtain ⟨W', hrun, hown, hgr⟩ := run_make_full W W.heap.size 49 87 i0 _ 257 Tryz.underlying49 hi0 hz0 hz1 .i64 .i64 64 (by rw [hz2]; decide) (by decide) (Nat.le_refl _)
  refine ⟨W', hrun, ?_, ?_⟩
  · rcases hown with ⟨hl, ⟨he, hn⟩ | ⟨g, cap, cur, he, hb, hh, hc, hm, hs, ht⟩⟩
    · cases he
    · injection he with h1 h2 h3
      injection h1 with h1
      injection h1 with h1
      subst h1
      have key : ∀ j, j < 16448 → cur[j]? = some (.int .u64 0) := fun j hj => by
        have e : cur[j]? = (cur.toList.take (64 * 257))[j]? := by rw [List.getElem?_take_of_lt (by omega), Array.getElem?_toList]
        rw [e, ht, Array.getElem?_toList]
        exact made_all _ _ (by omega)
      refine ⟨cur, hh, ?_, fun n hn => key _ (by omega), fun n i hn hi => key _ (by omega), fun n _ => show 0 < _ by decide, fun n i _ _ => show 0 < _ by decide⟩
      rcases Nat.lt_or_ge cur.size 16448 with h | h
      · have := key cur.size h
        rw [Array.getElem?_eq_none (Nat.le_refl _)] at this
        cases this
      · exact h
  · exact ⟨hgr.os, hgr.tape, hgr.output, hgr.size, fun k hk => hgr.block k hk (by simp)⟩
theorem wp_make {P : Program} {o : Oper} {a : Act} {w w' : World} {K : Act → World → Prop} {Q : Exit → Act → World → Prop} {t : TypeId} {v : Value} (ho : o.op = .makeSlice t (.const (.int .i64 64)) (.const (.int .i64 64)))
    (hrun : (Instr.makeSlice t (.int .i64 64) (.int .i64 64)).run P w = .ok v w') (h : K (a.put o.dst v) w') : o.wp P a w K Q := by
  unfold Oper.wp execOp
  simp only [ho, Act.eval, Sem.run_bind, hrun, Result.andThen_ok, Sem.run_pure]
  exact h
end Go.Proofs.YtgdcnenlelckhaaGreatDoor

namespace Go.Proofs.YtgdcnenlelckhaaGreatDoor
theorem vs_ext {a b : VS} (h1 : a.self = b.self) (h2 : a.own = b.own) (h3 : a.ep = b.ep) (h4 : a.cur = b.cur) : a = b := by
  cases a; cases b
  simp only at h1 h2 h3 h4
  rw [h1, h2, h3, h4]
/-- claims that are taken in already -/
structure Stable (v : VS) (n e : Nat) (p : Nat → Nat) : Prop where
  ep : v.ep n = e
  yes : ∀ s, hasN p s = true → v.own s = (n : Int) ∨ (v.own s ≠ -1 ∧ v.own s ≠ (n : Int) ∧ ¬ v.ep (v.own s).toNat < e)
  no : ∀ s, hasN p s = false → v.own s ≠ (n : Int)
theorem claim_again {v : VS} {n e : Nat} {p : Nat → Nat} (h : Stable v n e p) : claimV v n e p = v := by
  have he : upd v.ep n e = v.ep := by
    funext k
    unfold upd
    split
    · rename_i hk
      rw [hk, h.ep]
    · rfl
  refine vs_ext rfl ?_ he rfl
  funext s
  show (if hasN p s = true then (if v.own s = -1 ∨ v.own s = (n : Int) ∨ upd v.ep n e (v.own s).toNat < e then (n : Int) else v.own s) else (if v.own s = (n : Int) then -1 else v.own s)) = v.own s
  rw [he]
  by_cases hc : hasN p s = true
  · rw [if_pos hc]
    rcases h.yes s hc with h1 | ⟨h1, h2, h3⟩
    · rw [if_pos (Or.inr (Or.inl h1)), h1]
    · rw [if_neg (by rintro (h | h | h); exact h1 h; exact h2 h; exact h3 h)]
  · rw [if_neg hc, if_neg (h.no s (by simpa using hc))]
theorem claim_stable (v : VS) (n e : Nat) (p : Nat → Nat) : Stable (claimV v n e p) n e p := by
  refine ⟨by show upd v.ep n e n = e; unfold upd; rw [if_pos rfl], fun s hs => ?_, fun s hs => ?_⟩
  · have hV : (claimV v n e p).own s = if v.own s = -1 ∨ v.own s = (n : Int) ∨ upd v.ep n e (v.own s).toNat < e then (n : Int) else v.own s := by
      show (if hasN p s = true then _ else _) = _
      rw [if_pos hs]
    rw [hV]
    by_cases hc : v.own s = -1 ∨ v.own s = (n : Int) ∨ upd v.ep n e (v.own s).toNat < e
    · rw [if_pos hc]; exact Or.inl rfl
    · rw [if_neg hc]
      exact Or.inr ⟨fun h => hc (Or.inl h), fun h => hc (Or.inr (Or.inl h)), fun h => hc (Or.inr (Or.inr h))⟩
  · have hV : (claimV v n e p).own s = if v.own s = (n : Int) then -1 else v.own s := by
      show (if hasN p s = true then _ else _) = _
      rw [if_neg (by rw [hs]; decide)]
    rw [hV]
    split
    · omega
    · assumption
theorem raise_stable {v : VS} {n e : Nat} {p : Nat → Nat} (h : Stable v n e p) (hs : v.self ≠ n) (hc : v.ep v.self ≤ v.cur) : Stable (raiseV v) n e p := by
  refine ⟨?_, fun s hp => ?_, h.no⟩
  · show upd v.ep v.self (v.cur + 1) n = e
    unfold upd
    rw [if_neg (fun e => hs e.symm)]
    exact h.ep
  · rcases h.yes s hp with h1 | ⟨h1, h2, h3⟩
    · exact Or.inl h1
    · refine Or.inr ⟨h1, h2, ?_⟩
      show ¬ upd v.ep v.self (v.cur + 1) (v.own s).toNat < e
      unfold upd
      split
      · rename_i hk
        rw [hk] at h3
        omega
      · exact h3
theorem max_same {v : VS} {c : Nat} (h : c ≤ v.cur) : maxV v c = v := by
  refine vs_ext rfl rfl rfl ?_
  show max v.cur c = v.cur
  omega
theorem taken_again {v : VS} (q : Pkt) (h1 : q.cur ≤ v.cur) (h2 : v.ep (nodeOf q) ≤ q.ep → Stable v (nodeOf q) q.ep q.cl) : takenV v q = v := by
  unfold takenV
  rw [max_same h1]
  split
  · rename_i h
    exact claim_again (h2 h)
  · rfl
theorem taken_facts (v : VS) (q : Pkt) : q.cur ≤ (takenV v q).cur ∧ ((takenV v q).ep (nodeOf q) ≤ q.ep → Stable (takenV v q) (nodeOf q) q.ep q.cl) := by
  unfold takenV
  split
  · exact ⟨Nat.le_max_right _ _, fun _ => claim_stable _ _ _ _⟩
  · rename_i h
    exact ⟨Nat.le_max_right _ _, fun h1 => absurd h1 h⟩
theorem lift_facts {v : VS} {q : Pkt} (hc : v.ep v.self ≤ v.cur) (h1 : q.cur ≤ v.cur) (h2 : v.ep (nodeOf q) ≤ q.ep → Stable v (nodeOf q) q.ep q.cl) :
    q.cur ≤ (liftV v q).cur ∧ ((liftV v q).ep (nodeOf q) ≤ q.ep → Stable (liftV v q) (nodeOf q) q.ep q.cl) ∧ liftV (liftV v q) q = liftV v q := by
  unfold liftV
  by_cases h : q.ep = v.ep v.self ∧ v.self < nodeOf q
  · rw [if_pos h]
    have hne : v.self ≠ nodeOf q := by omega
    have he : (raiseV v).ep (nodeOf q) = v.ep (nodeOf q) := by
      show upd v.ep v.self (v.cur + 1) (nodeOf q) = _
      unfold upd
      rw [if_neg (fun e => hne e.symm)]
    refine ⟨Nat.le_succ_of_le h1, fun h3 => raise_stable (h2 (by rw [← he]; exact h3)) hne hc, ?_⟩
    have hs : (raiseV v).ep (raiseV v).self = v.cur + 1 := by
      show upd v.ep v.self (v.cur + 1) v.self = _
      unfold upd
      rw [if_pos rfl]
    rw [if_neg]
    rintro ⟨h3, -⟩
    rw [hs] at h3
    omega
  · rw [if_neg h]
    exact ⟨h1, h2, if_neg h⟩
/-- what comes twice changes nothing the second time, and the same goes out -/
theorem hear_twice (v : VS) (q : Pkt) (right : Bool) (hc : v.ep v.self ≤ v.cur) (hn : nodeOf q ≠ v.self ∨ idleP v.self q right) : hearV (hearV v q right).1 q right = hearV v q right := by
  by_cases hi : idleP v.self q right
  · have h1 : hearV v q right = (v, []) := by unfold hearV; rw [if_pos hi]
    rw [h1]
    exact h1
  · have hne : nodeOf q ≠ v.self := by
      rcases hn with h | h
      · exact h
      · exact absurd h hi
    obtain ⟨f1, f2⟩ := taken_facts v q
    have hT := taken_again q f1 f2
    have hs1 : (takenV v q).self = v.self := taken_self v q
    have hc1 : (takenV v q).ep (takenV v q).self ≤ (takenV v q).cur := by
      rw [hs1]
      have he : (takenV v q).ep v.self = v.ep v.self := by
        unfold takenV
        split
        · show upd v.ep (nodeOf q) q.ep v.self = _
          unfold upd
          rw [if_neg (fun e => hne e.symm)]
        · rfl
      have hcc : v.cur ≤ (takenV v q).cur := by
        unfold takenV
        split <;> exact Nat.le_max_left _ _
      omega
    by_cases h3 : q.kind = 3
    · have h1 : hearV v q right = (takenV v q, []) := by unfold hearV; rw [if_neg hi, if_pos h3]
      rw [h1]
      show hearV (takenV v q) q right = _
      unfold hearV
      rw [hs1, if_neg hi, if_pos h3, hT]
    · have h1 : hearV v q right = (liftV (takenV v q) q, answV (liftV (takenV v q) q) q) := by unfold hearV; rw [if_neg hi, if_neg h3]
      obtain ⟨g1, g2, g3⟩ := lift_facts hc1 f1 f2
      have hT2 := taken_again q g1 g2
      have hs2 : (liftV (takenV v q) q).self = v.self := by rw [lift_self, hs1]
      rw [h1]
      show hearV (liftV (takenV v q) q) q right = _
      unfold hearV
      rw [hs2, if_neg hi, if_neg h3, hT2, g3]
end Go.Proofs.YtgdcnenlelckhaaGreatDoor

namespace Go.Proofs.YtgdcnenlelckhaaGreatDoor
/-- a node's numbers, i calls on -/
structure Num (sf : Nat) (i : Nat) (v : VS) : Prop where
  self : v.self = sf
  cur : v.cur ≤ 4611686018427387904 + i
  top : v.ep v.self ≤ v.cur
theorem node_ne {v : VS} {q : Pkt} (hr : rightP q = true) (hi : ¬ idleP v.self q true) : nodeOf q ≠ v.self := by
  have hi' : ¬ (q.fr = (v.self : Int)) ∧ ¬ (q.kind = 3 ∧ q.of_ = (v.self : Int)) := ⟨fun h => hi (Or.inr (Or.inr (Or.inl h))), fun h => hi (Or.inr (Or.inr (Or.inr h)))⟩
  obtain ⟨K, F, O, e1, e2, e3, b1, b2, b3⟩ := right_nat hr
  unfold nodeOf
  rw [e2, e3] at hi'
  by_cases hk : q.kind = 3
  · rw [if_pos hk, e3]
    intro e
    exact hi'.2 ⟨hk, by simp at e; rw [e]⟩
  · rw [if_neg hk, e2]
    intro e
    exact hi'.1 (by simp at e; rw [e])
theorem taken_num {sf i : Nat} {v : VS} {q : Pkt} (h : Num sf i v) (hc : q.cur ≤ 4611686018427387904) (hn : nodeOf q ≠ v.self) : Num sf i (takenV v q) := by
  refine ⟨(taken_self v q).trans h.self, by rw [taken_cur]; have := h.cur; omega, ?_⟩
  rw [taken_self, taken_cur]
  have ht := h.top
  unfold takenV
  split
  · show upd v.ep (nodeOf q) q.ep v.self ≤ _
    unfold upd
    rw [if_neg (fun e => hn e.symm)]
    omega
  · show v.ep v.self ≤ _
    omega
theorem raise_num {sf i : Nat} {v : VS} (h : Num sf i v) : Num sf (i + 1) (raiseV v) := by
  refine ⟨h.self, by show v.cur + 1 ≤ _; have := h.cur; omega, ?_⟩
  show upd v.ep v.self (v.cur + 1) v.self ≤ v.cur + 1
  unfold upd
  rw [if_pos rfl]
  omega
theorem num_up {sf i : Nat} {v : VS} (h : Num sf i v) : Num sf (i + 1) v := ⟨h.self, by have := h.cur; omega, h.top⟩
theorem hear_num {sf i : Nat} {v : VS} {q : Pkt} (h : Num sf i v) (hr : rightP q = true) : Num sf (i + 1) (hearV v q true).1 := by
  unfold hearV
  by_cases hi : idleP v.self q true
  · rw [if_pos hi]; exact num_up h
  · rw [if_neg hi]
    have hc : q.cur ≤ 4611686018427387904 := Nat.le_of_not_lt fun h => hi (Or.inr (Or.inl h))
    have ht := taken_num h hc (node_ne hr hi)
    by_cases hk : q.kind = 3
    · rw [if_pos hk]; exact num_up ht
    · rw [if_neg hk]
      show Num sf (i + 1) (liftV (takenV v q) q)
      unfold liftV
      split
      · exact raise_num ht
      · exact num_up ht
theorem takeB_num {sf i : Nat} {v : VS} {s : List UInt8} (h : Num sf i v) : Num sf (i + 1) (takeB v s).1 ∧ (takeB v s).2.1.length ≤ 2 := by
  unfold takeB
  cases hd : decP s with
  | none => exact ⟨num_up h, Nat.zero_le _⟩
  | some q =>
    by_cases hf : q.fr = (v.self : Int)
    · simp only [if_pos hf]; exact ⟨num_up h, Nat.zero_le _⟩
    · simp only [if_neg hf]
      refine ⟨hear_num h (decP_some hd).right, ?_⟩
      unfold layL
      rw [List.length_map]
      exact hear_len v q true
theorem tellL_len (v : VS) (l : List (Int × ByteArray)) (kind tgt : Int) : (tellL v l kind tgt).length ≤ l.length + 1 := by
  unfold tellL
  split
  · simp [layL]
  · omega
theorem do_num {sf i : Nat} {v : VS} {l : List (Int × ByteArray)} {O : OpV} (h : Num sf i v) (hl : l.length ≤ 2 * i) : Num sf (i + 1) (doV v l O).1 ∧ (doV v l O).2.length ≤ 2 * (i + 1) := by
  unfold doV
  by_cases k0 : O.kind = 0
  · rw [if_pos k0]; exact ⟨num_up h, by have := tellL_len v l 1 O.n; show (tellL v l 1 O.n).length ≤ _; omega⟩
  rw [if_neg k0]
  by_cases k1 : O.kind = 1
  · rw [if_pos k1]; exact ⟨num_up h, by have := tellL_len v l 4 O.n; show (tellL v l 4 O.n).length ≤ _; omega⟩
  rw [if_neg k1]
  by_cases k2 : O.kind = 2
  · rw [if_pos k2]
    obtain ⟨h1, h2⟩ := takeB_num (s := O.s.data.toList) h
    refine ⟨h1, ?_⟩
    show (l ++ (takeB v O.s.data.toList).2.1).length ≤ _
    rw [List.length_append]
    omega
  rw [if_neg k2]
  by_cases k3 : O.kind = 3
  · rw [if_pos k3]
    refine ⟨?_, by show l.length ≤ _; omega⟩
    show Num sf (i + 1) (winVR v O.slot O.least)
    unfold winVR
    split
    · rename_i hw
      have h9 : Num sf i (maxV (giveV v O.slot.toNat v.self) O.least) := ⟨h.self, by show max v.cur O.least ≤ _; have := h.cur; omega, by show v.ep v.self ≤ max v.cur O.least; have := h.top; omega⟩
      exact raise_num h9
    · exact num_up h
  rw [if_neg k3]
  by_cases k4 : O.kind = 4
  · rw [if_pos k4]
    refine ⟨?_, by show l.length ≤ _; omega⟩
    show Num sf (i + 1) (giveVR v O.slot O.n)
    unfold giveVR
    split
    · split
      · exact ⟨h.self, by show v.cur ≤ _; have := h.cur; omega, h.top⟩
      · exact num_up h
    · exact num_up h
  rw [if_neg k4]
  by_cases k5 : O.kind = 5
  · rw [if_pos k5]; exact ⟨num_up h, Nat.zero_le _⟩
  rw [if_neg k5]
  exact ⟨num_up h, by show l.length ≤ _; omega⟩
theorem new_num (self e : Nat) (f : Nat → Nat) (he : e ≤ 4611686018427387904) : Num self 0 (newV self e f) := ⟨rfl, by show e ≤ _; omega, by show (if self = self then e else 0) ≤ e; rw [if_pos rfl]; exact Nat.le_refl _⟩
/-- what comes twice -/
theorem takeB_twice {sf i : Nat} {v : VS} {s : List UInt8} (h : Num sf i v) : takeB (takeB v s).1 s = takeB v s := by
  unfold takeB
  cases hd : decP s with
  | none => rfl
  | some q =>
    by_cases hf : q.fr = (v.self : Int)
    · simp only [if_pos hf]
    · simp only [if_neg hf]
      have hr := (decP_some hd).right
      have hs : (hearV v q true).1.self = v.self := by have := hear_num h hr; rw [this.self, h.self]
      have hn : nodeOf q ≠ v.self ∨ idleP v.self q true := by
        by_cases hi : idleP v.self q true
        · exact Or.inr hi
        · exact Or.inl (node_ne hr hi)
      rw [hs, if_neg hf, hear_twice v q true h.top hn]
theorem takeB_idle {v : VS} {s : List UInt8} (h : ∀ q, decP s = some q → q.fr = (v.self : Int)) : takeB v s = (v, [], false) := by
  unfold takeB
  cases hd : decP s with
  | none => rfl
  | some q => simp only [if_pos (h q hd)]
end Go.Proofs.YtgdcnenlelckhaaGreatDoor
