/- Statements whose test draws its order: SlotCounts, SlotSets. Conditions: the listed variables as laid. -/
import Derived.Test.YtnlchdjknebmfaaDoorSlOp
set_option linter.unusedVariables false
set_option linter.unusedSimpArgs false
namespace Go.Proofs.YtnlchdjknebmfaaDoor
open Go.RowKit Go.Proofs.YtnlchdjknebmfaaDoorW.PrintWords
open SlS SlT
set_option maxHeartbeats 2000000 in
set_option maxRecDepth 100000 in
theorem SlotCounts_walk (a : Array Value) (f : Nat → Nat) (ha : Words a f) (w : World) (hE : Env w) : Calls Tryd.prog 6 #[.agg a] w fun e w' => e = .returned (.bool true) ∧ Below w.heap.size w w' := by
  have hia : (Tryd.prog.info? 30).map (·.size) = some a.size := by rw [ha.size]; exact info30
  have hA := fun (W : World) (h : Bx w w.heap.size a W) => (alive_calls W (hE.below h.bel)).mono (R' := fun e w' => e = .returned (.bool true) ∧ Bx w w.heap.size a w') fun e w' hh => ⟨hh.1, h.keep hh.2⟩
  have hC := fun (W : World) (h : Bx w w.heap.size a W) => (Count_calls a f ha W).mono (R' := fun e w' => e = .returned (.int .i64 ((upto f 16384).length : Nat)) ∧ Bx w w.heap.size a w') fun e w' hh => ⟨hh.1, h.keep hh.2⟩
  have hL := fun (W : World) (h : Bx w w.heap.size a W) => (refAll_calls a f ha W).mono (R' := fun e w' => ∃ A c, e = .returned (.slice A (upto f 16384).length c) ∧ Bx w w.heap.size a w') fun e w' ⟨v, h1, h2, h3⟩ => by
    obtain ⟨A, c, rfl⟩ := own_slice h2
    exact ⟨A, c, h1, h.keep h3⟩
  generalize (upto f 16384).length = N at *
  have hB := (Bx.new w a).drew
  go_enter Tryd.func6, Tryd.ntmps6
  go_wp2_with fail
  refine wp_region_held_drew (S := fun W => Bx w w.heap.size a W) (by kernel_rfl) hB (fun hHeld => ?_)
  refine wpAnyH_ready (rs := [0]) (by kernel_rfl) (by simp) ?_
  refine AllReadyH.cons (o := ⟨some 3, _, _, _, _, _⟩) rfl (fun K hK => ?_) AllReadyH.nil
  go_simp
  refine (hA _ (by assumption)).mono ?_
  rintro e w1 ⟨rfl, hB1⟩
  go_wp2_with fail
  refine hK.out _ _ hB1 (fun hHeld1 => ?_)
  clear hK K
  try simp only [Act.put, List.setIfInBounds_toArray, List.set_cons_zero, List.set_cons_succ]
  refine wpAnyH_take (i := 1) (oi := ⟨some 4, _, _, _, _, _⟩) (v := .bool true) rfl (by kernel_rfl) (by kernel_rfl) (by kernel_rfl) (fun _ _ _ h => h) (Or.inl ⟨by rfl, fun W hW => by go_simp⟩) (by assumption) ?_
  try simp only [Act.put, List.setIfInBounds_toArray, List.set_cons_zero, List.set_cons_succ]
  refine wpAnyH_take (i := 2) (oi := ⟨some 5, _, _, _, _, _⟩) (v := .agg a) rfl (by kernel_rfl) (by kernel_rfl) (by kernel_rfl) (fun _ _ _ h => h) (yields_row (by rfl) 30 (.tmp 1) rfl w.heap.size rfl 30 a (0, 0) _ (fun W h => h.box) Tryd.underlying30 rfl hia) (by assumption) ?_
  try simp only [Act.put, List.setIfInBounds_toArray, List.set_cons_zero, List.set_cons_succ]
  refine wpAnyH_take (i := 4) (oi := ⟨some 7, _, _, _, _, _⟩) (v := .agg a) rfl (by kernel_rfl) (by kernel_rfl) (by kernel_rfl) (fun _ _ _ h => h) (yields_row (by rfl) 30 (.tmp 1) rfl w.heap.size rfl 30 a (0, 0) _ (fun W h => h.box) Tryd.underlying30 rfl hia) (by assumption) ?_
  try simp only [Act.put, List.setIfInBounds_toArray, List.set_cons_zero, List.set_cons_succ]
  refine wpAnyH_ready (rs := [3]) (by kernel_rfl) (by simp) ?_
  refine AllReadyH.cons (o := ⟨some 6, _, _, _, _, _⟩) rfl (fun K hK => ?_) AllReadyH.nil
  go_simp
  refine (hC _ (by assumption)).mono ?_
  rintro e w2 ⟨rfl, hB2⟩
  go_wp2_with fail
  refine hK.out _ _ hB2 (fun hHeld2 => ?_)
  clear hK K
  try simp only [Act.put, List.setIfInBounds_toArray, List.set_cons_zero, List.set_cons_succ]
  refine wpAnyH_ready (rs := [5]) (by kernel_rfl) (by simp) ?_
  refine AllReadyH.cons (o := ⟨some 8, _, _, _, _, _⟩) rfl (fun K hK => ?_) AllReadyH.nil
  go_simp
  refine (hL _ (by assumption)).mono ?_
  rintro e w3 ⟨A, c, rfl, hB3⟩
  go_wp2_with fail
  refine hK.out _ _ hB3 (fun hHeld3 => ?_)
  clear hK K
  try simp only [Act.put, List.setIfInBounds_toArray, List.set_cons_zero, List.set_cons_succ]
  refine wpAnyH_take (i := 6) (oi := ⟨some 9, _, _, _, _, _⟩) (v := .int .i64 N) rfl (by kernel_rfl) (by kernel_rfl) (by kernel_rfl) (fun _ _ _ h => h) (Or.inl ⟨by rfl, fun W hW => by go_simp⟩) (by assumption) ?_
  try simp only [Act.put, List.setIfInBounds_toArray, List.set_cons_zero, List.set_cons_succ]
  refine wpAnyH_take (i := 7) (oi := ⟨some 10, _, _, _, _, _⟩) (v := .bool true) rfl (by kernel_rfl) (by kernel_rfl) (by kernel_rfl) (fun _ _ _ h => h) (Or.inl ⟨by rfl, fun W hW => by go_simp⟩) (by assumption) ?_
  try simp only [Act.put, List.setIfInBounds_toArray, List.set_cons_zero, List.set_cons_succ]
  refine wpAnyH_take (i := 8) (oi := ⟨some 11, _, _, _, _, _⟩) (v := .bool true) rfl (by kernel_rfl) (by kernel_rfl) (by kernel_rfl) (fun _ _ _ h => h) (Or.inl ⟨by rfl, fun W hW => by go_simp⟩) (by assumption) ?_
  try simp only [Act.put, List.setIfInBounds_toArray, List.set_cons_zero, List.set_cons_succ]
  refine wpAnyH_take (i := 9) (oi := ⟨some 2, _, _, _, _, _⟩) (v := .bool true) rfl (by kernel_rfl) (by kernel_rfl) (by kernel_rfl) (fun _ _ _ h => h) (Or.inl ⟨by rfl, fun W hW => by go_simp⟩) (by assumption) ?_
  try simp only [Act.put, List.setIfInBounds_toArray, List.set_cons_zero, List.set_cons_succ]
  refine wpAnyH_done (by kernel_rfl) ?_ _
  go_wp2_with fail
  go_ret
  exact ⟨rfl, hB3.bel⟩
end Go.Proofs.YtnlchdjknebmfaaDoor
