/- The command of a name: table.Find. Conditions: utf8's tables as laid. -/
import Derived.Test.YtpbiohnmmngccaaGreatDoorClU
import Derived.Deep.RegionHeld3
set_option linter.unusedVariables false
set_option linter.unusedSimpArgs false
namespace Go.Proofs.YtpbiohnmmngccaaGreatDoor
open Go.RowKit Go.Proofs.YtpbiohnmmngccaaGreatDoorW.PrintWords
def Spec.val (s : Spec) : Value := .agg s.cells.toArray
theorem name_eq (a b : List UInt8) : ((⟨a.toArray⟩ : ByteArray).toList == (⟨b.toArray⟩ : ByteArray).toList) = decide (a = b) := by
  rw [ByteArray.toList_eq, ByteArray.toList_eq]
  rw [Bool.eq_iff_iff, beq_iff_eq, decide_eq_true_eq]
structure FS (w : World) (B : Nat) (a : Addr) (x s : ByteArray) (c : Array Value) (W : World) : Prop where
  box : W.heap[B]? = some (.cells c 84 (0, 0))
  name : W.cell? a = some (.string s)
  below : Below w.heap.size w W
  old : w.heap.size ≤ B
theorem FS.step {w : World} {B : Nat} {a : Addr} {x s : ByteArray} {c : Array Value} {W W' : World} (h : FS w B a x s c W) (hb : Below W.heap.size W W') : FS w B a x s c W' :=
  ⟨(hb.block _ (Array.getElem?_eq_some_iff.1 h.box).1).trans h.box, (hb.cell (World.block_lt_of_cell? W _ h.name)).trans h.name, h.below.trans (hb.mono h.below.size), h.old⟩
theorem cell_of_box {W : World} {B : Nat} {c : Array Value} {t : TypeId} {fr : Nat × Nat} (h : W.heap[B]? = some (.cells c t fr)) (i : Nat) : W.cell? ⟨B, i, none⟩ = c[i]? := by
  unfold World.cell?
  rw [h]
  rfl
set_option maxHeartbeats 2000000 in
set_option maxRecDepth 100000 in
theorem find1_calls (sp : Spec) (b : Nat) (s : ByteArray) (hs : s.size < 35184372088832) (w : World) (hE : Env w) (hc : w.cell? ⟨b, 0, none⟩ = some (.string s)) :
    Calls Tryz.prog 67 #[sp.val, .pointer (some ⟨b, 0, none⟩)] w fun e w' => e = .returned (.bool (decide (sp.name = upperV s.data.toList))) ∧ Below w.heap.size w w' := by
  obtain ⟨nm, l, m, f, la, st, wr⟩ := sp
  have hval : Spec.val ⟨nm, l, m, f, la, st, wr⟩ = .agg #[.string ⟨nm.toArray⟩, .int .i64 l, .int .i64 m, .int .i64 f, .int .i64 la, .int .i64 st, .bool wr] := rfl
  rw [hval]
  have hU := fun W hW => upper_calls s hs W hW
  have hne := name_eq nm (upperV s.data.toList)
  generalize upperV s.data.toList = U at *
  go_enter Tryz.func67, Tryz.ntmps67
  go_wp2_with fail
  have hB : FS w w.heap.size ⟨b, 0, none⟩ s s #[.string ⟨nm.toArray⟩, .int .i64 l, .int .i64 m, .int .i64 f, .int .i64 la, .int .i64 st, .bool wr] (w.alloc (.cells #[.string ⟨nm.toArray⟩, .int .i64 l, .int .i64 m, .int .i64 f, .int .i64 la, .int .i64 st, .bool wr] 84)) :=
    ⟨heap_alloc_new _ _, (below_alloc (Below.refl w.heap.size w) _).cell (World.block_lt_of_cell? w _ hc) |>.trans hc, below_alloc (Below.refl _ _) _, Nat.le_refl _⟩
  refine wp_region_held_drew (S := FS w w.heap.size ⟨b, 0, none⟩ s s #[.string ⟨nm.toArray⟩, .int .i64 l, .int .i64 m, .int .i64 f, .int .i64 la, .int .i64 st, .bool wr]) (by kernel_rfl) (hB.step ⟨rfl, rfl, rfl, Nat.le_refl _, fun _ _ => rfl⟩) (fun hHeld => ?_)
  refine wpAnyH_take (i := 0) (oi := ⟨some 4, _, _, _, _, _⟩) (v := .pointer (some ⟨w.heap.size, 0, none⟩)) rfl (by kernel_rfl) (by kernel_rfl) (by kernel_rfl) (fun _ _ _ h => h) (Or.inl ⟨by rfl, fun W hW => by go_simp⟩) (by assumption) ?_
  try simp only [Act.put, List.setIfInBounds_toArray, List.set_cons_zero, List.set_cons_succ]
  refine wpAnyH_take (i := 1) (oi := ⟨some 5, _, _, _, _, _⟩) (v := .string ⟨nm.toArray⟩) rfl (by kernel_rfl) (by kernel_rfl) (by kernel_rfl) (fun _ _ _ h => h) (Or.inl ⟨by rfl, fun W hW => by have h1 := hW.box; have h2 := cell_of_box h1 0; go_simp⟩) (by assumption) ?_
  try simp only [Act.put, List.setIfInBounds_toArray, List.set_cons_zero, List.set_cons_succ]
  refine wpAnyH_take (i := 2) (oi := ⟨some 6, _, _, _, _, _⟩) (v := .string s) rfl (by kernel_rfl) (by kernel_rfl) (by kernel_rfl) (fun _ _ _ h => h) (Or.inl ⟨by rfl, fun W hW => by have h1 := hW.name; go_simp⟩) (by assumption) ?_
  try simp only [Act.put, List.setIfInBounds_toArray, List.set_cons_zero, List.set_cons_succ]
  refine wpAnyH_ready (rs := [3]) (by kernel_rfl) (by simp) ?_
  refine AllReadyH.cons (o := ⟨some 7, _, _, _, _, _⟩) rfl (fun K hK => ?_) AllReadyH.nil
  go_simp
  refine (hU _ (hE.below (FS.below (by assumption)))).mono ?_
  rintro e w1 ⟨rfl, hb1⟩
  go_wp2_with fail
  refine hK.out _ _ (FS.step (by assumption) hb1) (fun hHeld1 => ?_)
  clear hK K
  try simp only [Act.put, List.setIfInBounds_toArray, List.set_cons_zero, List.set_cons_succ]
  refine wpAnyH_take (i := 4) (oi := ⟨some 8, _, _, _, _, _⟩) (v := .bool (decide (nm = U))) rfl (by kernel_rfl) (by kernel_rfl) (by kernel_rfl) (fun _ _ _ h => h) (Or.inl ⟨by rfl, fun W hW => by rw [← hne]; go_simp⟩) (by assumption) ?_
  try simp only [Act.put, List.setIfInBounds_toArray, List.set_cons_zero, List.set_cons_succ]
  refine wpAnyH_take (i := 5) (oi := ⟨some 3, _, _, _, _, _⟩) (v := .bool (decide (nm = U))) rfl (by kernel_rfl) (by kernel_rfl) (by kernel_rfl) (fun _ _ _ h => h) (Or.inl ⟨by rfl, fun W hW => by go_simp⟩) (by assumption) ?_
  try simp only [Act.put, List.setIfInBounds_toArray, List.set_cons_zero, List.set_cons_succ]
  refine wpAnyH_done (by kernel_rfl) ?_ _
  go_wp2_with fail
  go_ret
  exact ⟨rfl, FS.below (by assumption)⟩
def idxV (U : List UInt8) : Int := match specs.findIdx? (fun sp => decide (sp.name = U)) with
  | some i => (i : Int)
  | none => -1
theorem spec_flat : ∀ (l : List Spec) (j : Nat) (sp : Spec), l[j]? = some sp → ∀ (i : Nat) (v : Value), sp.cells[i]? = some v → (l.flatMap Spec.cells)[j * 7 + i]? = some v
  | [], j, sp, h, i, v, hv => by simp at h
  | x :: l, 0, sp, h, i, v, hv => by
    obtain rfl : x = sp := by simpa using h
    have hi : i < x.cells.length := (List.getElem?_eq_some_iff.1 hv).1
    rw [List.flatMap_cons, Nat.zero_mul, Nat.zero_add, List.getElem?_append_left hi]
    exact hv
  | x :: l, j + 1, sp, h, i, v, hv => by
    have ih := spec_flat l j sp (by simpa using h) i v hv
    have hx : x.cells.length = 7 := rfl
    rw [List.flatMap_cons, List.getElem?_append_right (by omega), hx, show (j + 1) * 7 + i - 7 = j * 7 + i by omega]
    exact ih
theorem spec_cell (j : Nat) (sp : Spec) (h : specs[j]? = some sp) (i : Nat) (v : Value) (hv : sp.cells[i]? = some v) : specC[j * 7 + i]? = some v := by
  unfold specC
  rw [List.getElem?_toArray]
  exact spec_flat specs j sp h i v hv
theorem idx_hit (U : List UInt8) (j : Nat) (sp : Spec) (h : specs[j]? = some sp) (hn : sp.name = U) (hb : ∀ i sp, i < j → specs[i]? = some sp → sp.name ≠ U) : idxV U = j := by
  have : specs.findIdx? (fun sp => decide (sp.name = U)) = some j := by
    rw [List.findIdx?_eq_some_iff_getElem]
    obtain ⟨hj, rfl⟩ := List.getElem?_eq_some_iff.1 h
    exact ⟨hj, decide_eq_true hn, fun i hi => by
      have := hb i specs[i] hi (List.getElem?_eq_getElem (by omega))
      simpa using this⟩
  unfold idxV
  rw [this]
theorem idx_miss (U : List UInt8) (hb : ∀ i sp, i < 47 → specs[i]? = some sp → sp.name ≠ U) : idxV U = -1 := by
  have : specs.findIdx? (fun sp => decide (sp.name = U)) = none := by
    rw [List.findIdx?_eq_none_iff]
    intro x hx
    obtain ⟨i, hi, rfl⟩ := List.getElem_of_mem hx
    have := hb i specs[i] hi (List.getElem?_eq_getElem hi)
    simpa using this
  unfold idxV
  rw [this]
set_option maxHeartbeats 2000000 in
set_option maxRecDepth 100000 in
theorem IndexFunc_calls (s : ByteArray) (hs : s.size < 35184372088832) (b g : Nat) (w : World) (hE : Env w) (hc : w.cell? ⟨b, 0, none⟩ = some (.string s)) (hg : w.heap[g]? = some (.cells specC 84 (0, 0))) :
    Calls Tryz.prog 66 #[.slice (some ⟨g, 0, none⟩) 47 47, .func (.func 67) #[] #[.pointer (some ⟨b, 0, none⟩)]] w fun e w' => e = .returned (.int .i64 (idxV (upperV s.data.toList))) ∧ Below w.heap.size w w' := by
  have hF := fun sp W hW hcW => find1_calls sp b s hs W hW hcW
  generalize upperV s.data.toList = U at *
  go_enter Tryz.func66, Tryz.ntmps66
  go_wp2_with fail
  go_loopw [8] (fun s8 wr => ∃ j : Nat, j ≤ 47 ∧ s8 = .int .i64 j ∧ (∀ i sp, i < j → specs[i]? = some sp → sp.name ≠ U) ∧ Below w.heap.size w wr) (fun s8 _ => 47 - (intOf s8).toNat)
  case atStart => exact ⟨0, by omega, rfl, fun i sp hi => by omega, Below.refl _ _⟩
  case round =>
    obtain ⟨j, hj, rfl, hbf, hb⟩ := hrel
    by_cases hj47 : j < 47
    · have d1 : decide ((j : Int) < 47) = true := decide_eq_true (by omega)
      have hj0 : (0 : Int) ≤ (j : Int) := by omega
      obtain ⟨sp, hsp⟩ : ∃ sp, specs[j]? = some sp := ⟨specs[j]'(by exact hj47), List.getElem?_eq_getElem _⟩
      have hgw := (hb.block g (Array.getElem?_eq_some_iff.1 hg).1).trans hg
      have hcw := (hb.cell (World.block_lt_of_cell? w _ hc)).trans hc
      have hcl : ∀ i v, sp.cells[i]? = some v → wr.cell? ⟨g, j * 7 + i, none⟩ = some v := fun i v h => (cell_of_box hgw _).trans (spec_cell j sp hsp i v h)
      obtain ⟨nm, l, m, f, la, st, wri⟩ := sp
      have h0 : wr.cell? ⟨g, j * 7, none⟩ = _ := hcl 0 _ rfl
      have h1 := hcl 1 _ rfl
      have h2 := hcl 2 _ rfl
      have h3 := hcl 3 _ rfl
      have h4 := hcl 4 _ rfl
      have h5 := hcl 5 _ rfl
      have h6 := hcl 6 _ rfl
      have hf := hF ⟨nm, l, m, f, la, st, wri⟩ wr (hE.below hb) hcw
      clear hcl hcw hgw hg hc hF
      replace hsp := Lib.hid hsp
      replace hbf := Lib.hid hbf
      have hm : specs.length = 47 := rfl
      go_wp2_with fail
      refine hf.mono ?_
      rintro e w1 ⟨rfl, hb1⟩
      have hb1' := hb.trans (hb1.mono hb.size)
      by_cases hn : nm = U
      · have hd : decide (nm = U) = true := decide_eq_true hn
        have hi := idx_hit U j _ hsp.out hn hbf.out
        go_wp2_with fail
        go_ret
        exact ⟨by rw [hi]; rfl, hb1'⟩
      · have hd : decide (nm = U) = false := decide_eq_false hn
        go_wp2_with fail
        refine ⟨⟨j + 1, by omega, by go_num, fun i sp hi hsp' => ?_, hb1'⟩, by simp [intOf]; omega⟩
        by_cases hij : i < j
        · exact hbf.out i sp hij hsp'
        · obtain rfl : i = j := by omega
          rw [hsp.out] at hsp'
          injection hsp' with hsp'
          subst hsp'
          exact hn
    · obtain rfl : j = 47 := by omega
      have hi := idx_miss U hbf
      go_wp2_with fail
      go_ret
      exact ⟨by rw [hi]; rfl, hb⟩
end Go.Proofs.YtpbiohnmmngccaaGreatDoor
