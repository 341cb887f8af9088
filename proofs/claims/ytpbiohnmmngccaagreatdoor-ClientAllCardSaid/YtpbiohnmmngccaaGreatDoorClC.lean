/- Are arguments right, and what command they are: table.Check. Conditions: utf8's tables as laid. -/
import Derived.Test.YtpbiohnmmngccaaGreatDoorClK
set_option linter.unusedVariables false
set_option linter.unusedSimpArgs false
namespace Go.Proofs.YtpbiohnmmngccaaGreatDoor
open Go.RowKit Go.Proofs.YtpbiohnmmngccaaGreatDoorW.PrintWords
theorem spot_none {w : World} {b o : Nat} {sp : Option Nat} {v : Value} (h : w.cell? ⟨b, o, sp⟩ = some v) : sp = none := by
  cases sp with
  | none => rfl
  | some x =>
    unfold World.cell? at h
    split at h <;> simp at h
theorem str_cells {w : World} {A : Option Addr} {xs : List ByteArray} (h : Kd.string.C w A xs.length xs) (hn : 0 < xs.length) : ∃ g o, A = some ⟨g, o, none⟩ ∧ g < w.heap.size ∧ ∀ j x, xs[j]? = some x → w.cell? ⟨g, o + j, none⟩ = some (.string x) := by
  obtain ⟨ad, rfl, hc⟩ := (Kd.reads_of_C (d := (⟨#[]⟩ : ByteArray)) h).2.2 hn
  obtain ⟨g, o, sp⟩ := ad
  have h0 := hc 0 hn
  obtain rfl : sp = none := by
    have e : (Addr.add ⟨g, o, sp⟩ 0) = ⟨g, o, sp⟩ := by simp [Addr.add]
    rw [e] at h0
    exact spot_none h0
  rw [Addr.add_mid] at h0
  refine ⟨g, o, rfl, World.block_lt_of_cell? w _ h0, fun j x hj => ?_⟩
  have hjl := (List.getElem?_eq_some_iff.1 hj).1
  have := hc j hjl
  rw [Addr.add_mid] at this
  rw [this, List.getD_eq_getElem?_getD, hj]
  rfl
def badV (s : Spec) (n : Int) : Bool := decide (n < s.least) || decide (s.most < n) || (decide (s.last < 0) && decide ((n - s.first + 1).tmod s.step ≠ 0))
def checkV : List ByteArray → Spec × Int
  | [] => (spec0, 120)
  | a :: r => match findV a with
    | none => (spec0, 120)
    | some s => if badV s r.length = true then (spec0, 121) else (s, 0)
def CheckR (x : Spec × Int) : Value := .tuple #[x.1.val, .int .i64 x.2]
/-- how a command's keys stand -/
def Form (s : Spec) : Prop := 0 ≤ s.least ∧ s.least ≤ 31 ∧ 0 ≤ s.most ∧ s.most ≤ 31 ∧ ((s.first = 0 ∧ s.last = 0 ∧ s.step = 0) ∨ (1 ≤ s.least ∧ s.first = 1 ∧ ((s.last = 1 ∧ s.step = 1) ∨ (s.last = -1 ∧ (s.step = 1 ∨ s.step = 2)))))
theorem forms : ∀ s ∈ specs, Form s := by
  unfold Form
  decide
theorem find_form {a : ByteArray} {s : Spec} (h : findV a = some s) : Form s := by
  unfold findV at h
  split at h
  · cases h
  · exact forms s (List.mem_of_find?_eq_some h)
theorem heap_alloc_old' (w : World) (o : Obj) {k : Nat} (hk : k < w.heap.size) : (w.alloc o).heap[k]? = w.heap[k]? := (below_alloc (Below.refl w.heap.size w) o).block k hk
theorem store_at {P : Program} {ops : Array Oper} {rest : List Oper} {ty t0 : TypeId} {x y : Operand} {pos : String} {aft : Array Edge} {a : Act} {w : World} {Q : Exit → Act → World → Prop}
    (h : ∃ (g : Nat) (cells : Array Value) (t : TypeId) (old : Array Value), a.eval x = .pointer (some ⟨g, 0, none⟩) ∧ a.eval y = .agg cells ∧ w.heap[g]? = some (.cells old t (0, 0)) ∧ (P.info? ty).map (·.size) = some cells.size ∧ old.size = cells.size ∧ cells.all (·.oneCell') = true ∧
      wpList P ops Q rest (a.put none undef) (w.setRow g cells)) : wpList P ops Q (⟨none, .store ty x y, t0, pos, aft, none⟩ :: rest) a w := by
  obtain ⟨g, cells, t, old, h1, h2, h3, h4, h5, h6, h7⟩ := h
  exact wpList_store_row rfl ty x y rfl g cells h1 h2 t old h3 h4 h5 h6 h7
theorem tmod1 (n : Int) : n.tmod 1 = 0 := by simp
set_option maxHeartbeats 4000000 in
set_option maxRecDepth 100000 in
theorem Check_calls (A : Option Addr) (c : Nat) (args : List ByteArray) (hc : args.length ≤ c) (w : World) (hr : Kd.string.C w A args.length args) (hE : Env w) :
    Calls Tryz.prog 37 #[.slice A args.length c] w fun e w' => e = .returned (CheckR (checkV args)) ∧ Below w.heap.size w w' := by
  have hi72 : (Tryz.prog.info? 84).map (·.size) = some 7 := by kernel_rfl
  cases args with
  | nil =>
    go_enter Tryz.func37, Tryz.ntmps37
    go_wp2_with fail
    exact bodyPost_ret (results_cell_row2 Tryz.results37 _ _ (w.heap.size) 84 _ (0, 0) _ _ rfl rfl (heap_alloc_new _ _) Tryz.underlying84 rfl (by kernel_rfl)) rfl ⟨rfl, below_alloc (Below.refl _ _) _⟩
  | cons a r =>
    have hlen : r.length < 9223372036854775807 := by have := hr.2.1; simp at this; omega
    obtain ⟨g, o, rfl, hg, hcs⟩ := str_cells hr (by simp)
    have ha := hcs 0 a rfl
    rw [Nat.add_zero] at ha
    have hF := fun W hW => Find_calls a W hW
    have hcv : checkV (a :: r) = match findV a with
      | none => (spec0, 120)
      | some s => if badV s r.length = true then (spec0, 121) else (s, 0) := rfl
    have hne : ((((r.length : Int) + 1)) == 0) = false := by rw [beq_eq_false_iff_ne]; omega
    have ha1 : (w.alloc (.cells #[.string ⟨#[]⟩, .int .i64 0, .int .i64 0, .int .i64 0, .int .i64 0, .int .i64 0, .bool false] 84)).cell? ⟨g, o, none⟩ = some (.string a) := ((below_alloc (Below.refl w.heap.size w) _).cell (p := ⟨g, o, none⟩) hg).trans ha
    have hb1 : Below w.heap.size w (w.alloc (.cells #[.string ⟨#[]⟩, .int .i64 0, .int .i64 0, .int .i64 0, .int .i64 0, .int .i64 0, .bool false] 84)) := below_alloc (Below.refl _ _) _
    have hz1 : (w.alloc (.cells #[.string ⟨#[]⟩, .int .i64 0, .int .i64 0, .int .i64 0, .int .i64 0, .int .i64 0, .bool false] 84)).heap[w.heap.size]? = some (.cells #[.string ⟨#[]⟩, .int .i64 0, .int .i64 0, .int .i64 0, .int .i64 0, .int .i64 0, .bool false] 84 (0, 0)) := heap_alloc_new _ _
    clear hcs hr
    go_enter Tryz.func37, Tryz.ntmps37
    go_wp2_with fail
    refine (hF _ (hE.below hb1)).mono ?_
    rintro e w1 ⟨rfl, hb2⟩
    have hz2 := (hb2.block w.heap.size (Array.getElem?_eq_some_iff.1 hz1).1).trans hz1
    have hbw := hb1.trans (hb2.mono hb1.size)
    have hlt : w.heap.size < w1.heap.size := (Array.getElem?_eq_some_iff.1 hz2).1
    clear hb1 hz1 hb2 ha1
    cases hf : findV a with
    | none =>
      rw [hf] at hcv
      have e0 : FindR none = .tuple #[.agg #[.string ⟨#[]⟩, .int .i64 0, .int .i64 0, .int .i64 0, .int .i64 0, .int .i64 0, .bool false], .bool false] := rfl
      rw [e0]
      go_wp2_with (refine wpList_store_row rfl 84 _ _ rfl w.heap.size #[.string ⟨#[]⟩, .int .i64 0, .int .i64 0, .int .i64 0, .int .i64 0, .int .i64 0, .bool false] rfl rfl 84 #[.string ⟨#[]⟩, .int .i64 0, .int .i64 0, .int .i64 0, .int .i64 0, .int .i64 0, .bool false] ((heap_alloc_old' _ _ hlt).trans hz2) hi72 rfl (spec_one _ _ _ _ _ _ _) ?_)
      exact bodyPost_ret (results_cell_row2 Tryz.results37 _ _ (w.heap.size) 84 _ (0, 0) _ _ rfl rfl (setRow_heap _ _ _ _ _ _ ((heap_alloc_old' _ _ hlt).trans hz2)) Tryz.underlying84 rfl (by kernel_rfl)) rfl ⟨by rw [hcv]; rfl, below_setRow (below_alloc hbw _) (Nat.le_refl _) _⟩
    | some s =>
      rw [hf] at hcv
      have hform := find_form hf
      obtain ⟨nm, l, m, f, la, st, wri⟩ := s
      have e0 : FindR (some ⟨nm, l, m, f, la, st, wri⟩) = .tuple #[.agg #[.string ⟨nm.toArray⟩, .int .i64 l, .int .i64 m, .int .i64 f, .int .i64 la, .int .i64 st, .bool wri], .bool true] := rfl
      rw [e0]
      have hz3 : (w1.alloc (.cells #[.string ⟨nm.toArray⟩, .int .i64 l, .int .i64 m, .int .i64 f, .int .i64 la, .int .i64 st, .bool wri] 84)).heap[w.heap.size]? = some (.cells #[.string ⟨#[]⟩, .int .i64 0, .int .i64 0, .int .i64 0, .int .i64 0, .int .i64 0, .bool false] 84 (0, 0)) := (heap_alloc_old' _ _ hlt).trans hz2
      have hs3 : (w1.alloc (.cells #[.string ⟨nm.toArray⟩, .int .i64 l, .int .i64 m, .int .i64 f, .int .i64 la, .int .i64 st, .bool wri] 84)).heap[w1.heap.size]? = some (.cells #[.string ⟨nm.toArray⟩, .int .i64 l, .int .i64 m, .int .i64 f, .int .i64 la, .int .i64 st, .bool wri] 84 (0, 0)) := heap_alloc_new _ _
      have hb3 : Below w.heap.size w (w1.alloc (.cells #[.string ⟨nm.toArray⟩, .int .i64 l, .int .i64 m, .int .i64 f, .int .i64 la, .int .i64 st, .bool wri] 84)) := below_alloc hbw _
      replace hcv := Lib.hid hcv
      replace hz3 := Lib.hid hz3
      replace hb3 := Lib.hid hb3
      clear hz2 hbw hF e0 hf hs3
      simp only [Form] at hform
      obtain ⟨hl0, hl1, hm0, hm1, hfs⟩ := hform
      have hsub : r.length + 1 ≤ 9223372036854775807 := by omega
      rcases hfs with ⟨rfl, rfl, rfl⟩ | ⟨hl2, rfl, ⟨rfl, rfl⟩ | ⟨rfl, rfl | rfl⟩⟩
      · have n0 : 0 ≤ (r.length : Int) := by omega
        by_cases h1 : (r.length : Int) < l
        · have d1 : decide ((r.length : Int) < l) = true := decide_eq_true h1
          have hbad : badV ⟨nm, l, m, 0, 0, 0, wri⟩ r.length = true := by unfold badV; simp [h1]
          replace hbad := Lib.hid hbad
          go_wp2_with ((with_reducible refine store_at (ty := 84) (x := .tmp 2) (y := .tmp 52) ?_); refine ⟨w.heap.size, #[.string ⟨#[]⟩, .int .i64 0, .int .i64 0, .int .i64 0, .int .i64 0, .int .i64 0, .bool false], 84, #[.string ⟨#[]⟩, .int .i64 0, .int .i64 0, .int .i64 0, .int .i64 0, .int .i64 0, .bool false], rfl, rfl, hz3.out, hi72, rfl, spec_one _ _ _ _ _ _ _, ?_⟩)
          exact bodyPost_ret (results_cell_row2 Tryz.results37 _ _ (w.heap.size) 84 _ (0, 0) _ _ rfl rfl (setRow_heap _ _ _ _ _ _ hz3.out) Tryz.underlying84 rfl (by kernel_rfl)) rfl ⟨by rw [hcv.out]; simp only [hbad.out, if_true, Bool.false_eq_true, if_false]; rfl, below_setRow hb3.out (Nat.le_refl _) _⟩
        · have d1 : decide ((r.length : Int) < l) = false := decide_eq_false h1
          by_cases h2 : m < (r.length : Int)
          · have d2 : decide (m < (r.length : Int)) = true := decide_eq_true h2
            have hbad : badV ⟨nm, l, m, 0, 0, 0, wri⟩ r.length = true := by unfold badV; simp [h2]
            replace hbad := Lib.hid hbad
            go_wp2_with ((with_reducible refine store_at (ty := 84) (x := .tmp 2) (y := .tmp 52) ?_); refine ⟨w.heap.size, #[.string ⟨#[]⟩, .int .i64 0, .int .i64 0, .int .i64 0, .int .i64 0, .int .i64 0, .bool false], 84, #[.string ⟨#[]⟩, .int .i64 0, .int .i64 0, .int .i64 0, .int .i64 0, .int .i64 0, .bool false], rfl, rfl, hz3.out, hi72, rfl, spec_one _ _ _ _ _ _ _, ?_⟩)
            exact bodyPost_ret (results_cell_row2 Tryz.results37 _ _ (w.heap.size) 84 _ (0, 0) _ _ rfl rfl (setRow_heap _ _ _ _ _ _ hz3.out) Tryz.underlying84 rfl (by kernel_rfl)) rfl ⟨by rw [hcv.out]; simp only [hbad.out, if_true, Bool.false_eq_true, if_false]; rfl, below_setRow hb3.out (Nat.le_refl _) _⟩
          · have d2 : decide (m < (r.length : Int)) = false := decide_eq_false h2
            have hbad : badV ⟨nm, l, m, 0, 0, 0, wri⟩ r.length = false := by unfold badV; simp [h1, h2]
            replace hbad := Lib.hid hbad
            go_wp2_with ((with_reducible refine store_at (ty := 84) (x := .tmp 2) (y := .tmp 53) ?_); refine ⟨w.heap.size, #[.string ⟨nm.toArray⟩, .int .i64 l, .int .i64 m, .int .i64 0, .int .i64 0, .int .i64 0, .bool wri], 84, #[.string ⟨#[]⟩, .int .i64 0, .int .i64 0, .int .i64 0, .int .i64 0, .int .i64 0, .bool false], rfl, rfl, hz3.out, hi72, rfl, spec_one _ _ _ _ _ _ _, ?_⟩)
            exact bodyPost_ret (results_cell_row2 Tryz.results37 _ _ (w.heap.size) 84 _ (0, 0) _ _ rfl rfl (setRow_heap _ _ _ _ _ _ hz3.out) Tryz.underlying84 rfl (by kernel_rfl)) rfl ⟨by rw [hcv.out]; simp only [hbad.out, if_true, Bool.false_eq_true, if_false]; rfl, below_setRow hb3.out (Nat.le_refl _) _⟩
      · have n0 : 0 ≤ (r.length : Int) := by omega
        by_cases h1 : (r.length : Int) < l
        · have d1 : decide ((r.length : Int) < l) = true := decide_eq_true h1
          have hbad : badV ⟨nm, l, m, 1, 1, 1, wri⟩ r.length = true := by unfold badV; simp [h1]
          replace hbad := Lib.hid hbad
          go_wp2_with ((with_reducible refine store_at (ty := 84) (x := .tmp 2) (y := .tmp 52) ?_); refine ⟨w.heap.size, #[.string ⟨#[]⟩, .int .i64 0, .int .i64 0, .int .i64 0, .int .i64 0, .int .i64 0, .bool false], 84, #[.string ⟨#[]⟩, .int .i64 0, .int .i64 0, .int .i64 0, .int .i64 0, .int .i64 0, .bool false], rfl, rfl, hz3.out, hi72, rfl, spec_one _ _ _ _ _ _ _, ?_⟩)
          exact bodyPost_ret (results_cell_row2 Tryz.results37 _ _ (w.heap.size) 84 _ (0, 0) _ _ rfl rfl (setRow_heap _ _ _ _ _ _ hz3.out) Tryz.underlying84 rfl (by kernel_rfl)) rfl ⟨by rw [hcv.out]; simp only [hbad.out, if_true, Bool.false_eq_true, if_false]; rfl, below_setRow hb3.out (Nat.le_refl _) _⟩
        · have d1 : decide ((r.length : Int) < l) = false := decide_eq_false h1
          by_cases h2 : m < (r.length : Int)
          · have d2 : decide (m < (r.length : Int)) = true := decide_eq_true h2
            have hbad : badV ⟨nm, l, m, 1, 1, 1, wri⟩ r.length = true := by unfold badV; simp [h2]
            replace hbad := Lib.hid hbad
            go_wp2_with ((with_reducible refine store_at (ty := 84) (x := .tmp 2) (y := .tmp 52) ?_); refine ⟨w.heap.size, #[.string ⟨#[]⟩, .int .i64 0, .int .i64 0, .int .i64 0, .int .i64 0, .int .i64 0, .bool false], 84, #[.string ⟨#[]⟩, .int .i64 0, .int .i64 0, .int .i64 0, .int .i64 0, .int .i64 0, .bool false], rfl, rfl, hz3.out, hi72, rfl, spec_one _ _ _ _ _ _ _, ?_⟩)
            exact bodyPost_ret (results_cell_row2 Tryz.results37 _ _ (w.heap.size) 84 _ (0, 0) _ _ rfl rfl (setRow_heap _ _ _ _ _ _ hz3.out) Tryz.underlying84 rfl (by kernel_rfl)) rfl ⟨by rw [hcv.out]; simp only [hbad.out, if_true, Bool.false_eq_true, if_false]; rfl, below_setRow hb3.out (Nat.le_refl _) _⟩
          · have d2 : decide (m < (r.length : Int)) = false := decide_eq_false h2
            have hbad : badV ⟨nm, l, m, 1, 1, 1, wri⟩ r.length = false := by unfold badV; simp [h1, h2]
            replace hbad := Lib.hid hbad
            go_wp2_with ((with_reducible refine store_at (ty := 84) (x := .tmp 2) (y := .tmp 53) ?_); refine ⟨w.heap.size, #[.string ⟨nm.toArray⟩, .int .i64 l, .int .i64 m, .int .i64 1, .int .i64 1, .int .i64 1, .bool wri], 84, #[.string ⟨#[]⟩, .int .i64 0, .int .i64 0, .int .i64 0, .int .i64 0, .int .i64 0, .bool false], rfl, rfl, hz3.out, hi72, rfl, spec_one _ _ _ _ _ _ _, ?_⟩)
            exact bodyPost_ret (results_cell_row2 Tryz.results37 _ _ (w.heap.size) 84 _ (0, 0) _ _ rfl rfl (setRow_heap _ _ _ _ _ _ hz3.out) Tryz.underlying84 rfl (by kernel_rfl)) rfl ⟨by rw [hcv.out]; simp only [hbad.out, if_true, Bool.false_eq_true, if_false]; rfl, below_setRow hb3.out (Nat.le_refl _) _⟩
      · have n0 : 0 ≤ (r.length : Int) := by omega
        by_cases h1 : (r.length : Int) < l
        · have d1 : decide ((r.length : Int) < l) = true := decide_eq_true h1
          have hbad : badV ⟨nm, l, m, 1, (-1), 1, wri⟩ r.length = true := by unfold badV; simp [h1]
          replace hbad := Lib.hid hbad
          go_wp2_with ((with_reducible refine store_at (ty := 84) (x := .tmp 2) (y := .tmp 52) ?_); refine ⟨w.heap.size, #[.string ⟨#[]⟩, .int .i64 0, .int .i64 0, .int .i64 0, .int .i64 0, .int .i64 0, .bool false], 84, #[.string ⟨#[]⟩, .int .i64 0, .int .i64 0, .int .i64 0, .int .i64 0, .int .i64 0, .bool false], rfl, rfl, hz3.out, hi72, rfl, spec_one _ _ _ _ _ _ _, ?_⟩)
          exact bodyPost_ret (results_cell_row2 Tryz.results37 _ _ (w.heap.size) 84 _ (0, 0) _ _ rfl rfl (setRow_heap _ _ _ _ _ _ hz3.out) Tryz.underlying84 rfl (by kernel_rfl)) rfl ⟨by rw [hcv.out]; simp only [hbad.out, if_true, Bool.false_eq_true, if_false]; rfl, below_setRow hb3.out (Nat.le_refl _) _⟩
        · have d1 : decide ((r.length : Int) < l) = false := decide_eq_false h1
          by_cases h2 : m < (r.length : Int)
          · have d2 : decide (m < (r.length : Int)) = true := decide_eq_true h2
            have hbad : badV ⟨nm, l, m, 1, (-1), 1, wri⟩ r.length = true := by unfold badV; simp [h2]
            replace hbad := Lib.hid hbad
            go_wp2_with ((with_reducible refine store_at (ty := 84) (x := .tmp 2) (y := .tmp 52) ?_); refine ⟨w.heap.size, #[.string ⟨#[]⟩, .int .i64 0, .int .i64 0, .int .i64 0, .int .i64 0, .int .i64 0, .bool false], 84, #[.string ⟨#[]⟩, .int .i64 0, .int .i64 0, .int .i64 0, .int .i64 0, .int .i64 0, .bool false], rfl, rfl, hz3.out, hi72, rfl, spec_one _ _ _ _ _ _ _, ?_⟩)
            exact bodyPost_ret (results_cell_row2 Tryz.results37 _ _ (w.heap.size) 84 _ (0, 0) _ _ rfl rfl (setRow_heap _ _ _ _ _ _ hz3.out) Tryz.underlying84 rfl (by kernel_rfl)) rfl ⟨by rw [hcv.out]; simp only [hbad.out, if_true, Bool.false_eq_true, if_false]; rfl, below_setRow hb3.out (Nat.le_refl _) _⟩
          · have d2 : decide (m < (r.length : Int)) = false := decide_eq_false h2
            have hbad : badV ⟨nm, l, m, 1, (-1), 1, wri⟩ r.length = false := by unfold badV; simp [h1, h2]
            replace hbad := Lib.hid hbad
            go_wp2_with ((with_reducible refine store_at (ty := 84) (x := .tmp 2) (y := .tmp 53) ?_); refine ⟨w.heap.size, #[.string ⟨nm.toArray⟩, .int .i64 l, .int .i64 m, .int .i64 1, .int .i64 (-1), .int .i64 1, .bool wri], 84, #[.string ⟨#[]⟩, .int .i64 0, .int .i64 0, .int .i64 0, .int .i64 0, .int .i64 0, .bool false], rfl, rfl, hz3.out, hi72, rfl, spec_one _ _ _ _ _ _ _, ?_⟩)
            exact bodyPost_ret (results_cell_row2 Tryz.results37 _ _ (w.heap.size) 84 _ (0, 0) _ _ rfl rfl (setRow_heap _ _ _ _ _ _ hz3.out) Tryz.underlying84 rfl (by kernel_rfl)) rfl ⟨by rw [hcv.out]; simp only [hbad.out, if_true, Bool.false_eq_true, if_false]; rfl, below_setRow hb3.out (Nat.le_refl _) _⟩
      · have n0 : 0 ≤ (r.length : Int) := by omega
        by_cases h1 : (r.length : Int) < l
        · have d1 : decide ((r.length : Int) < l) = true := decide_eq_true h1
          have hbad : badV ⟨nm, l, m, 1, (-1), 2, wri⟩ r.length = true := by unfold badV; simp [h1]
          replace hbad := Lib.hid hbad
          go_wp2_with ((with_reducible refine store_at (ty := 84) (x := .tmp 2) (y := .tmp 52) ?_); refine ⟨w.heap.size, #[.string ⟨#[]⟩, .int .i64 0, .int .i64 0, .int .i64 0, .int .i64 0, .int .i64 0, .bool false], 84, #[.string ⟨#[]⟩, .int .i64 0, .int .i64 0, .int .i64 0, .int .i64 0, .int .i64 0, .bool false], rfl, rfl, hz3.out, hi72, rfl, spec_one _ _ _ _ _ _ _, ?_⟩)
          exact bodyPost_ret (results_cell_row2 Tryz.results37 _ _ (w.heap.size) 84 _ (0, 0) _ _ rfl rfl (setRow_heap _ _ _ _ _ _ hz3.out) Tryz.underlying84 rfl (by kernel_rfl)) rfl ⟨by rw [hcv.out]; simp only [hbad.out, if_true, Bool.false_eq_true, if_false]; rfl, below_setRow hb3.out (Nat.le_refl _) _⟩
        · have d1 : decide ((r.length : Int) < l) = false := decide_eq_false h1
          by_cases h2 : m < (r.length : Int)
          · have d2 : decide (m < (r.length : Int)) = true := decide_eq_true h2
            have hbad : badV ⟨nm, l, m, 1, (-1), 2, wri⟩ r.length = true := by unfold badV; simp [h2]
            replace hbad := Lib.hid hbad
            go_wp2_with ((with_reducible refine store_at (ty := 84) (x := .tmp 2) (y := .tmp 52) ?_); refine ⟨w.heap.size, #[.string ⟨#[]⟩, .int .i64 0, .int .i64 0, .int .i64 0, .int .i64 0, .int .i64 0, .bool false], 84, #[.string ⟨#[]⟩, .int .i64 0, .int .i64 0, .int .i64 0, .int .i64 0, .int .i64 0, .bool false], rfl, rfl, hz3.out, hi72, rfl, spec_one _ _ _ _ _ _ _, ?_⟩)
            exact bodyPost_ret (results_cell_row2 Tryz.results37 _ _ (w.heap.size) 84 _ (0, 0) _ _ rfl rfl (setRow_heap _ _ _ _ _ _ hz3.out) Tryz.underlying84 rfl (by kernel_rfl)) rfl ⟨by rw [hcv.out]; simp only [hbad.out, if_true, Bool.false_eq_true, if_false]; rfl, below_setRow hb3.out (Nat.le_refl _) _⟩
          · have d2 : decide (m < (r.length : Int)) = false := decide_eq_false h2
            have ht : ((r.length : Int)).tmod 2 = (r.length : Int) % 2 := Int.tmod_eq_emod_of_nonneg n0
            by_cases h3 : (r.length : Int) % 2 = 0
            · have h3' : ((r.length : Int) % 2 != 0) = false := by rw [h3]; rfl
              have hbad : badV ⟨nm, l, m, 1, (-1), 2, wri⟩ r.length = false := by unfold badV; simp [h1, h2, ht, h3]
              clear ht
              replace hbad := Lib.hid hbad
              go_wp2_with ((with_reducible refine store_at (ty := 84) (x := .tmp 2) (y := .tmp 53) ?_); refine ⟨w.heap.size, #[.string ⟨nm.toArray⟩, .int .i64 l, .int .i64 m, .int .i64 1, .int .i64 (-1), .int .i64 2, .bool wri], 84, #[.string ⟨#[]⟩, .int .i64 0, .int .i64 0, .int .i64 0, .int .i64 0, .int .i64 0, .bool false], rfl, rfl, hz3.out, hi72, rfl, spec_one _ _ _ _ _ _ _, ?_⟩)
              exact bodyPost_ret (results_cell_row2 Tryz.results37 _ _ (w.heap.size) 84 _ (0, 0) _ _ rfl rfl (setRow_heap _ _ _ _ _ _ hz3.out) Tryz.underlying84 rfl (by kernel_rfl)) rfl ⟨by rw [hcv.out]; simp only [hbad.out, if_true, Bool.false_eq_true, if_false]; rfl, below_setRow hb3.out (Nat.le_refl _) _⟩
            · have h3' : ((r.length : Int) % 2 != 0) = true := by rw [bne_iff_ne]; exact h3
              have hbad : badV ⟨nm, l, m, 1, (-1), 2, wri⟩ r.length = true := by unfold badV; simp [ht, h3]
              clear ht
              replace hbad := Lib.hid hbad
              go_wp2_with ((with_reducible refine store_at (ty := 84) (x := .tmp 2) (y := .tmp 52) ?_); refine ⟨w.heap.size, #[.string ⟨#[]⟩, .int .i64 0, .int .i64 0, .int .i64 0, .int .i64 0, .int .i64 0, .bool false], 84, #[.string ⟨#[]⟩, .int .i64 0, .int .i64 0, .int .i64 0, .int .i64 0, .int .i64 0, .bool false], rfl, rfl, hz3.out, hi72, rfl, spec_one _ _ _ _ _ _ _, ?_⟩)
              exact bodyPost_ret (results_cell_row2 Tryz.results37 _ _ (w.heap.size) 84 _ (0, 0) _ _ rfl rfl (setRow_heap _ _ _ _ _ _ hz3.out) Tryz.underlying84 rfl (by kernel_rfl)) rfl ⟨by rw [hcv.out]; simp only [hbad.out, if_true, Bool.false_eq_true, if_false]; rfl, below_setRow hb3.out (Nat.le_refl _) _⟩
end Go.Proofs.YtpbiohnmmngccaaGreatDoor
