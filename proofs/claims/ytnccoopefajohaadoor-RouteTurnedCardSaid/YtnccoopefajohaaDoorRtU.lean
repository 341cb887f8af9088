/- The last law of this layer: in which order the keys' marks stand is not seen. Conditions: the listed variables as laid. -/
import Derived.Test.YtnccoopefajohaaDoorRtO
import Derived.Deep.OwnRows
set_option linter.unusedVariables false
set_option linter.unusedSimpArgs false
namespace Go.Proofs.YtnccoopefajohaaDoor
open Go.RowKit Go.Proofs.YtnccoopefajohaaDoorW.PrintWords
open RtS RtR R04P

/-! ### turned marks -/
def turnV (l : List Bool) (n : Nat) : List Bool := (List.range n).map fun t => l.getD (n - 1 - t) false
theorem turnV_len (l : List Bool) (n : Nat) : (turnV l n).length = n := by simp [turnV]
theorem turnV_get (l : List Bool) (n t : Nat) (h : t < n) : (turnV l n).getD t false = l.getD (n - 1 - t) false := by simp [turnV, h]
theorem cnt_range (l : List Bool) : ∀ n, cnt l n = (((List.range n).map fun t => l.getD t false).filter id).length
  | 0 => by simp [cnt]
  | n + 1 => by
    rw [RtP.cnt_step, cnt_range l n, List.range_succ, List.map_append, List.filter_append, List.length_append]
    congr 1
    rw [List.map_cons, List.map_nil]
    cases l.getD n false <;> rfl
theorem turn_rev (l : List Bool) (n : Nat) : turnV l n = ((List.range n).map fun t => l.getD t false).reverse := by
  apply List.ext_getElem?
  intro i
  unfold turnV
  by_cases h : i < n
  · rw [List.getElem?_reverse (by simpa using h)]
    simp [h]
    rw [List.getElem?_range (by omega)]
    rfl
  · rw [List.getElem?_eq_none (by simpa using h), List.getElem?_eq_none (by simpa using h)]
theorem cnt_turn (l : List Bool) (n : Nat) : cnt (turnV l n) n = cnt l n := by
  rw [cnt_range l n]
  unfold cnt
  rw [List.take_of_length_le (by rw [turnV_len]; exact Nat.le_refl _), turn_rev, List.filter_reverse, List.length_reverse]
theorem decideV_turn (a0 a1 a2 a3 a4 a5 : Int) (l6 : List Int) (l7 l8 : List Bool) :
    decideV a0 a1 a2 a3 a4 a5 l6 (turnV l7 l6.length) (turnV l8 l6.length) = decideV a0 a1 a2 a3 a4 a5 l6 l7 l8 := by
  unfold decideV
  rw [cnt_turn, cnt_turn]
theorem made_cell (W : World) (n t : Nat) (T : TypeId) (h : t < n) : (W.alloc (.cells (madeCells #[.bool false] n) T)).cell? ⟨W.heap.size, t, none⟩ = some (.bool false) := by
  simp [go_sem, madeCells, h, Nat.mod_one]
theorem infoBool : (Tryd.prog.info? 4).map (fun i => (i.zero, i.size, i.bytes)) = some (some (.bool false), 1, 1) := by kernel_rfl

theorem Box9.set {W : World} {g : Nat} {a0 a1 a2 a3 a4 a5 a6 a7 a8 : Value} (h : Box9 W g a0 a1 a2 a3 a4 a5 a6 a7 a8) (b j : Nat) (v : Value) (hb : b ≠ g) : Box9 (W.setCell ⟨b, j, none⟩ v) g a0 a1 a2 a3 a4 a5 a6 a7 a8 := by
  obtain ⟨lt, z0, z1, z2, z3, z4, z5, z6, z7, z8⟩ := h
  have hb' : ¬ g = b := fun e => hb e.symm
  exact ⟨by simpa using lt, by simp [go_sem, hb', z0], by simp [go_sem, hb', z1], by simp [go_sem, hb', z2], by simp [go_sem, hb', z3], by simp [go_sem, hb', z4], by simp [go_sem, hb', z5], by simp [go_sem, hb', z6], by simp [go_sem, hb', z7], by simp [go_sem, hb', z8]⟩
theorem Box9.drew {W : World} {g : Nat} {a0 a1 a2 a3 a4 a5 a6 a7 a8 : Value} (h : Box9 W g a0 a1 a2 a3 a4 a5 a6 a7 a8) : Box9 W.drew g a0 a1 a2 a3 a4 a5 a6 a7 a8 :=
  ⟨h.lt, h.c0, h.c1, h.c2, h.c3, h.c4, h.c5, h.c6, h.c7, h.c8⟩
/-- A row of marks that is being turned: so many are in place. -/
structure Row (W : World) (g n j : Nat) (l : List Bool) : Prop where
  lt : g < W.heap.size
  c : ∀ t, t < n → W.cell? ⟨g, t, none⟩ = some (.bool (if n - 1 - t < j then l.getD (n - 1 - t) false else false))
  f : ∀ t, t < n → W.frozen? ⟨g, t, none⟩ = false
theorem Row.far {W : World} {g n j : Nat} {l : List Bool} (h : Row W g n j l) (b i : Nat) (v : Value) (hb : b ≠ g) : Row (W.setCell ⟨b, i, none⟩ v) g n j l := by
  have hb' : ¬ g = b := fun e => hb e.symm
  exact ⟨by simpa using h.lt, fun t ht => (show _ = W.cell? ⟨g, t, none⟩ from by simp [go_sem, hb']).trans (h.c t ht), fun t ht => by simp [go_sem]; exact h.f t ht⟩
theorem Row.drew {W : World} {g n j : Nat} {l : List Bool} (h : Row W g n j l) : Row W.drew g n j l := ⟨h.lt, h.c, h.f⟩
theorem Row.next {W : World} {g n j : Nat} {l : List Bool} (h : Row W g n j l) (hj : j < n) (b : Bool) (hb : b = l.getD j false) : Row (W.setCell ⟨g, n - 1 - j, none⟩ (.bool b)) g n (j + 1) l := by
  refine ⟨by simpa using h.lt, fun t ht => ?_, fun t ht => by simp [go_sem]; exact h.f t ht⟩
  by_cases htj : t = n - 1 - j
  · subst htj
    have e : n - 1 - (n - 1 - j) = j := by omega
    have hc := h.c (n - 1 - j) (by omega)
    rw [e, if_pos (by omega), ← hb]
    simp [go_sem, hc]
  · have hc := h.c t ht
    have e : (n - 1 - t < j + 1) = (n - 1 - t < j) := propext ⟨fun h => by omega, fun h => by omega⟩
    simp only [e]
    simp [go_sem, htj]
    simpa using hc

theorem Box9.at (W : World) (g : Nat) (hg : W.heap.size = g) (a0 a1 a2 a3 a4 a5 : Int) (A6 A7 A8 : Option Addr) (n6 n7 n8 c6 c7 c8 : Nat) (T : TypeId) :
    Box9 (W.alloc (.cells (caseV a0 a1 a2 a3 a4 a5 A6 A7 A8 n6 n7 n8 c6 c7 c8) T)) g (.int .i64 a0) (.int .i64 a1) (.int .i64 a2) (.int .i64 a3) (.int .i64 a4) (.int .i64 a5) (.slice A6 n6 c6) (.slice A7 n7 c7) (.slice A8 n8 c8) := by
  subst hg; exact Box9.new W a0 a1 a2 a3 a4 a5 A6 A7 A8 n6 n7 n8 c6 c7 c8 T
theorem Row.made (W : World) (g : Nat) (hg : W.heap.size = g) (n : Nat) (l : List Bool) (T : TypeId) : Row (W.alloc (.cells (madeCells #[.bool false] n) T)) g n 0 l := by
  subst hg
  refine ⟨by simp, fun t ht => ?_, fun t ht => by simp [go_sem]⟩
  rw [made_cell W n t T ht, if_neg (Nat.not_lt_zero _)]
theorem Row.keep {W W2 : World} {g n j : Nat} {l : List Bool} (h : Row W g n j l) (hb : Below W.heap.size W W2) : Row W2 g n j l :=
  ⟨Nat.lt_of_lt_of_le h.lt hb.size, fun t ht => (hb.cell (p := ⟨g, t, none⟩) h.lt).trans (h.c t ht), fun t ht => (hb.frozen (p := ⟨g, t, none⟩) h.lt).trans (h.f t ht)⟩
/-- turned whole -/
theorem Row.whole {W : World} {g n : Nat} {l : List Bool} (h : Row W g n n l) (hn : n ≤ 100) : Kd.C Kd.bool W (some ⟨g, 0, none⟩) (turnV l n).length (turnV l n) := by
  rw [turnV_len]
  refine Kd.C_of_reads (d := false) (h1 := fun _ => rfl) ⟨turnV_len l n, by omega, fun _ => ⟨_, rfl, fun t ht => ?_⟩⟩
  have hc := h.c t ht
  rw [if_pos (by omega), ← turnV_get l n t ht] at hc
  have ha : (⟨g, 0, none⟩ : Addr).add t = ⟨g, t, none⟩ := by unfold Addr.add; split <;> simp_all
  rw [ha]
  exact hc
abbrev S18 (wr : World) (g g' : Nat) (a0 a1 a2 a3 a4 a5 a6 a7 a8 b0 b1 b2 b3 b4 b5 b6 b7 b8 : Value) (W : World) : Prop :=
  W.cell? ⟨g, 0, none⟩ = some a0 ∧ W.cell? ⟨g, 1, none⟩ = some a1 ∧ W.cell? ⟨g, 2, none⟩ = some a2 ∧ W.cell? ⟨g, 3, none⟩ = some a3 ∧ W.cell? ⟨g, 4, none⟩ = some a4 ∧ W.cell? ⟨g, 5, none⟩ = some a5 ∧ W.cell? ⟨g, 6, none⟩ = some a6 ∧ W.cell? ⟨g, 7, none⟩ = some a7 ∧ W.cell? ⟨g, 8, none⟩ = some a8 ∧ W.cell? ⟨g', 0, none⟩ = some b0 ∧ W.cell? ⟨g', 1, none⟩ = some b1 ∧ W.cell? ⟨g', 2, none⟩ = some b2 ∧ W.cell? ⟨g', 3, none⟩ = some b3 ∧ W.cell? ⟨g', 4, none⟩ = some b4 ∧ W.cell? ⟨g', 5, none⟩ = some b5 ∧ W.cell? ⟨g', 6, none⟩ = some b6 ∧ W.cell? ⟨g', 7, none⟩ = some b7 ∧ W.cell? ⟨g', 8, none⟩ = some b8 ∧ Below wr.heap.size wr W
theorem mk18 {wr W : World} {g g' : Nat} {a0 a1 a2 a3 a4 a5 a6 a7 a8 b0 b1 b2 b3 b4 b5 b6 b7 b8 : Value} (h : Box9 wr g a0 a1 a2 a3 a4 a5 a6 a7 a8) (h' : Box9 wr g' b0 b1 b2 b3 b4 b5 b6 b7 b8) (hb : Below wr.heap.size wr W) :
    S18 wr g g' a0 a1 a2 a3 a4 a5 a6 a7 a8 b0 b1 b2 b3 b4 b5 b6 b7 b8 W := by
  obtain ⟨_, z0, z1, z2, z3, z4, z5, z6, z7, z8⟩ := h.keep hb
  obtain ⟨_, y0, y1, y2, y3, y4, y5, y6, y7, y8⟩ := h'.keep hb
  exact ⟨z0, z1, z2, z3, z4, z5, z6, z7, z8, y0, y1, y2, y3, y4, y5, y6, y7, y8, hb⟩
theorem S18.step {wr W W2 : World} {g g' : Nat} {a0 a1 a2 a3 a4 a5 a6 a7 a8 b0 b1 b2 b3 b4 b5 b6 b7 b8 : Value} (h : Box9 wr g a0 a1 a2 a3 a4 a5 a6 a7 a8) (h' : Box9 wr g' b0 b1 b2 b3 b4 b5 b6 b7 b8)
    (hS : S18 wr g g' a0 a1 a2 a3 a4 a5 a6 a7 a8 b0 b1 b2 b3 b4 b5 b6 b7 b8 W) (hb : Below W.heap.size W W2) : S18 wr g g' a0 a1 a2 a3 a4 a5 a6 a7 a8 b0 b1 b2 b3 b4 b5 b6 b7 b8 W2 := by
  obtain ⟨_, _, _, _, _, _, _, _, _, _, _, _, _, _, _, _, _, _, hw⟩ := hS
  exact mk18 h h' (hw.trans (hb.mono hw.size))

set_option maxHeartbeats 2000000 in
set_option maxRecDepth 100000 in
theorem RouteTurned_walk (a0 a1 a2 a3 a4 a5 : Int) (A6 A7 A8 : Option Addr) (c6 c7 c8 : Nat) (l6 : List Int) (l7 l8 : List Bool) (w : World) (hE : Env w) (hC : CaseOk w A6 A7 A8 c6 c7 c8 l6 l7 l8) :
    Calls Tryd.prog 8 #[.agg (caseV a0 a1 a2 a3 a4 a5 A6 A7 A8 l6.length l7.length l8.length c6 c7 c8)] w fun e w' => e = .returned (.bool true) ∧ Below w.heap.size w w' := by
  have hA := fun (W : World) (h : Below w.heap.size w W) => alive_calls W (hE.below h)
  by_cases hn : l6.length ≤ 100
  · have hmk := run_make_row' (P := Tryd.prog) 23 4 (.bool false) 1 Tryd.underlying23 infoBool rfl .i64 .i64 l6.length (by omega) (by omega)
    go_enter Tryd.func8, Tryd.ntmps8
    go_wp2_with fail
    have hI := Lib.hid hC.r6
    have hR7 := Lib.hid hC.r7
    have hR8 := Lib.hid hC.r8
    go_loopw [22] (fun i wr => ∃ j : Nat, j ≤ l6.length ∧ i = .int .i64 j ∧ Below w.heap.size w wr ∧
        Box9 wr w.heap.size (.int .i64 a0) (.int .i64 a1) (.int .i64 a2) (.int .i64 a3) (.int .i64 a4) (.int .i64 a5) (.slice A6 l6.length c6) (.slice A7 l7.length c7) (.slice A8 l8.length c8) ∧
        Box9 wr (w.heap.size + 1) (.int .i64 a0) (.int .i64 a1) (.int .i64 a2) (.int .i64 a3) (.int .i64 a4) (.int .i64 a5) (.slice A6 l6.length c6) (.slice (some ⟨w.heap.size + 1 + 1, 0, none⟩) l6.length l6.length) (.slice (some ⟨w.heap.size + 1 + 1 + 1, 0, none⟩) l6.length l6.length) ∧
        Row wr (w.heap.size + 1 + 1) l6.length j l7 ∧ Row wr (w.heap.size + 1 + 1 + 1) l6.length j l8) (fun i _ => l6.length - (intOf i).toNat)
    case atStart =>
      refine ⟨0, Nat.zero_le _, rfl, by repeat (first | exact Below.refl _ _ | apply below_alloc), ?_, ?_, ?_, ?_⟩
      · exact ((Box9.new w _ _ _ _ _ _ _ _ _ _ _ _ _ _ _ _).keep (by repeat (first | exact Below.refl _ _ | apply below_alloc)))
      · exact ((Box9.at (w.alloc _) _ (by simp) _ _ _ _ _ _ _ _ _ _ _ _ _ _ _ _).keep (by repeat (first | exact Below.refl _ _ | apply below_alloc)))
      · exact ((Row.made ((w.alloc _).alloc _) _ (by simp) _ _ _).keep (by repeat (first | exact Below.refl _ _ | apply below_alloc)))
      · exact Row.made (((w.alloc _).alloc _).alloc _) _ (by simp) _ _ _
    case round =>
      obtain ⟨j, hj, rfl, hb, B0, B1, R7, R8⟩ := hrel
      have ⟨l0, z0, z1, z2, z3, z4, z5, z6, z7, z8⟩ := B0
      have ⟨l1, y0, y1, y2, y3, y4, y5, y6, y7, y8⟩ := B1
      by_cases hjn : j < l6.length
      · obtain ⟨-, -, h6⟩ := Kd.reads_of_C (d := (0 : Int)) hI.out
        obtain ⟨ad, rfl, h6c⟩ := h6 (by omega)
        have s0 := pw_cell_below hb (h6c 0 (by omega))
        rw [add_zero] at s0
        have hpos : 0 < l6.length := by omega
        have hjl : (j : Int) < (l6.length : Int) := by omega
        have sj := pw_cell_below hb (h6c j hjn)
        have q7 := R7.c (l6.length - 1 - j) (by omega)
        have q8 := R8.c (l6.length - 1 - j) (by omega)
        have f7 := R7.f (l6.length - 1 - j) (by omega)
        have f8 := R8.f (l6.length - 1 - j) (by omega)
        clear h6 h6c hmk
        generalize l6.getD 0 0 = S0 at *
        generalize l6.getD j 0 = SJ at *
        by_cases he : SJ = S0
        · subst he
          by_cases h7 : j < l7.length
          · obtain ⟨-, -, k7⟩ := Kd.reads_of_C (d := false) hR7.out
            obtain ⟨ad7, rfl, h7c⟩ := k7 (by omega)
            have m7 := pw_cell_below hb (h7c j h7)
            have hrng7 : (j : Int) < (l7.length : Int) := by omega
            clear h7c k7
            generalize hv7 : l7.getD j false = V7 at *
            by_cases h8 : j < l8.length
            · obtain ⟨-, -, k8⟩ := Kd.reads_of_C (d := false) hR8.out
              obtain ⟨ad8, rfl, h8c⟩ := k8 (by omega)
              have m8 : (wr.setCell ⟨w.heap.size + 1 + 1, l6.length - 1 - j, none⟩ (.bool V7)).cell? (ad8.add j) = some (.bool (l8.getD j false)) := pw_cell_below (below_set hb (by omega)) (h8c j h8)
              have hrng8 : (j : Int) < (l8.length : Int) := by omega
              clear h8c k8
              generalize hv8 : l8.getD j false = V8 at *
              have B0 := Lib.hid B0
              have B1 := Lib.hid B1
              have R7 := Lib.hid R7
              have R8 := Lib.hid R8
              go_wp2_with fail
              go_region
              go_wp2_with fail
              go_region
              go_wp2_with fail
              go_region
              go_wp2_with fail
              case roundEnd =>
                refine ⟨⟨j + 1, by omega, by go_num, ?_, ?_, ?_, ?_, ?_⟩, by simp [intOf]; omega⟩
                · repeat (first | exact hb | apply below_drew | (refine below_set ?_ (by omega)))
                · repeat (first | exact B0.out | apply Box9.drew | (refine Box9.set ?_ _ _ _ (by omega)))
                · repeat (first | exact B1.out | apply Box9.drew | (refine Box9.set ?_ _ _ _ (by omega)))
                · repeat (first | exact R7.out | apply Row.drew | (refine Row.far ?_ _ _ _ (by omega)) | (refine Row.next ?_ hjn _ hv7.symm))
                · repeat (first | exact R8.out | apply Row.drew | (refine Row.far ?_ _ _ _ (by omega)) | (refine Row.next ?_ hjn _ hv8.symm))
            · have hrng8 : ¬ (j : Int) < (l8.length : Int) := by omega
              have hv8 : l8.getD j false = false := by rw [List.getD_eq_getElem?_getD, List.getElem?_eq_none (by omega)]; rfl
              have B0 := Lib.hid B0
              have B1 := Lib.hid B1
              have R7 := Lib.hid R7
              have R8 := Lib.hid R8
              go_wp2_with fail
              go_region
              go_wp2_with fail
              go_region
              go_wp2_with fail
              go_region
              go_wp2_with fail
              case roundEnd =>
                refine ⟨⟨j + 1, by omega, by go_num, ?_, ?_, ?_, ?_, ?_⟩, by simp [intOf]; omega⟩
                · repeat (first | exact hb | apply below_drew | (refine below_set ?_ (by omega)))
                · repeat (first | exact B0.out | apply Box9.drew | (refine Box9.set ?_ _ _ _ (by omega)))
                · repeat (first | exact B1.out | apply Box9.drew | (refine Box9.set ?_ _ _ _ (by omega)))
                · repeat (first | exact R7.out | apply Row.drew | (refine Row.far ?_ _ _ _ (by omega)) | (refine Row.next ?_ hjn _ hv7.symm))
                · repeat (first | exact R8.out | apply Row.drew | (refine Row.far ?_ _ _ _ (by omega)) | (refine Row.next ?_ hjn _ hv8.symm))
          · have hrng7 : ¬ (j : Int) < (l7.length : Int) := by omega
            have hv7 : l7.getD j false = false := by rw [List.getD_eq_getElem?_getD, List.getElem?_eq_none (by omega)]; rfl
            by_cases h8 : j < l8.length
            · obtain ⟨-, -, k8⟩ := Kd.reads_of_C (d := false) hR8.out
              obtain ⟨ad8, rfl, h8c⟩ := k8 (by omega)
              have m8 : (wr.setCell ⟨w.heap.size + 1 + 1, l6.length - 1 - j, none⟩ (.bool false)).cell? (ad8.add j) = some (.bool (l8.getD j false)) := pw_cell_below (below_set hb (by omega)) (h8c j h8)
              have hrng8 : (j : Int) < (l8.length : Int) := by omega
              clear h8c k8
              generalize hv8 : l8.getD j false = V8 at *
              have B0 := Lib.hid B0
              have B1 := Lib.hid B1
              have R7 := Lib.hid R7
              have R8 := Lib.hid R8
              go_wp2_with fail
              go_region
              go_wp2_with fail
              go_region
              go_wp2_with fail
              go_region
              go_wp2_with fail
              case roundEnd =>
                refine ⟨⟨j + 1, by omega, by go_num, ?_, ?_, ?_, ?_, ?_⟩, by simp [intOf]; omega⟩
                · repeat (first | exact hb | apply below_drew | (refine below_set ?_ (by omega)))
                · repeat (first | exact B0.out | apply Box9.drew | (refine Box9.set ?_ _ _ _ (by omega)))
                · repeat (first | exact B1.out | apply Box9.drew | (refine Box9.set ?_ _ _ _ (by omega)))
                · repeat (first | exact R7.out | apply Row.drew | (refine Row.far ?_ _ _ _ (by omega)) | (refine Row.next ?_ hjn _ hv7.symm))
                · repeat (first | exact R8.out | apply Row.drew | (refine Row.far ?_ _ _ _ (by omega)) | (refine Row.next ?_ hjn _ hv8.symm))
            · have hrng8 : ¬ (j : Int) < (l8.length : Int) := by omega
              have hv8 : l8.getD j false = false := by rw [List.getD_eq_getElem?_getD, List.getElem?_eq_none (by omega)]; rfl
              have B0 := Lib.hid B0
              have B1 := Lib.hid B1
              have R7 := Lib.hid R7
              have R8 := Lib.hid R8
              go_wp2_with fail
              go_region
              go_wp2_with fail
              go_region
              go_wp2_with fail
              go_region
              go_wp2_with fail
              case roundEnd =>
                refine ⟨⟨j + 1, by omega, by go_num, ?_, ?_, ?_, ?_, ?_⟩, by simp [intOf]; omega⟩
                · repeat (first | exact hb | apply below_drew | (refine below_set ?_ (by omega)))
                · repeat (first | exact B0.out | apply Box9.drew | (refine Box9.set ?_ _ _ _ (by omega)))
                · repeat (first | exact B1.out | apply Box9.drew | (refine Box9.set ?_ _ _ _ (by omega)))
                · repeat (first | exact R7.out | apply Row.drew | (refine Row.far ?_ _ _ _ (by omega)) | (refine Row.next ?_ hjn _ hv7.symm))
                · repeat (first | exact R8.out | apply Row.drew | (refine Row.far ?_ _ _ _ (by omega)) | (refine Row.next ?_ hjn _ hv8.symm))
        · have hne : (SJ != S0) = true := bne_iff_ne.2 he
          go_wp2_with fail
          go_region
          go_wp2_with (go_at_call 9; refine (hA _ (by repeat (first | exact hb | apply below_drew))).mono ?_; rintro e w2 ⟨rfl, hb2⟩)
          go_ret
          exact ⟨rfl, (below_drew hb).trans (hb2.mono (below_drew hb).size)⟩
      · obtain rfl : j = l6.length := by omega
        have hbw := hb
        have hA' := fun (W : World) (h : Below wr.heap.size wr W) => alive_calls W (hE.below (hb.trans (h.mono hb.size)))
        have hCr := hC.below hb
        have hD := fun (W : World) (h : Below wr.heap.size wr W) => DecideC a0 a1 a2 a3 a4 a5 (hCr.below h)
        have r7 := Lib.hid (R7.whole hn)
        have r8 := Lib.hid (R8.whole hn)
        have k7 := turnV_len l7 l6.length
        have k8 := turnV_len l8 l6.length
        have hCt : CaseOk wr A6 (some ⟨w.heap.size + 1 + 1, 0, none⟩) (some ⟨w.heap.size + 1 + 1 + 1, 0, none⟩) c6 l6.length l6.length l6 (turnV l7 l6.length) (turnV l8 l6.length) :=
          ⟨hCr.r6, hCr.h6, hCr.m6, r7.out, by omega, by omega, r8.out, by omega, by omega⟩
        have hT := fun (W : World) (h : Below wr.heap.size wr W) => DecideC a0 a1 a2 a3 a4 a5 (hCt.below h)
        rw [decideV_turn] at hT
        rw [k7, k8] at hT
        generalize decideV a0 a1 a2 a3 a4 a5 l6 l7 l8 = X at *
        obtain ⟨k, x, y, z⟩ := X
        clear hA hmk hI hR7 hR8 R7 R8 r7 r8 hCt hCr k7 k8
        have B0h := Lib.hid B0
        have B1h := Lib.hid B1
        clear B0 B1
        go_wp2_with fail
        go_region_held3 (fun w' => w'.cell? ⟨w.heap.size, 0, none⟩ = some (.int .i64 a0) ∧ w'.cell? ⟨w.heap.size, 1, none⟩ = some (.int .i64 a1) ∧ w'.cell? ⟨w.heap.size, 2, none⟩ = some (.int .i64 a2) ∧ w'.cell? ⟨w.heap.size, 3, none⟩ = some (.int .i64 a3) ∧ w'.cell? ⟨w.heap.size, 4, none⟩ = some (.int .i64 a4) ∧ w'.cell? ⟨w.heap.size, 5, none⟩ = some (.int .i64 a5) ∧ w'.cell? ⟨w.heap.size, 6, none⟩ = some (.slice A6 l6.length c6) ∧ w'.cell? ⟨w.heap.size, 7, none⟩ = some (.slice A7 l7.length c7) ∧ w'.cell? ⟨w.heap.size, 8, none⟩ = some (.slice A8 l8.length c8) ∧ w'.cell? ⟨w.heap.size + 1, 0, none⟩ = some (.int .i64 a0) ∧ w'.cell? ⟨w.heap.size + 1, 1, none⟩ = some (.int .i64 a1) ∧ w'.cell? ⟨w.heap.size + 1, 2, none⟩ = some (.int .i64 a2) ∧ w'.cell? ⟨w.heap.size + 1, 3, none⟩ = some (.int .i64 a3) ∧ w'.cell? ⟨w.heap.size + 1, 4, none⟩ = some (.int .i64 a4) ∧ w'.cell? ⟨w.heap.size + 1, 5, none⟩ = some (.int .i64 a5) ∧ w'.cell? ⟨w.heap.size + 1, 6, none⟩ = some (.slice A6 l6.length c6) ∧ w'.cell? ⟨w.heap.size + 1, 7, none⟩ = some (.slice (some ⟨w.heap.size + 1 + 1, 0, none⟩) l6.length l6.length) ∧ w'.cell? ⟨w.heap.size + 1, 8, none⟩ = some (.slice (some ⟨w.heap.size + 1 + 1 + 1, 0, none⟩) l6.length l6.length) ∧ Below wr.heap.size wr w')
          (first | exact S18.step B0h.out B1h.out (by assumption) hb | exact mk18 B0h.out B1h.out (below_drew (Below.refl _ _)))
          (first
            | (go_at_call 9; (with_reducible refine (hA' _ (by go_split_ands; assumption)).mono ?_); rintro e w2 ⟨rfl, hb⟩)
            | (go_at_call 10; (first | (with_reducible refine (hD _ (by go_split_ands; assumption)).mono ?_) | (with_reducible refine (hT _ (by go_split_ands; assumption)).mono ?_)); rintro e w2 ⟨rfl, hb⟩))
        go_split_ands
        go_wp2
        go_ret
        exact ⟨rfl, hbw.trans (Below.mono (by assumption) hbw.size)⟩
  · have hn' : 100 < (l6.length : Int) := by omega
    go_enter Tryd.func8, Tryd.ntmps8
    go_wp2_with (go_at_call 9; refine (hA _ (below_new w _)).mono ?_; rintro e w2 ⟨rfl, hb2⟩)
    go_ret
    exact ⟨rfl, (below_new w _).trans (hb2.mono (below_new w _).size)⟩
end Go.Proofs.YtnccoopefajohaaDoor
