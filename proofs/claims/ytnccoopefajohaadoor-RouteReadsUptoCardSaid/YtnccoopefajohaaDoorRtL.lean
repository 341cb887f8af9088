/- The laws of this layer, but the last: each is true for every input. Conditions: the listed variables as laid; of RouteReads: texts of at most 2^20 bytes. -/
import Derived.Test.YtnccoopefajohaaDoorRtA
import Derived.Test.YtnccoopefajohaaDoorOpen
import Derived.Outline
set_option linter.unusedVariables false
set_option linter.unusedSimpArgs false
namespace Go.Proofs.YtnccoopefajohaaDoor
open Go.RowKit Go.Proofs.YtnccoopefajohaaDoorW.PrintWords
open RtS RtR R04P

/-- A block of four values. -/
structure Box4 (W : World) (g : Nat) (a b c d : Value) : Prop where
  lt : g < W.heap.size
  c0 : W.cell? ⟨g, 0, none⟩ = some a
  c1 : W.cell? ⟨g, 1, none⟩ = some b
  c2 : W.cell? ⟨g, 2, none⟩ = some c
  c3 : W.cell? ⟨g, 3, none⟩ = some d
theorem Box4.keep {W W2 : World} {g : Nat} {a b c d : Value} (h : Box4 W g a b c d) (hb : Below W.heap.size W W2) : Box4 W2 g a b c d :=
  ⟨Nat.lt_of_lt_of_le h.lt hb.size, (hb.cell (p := ⟨g, 0, none⟩) h.lt).trans h.c0, (hb.cell (p := ⟨g, 1, none⟩) h.lt).trans h.c1, (hb.cell (p := ⟨g, 2, none⟩) h.lt).trans h.c2, (hb.cell (p := ⟨g, 3, none⟩) h.lt).trans h.c3⟩
theorem Box4.new (W : World) (k x y z : Int) (T : TypeId) : Box4 (W.alloc (.cells #[.int .i64 k, .int .i64 x, .int .i64 y, .int .i64 z] T)) W.heap.size (.int .i64 k) (.int .i64 x) (.int .i64 y) (.int .i64 z) :=
  ⟨by simp, by simp [go_sem], by simp [go_sem], by simp [go_sem], by simp [go_sem]⟩
theorem below_new (W : World) (o : Obj) : Below W.heap.size W (W.alloc o) := below_alloc (Below.refl _ _) _
/-- The rows of a Case, as read. -/
structure CaseOk (w : World) (A6 A7 A8 : Option Addr) (c6 c7 c8 : Nat) (l6 : List Int) (l7 l8 : List Bool) : Prop where
  r6 : Kd.C (Kd.int .i64) w A6 l6.length l6
  h6 : l6.length ≤ c6
  m6 : l6.length ≤ 9223372036854775807
  r7 : Kd.C Kd.bool w A7 l7.length l7
  h7 : l7.length ≤ c7
  m7 : l7.length ≤ 9223372036854775807
  r8 : Kd.C Kd.bool w A8 l8.length l8
  h8 : l8.length ≤ c8
  m8 : l8.length ≤ 9223372036854775807
theorem CaseOk.below {w w' : World} {A6 A7 A8 : Option Addr} {c6 c7 c8 : Nat} {l6 : List Int} {l7 l8 : List Bool} (h : CaseOk w A6 A7 A8 c6 c7 c8 l6 l7 l8) (b : Below w.heap.size w w') : CaseOk w' A6 A7 A8 c6 c7 c8 l6 l7 l8 :=
  ⟨Kd.C_below h.r6 b, h.h6, h.m6, Kd.C_below h.r7 b, h.h7, h.m7, Kd.C_below h.r8 b, h.h8, h.m8⟩
abbrev caseV (a0 a1 a2 a3 a4 a5 : Int) (A6 A7 A8 : Option Addr) (n6 n7 n8 c6 c7 c8 : Nat) : Array Value :=
  #[.int .i64 a0, .int .i64 a1, .int .i64 a2, .int .i64 a3, .int .i64 a4, .int .i64 a5, .slice A6 n6 c6, .slice A7 n7 c7, .slice A8 n8 c8]
theorem DecideC (a0 a1 a2 a3 a4 a5 : Int) {A6 A7 A8 : Option Addr} {c6 c7 c8 : Nat} {l6 : List Int} {l7 l8 : List Bool} {w : World} (h : CaseOk w A6 A7 A8 c6 c7 c8 l6 l7 l8) :
    Calls Tryd.prog 10 #[.agg (caseV a0 a1 a2 a3 a4 a5 A6 A7 A8 l6.length l7.length l8.length c6 c7 c8)] w
      fun e w' => e = .returned (decV (decideV a0 a1 a2 a3 a4 a5 l6 l7 l8)) ∧ Below w.heap.size w w' :=
  Decide_calls a0 a1 a2 a3 a4 a5 A6 A7 A8 c6 c7 c8 l6 l7 l8 w h.r6 h.h6 h.m6 h.r7 h.h7 h.r8 h.h8
theorem refDecideC (a0 a1 a2 a3 a4 a5 : Int) {A6 A7 A8 : Option Addr} {c6 c7 c8 : Nat} {l6 : List Int} {l7 l8 : List Bool} {w : World} (h : CaseOk w A6 A7 A8 c6 c7 c8 l6 l7 l8) :
    Calls Tryd.prog 11 #[.agg (caseV a0 a1 a2 a3 a4 a5 A6 A7 A8 l6.length l7.length l8.length c6 c7 c8)] w
      fun e w' => e = .returned (decV (decideV a0 a1 a2 a3 a4 a5 l6 l7 l8)) ∧ Below w.heap.size w w' :=
  refDecide_calls a0 a1 a2 a3 a4 a5 A6 A7 A8 c6 c7 c8 l6 l7 l8 w h.r6 h.h6 h.m6 h.r7 h.h7 h.r8 h.h8
/-- A block of nine values, in a world that has grown behind it. -/
abbrev S9 (w : World) (g : Nat) (a0 a1 a2 a3 a4 a5 a6 a7 a8 : Value) (W : World) : Prop :=
  W.cell? ⟨g, 0, none⟩ = some a0 ∧ W.cell? ⟨g, 1, none⟩ = some a1 ∧ W.cell? ⟨g, 2, none⟩ = some a2 ∧ W.cell? ⟨g, 3, none⟩ = some a3 ∧ W.cell? ⟨g, 4, none⟩ = some a4 ∧ W.cell? ⟨g, 5, none⟩ = some a5 ∧
    W.cell? ⟨g, 6, none⟩ = some a6 ∧ W.cell? ⟨g, 7, none⟩ = some a7 ∧ W.cell? ⟨g, 8, none⟩ = some a8 ∧ g < W.heap.size ∧ Below g w W
theorem keep9 {w W W2 : World} {g : Nat} {a0 a1 a2 a3 a4 a5 a6 a7 a8 : Value} (h : S9 w g a0 a1 a2 a3 a4 a5 a6 a7 a8 W) (hb : Below W.heap.size W W2) : S9 w g a0 a1 a2 a3 a4 a5 a6 a7 a8 W2 := by
  obtain ⟨z0, z1, z2, z3, z4, z5, z6, z7, z8, lt, b⟩ := h
  exact ⟨(hb.cell (p := ⟨g, 0, none⟩) lt).trans z0, (hb.cell (p := ⟨g, 1, none⟩) lt).trans z1, (hb.cell (p := ⟨g, 2, none⟩) lt).trans z2, (hb.cell (p := ⟨g, 3, none⟩) lt).trans z3, (hb.cell (p := ⟨g, 4, none⟩) lt).trans z4,
    (hb.cell (p := ⟨g, 5, none⟩) lt).trans z5, (hb.cell (p := ⟨g, 6, none⟩) lt).trans z6, (hb.cell (p := ⟨g, 7, none⟩) lt).trans z7, (hb.cell (p := ⟨g, 8, none⟩) lt).trans z8, Nat.lt_of_lt_of_le lt hb.size, b.trans (hb.mono (Nat.le_of_lt lt))⟩

/-- A block of nine values. -/
structure Box9 (W : World) (g : Nat) (a0 a1 a2 a3 a4 a5 a6 a7 a8 : Value) : Prop where
  lt : g < W.heap.size
  c0 : W.cell? ⟨g, 0, none⟩ = some a0
  c1 : W.cell? ⟨g, 1, none⟩ = some a1
  c2 : W.cell? ⟨g, 2, none⟩ = some a2
  c3 : W.cell? ⟨g, 3, none⟩ = some a3
  c4 : W.cell? ⟨g, 4, none⟩ = some a4
  c5 : W.cell? ⟨g, 5, none⟩ = some a5
  c6 : W.cell? ⟨g, 6, none⟩ = some a6
  c7 : W.cell? ⟨g, 7, none⟩ = some a7
  c8 : W.cell? ⟨g, 8, none⟩ = some a8
theorem Box9.keep {W W2 : World} {g : Nat} {a0 a1 a2 a3 a4 a5 a6 a7 a8 : Value} (h : Box9 W g a0 a1 a2 a3 a4 a5 a6 a7 a8) (hb : Below W.heap.size W W2) : Box9 W2 g a0 a1 a2 a3 a4 a5 a6 a7 a8 :=
  ⟨Nat.lt_of_lt_of_le h.lt hb.size, (hb.cell (p := ⟨g, 0, none⟩) h.lt).trans h.c0, (hb.cell (p := ⟨g, 1, none⟩) h.lt).trans h.c1, (hb.cell (p := ⟨g, 2, none⟩) h.lt).trans h.c2, (hb.cell (p := ⟨g, 3, none⟩) h.lt).trans h.c3,
   (hb.cell (p := ⟨g, 4, none⟩) h.lt).trans h.c4, (hb.cell (p := ⟨g, 5, none⟩) h.lt).trans h.c5, (hb.cell (p := ⟨g, 6, none⟩) h.lt).trans h.c6, (hb.cell (p := ⟨g, 7, none⟩) h.lt).trans h.c7, (hb.cell (p := ⟨g, 8, none⟩) h.lt).trans h.c8⟩
theorem Box9.new (W : World) (a0 a1 a2 a3 a4 a5 : Int) (A6 A7 A8 : Option Addr) (n6 n7 n8 c6 c7 c8 : Nat) (T : TypeId) :
    Box9 (W.alloc (.cells (caseV a0 a1 a2 a3 a4 a5 A6 A7 A8 n6 n7 n8 c6 c7 c8) T)) W.heap.size (.int .i64 a0) (.int .i64 a1) (.int .i64 a2) (.int .i64 a3) (.int .i64 a4) (.int .i64 a5) (.slice A6 n6 c6) (.slice A7 n7 c7) (.slice A8 n8 c8) :=
  ⟨by simp, by simp [go_sem], by simp [go_sem], by simp [go_sem], by simp [go_sem], by simp [go_sem], by simp [go_sem], by simp [go_sem], by simp [go_sem], by simp [go_sem]⟩
set_option maxRecDepth 100000 in
theorem RouteReads_walk (s : ByteArray) (hs : s.size ≤ 1048576) (w : World) (hE : Env w) : Calls Tryd.prog 5 #[.string s] w fun e w' => e = .returned (.bool true) ∧ Below w.heap.size w w' := by
  have hR := fun W h => Read_calls s (by omega) W h
  have hF := fun W => refRead_calls s hs W
  rw [refRead_eq] at hF
  have hX := readV_sound s.data.toList
  generalize readV s.data.toList = X at *
  obtain ⟨k, x, y, z, b⟩ := X
  go_enter Tryd.func5, Tryd.ntmps5
  go_wp2_with fail
  refine (hR _ hE).mono ?_
  rintro e w1 ⟨rfl, hb1⟩
  clear hR
  go_wp2_with fail
  refine (hF _).mono ?_
  rintro e w2 ⟨rfl, hb2⟩
  have hb12 := (below_new w1 _).trans (hb2.mono (below_new w1 _).size)
  have hbw2 := hb1.trans (hb12.mono hb1.size)
  have B1 := (Box4.new w1 k x y z 28).keep hb2
  have l1 := B1.lt
  have n1 : w1.heap.size ≠ w2.heap.size := by omega
  clear hb2 hb1 hF hb12
  go_wp2_with fail
  refine (alive_calls _ (hE.below (hbw2.trans ((below_new w2 _).mono hbw2.size)))).mono ?_
  rintro e w3 ⟨rfl, hb3⟩
  have hb23 := (below_new w2 _).trans (hb3.mono (below_new w2 _).size)
  have hbw3 := hbw2.trans (hb23.mono hbw2.size)
  have B2 := (Box4.new w2 k x y z 28).keep hb3
  have B3 := B1.keep hb23
  obtain ⟨d0, d1, d2, d3, d4⟩ := B2
  obtain ⟨e0, e1, e2, e3, e4⟩ := B3
  clear hb3 hb23 hbw2 B1 l1 n1
  cases b with
  | false =>
    clear hX
    go_wp2
    go_ret
    exact ⟨rfl, hbw3⟩
  | true =>
    rcases hX with hX | ⟨k', x', y', z', hX, hv, ht⟩
    · cases hX
    · cases hX
      have hT := fun W h => Text_calls k x y z ⟨by have := hv.slot; omega, by have := hv.slot; omega⟩ ⟨by have := hv.node; omega, by have := hv.node; omega⟩ ⟨by have := hv.token; omega, by have := hv.token; omega⟩ W h
      rw [ht] at hT
      have hT' := fun W h => hT W h
      clear hT ht hv
      go_wp2_with (go_at_call 12; refine (hT' _ (hE.below hbw3)).mono ?_; rintro e w4 ⟨rfl, hb4⟩)
      go_ret
      exact ⟨rfl, hbw3.trans (hb4.mono hbw3.size)⟩

theorem textV_len (k x y z : Int) (hx : I64 x) (hy : I64 y) (hz : I64 z) : (textV k x y z).length ≤ 100 := by
  have hwl : (wordV k).length ≤ 11 := by unfold wordV; repeat' split
                                         all_goals decide
  have hm3 : moreV k ≤ 3 := by unfold moreV; split <;> (try split) <;> omega
  have l1 : (Lib.itoa x).length ≤ 21 := Lib.itoa_length_le _ hx.1 hx.2
  have l2 : (Lib.itoa y).length ≤ 21 := Lib.itoa_length_le _ hy.1 hy.2
  have l3 : (Lib.itoa z).length ≤ 21 := Lib.itoa_length_le _ hz.1 hz.2
  have : moreV k = 0 ∨ moreV k = 1 ∨ moreV k = 2 ∨ moreV k = 3 := by omega
  unfold textV
  rcases this with h | h | h | h <;> rw [h] <;> simp [joinT] <;> omega

set_option maxRecDepth 100000 in
theorem RouteTexts_walk (k x y z : Int) (hx : I64 x) (hy : I64 y) (hz : I64 z) (w : World) (hE : Env w) :
    Calls Tryd.prog 4 #[.agg #[.int .i64 k, .int .i64 x, .int .i64 y, .int .i64 z]] w fun e w' => e = .returned (.bool true) ∧ Below w.heap.size w w' := by
  have hl := textV_len k x y z hx hy hz
  have hT := fun W h => Text_calls k x y z hx hy hz W h
  have hU := fun W => refText_calls k x y z hx hy hz W
  generalize textV k x y z = T at *
  have hs : (⟨T.toArray⟩ : ByteArray).size ≤ 100 := by rw [size_mk]; exact hl
  have hR := fun W h => Read_calls ⟨T.toArray⟩ (by omega) W h
  have hF := fun W => refRead_calls ⟨T.toArray⟩ (by omega) W
  rw [refRead_eq] at hF
  generalize (⟨T.toArray⟩ : ByteArray) = s at *
  generalize readV s.data.toList = X at *
  obtain ⟨k', x', y', z', b⟩ := X
  go_enter Tryd.func4, Tryd.ntmps4
  go_wp2_with fail
  refine (hT _ (hE.below (by repeat (first | exact Below.refl _ _ | apply below_alloc)))).mono ?_
  rintro e w1 ⟨rfl, hb1⟩
  have B0 := (Box4.new w k x y z 28).keep hb1
  have hbw1 := (below_new w _).trans (hb1.mono (below_new w _).size)
  clear hT hb1
  go_wp2_with fail
  refine (hR _ (hE.below hbw1)).mono ?_
  rintro e w2 ⟨rfl, hb2⟩
  have B0 := B0.keep hb2
  have hbw2 := hbw1.trans (hb2.mono hbw1.size)
  have l0 := B0.lt
  have n0 : w.heap.size ≠ w2.heap.size := by omega
  have ⟨_, c0, c1, c2, c3⟩ := B0
  clear hR hbw1 hb2
  go_wp2_with fail
  refine (hU _).mono ?_
  rintro e w3 ⟨rfl, hb3⟩
  have B1 := (Box4.new w2 k' x' y' z' 28).keep hb3
  have hb23 := (below_new w2 _).trans (hb3.mono (below_new w2 _).size)
  have B0 := B0.keep hb23
  have hbw3 := hbw2.trans (hb23.mono hbw2.size)
  clear n0 l0 c0 c1 c2 c3 hb23 hb3 hbw2
  go_wp2_with fail
  refine (hF _).mono ?_
  rintro e w4 ⟨rfl, hb4⟩
  have B1 := B1.keep hb4
  have B0 := B0.keep hb4
  have hbw4 := hbw3.trans (hb4.mono hbw3.size)
  have l0 := B0.lt
  have l1 := B1.lt
  have n0 : w.heap.size ≠ w4.heap.size := by omega
  have n1 : w2.heap.size ≠ w4.heap.size := by omega
  clear hF hb4 hbw3
  go_wp2_with fail
  refine (alive_calls _ (hE.below (hbw4.trans ((below_new w4 _).mono hbw4.size)))).mono ?_
  rintro e w5 ⟨rfl, hb5⟩
  have hb45 := (below_new w4 _).trans (hb5.mono (below_new w4 _).size)
  have hbw5 := hbw4.trans (hb45.mono hbw4.size)
  have B2 := (Box4.new w4 k' x' y' z' 28).keep hb5
  have B1 := B1.keep hb45
  have B0 := B0.keep hb45
  clear hb5 hb45 hbw4 l0 l1 n0 n1
  obtain ⟨d, d0, d1, d2, d3⟩ := B0
  go_wp2_with fail
  refine (hU _).mono ?_
  rintro e w6 ⟨rfl, hb6⟩
  have hbw6 := hbw5.trans (hb6.mono hbw5.size)
  have B1 := B1.keep hb6
  have B2 := B2.keep hb6
  clear d0 d1 d2 d3 hb6 hU hbw5
  obtain ⟨d, d0, d1, d2, d3⟩ := B1
  obtain ⟨e, e0, e1, e2, e3⟩ := B2
  go_wp2
  go_ret
  exact ⟨rfl, hbw6⟩

set_option maxRecDepth 100000 in
theorem RouteDecides_walk (a0 a1 a2 a3 a4 a5 : Int) (A6 A7 A8 : Option Addr) (c6 c7 c8 : Nat) (l6 : List Int) (l7 l8 : List Bool) (w : World) (hE : Env w) (hC : CaseOk w A6 A7 A8 c6 c7 c8 l6 l7 l8) :
    Calls Tryd.prog 3 #[.agg (caseV a0 a1 a2 a3 a4 a5 A6 A7 A8 l6.length l7.length l8.length c6 c7 c8)] w fun e w' => e = .returned (.bool true) ∧ Below w.heap.size w w' := by
  have hA := fun (W : World) (h : Below w.heap.size w W) => alive_calls W (hE.below h)
  have hD := fun (W : World) (h : Below w.heap.size w W) => DecideC a0 a1 a2 a3 a4 a5 (hC.below h)
  have hF := fun (W : World) (h : Below w.heap.size w W) => refDecideC a0 a1 a2 a3 a4 a5 (hC.below h)
  generalize decideV a0 a1 a2 a3 a4 a5 l6 l7 l8 = X at *
  obtain ⟨k, x, y, z⟩ := X
  go_enter Tryd.func3, Tryd.ntmps3
  go_wp2_with fail
  go_region_held3 (fun w' => w'.cell? ⟨w.heap.size, 0, none⟩ = some (.int .i64 a0) ∧ w'.cell? ⟨w.heap.size, 1, none⟩ = some (.int .i64 a1) ∧ w'.cell? ⟨w.heap.size, 2, none⟩ = some (.int .i64 a2) ∧ w'.cell? ⟨w.heap.size, 3, none⟩ = some (.int .i64 a3) ∧ w'.cell? ⟨w.heap.size, 4, none⟩ = some (.int .i64 a4) ∧ w'.cell? ⟨w.heap.size, 5, none⟩ = some (.int .i64 a5) ∧ w'.cell? ⟨w.heap.size, 6, none⟩ = some (.slice A6 l6.length c6) ∧ w'.cell? ⟨w.heap.size, 7, none⟩ = some (.slice A7 l7.length c7) ∧ w'.cell? ⟨w.heap.size, 8, none⟩ = some (.slice A8 l8.length c8) ∧ w.heap.size < w'.heap.size ∧ Below w.heap.size w w')
    (first | exact keep9 (by assumption) hb | exact ⟨by simp [go_sem], by simp [go_sem], by simp [go_sem], by simp [go_sem], by simp [go_sem], by simp [go_sem], by simp [go_sem], by simp [go_sem], by simp [go_sem], by simp [go_sem], below_drew (below_alloc (Below.refl _ _) _)⟩)
    (first
      | (go_at_call 9; (with_reducible refine (hA _ (by go_split_ands; assumption)).mono ?_); rintro e w2 ⟨rfl, hb⟩)
      | (go_at_call 10; (with_reducible refine (hD _ (by go_split_ands; assumption)).mono ?_); rintro e w2 ⟨rfl, hb⟩)
      | (go_at_call 11; (with_reducible refine (hF _ (by go_split_ands; assumption)).mono ?_); rintro e w2 ⟨rfl, hb⟩))
  go_split_ands
  go_wp2
  go_ret
  exact ⟨rfl, by assumption⟩

theorem cnt_zero (l : List Bool) : ∀ n, cnt l n = 0 → ∀ j, j < n → l.getD j false = false
  | 0, _, j, hj => absurd hj (Nat.not_lt_zero j)
  | n + 1, h, j, hj => by
    rw [RtP.cnt_step l n] at h
    by_cases hjn : j = n
    · subst hjn
      cases hb : l.getD j false with
      | false => rfl
      | true => rw [hb] at h; simp at h
    · exact cnt_zero l n (by omega) j (by omega)
/-- who is served: held back are none, and the node owns the slot or was asked by its own token -/
theorem decideV_serves (a0 a1 a2 a3 a4 a5 : Int) (l6 : List Int) (l7 l8 : List Bool) (h : (decideV a0 a1 a2 a3 a4 a5 l6 l7 l8).1 = 1) (hn : l6.length ≠ 0) :
    cnt l8 l6.length = 0 ∧ (a1 = a0 ∨ (0 < a5 ∧ a5 = a4 ∧ 0 ≤ a3)) := by
  unfold decideV at h
  rw [if_neg hn] at h
  by_cases h1 : same l6 = false
  · rw [if_pos h1] at h; simp at h
  · rw [if_neg h1] at h
    by_cases h2 : a1 = a0
    · rw [if_pos h2] at h
      by_cases h3 : 0 < cnt l8 l6.length
      · rw [if_pos h3] at h; simp at h
      · exact ⟨by omega, Or.inl h2⟩
    · rw [if_neg h2] at h
      by_cases h3 : 0 ≤ a3 ∧ 0 < a5 ∧ a5 = a4
      · rw [if_pos h3] at h
        by_cases h4 : 0 < cnt l8 l6.length ∨ (1 < l6.length ∧ cnt l7 l6.length < l6.length)
        · rw [if_pos h4] at h; simp at h
        · exact ⟨by omega, Or.inr ⟨h3.2.1, h3.2.2, h3.1⟩⟩
      · rw [if_neg h3] at h
        by_cases h4 : a1 < 0
        · rw [if_pos h4] at h; simp at h
        · rw [if_neg h4] at h; simp at h

set_option maxRecDepth 100000 in
theorem RouteServes_walk (a0 a1 a2 a3 a4 a5 : Int) (A6 A7 A8 : Option Addr) (c6 c7 c8 : Nat) (l6 : List Int) (l7 l8 : List Bool) (w : World) (hE : Env w) (hC : CaseOk w A6 A7 A8 c6 c7 c8 l6 l7 l8) :
    Calls Tryd.prog 6 #[.agg (caseV a0 a1 a2 a3 a4 a5 A6 A7 A8 l6.length l7.length l8.length c6 c7 c8)] w fun e w' => e = .returned (.bool true) ∧ Below w.heap.size w w' := by
  have hD := fun (W : World) (h : Below w.heap.size w W) => DecideC a0 a1 a2 a3 a4 a5 (hC.below h)
  have hX := decideV_serves a0 a1 a2 a3 a4 a5 l6 l7 l8
  generalize decideV a0 a1 a2 a3 a4 a5 l6 l7 l8 = X at *
  obtain ⟨k, x, y, z⟩ := X
  have HX := Lib.hid hX
  clear hX
  have h6m := hC.m6
  have h8m := hC.m8
  have h8c := hC.h8
  go_enter Tryd.func6, Tryd.ntmps6
  go_wp2_with fail
  refine (hD _ (below_new w _)).mono ?_
  rintro e w1 ⟨rfl, hb1⟩
  have hbw1 := (below_new w _).trans (hb1.mono (below_new w _).size)
  have B0 := (Box9.new w a0 a1 a2 a3 a4 a5 A6 A7 A8 l6.length l7.length l8.length c6 c7 c8 25).keep hb1
  have l0 := B0.lt
  have n0 : w.heap.size ≠ w1.heap.size := by omega
  have hC1 := hC.below hbw1
  have hC8 := hC1.r8
  clear hb1 hD
  have hEr := hE.below (hbw1.trans ((below_new w1 (.cells #[.int .i64 k, .int .i64 x, .int .i64 y, .int .i64 z] 28)).mono hbw1.size))
  have ⟨lt, z0, z1, z2, z3, z4, z5, z6, z7, z8⟩ := B0
  have fin : ∀ w', Below (w1.alloc (.cells #[.int .i64 k, .int .i64 x, .int .i64 y, .int .i64 z] 28)).heap.size (w1.alloc (.cells #[.int .i64 k, .int .i64 x, .int .i64 y, .int .i64 z] 28)) w' → Below w.heap.size w w' := fun w' h =>
    hbw1.trans (((below_new w1 _).trans (h.mono (below_new w1 _).size)).mono hbw1.size)
  have hAl := alive_calls _ hEr
  clear hC hC1 hEr hE
  by_cases hk : k = 1
  · by_cases hn : l6.length = 0
    · clear HX
      subst hk
      have hnb : ((l6.length : Int) == 0) = true := by rw [hn]; rfl
      go_wp2_with (go_at_call 9; refine hAl.mono ?_; rintro e w2 ⟨rfl, hb2⟩)
      go_ret
      exact ⟨rfl, fin _ hb2⟩
    · obtain ⟨h8, hor⟩ := HX.out hk hn
      clear HX
      have hz := Lib.hid (cnt_zero l8 _ h8)
      obtain ⟨-, -, hcell⟩ := Kd.reads_of_C (d := false) hC8
      have Hcell := Lib.hid hcell
      have HO := Lib.hid hor
      subst hk
      clear h8 hcell hC8 hor B0
      go_wp2_with fail
      go_loop [20] (fun i => ∃ j : Nat, j ≤ l6.length ∧ i = .int .i64 j) (fun i => l6.length - (intOf i).toNat)
      case atStart => exact ⟨0, Nat.zero_le _, rfl⟩
      case round =>
        obtain ⟨j, hj, rfl⟩ := hrel
        by_cases hjn : j < l6.length
        · have hz' := hz.out j hjn
          by_cases hj8 : j < l8.length
          · obtain ⟨ad, rfl, hc⟩ := Hcell.out (by omega)
            have hck := hc j hj8
            rw [hz'] at hck
            have hrng : (j : Int) < (c8 : Int) := by omega
            have hck2 := pw_cell_below (below_new w1 (.cells #[.int .i64 1, .int .i64 x, .int .i64 y, .int .i64 z] 28)) hck
            clear hz hz' hc Hcell HO hAl fin
            go_wp2
            case roundEnd => exact ⟨⟨j + 1, by omega, by go_num⟩, by simp [intOf]; omega⟩
          · have hrng : ¬ (j : Int) < (l8.length : Int) := by omega
            clear hz hz' Hcell HO hAl fin
            go_wp2
            case roundEnd => exact ⟨⟨j + 1, by omega, by go_num⟩, by simp [intOf]; omega⟩
        · obtain rfl : j = l6.length := by omega
          clear hz Hcell
          have B0 : Box9 w1 w.heap.size (.int .i64 a0) (.int .i64 a1) (.int .i64 a2) (.int .i64 a3) (.int .i64 a4) (.int .i64 a5) (.slice A6 l6.length c6) (.slice A7 l7.length c7) (.slice A8 l8.length c8) := ⟨lt, z0, z1, z2, z3, z4, z5, z6, z7, z8⟩
          clear z0 z1 z2 z3 z4 z5 z6 z7 z8
          by_cases ho : a1 = a0
          · subst ho
            clear HO
            go_wp2_with fail
            refine hAl.mono ?_
            rintro e w2 ⟨rfl, hb2⟩
            have B0 := B0.keep ((below_new w1 _).trans (hb2.mono (below_new w1 _).size))
            have hbb := fin _ hb2
            clear hb2 fin hAl
            obtain ⟨lt, z0, z1, z2, z3, z4, z5, z6, z7, z8⟩ := B0
            go_wp2
            go_ret
            exact ⟨rfl, hbb⟩
          · obtain ⟨o1, rfl, o3⟩ := HO.out.resolve_left ho
            have o4 : (a1 == a0) = false := beq_eq_false_iff_ne.2 ho
            clear HO
            go_wp2_with fail
            refine hAl.mono ?_
            rintro e w2 ⟨rfl, hb2⟩
            have B0 := B0.keep ((below_new w1 _).trans (hb2.mono (below_new w1 _).size))
            have hbb := fin _ hb2
            clear hb2 fin hAl
            obtain ⟨lt, z0, z1, z2, z3, z4, z5, z6, z7, z8⟩ := B0
            go_wp2
            go_ret
            exact ⟨rfl, hbb⟩
  · have hk' : (k != 1) = true := bne_iff_ne.2 hk
    clear HX
    go_wp2_with (go_at_call 9; refine hAl.mono ?_; rintro e w2 ⟨rfl, hb2⟩)
    go_ret
    exact ⟨rfl, fin _ hb2⟩

/-- to where a decision leads -/
theorem decideV_leads (a0 a1 a2 a3 a4 a5 : Int) (l6 : List Int) (l7 l8 : List Bool) :
    ((decideV a0 a1 a2 a3 a4 a5 l6 l7 l8).1 = 2 → (decideV a0 a1 a2 a3 a4 a5 l6 l7 l8).2.2.1 ≠ a0) ∧
    ((decideV a0 a1 a2 a3 a4 a5 l6 l7 l8).1 = 3 → (decideV a0 a1 a2 a3 a4 a5 l6 l7 l8).2.2.1 = a2 ∧ (decideV a0 a1 a2 a3 a4 a5 l6 l7 l8).2.2.2 = a4) := by
  unfold decideV
  repeat' split
  all_goals (constructor <;> intro h <;> first | (simp at h; done) | exact ⟨rfl, rfl⟩ | assumption)

set_option maxRecDepth 100000 in
theorem RouteLeads_walk (a0 a1 a2 a3 a4 a5 : Int) (A6 A7 A8 : Option Addr) (c6 c7 c8 : Nat) (l6 : List Int) (l7 l8 : List Bool) (w : World) (hE : Env w) (hC : CaseOk w A6 A7 A8 c6 c7 c8 l6 l7 l8) :
    Calls Tryd.prog 7 #[.agg (caseV a0 a1 a2 a3 a4 a5 A6 A7 A8 l6.length l7.length l8.length c6 c7 c8)] w fun e w' => e = .returned (.bool true) ∧ Below w.heap.size w w' := by
  have hD := fun (W : World) (h : Below w.heap.size w W) => DecideC a0 a1 a2 a3 a4 a5 (hC.below h)
  have hX := decideV_leads a0 a1 a2 a3 a4 a5 l6 l7 l8
  generalize decideV a0 a1 a2 a3 a4 a5 l6 l7 l8 = X at *
  obtain ⟨k, x, y, z⟩ := X
  have HX := Lib.hid hX
  clear hX
  go_enter Tryd.func7, Tryd.ntmps7
  go_wp2_with fail
  refine (hD _ (below_new w _)).mono ?_
  rintro e w1 ⟨rfl, hb1⟩
  have hbw1 := (below_new w _).trans (hb1.mono (below_new w _).size)
  have B0 := (Box9.new w a0 a1 a2 a3 a4 a5 A6 A7 A8 l6.length l7.length l8.length c6 c7 c8 25).keep hb1
  have l0 := B0.lt
  have n0 : w.heap.size ≠ w1.heap.size := by omega
  clear hb1 hD hC
  go_wp2_with fail
  refine (alive_calls _ (hE.below (hbw1.trans ((below_new w1 _).mono hbw1.size)))).mono ?_
  rintro e w2 ⟨rfl, hb2⟩
  have hb12 := (below_new w1 _).trans (hb2.mono (below_new w1 _).size)
  have hbw2 := hbw1.trans (hb12.mono hbw1.size)
  have B1 := (Box4.new w1 k x y z 28).keep hb2
  have B0 := B0.keep hb12
  clear hb2 hb12 l0 n0 hbw1
  obtain ⟨d, d0, d1, d2, d3⟩ := B1
  obtain ⟨lt, z0, z1, z2, z3, z4, z5, z6, z7, z8⟩ := B0
  by_cases h2 : k = 2
  · have hy : (y != a0) = true := bne_iff_ne.2 (HX.out.1 h2)
    clear HX
    go_wp2
    go_ret
    exact ⟨rfl, hbw2⟩
  · by_cases h3 : k = 3
    · obtain ⟨rfl, rfl⟩ := HX.out.2 h3
      clear HX
      go_wp2
      go_ret
      exact ⟨rfl, hbw2⟩
    · clear HX
      go_wp2
      go_ret
      exact ⟨rfl, hbw2⟩
end Go.Proofs.YtnccoopefajohaaDoor
