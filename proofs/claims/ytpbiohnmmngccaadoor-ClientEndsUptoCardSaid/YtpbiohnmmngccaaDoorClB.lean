/- A call is begun. Conditions: the listed variables as laid; texts within the machine's reach. -/
import Derived.Test.YtpbiohnmmngccaaDoorClN
set_option linter.unusedVariables false
set_option linter.unusedSimpArgs false
namespace Go.Proofs.YtpbiohnmmngccaaDoor
open Go Go.RowKit Go.Maps Go.Proofs.YtpbiohnmmngccaaDoorW.PrintWords
/-- what a call that comes to a letter, or to nothing, gives -/
inductive Next
  | none
  | send (dst asking : Int)
  | done (k i : Int) (t : ByteArray) (l : Value)
def OutOk (s : CS) (x : Next) (e : Ending) : Prop := match x with
  | .none => e = .returned (.agg out0)
  | .send d a => ∃ A' c', e = .returned (.agg (outC d 1 s.num (.slice A' s.args.length c') a true 0 0 ⟨#[]⟩ (.slice none 0 0) false))
  | .done k i t l => e = .returned (.agg (outC 0 0 0 (.slice none 0 0) 0 false k i t l true))
def DoPost (m g : Nat) (x : CS × Next) (w : World) (e : Ending) (w' : World) : Prop := OutOk x.1 x.2 e ∧ Cl m g x.1 w' ∧ Keep2 m g w w'
def begun (s : CS) (args : List ByteArray) : CS := { s with args := args, bud := 16 }
def beginV (s : CS) (args : List ByteArray) : CS × Next :=
  if 0 < s.args.length ∨ args.length = 0 then (s, .none) else ({ begun s args with num := s.num + 1 }, .send (ownerV (begun s args)) 0)
theorem keep2_alloc (m g : Nat) (w : World) (o : Obj) : Keep2 m g w (w.alloc o) := (Keep2.refl m g w).below (below_alloc (Below.refl _ _) _)
set_option maxHeartbeats 4000000 in
set_option maxRecDepth 100000 in
theorem Begin_calls (m g : Nat) (s : CS) (A : Option Addr) (c : Nat) (args : List ByteArray) (hn : 0 ≤ s.num ∧ s.num ≤ 1000000000) (hl : args.length ≤ 1000000) (hbig : ∀ x ∈ args, x.size ≤ 9223372036854775807) (w : World) (h : Cl m g s w)
    (hr : Kd.string.C w A args.length args) (hc : args.length ≤ c) (w0 : World) (hE0 : Env w0) (hB0 : Below w0.heap.size w0 w) (hm0 : w0.heap.size ≤ m) (hg0 : w0.heap.size ≤ g) :
    Calls Tryd.prog 9 #[.pointer (some ⟨g, 0, none⟩), .slice A args.length c] w (DoPost m g (beginV s args) w) := by
  have hb0 : Below w.heap.size w (w.alloc (.cells out0 32)) := below_alloc (Below.refl _ _) _
  have hz0 : (w.alloc (.cells out0 32)).heap[w.heap.size]? = some (.cells out0 32 (0, 0)) := heap_alloc_new _ _
  have h0 := h.below hb0
  have hB := Busy_calls m g s _ h0
  have hm := h.lt.1
  have hg := h.lt.2
  by_cases hbusy : 0 < s.args.length
  · have hv : beginV s args = (s, .none) := by unfold beginV; rw [if_pos (Or.inl hbusy)]
    have d1 : decide (0 < s.args.length) = true := decide_eq_true hbusy
    rw [hv]
    replace hz0 := Lib.hid hz0
    replace h0 := Lib.hid h0
    replace hb0 := Lib.hid hb0
    replace h := Lib.hid h
    go_enter Tryd.func9, Tryd.ntmps9
    go_wp2_with fail
    refine hB.mono ?_
    rintro e w1 ⟨rfl, rfl⟩
    rw [d1]
    go_wp2_with ((with_reducible refine store_at (ty := 32) (x := .tmp 4) (y := .tmp 12) ?_); refine ⟨w.heap.size, out0, 32, out0, rfl, rfl, hz0.out, info32, rfl, out_one _ _ _ _ _ _ _ _ _ _ _ _ _ _ _, ?_⟩)
    exact bodyPost_ret (results_cell1 Tryd.results9 _ _ w.heap.size 32 out0 (0, 0) _ rfl (setRow_heap _ _ _ _ _ _ hz0.out) Tryd.underlying32 rfl info32) rfl ⟨rfl, h.out.below (below_setRow hb0.out (Nat.le_refl _) _), (Keep2.refl m g w).below (below_setRow hb0.out (Nat.le_refl _) _)⟩
  · have d1 : decide (0 < s.args.length) = false := decide_eq_false hbusy
    by_cases ha : args.length = 0
    · have hv : beginV s args = (s, .none) := by unfold beginV; rw [if_pos (Or.inr ha)]
      obtain rfl : args = [] := List.length_eq_zero_iff.1 ha
      rw [hv]
      replace hz0 := Lib.hid hz0
      replace h0 := Lib.hid h0
      replace hb0 := Lib.hid hb0
      replace h := Lib.hid h
      go_enter Tryd.func9, Tryd.ntmps9
      go_wp2_with fail
      refine hB.mono ?_
      rintro e w1 ⟨rfl, rfl⟩
      rw [d1]
      go_wp2_with ((with_reducible refine store_at (ty := 32) (x := .tmp 4) (y := .tmp 12) ?_); refine ⟨w.heap.size, out0, 32, out0, rfl, rfl, hz0.out, info32, rfl, out_one _ _ _ _ _ _ _ _ _ _ _ _ _ _ _, ?_⟩)
      exact bodyPost_ret (results_cell1 Tryd.results9 _ _ w.heap.size 32 out0 (0, 0) _ rfl (setRow_heap _ _ _ _ _ _ hz0.out) Tryd.underlying32 rfl info32) rfl ⟨rfl, h.out.below (below_setRow hb0.out (Nat.le_refl _) _), (Keep2.refl m g w).below (below_setRow hb0.out (Nat.le_refl _) _)⟩
    · have hv : beginV s args = ({ begun s args with num := s.num + 1 }, .send (ownerV (begun s args)) 0) := by unfold beginV; rw [if_neg (by omega)]
      have hne : ((args.length : Int) == 0) = false := by rw [beq_eq_false_iff_ne]; omega
      have hCl := Clone_calls A c args hl _ (Kd.C_below hr hb0) hc
      rw [hv]
      replace hz0 := Lib.hid hz0
      replace h0 := Lib.hid h0
      replace hb0 := Lib.hid hb0
      replace h := Lib.hid h
      clear hv
      go_enter Tryd.func9, Tryd.ntmps9
      go_wp2_with fail
      refine hB.mono ?_
      rintro e w1 ⟨rfl, rfl⟩
      rw [d1]
      go_wp2_with fail
      refine hCl.mono ?_
      rintro e w1 ⟨A', c', rfl, hC', hc', hT', hb1⟩
      have h1 := h0.out.below hb1
      have hz1 := (hb1.block w.heap.size (by simp)).trans hz0.out
      have hkw1 : Keep2 m g w w1 := (keep2_alloc m g w _).below (hb1.mono (by simp))
      clear hCl hB
      obtain ⟨A0, c0, hb, hr0, hc0, -⟩ := h1.box
      replace hT' := Lib.hid hT'
      obtain ⟨k0, k1, k2, k3, k4⟩ := cl_cells hb
      have f2 : w1.frozen? ⟨g, 2, none⟩ = false := box_open hb
      have f4 : w1.frozen? ⟨g, 4, none⟩ = false := box_open hb
      replace hb := Lib.hid hb
      replace h1 := Lib.hid h1
      replace hz1 := Lib.hid hz1
      replace hkw1 := Lib.hid hkw1
      replace hb1 := Lib.hid hb1
      have hx2 : ((w1.setCell ⟨g, 2, none⟩ (.slice A' args.length c')).setCell ⟨g, 4, none⟩ (.int .i64 16)).heap[g]? = some (.cells #[.int .i64 (begun s args).home, .map (some m), .slice A' (begun s args).args.length c', .int .i64 (begun s args).num, .int .i64 (begun s args).bud] 51 (0, 0)) :=
        heap_setCell_same _ g 4 _ _ _ (heap_setCell_same _ g 2 _ _ _ hb.out)
      have ho2 : ∀ k, k ≠ g → ((w1.setCell ⟨g, 2, none⟩ (.slice A' args.length c')).setCell ⟨g, 4, none⟩ (.int .i64 16)).heap[k]? = w1.heap[k]? := fun k hk => (Below.heap_setCell _ _ _ k hk).trans (Below.heap_setCell _ _ _ k hk)
      have hk12 : Keep2 m g w1 ((w1.setCell ⟨g, 2, none⟩ (.slice A' args.length c')).setCell ⟨g, 4, none⟩ (.int .i64 16)) := ⟨rfl, rfl, rfl, by simp, fun k _ _ h2 => ho2 k h2⟩
      replace hx2 := Lib.hid hx2
      replace ho2 := Lib.hid ho2
      replace hk12 := Lib.hid hk12
      go_wp2_with fail
      generalize ((w1.setCell ⟨g, 2, none⟩ (.slice A' args.length c')).setCell ⟨g, 4, none⟩ (.int .i64 16)) = W2 at *
      have hmap : ∃ es ck, w1.heap[m]? = some (.map es ck) := by
        obtain ⟨n, D, ⟨es, ck, h4, -⟩, -, -⟩ := h1.out.map
        exact ⟨es, ck, h4⟩
      have hbx : ∃ c fr, w1.heap[g]? = some (.cells c 51 fr) := ⟨_, _, hb.out⟩
      have hC2 := strs_keep hC' hT'.out (hk12.out.str hbx hmap)
      have hT2 := T9.keep hT'.out (hk12.out.str hbx hmap)
      have hcl2 : Cl m g (begun s args) W2 := by
        obtain ⟨n, D, ⟨es, ck, h4, h5⟩, h6, h7⟩ := h1.out.map
        exact ⟨⟨A', c', hx2.out, hC2, hc', hT2⟩, ⟨n, D, ⟨es, ck, (ho2.out m h1.out.ne).trans h4, h5⟩, h6, h7⟩, h1.out.ne⟩
      have hz2 : W2.heap[w.heap.size]? = some (.cells out0 32 (0, 0)) := (ho2.out w.heap.size (by omega)).trans hz1.out
      have hkw2 : Keep2 m g w W2 := hkw1.out.trans hk12.out
      have hE2 : Env W2 := hE0.below (Keep2.base hB0 hm0 hg0 hkw2)
      clear hx2 ho2 hk12 hC' hb1 hz1 hkw1 h1 hb k0 k1 k2 k3 k4 f2 f4
      have hO := owner_calls m g (begun s args) hbig W2 hcl2 hE2
      replace hcl2 := Lib.hid hcl2
      replace hz2 := Lib.hid hz2
      replace hkw2 := Lib.hid hkw2
      refine hO.mono ?_
      rintro e w3 ⟨rfl, hb3⟩
      have hcl3 := hcl2.out.below hb3
      have hz3 := (hb3.block w.heap.size (Array.getElem?_eq_some_iff.1 hz2.out).1).trans hz2.out
      have hkw3 := hkw2.out.below (hb3.mono hkw2.out.size)
      have hS := send_calls m g (begun s args) (ownerV (begun s args)) 0 hn hl w3 hcl3
      clear hO hb3
      replace hz3 := Lib.hid hz3
      replace hcl3 := Lib.hid hcl3
      replace hkw3 := Lib.hid hkw3
      go_wp2_with fail
      refine hS.mono ?_
      rintro e w4 ⟨A4, c4, rfl, hcl4, hk4⟩
      have hz4 := (hk4.block w.heap.size (Array.getElem?_eq_some_iff.1 hz3.out).1 (by omega) (by omega)).trans hz3.out
      have hkw4 := hkw3.out.trans hk4
      replace hz4 := Lib.hid hz4
      replace hkw4 := Lib.hid hkw4
      replace hcl4 := Lib.hid hcl4
      generalize hOUT : outC (ownerV (begun s args)) 1 ((begun s args).num + 1) (.slice A4 (begun s args).args.length c4) 0 true 0 0 ⟨#[]⟩ (.slice none 0 0) false = OUT
      have hone : OUT.all (·.oneCell') = true := by rw [← hOUT]; exact out_one _ _ _ _ _ _ _ _ _ _ _ _ _ _ _
      have hsz : OUT.size = 20 := by rw [← hOUT]; rfl
      have hi : (Tryd.prog.info? 32).map (·.size) = some OUT.size := by rw [hsz]; exact info32
      have hsz0 : out0.size = OUT.size := by rw [hsz]; rfl
      replace hOUT := Lib.hid hOUT
      replace hi := Lib.hid hi
      go_wp2_with ((with_reducible refine store_at (ty := 32) (x := .tmp 4) (y := .tmp 24) ?_); refine ⟨w.heap.size, OUT, 32, out0, rfl, rfl, hz4.out, hi.out, hsz0, hone, ?_⟩)
      refine bodyPost_ret (results_cell1 Tryd.results9 _ _ w.heap.size 32 OUT (0, 0) _ rfl (setRow_heap _ _ _ _ _ _ hz4.out) Tryd.underlying32 rfl hi.out) rfl ⟨⟨A4, c4, by rw [← hOUT.out]; rfl⟩, ?_, ?_⟩
      · exact hcl4.out.row hz4.out (by decide) (by omega) (by omega)
      · exact hkw4.out.below (below_setRow (Below.refl _ _) (Nat.le_refl _) _)
end Go.Proofs.YtpbiohnmmngccaaDoor
