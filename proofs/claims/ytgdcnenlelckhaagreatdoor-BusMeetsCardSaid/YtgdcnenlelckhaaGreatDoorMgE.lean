/- A view takes in what another one tells. A view takes in what another one tells: where it is taken in. A bus's box; packets and bytes; what goes out. A bus lets packets go out. A bus tells, takes, and is asked. A bus takes bytes. Nodes that were told nothing but what nodes claimed, plain. Conditions: the listed variables as laid. -/
import Derived.Test.YtgdcnenlelckhaaGreatDoorMgD
import Derived.Maps.AppendAt
import Derived.Test.YtgdcnenlelckhaaGreatDoorMgA
set_option linter.unusedVariables false
set_option linter.unusedSimpArgs false
namespace Go.Proofs.YtgdcnenlelckhaaGreatDoor
open Go.RowKit Go.Proofs.YtgdcnenlelckhaaGreatDoorW.PrintWords
open SlS SlT
theorem wp_cut {P : Program} {x y : Code} {Q : Exit → Act → World → Prop} {a : Act} {w : World} (R : Act → World → Prop) (h1 : x.wp P (Exit.then R Q) a w) (h2 : ∀ a w, R a w → y.wp P Q a w) : (Code.seq x y).wp P Q a w := by
  refine wp_seq (Code.wp_mono (fun e a w h => ?_) h1)
  cases e <;> first | exact h2 _ _ h | exact h
/-- a view takes in a packet: what stands -/
structure TkW (w : World) (g : Nat) (c : Array Value) (q : Pkt) (v : VS) (W : World) : Prop where
  but : But (fun k => k = g) w W
  b0 : W.heap[w.heap.size]? = some (.cells c 67 (0, 0))
  view : VB W g v
  glt : g < w.heap.size
  pk : PkIs c q
theorem TkW.keep {w : World} {g : Nat} {c : Array Value} {q : Pkt} {v : VS} {W W' : World} (h : TkW w g c q v W) (hb : Below W.heap.size W W') : TkW w g c q v W' :=
  ⟨h.but.next hb, (hb.block _ (blk_lt h.b0)).trans h.b0, h.view.below hb, h.glt, h.pk⟩
theorem TkW.put {w : World} {g : Nat} {c : Array Value} {q : Pkt} {v v' : VS} {W W' : World} (h : TkW w g c q v W) (hb : But (fun k => k = g) W W') (hv : VB W' g v') : TkW w g c q v' W' :=
  ⟨h.but.trans hb (fun _ _ h => h), (hb.block _ (blk_lt h.b0) (by have := h.glt; omega)).trans h.b0, hv, h.glt, h.pk⟩
theorem TkW.at0 {w : World} {g : Nat} {c : Array Value} {q : Pkt} {v : VS} {W : World} (h : TkW w g c q v W) : W.cell? ⟨w.heap.size, 0, none⟩ = some (.int .i64 q.kind) := by rw [cellBox h.b0]; exact h.pk.at.1
theorem TkW.at1 {w : World} {g : Nat} {c : Array Value} {q : Pkt} {v : VS} {W : World} (h : TkW w g c q v W) : W.cell? ⟨w.heap.size, 1, none⟩ = some (.int .i64 q.fr) := by rw [cellBox h.b0]; exact h.pk.at.2.1
theorem TkW.at2 {w : World} {g : Nat} {c : Array Value} {q : Pkt} {v : VS} {W : World} (h : TkW w g c q v W) : W.cell? ⟨w.heap.size, 2, none⟩ = some (.int .i64 q.of_) := by rw [cellBox h.b0]; exact h.pk.at.2.2.1
theorem TkW.at3 {w : World} {g : Nat} {c : Array Value} {q : Pkt} {v : VS} {W : World} (h : TkW w g c q v W) : W.cell? ⟨w.heap.size, 3, none⟩ = some (.int .u64 (q.ep : Int)) := by rw [cellBox h.b0]; exact h.pk.at.2.2.2.1
theorem TkW.at4 {w : World} {g : Nat} {c : Array Value} {q : Pkt} {v : VS} {W : World} (h : TkW w g c q v W) : W.cell? ⟨w.heap.size, 4, none⟩ = some (.int .u64 (q.cur : Int)) := by rw [cellBox h.b0]; exact h.pk.at.2.2.2.2.1
theorem tkW_start {w : World} {g : Nat} {v : VS} (h : VB w g v) {c : Array Value} {q : Pkt} (hq : PkIs c q) : TkW w g c q v (w.alloc (.cells c 67)) :=
  ⟨but_below (below_new' w _) _, heapN w _, h.below (below_new' w _), h.lt, hq⟩
/-- some packets, one behind the other -/
inductive PksIs : List (Array Value) → List Pkt → Prop
  | nil : PksIs [] []
  | cons {c : Array Value} {q : Pkt} {cs : List (Array Value)} {l : List Pkt} : PkIs c q → PksIs cs l → PksIs (c :: cs) (q :: l)
def rowP (cs : List (Array Value)) : List Value := cs.flatMap Array.toList
theorem PksIs.snoc {cs : List (Array Value)} {l : List Pkt} (h : PksIs cs l) {c : Array Value} {q : Pkt} (hq : PkIs c q) : PksIs (cs ++ [c]) (l ++ [q]) := by
  induction h with
  | nil => exact .cons hq .nil
  | cons h1 _ ih => exact .cons h1 ih
/-- a row of packets, made since -/
def PksRow (W : World) (b : Nat) (x : Value) (l : List Pkt) : Prop := ∃ cs, PksIs cs l ∧ W.ownsRow b 67 261 x l.length (rowP cs)
def rightP (q : Pkt) : Bool := rightV q.kind q.fr q.of_ q.ep q.cur
def VtPost (w : World) (g : Nat) (v : VS) (q : Pkt) (r : Ending) (w' : World) : Prop :=
  ∃ x, r = .returned x ∧ PksRow w' w.heap.size x (hearV v q (rightP q)).2 ∧ VB w' g (hearV v q (rightP q)).1 ∧ But (fun k => k = g) w w'
theorem vRight_calls {c : Array Value} {q : Pkt} (hq : PkIs c q) (w : World) : Calls Tryz.prog 53 #[.agg c] w fun r w' => r = .returned (.bool (rightP q)) ∧ Below w.heap.size w w' := by
  obtain ⟨a, h⟩ := hq
  exact Right_calls c _ _ _ _ _ a _ h w
set_option maxHeartbeats 4000000 in
set_option maxRecDepth 100000 in
theorem vTake_idleA {g : Nat} {v : VS} (w : World) (h : VB w g v) (c : Array Value) (q : Pkt) (hq : PkIs c q) (h1 : rightP q = false) : Calls Tryz.prog 30 #[.pointer (some ⟨g, 0, none⟩), .agg c] w (VtPost w g v q) := by
  have hidle : hearV v q (rightP q) = (v, []) := by
    unfold hearV
    rw [if_pos (show idleP v.self q (rightP q) from (Or.inl h1))]
  have hR := fun W => vRight_calls hq W
  have hi : (Tryz.prog.info? 67).map (·.size) = some c.size := by rw [hq.size]; exact info26
  have hS := tkW_start h hq
  have k0 := hS.at0
  have hdone : ∀ W, TkW w g c q v W → VtPost w g v q (.returned (.slice none 0 0)) W := fun W hW => by
    refine ⟨_, rfl, ?_, ?_, hW.but⟩
    · rw [hidle]; exact ⟨[], .nil, World.ownsRow_nil _ _ _ _⟩
    · rw [hidle]; exact hW.view
  clear hidle h
  rw [h1] at hR
  generalize hk3 : (q.kind == (3 : Int)) = u at *
  go_enter Tryz.func30, Tryz.ntmps30
  go_wp2_with fail
  generalize w.alloc (.cells c 67) = W0 at *
  clear k0
  refine wp_region_held_drew (S := TkW w g c q v) (by kernel_rfl) (hS.keep (below_drew (Below.refl _ _))) (fun hHeld => ?_)
  clear hHeld
  replace hS := hS.keep (below_drew (Below.refl _ _))
  generalize W0.drew = W1 at *
  refine wpAnyH_take (i := 0) (oi := ⟨some 12, _, _, _, _, _⟩) (v := .agg c) rfl (by kernel_rfl) (by kernel_rfl) (by kernel_rfl) (fun _ _ _ h => h) (yields_row (by rfl) 67 (.tmp 3) rfl w.heap.size rfl 67 c (0, 0) _ (fun W h => h.b0) Tryz.underlying67 rfl hi) hS ?_
  try simp only [Act.put, List.setIfInBounds_toArray, List.set_cons_zero, List.set_cons_succ]
  refine wpAnyH_ready (rs := [1]) (by kernel_rfl) (by simp) ?_
  refine AllReadyH.cons (o := ⟨some 13, _, _, _, _, _⟩) rfl (fun K hK => ?_) AllReadyH.nil
  go_simp
  refine (hR _).mono ?_
  rintro e W2 ⟨rfl, hb⟩
  have hS2 := hS.keep hb
  clear hb hS
  go_wp2_with fail
  refine hK.out _ _ hS2 (fun hHeld => ?_)
  clear hHeld hK K
  try simp only [Act.put, List.setIfInBounds_toArray, List.set_cons_zero, List.set_cons_succ]
  refine wpAnyH_take (i := 2) (oi := ⟨some 14, _, _, _, _, _⟩) (v := .bool true) rfl (by kernel_rfl) (by kernel_rfl) (by kernel_rfl) (fun _ _ _ h => h) (Or.inl ⟨by rfl, fun W hW => by have p0 := hW.at4; have p1 := hW.at1; have p2 := hW.at2; have p3 := hW.view.atSelf; go_simp; try (intro h; omega)⟩) hS2 ?_
  try simp only [Act.put, List.setIfInBounds_toArray, List.set_cons_zero, List.set_cons_succ]
  refine wpAnyH_take (i := 3) (oi := ⟨some 15, _, _, _, _, _⟩) (v := .bool true) rfl (by kernel_rfl) (by kernel_rfl) (by kernel_rfl) (fun _ _ _ h => h) (Or.inl ⟨by rfl, fun W hW => by have p0 := hW.at4; have p1 := hW.at1; have p2 := hW.at2; have p3 := hW.view.atSelf; go_simp; try (intro h; omega)⟩) hS2 ?_
  try simp only [Act.put, List.setIfInBounds_toArray, List.set_cons_zero, List.set_cons_succ]
  refine wpAnyH_take (i := 4) (oi := ⟨some 16, _, _, _, _, _⟩) (v := undef) rfl (by kernel_rfl) (by kernel_rfl) (by kernel_rfl) (fun _ _ _ h => h) (Or.inr ⟨by rfl, rfl⟩) hS2 ?_
  try simp only [Act.put, List.setIfInBounds_toArray, List.set_cons_zero, List.set_cons_succ]
  refine wpAnyH_take (i := 5) (oi := ⟨some 17, _, _, _, _, _⟩) (v := undef) rfl (by kernel_rfl) (by kernel_rfl) (by kernel_rfl) (fun _ _ _ h => h) (Or.inr ⟨by rfl, rfl⟩) hS2 ?_
  try simp only [Act.put, List.setIfInBounds_toArray, List.set_cons_zero, List.set_cons_succ]
  refine wpAnyH_take (i := 6) (oi := ⟨some 18, _, _, _, _, _⟩) (v := undef) rfl (by kernel_rfl) (by kernel_rfl) (by kernel_rfl) (fun _ _ _ h => h) (Or.inr ⟨by rfl, rfl⟩) hS2 ?_
  try simp only [Act.put, List.setIfInBounds_toArray, List.set_cons_zero, List.set_cons_succ]
  refine wpAnyH_take (i := 7) (oi := ⟨some 19, _, _, _, _, _⟩) (v := .bool true) rfl (by kernel_rfl) (by kernel_rfl) (by kernel_rfl) (fun _ _ _ h => h) (Or.inl ⟨by rfl, fun W hW => by have p0 := hW.at4; have p1 := hW.at1; have p2 := hW.at2; have p3 := hW.view.atSelf; go_simp; try (intro h; omega)⟩) hS2 ?_
  try simp only [Act.put, List.setIfInBounds_toArray, List.set_cons_zero, List.set_cons_succ]
  refine wpAnyH_take (i := 8) (oi := ⟨some 20, _, _, _, _, _⟩) (v := .bool true) rfl (by kernel_rfl) (by kernel_rfl) (by kernel_rfl) (fun _ _ _ h => h) (Or.inl ⟨by rfl, fun W hW => by have p0 := hW.at4; have p1 := hW.at1; have p2 := hW.at2; have p3 := hW.view.atSelf; go_simp; try (intro h; omega)⟩) hS2 ?_
  try simp only [Act.put, List.setIfInBounds_toArray, List.set_cons_zero, List.set_cons_succ]
  refine wpAnyH_take (i := 9) (oi := ⟨some 21, _, _, _, _, _⟩) (v := undef) rfl (by kernel_rfl) (by kernel_rfl) (by kernel_rfl) (fun _ _ _ h => h) (Or.inr ⟨by rfl, rfl⟩) hS2 ?_
  try simp only [Act.put, List.setIfInBounds_toArray, List.set_cons_zero, List.set_cons_succ]
  refine wpAnyH_take (i := 10) (oi := ⟨some 22, _, _, _, _, _⟩) (v := undef) rfl (by kernel_rfl) (by kernel_rfl) (by kernel_rfl) (fun _ _ _ h => h) (Or.inr ⟨by rfl, rfl⟩) hS2 ?_
  try simp only [Act.put, List.setIfInBounds_toArray, List.set_cons_zero, List.set_cons_succ]
  refine wpAnyH_take (i := 11) (oi := ⟨some 23, _, _, _, _, _⟩) (v := undef) rfl (by kernel_rfl) (by kernel_rfl) (by kernel_rfl) (fun _ _ _ h => h) (Or.inr ⟨by rfl, rfl⟩) hS2 ?_
  try simp only [Act.put, List.setIfInBounds_toArray, List.set_cons_zero, List.set_cons_succ]
  refine wpAnyH_take (i := 12) (oi := ⟨some 24, _, _, _, _, _⟩) (v := undef) rfl (by kernel_rfl) (by kernel_rfl) (by kernel_rfl) (fun _ _ _ h => h) (Or.inr ⟨by rfl, rfl⟩) hS2 ?_
  try simp only [Act.put, List.setIfInBounds_toArray, List.set_cons_zero, List.set_cons_succ]
  refine wpAnyH_take (i := 13) (oi := ⟨some 25, _, _, _, _, _⟩) (v := undef) rfl (by kernel_rfl) (by kernel_rfl) (by kernel_rfl) (fun _ _ _ h => h) (Or.inr ⟨by rfl, rfl⟩) hS2 ?_
  try simp only [Act.put, List.setIfInBounds_toArray, List.set_cons_zero, List.set_cons_succ]
  refine wpAnyH_take (i := 14) (oi := ⟨some 26, _, _, _, _, _⟩) (v := undef) rfl (by kernel_rfl) (by kernel_rfl) (by kernel_rfl) (fun _ _ _ h => h) (Or.inr ⟨by rfl, rfl⟩) hS2 ?_
  try simp only [Act.put, List.setIfInBounds_toArray, List.set_cons_zero, List.set_cons_succ]
  refine wpAnyH_take (i := 15) (oi := ⟨some 27, _, _, _, _, _⟩) (v := undef) rfl (by kernel_rfl) (by kernel_rfl) (by kernel_rfl) (fun _ _ _ h => h) (Or.inr ⟨by rfl, rfl⟩) hS2 ?_
  try simp only [Act.put, List.setIfInBounds_toArray, List.set_cons_zero, List.set_cons_succ]
  refine wpAnyH_take (i := 16) (oi := ⟨some 28, _, _, _, _, _⟩) (v := .bool true) rfl (by kernel_rfl) (by kernel_rfl) (by kernel_rfl) (fun _ _ _ h => h) (Or.inl ⟨by rfl, fun W hW => by have p0 := hW.at4; have p1 := hW.at1; have p2 := hW.at2; have p3 := hW.view.atSelf; go_simp; try (intro h; omega)⟩) hS2 ?_
  try simp only [Act.put, List.setIfInBounds_toArray, List.set_cons_zero, List.set_cons_succ]
  refine wpAnyH_take (i := 17) (oi := ⟨some 29, _, _, _, _, _⟩) (v := .bool true) rfl (by kernel_rfl) (by kernel_rfl) (by kernel_rfl) (fun _ _ _ h => h) (Or.inl ⟨by rfl, fun W hW => by have p0 := hW.at4; have p1 := hW.at1; have p2 := hW.at2; have p3 := hW.view.atSelf; go_simp; try (intro h; omega)⟩) hS2 ?_
  try simp only [Act.put, List.setIfInBounds_toArray, List.set_cons_zero, List.set_cons_succ]
  refine wpAnyH_take (i := 18) (oi := ⟨some 30, _, _, _, _, _⟩) (v := undef) rfl (by kernel_rfl) (by kernel_rfl) (by kernel_rfl) (fun _ _ _ h => h) (Or.inr ⟨by rfl, rfl⟩) hS2 ?_
  try simp only [Act.put, List.setIfInBounds_toArray, List.set_cons_zero, List.set_cons_succ]
  refine wpAnyH_take (i := 19) (oi := ⟨some 31, _, _, _, _, _⟩) (v := undef) rfl (by kernel_rfl) (by kernel_rfl) (by kernel_rfl) (fun _ _ _ h => h) (Or.inr ⟨by rfl, rfl⟩) hS2 ?_
  try simp only [Act.put, List.setIfInBounds_toArray, List.set_cons_zero, List.set_cons_succ]
  refine wpAnyH_take (i := 20) (oi := ⟨some 32, _, _, _, _, _⟩) (v := undef) rfl (by kernel_rfl) (by kernel_rfl) (by kernel_rfl) (fun _ _ _ h => h) (Or.inr ⟨by rfl, rfl⟩) hS2 ?_
  try simp only [Act.put, List.setIfInBounds_toArray, List.set_cons_zero, List.set_cons_succ]
  refine wpAnyH_take (i := 21) (oi := ⟨some 33, _, _, _, _, _⟩) (v := undef) rfl (by kernel_rfl) (by kernel_rfl) (by kernel_rfl) (fun _ _ _ h => h) (Or.inr ⟨by rfl, rfl⟩) hS2 ?_
  try simp only [Act.put, List.setIfInBounds_toArray, List.set_cons_zero, List.set_cons_succ]
  refine wpAnyH_take (i := 22) (oi := ⟨some 34, _, _, _, _, _⟩) (v := undef) rfl (by kernel_rfl) (by kernel_rfl) (by kernel_rfl) (fun _ _ _ h => h) (Or.inr ⟨by rfl, rfl⟩) hS2 ?_
  try simp only [Act.put, List.setIfInBounds_toArray, List.set_cons_zero, List.set_cons_succ]
  refine wpAnyH_take (i := 23) (oi := ⟨some 35, _, _, _, _, _⟩) (v := undef) rfl (by kernel_rfl) (by kernel_rfl) (by kernel_rfl) (fun _ _ _ h => h) (Or.inr ⟨by rfl, rfl⟩) hS2 ?_
  try simp only [Act.put, List.setIfInBounds_toArray, List.set_cons_zero, List.set_cons_succ]
  refine wpAnyH_take (i := 24) (oi := ⟨some 36, _, _, _, _, _⟩) (v := undef) rfl (by kernel_rfl) (by kernel_rfl) (by kernel_rfl) (fun _ _ _ h => h) (Or.inr ⟨by rfl, rfl⟩) hS2 ?_
  try simp only [Act.put, List.setIfInBounds_toArray, List.set_cons_zero, List.set_cons_succ]
  refine wpAnyH_take (i := 25) (oi := ⟨some 37, _, _, _, _, _⟩) (v := undef) rfl (by kernel_rfl) (by kernel_rfl) (by kernel_rfl) (fun _ _ _ h => h) (Or.inr ⟨by rfl, rfl⟩) hS2 ?_
  try simp only [Act.put, List.setIfInBounds_toArray, List.set_cons_zero, List.set_cons_succ]
  refine wpAnyH_take (i := 26) (oi := ⟨some 38, _, _, _, _, _⟩) (v := undef) rfl (by kernel_rfl) (by kernel_rfl) (by kernel_rfl) (fun _ _ _ h => h) (Or.inr ⟨by rfl, rfl⟩) hS2 ?_
  try simp only [Act.put, List.setIfInBounds_toArray, List.set_cons_zero, List.set_cons_succ]
  refine wpAnyH_take (i := 27) (oi := ⟨some 39, _, _, _, _, _⟩) (v := undef) rfl (by kernel_rfl) (by kernel_rfl) (by kernel_rfl) (fun _ _ _ h => h) (Or.inr ⟨by rfl, rfl⟩) hS2 ?_
  try simp only [Act.put, List.setIfInBounds_toArray, List.set_cons_zero, List.set_cons_succ]
  refine wpAnyH_take (i := 28) (oi := ⟨some 40, _, _, _, _, _⟩) (v := .bool true) rfl (by kernel_rfl) (by kernel_rfl) (by kernel_rfl) (fun _ _ _ h => h) (Or.inl ⟨by rfl, fun W hW => by have p0 := hW.at4; have p1 := hW.at1; have p2 := hW.at2; have p3 := hW.view.atSelf; go_simp; try (intro h; omega)⟩) hS2 ?_
  try simp only [Act.put, List.setIfInBounds_toArray, List.set_cons_zero, List.set_cons_succ]
  refine wpAnyH_done (by kernel_rfl) ?_ _
  go_wp2_with fail
  go_ret
  exact hdone _ hS2
set_option maxHeartbeats 4000000 in
set_option maxRecDepth 100000 in
theorem vTake_idleB {g : Nat} {v : VS} (w : World) (h : VB w g v) (c : Array Value) (q : Pkt) (hq : PkIs c q) (h1 : rightP q = true) (h2 : 4611686018427387904 < q.cur) : Calls Tryz.prog 30 #[.pointer (some ⟨g, 0, none⟩), .agg c] w (VtPost w g v q) := by
  have hidle : hearV v q (rightP q) = (v, []) := by
    unfold hearV
    rw [if_pos (show idleP v.self q (rightP q) from (Or.inr (Or.inl h2)))]
  have hR := fun W => vRight_calls hq W
  have hi : (Tryz.prog.info? 67).map (·.size) = some c.size := by rw [hq.size]; exact info26
  have hS := tkW_start h hq
  have k0 := hS.at0
  have hdone : ∀ W, TkW w g c q v W → VtPost w g v q (.returned (.slice none 0 0)) W := fun W hW => by
    refine ⟨_, rfl, ?_, ?_, hW.but⟩
    · rw [hidle]; exact ⟨[], .nil, World.ownsRow_nil _ _ _ _⟩
    · rw [hidle]; exact hW.view
  clear hidle h
  rw [h1] at hR
  have h2 : (4611686018427387904 : Int) < (q.cur : Int) := by omega
  generalize hk3 : (q.kind == (3 : Int)) = u at *
  go_enter Tryz.func30, Tryz.ntmps30
  go_wp2_with fail
  generalize w.alloc (.cells c 67) = W0 at *
  clear k0
  refine wp_region_held_drew (S := TkW w g c q v) (by kernel_rfl) (hS.keep (below_drew (Below.refl _ _))) (fun hHeld => ?_)
  clear hHeld
  replace hS := hS.keep (below_drew (Below.refl _ _))
  generalize W0.drew = W1 at *
  refine wpAnyH_take (i := 0) (oi := ⟨some 12, _, _, _, _, _⟩) (v := .agg c) rfl (by kernel_rfl) (by kernel_rfl) (by kernel_rfl) (fun _ _ _ h => h) (yields_row (by rfl) 67 (.tmp 3) rfl w.heap.size rfl 67 c (0, 0) _ (fun W h => h.b0) Tryz.underlying67 rfl hi) hS ?_
  try simp only [Act.put, List.setIfInBounds_toArray, List.set_cons_zero, List.set_cons_succ]
  refine wpAnyH_ready (rs := [1]) (by kernel_rfl) (by simp) ?_
  refine AllReadyH.cons (o := ⟨some 13, _, _, _, _, _⟩) rfl (fun K hK => ?_) AllReadyH.nil
  go_simp
  refine (hR _).mono ?_
  rintro e W2 ⟨rfl, hb⟩
  have hS2 := hS.keep hb
  clear hb hS
  go_wp2_with fail
  refine hK.out _ _ hS2 (fun hHeld => ?_)
  clear hHeld hK K
  try simp only [Act.put, List.setIfInBounds_toArray, List.set_cons_zero, List.set_cons_succ]
  refine wpAnyH_take (i := 2) (oi := ⟨some 14, _, _, _, _, _⟩) (v := .bool false) rfl (by kernel_rfl) (by kernel_rfl) (by kernel_rfl) (fun _ _ _ h => h) (Or.inl ⟨by rfl, fun W hW => by have p0 := hW.at4; have p1 := hW.at1; have p2 := hW.at2; have p3 := hW.view.atSelf; go_simp; try (intro h; omega)⟩) hS2 ?_
  try simp only [Act.put, List.setIfInBounds_toArray, List.set_cons_zero, List.set_cons_succ]
  refine wpAnyH_take (i := 3) (oi := ⟨some 15, _, _, _, _, _⟩) (v := .bool false) rfl (by kernel_rfl) (by kernel_rfl) (by kernel_rfl) (fun _ _ _ h => h) (Or.inl ⟨by rfl, fun W hW => by have p0 := hW.at4; have p1 := hW.at1; have p2 := hW.at2; have p3 := hW.view.atSelf; go_simp; try (intro h; omega)⟩) hS2 ?_
  try simp only [Act.put, List.setIfInBounds_toArray, List.set_cons_zero, List.set_cons_succ]
  refine wpAnyH_take (i := 4) (oi := ⟨some 16, _, _, _, _, _⟩) (v := .pointer (some ⟨w.heap.size, 4, none⟩)) rfl (by kernel_rfl) (by kernel_rfl) (by kernel_rfl) (fun _ _ _ h => h) (Or.inl ⟨by rfl, fun W hW => by have p0 := hW.at4; have p1 := hW.at1; have p2 := hW.at2; have p3 := hW.view.atSelf; go_simp; try (intro h; omega)⟩) hS2 ?_
  try simp only [Act.put, List.setIfInBounds_toArray, List.set_cons_zero, List.set_cons_succ]
  refine wpAnyH_take (i := 5) (oi := ⟨some 17, _, _, _, _, _⟩) (v := .int .u64 (q.cur : Int)) rfl (by kernel_rfl) (by kernel_rfl) (by kernel_rfl) (fun _ _ _ h => h) (Or.inl ⟨by rfl, fun W hW => by have p0 := hW.at4; have p1 := hW.at1; have p2 := hW.at2; have p3 := hW.view.atSelf; go_simp; try (intro h; omega)⟩) hS2 ?_
  try simp only [Act.put, List.setIfInBounds_toArray, List.set_cons_zero, List.set_cons_succ]
  refine wpAnyH_take (i := 6) (oi := ⟨some 18, _, _, _, _, _⟩) (v := .bool true) rfl (by kernel_rfl) (by kernel_rfl) (by kernel_rfl) (fun _ _ _ h => h) (Or.inl ⟨by rfl, fun W hW => by have p0 := hW.at4; have p1 := hW.at1; have p2 := hW.at2; have p3 := hW.view.atSelf; go_simp; try (intro h; omega)⟩) hS2 ?_
  try simp only [Act.put, List.setIfInBounds_toArray, List.set_cons_zero, List.set_cons_succ]
  refine wpAnyH_take (i := 7) (oi := ⟨some 19, _, _, _, _, _⟩) (v := .bool true) rfl (by kernel_rfl) (by kernel_rfl) (by kernel_rfl) (fun _ _ _ h => h) (Or.inl ⟨by rfl, fun W hW => by have p0 := hW.at4; have p1 := hW.at1; have p2 := hW.at2; have p3 := hW.view.atSelf; go_simp; try (intro h; omega)⟩) hS2 ?_
  try simp only [Act.put, List.setIfInBounds_toArray, List.set_cons_zero, List.set_cons_succ]
  refine wpAnyH_take (i := 8) (oi := ⟨some 20, _, _, _, _, _⟩) (v := .bool true) rfl (by kernel_rfl) (by kernel_rfl) (by kernel_rfl) (fun _ _ _ h => h) (Or.inl ⟨by rfl, fun W hW => by have p0 := hW.at4; have p1 := hW.at1; have p2 := hW.at2; have p3 := hW.view.atSelf; go_simp; try (intro h; omega)⟩) hS2 ?_
  try simp only [Act.put, List.setIfInBounds_toArray, List.set_cons_zero, List.set_cons_succ]
  refine wpAnyH_take (i := 9) (oi := ⟨some 21, _, _, _, _, _⟩) (v := undef) rfl (by kernel_rfl) (by kernel_rfl) (by kernel_rfl) (fun _ _ _ h => h) (Or.inr ⟨by rfl, rfl⟩) hS2 ?_
  try simp only [Act.put, List.setIfInBounds_toArray, List.set_cons_zero, List.set_cons_succ]
  refine wpAnyH_take (i := 10) (oi := ⟨some 22, _, _, _, _, _⟩) (v := undef) rfl (by kernel_rfl) (by kernel_rfl) (by kernel_rfl) (fun _ _ _ h => h) (Or.inr ⟨by rfl, rfl⟩) hS2 ?_
  try simp only [Act.put, List.setIfInBounds_toArray, List.set_cons_zero, List.set_cons_succ]
  refine wpAnyH_take (i := 11) (oi := ⟨some 23, _, _, _, _, _⟩) (v := undef) rfl (by kernel_rfl) (by kernel_rfl) (by kernel_rfl) (fun _ _ _ h => h) (Or.inr ⟨by rfl, rfl⟩) hS2 ?_
  try simp only [Act.put, List.setIfInBounds_toArray, List.set_cons_zero, List.set_cons_succ]
  refine wpAnyH_take (i := 12) (oi := ⟨some 24, _, _, _, _, _⟩) (v := undef) rfl (by kernel_rfl) (by kernel_rfl) (by kernel_rfl) (fun _ _ _ h => h) (Or.inr ⟨by rfl, rfl⟩) hS2 ?_
  try simp only [Act.put, List.setIfInBounds_toArray, List.set_cons_zero, List.set_cons_succ]
  refine wpAnyH_take (i := 13) (oi := ⟨some 25, _, _, _, _, _⟩) (v := undef) rfl (by kernel_rfl) (by kernel_rfl) (by kernel_rfl) (fun _ _ _ h => h) (Or.inr ⟨by rfl, rfl⟩) hS2 ?_
  try simp only [Act.put, List.setIfInBounds_toArray, List.set_cons_zero, List.set_cons_succ]
  refine wpAnyH_take (i := 14) (oi := ⟨some 26, _, _, _, _, _⟩) (v := undef) rfl (by kernel_rfl) (by kernel_rfl) (by kernel_rfl) (fun _ _ _ h => h) (Or.inr ⟨by rfl, rfl⟩) hS2 ?_
  try simp only [Act.put, List.setIfInBounds_toArray, List.set_cons_zero, List.set_cons_succ]
  refine wpAnyH_take (i := 15) (oi := ⟨some 27, _, _, _, _, _⟩) (v := undef) rfl (by kernel_rfl) (by kernel_rfl) (by kernel_rfl) (fun _ _ _ h => h) (Or.inr ⟨by rfl, rfl⟩) hS2 ?_
  try simp only [Act.put, List.setIfInBounds_toArray, List.set_cons_zero, List.set_cons_succ]
  refine wpAnyH_take (i := 16) (oi := ⟨some 28, _, _, _, _, _⟩) (v := .bool true) rfl (by kernel_rfl) (by kernel_rfl) (by kernel_rfl) (fun _ _ _ h => h) (Or.inl ⟨by rfl, fun W hW => by have p0 := hW.at4; have p1 := hW.at1; have p2 := hW.at2; have p3 := hW.view.atSelf; go_simp; try (intro h; omega)⟩) hS2 ?_
  try simp only [Act.put, List.setIfInBounds_toArray, List.set_cons_zero, List.set_cons_succ]
  refine wpAnyH_take (i := 17) (oi := ⟨some 29, _, _, _, _, _⟩) (v := .bool true) rfl (by kernel_rfl) (by kernel_rfl) (by kernel_rfl) (fun _ _ _ h => h) (Or.inl ⟨by rfl, fun W hW => by have p0 := hW.at4; have p1 := hW.at1; have p2 := hW.at2; have p3 := hW.view.atSelf; go_simp; try (intro h; omega)⟩) hS2 ?_
  try simp only [Act.put, List.setIfInBounds_toArray, List.set_cons_zero, List.set_cons_succ]
  refine wpAnyH_take (i := 18) (oi := ⟨some 30, _, _, _, _, _⟩) (v := undef) rfl (by kernel_rfl) (by kernel_rfl) (by kernel_rfl) (fun _ _ _ h => h) (Or.inr ⟨by rfl, rfl⟩) hS2 ?_
  try simp only [Act.put, List.setIfInBounds_toArray, List.set_cons_zero, List.set_cons_succ]
  refine wpAnyH_take (i := 19) (oi := ⟨some 31, _, _, _, _, _⟩) (v := undef) rfl (by kernel_rfl) (by kernel_rfl) (by kernel_rfl) (fun _ _ _ h => h) (Or.inr ⟨by rfl, rfl⟩) hS2 ?_
  try simp only [Act.put, List.setIfInBounds_toArray, List.set_cons_zero, List.set_cons_succ]
  refine wpAnyH_take (i := 20) (oi := ⟨some 32, _, _, _, _, _⟩) (v := undef) rfl (by kernel_rfl) (by kernel_rfl) (by kernel_rfl) (fun _ _ _ h => h) (Or.inr ⟨by rfl, rfl⟩) hS2 ?_
  try simp only [Act.put, List.setIfInBounds_toArray, List.set_cons_zero, List.set_cons_succ]
  refine wpAnyH_take (i := 21) (oi := ⟨some 33, _, _, _, _, _⟩) (v := undef) rfl (by kernel_rfl) (by kernel_rfl) (by kernel_rfl) (fun _ _ _ h => h) (Or.inr ⟨by rfl, rfl⟩) hS2 ?_
  try simp only [Act.put, List.setIfInBounds_toArray, List.set_cons_zero, List.set_cons_succ]
  refine wpAnyH_take (i := 22) (oi := ⟨some 34, _, _, _, _, _⟩) (v := undef) rfl (by kernel_rfl) (by kernel_rfl) (by kernel_rfl) (fun _ _ _ h => h) (Or.inr ⟨by rfl, rfl⟩) hS2 ?_
  try simp only [Act.put, List.setIfInBounds_toArray, List.set_cons_zero, List.set_cons_succ]
  refine wpAnyH_take (i := 23) (oi := ⟨some 35, _, _, _, _, _⟩) (v := undef) rfl (by kernel_rfl) (by kernel_rfl) (by kernel_rfl) (fun _ _ _ h => h) (Or.inr ⟨by rfl, rfl⟩) hS2 ?_
  try simp only [Act.put, List.setIfInBounds_toArray, List.set_cons_zero, List.set_cons_succ]
  refine wpAnyH_take (i := 24) (oi := ⟨some 36, _, _, _, _, _⟩) (v := undef) rfl (by kernel_rfl) (by kernel_rfl) (by kernel_rfl) (fun _ _ _ h => h) (Or.inr ⟨by rfl, rfl⟩) hS2 ?_
  try simp only [Act.put, List.setIfInBounds_toArray, List.set_cons_zero, List.set_cons_succ]
  refine wpAnyH_take (i := 25) (oi := ⟨some 37, _, _, _, _, _⟩) (v := undef) rfl (by kernel_rfl) (by kernel_rfl) (by kernel_rfl) (fun _ _ _ h => h) (Or.inr ⟨by rfl, rfl⟩) hS2 ?_
  try simp only [Act.put, List.setIfInBounds_toArray, List.set_cons_zero, List.set_cons_succ]
  refine wpAnyH_take (i := 26) (oi := ⟨some 38, _, _, _, _, _⟩) (v := undef) rfl (by kernel_rfl) (by kernel_rfl) (by kernel_rfl) (fun _ _ _ h => h) (Or.inr ⟨by rfl, rfl⟩) hS2 ?_
  try simp only [Act.put, List.setIfInBounds_toArray, List.set_cons_zero, List.set_cons_succ]
  refine wpAnyH_take (i := 27) (oi := ⟨some 39, _, _, _, _, _⟩) (v := undef) rfl (by kernel_rfl) (by kernel_rfl) (by kernel_rfl) (fun _ _ _ h => h) (Or.inr ⟨by rfl, rfl⟩) hS2 ?_
  try simp only [Act.put, List.setIfInBounds_toArray, List.set_cons_zero, List.set_cons_succ]
  refine wpAnyH_take (i := 28) (oi := ⟨some 40, _, _, _, _, _⟩) (v := .bool true) rfl (by kernel_rfl) (by kernel_rfl) (by kernel_rfl) (fun _ _ _ h => h) (Or.inl ⟨by rfl, fun W hW => by have p0 := hW.at4; have p1 := hW.at1; have p2 := hW.at2; have p3 := hW.view.atSelf; go_simp; try (intro h; omega)⟩) hS2 ?_
  try simp only [Act.put, List.setIfInBounds_toArray, List.set_cons_zero, List.set_cons_succ]
  refine wpAnyH_done (by kernel_rfl) ?_ _
  go_wp2_with fail
  go_ret
  exact hdone _ hS2
set_option maxHeartbeats 4000000 in
set_option maxRecDepth 100000 in
theorem vTake_idleC {g : Nat} {v : VS} (w : World) (h : VB w g v) (c : Array Value) (q : Pkt) (hq : PkIs c q) (h1 : rightP q = true) (h2 : q.cur ≤ 4611686018427387904) (h3 : q.fr = (v.self : Int)) : Calls Tryz.prog 30 #[.pointer (some ⟨g, 0, none⟩), .agg c] w (VtPost w g v q) := by
  have hidle : hearV v q (rightP q) = (v, []) := by
    unfold hearV
    rw [if_pos (show idleP v.self q (rightP q) from (Or.inr (Or.inr (Or.inl h3))))]
  have hR := fun W => vRight_calls hq W
  have hi : (Tryz.prog.info? 67).map (·.size) = some c.size := by rw [hq.size]; exact info26
  have hS := tkW_start h hq
  have k0 := hS.at0
  have hdone : ∀ W, TkW w g c q v W → VtPost w g v q (.returned (.slice none 0 0)) W := fun W hW => by
    refine ⟨_, rfl, ?_, ?_, hW.but⟩
    · rw [hidle]; exact ⟨[], .nil, World.ownsRow_nil _ _ _ _⟩
    · rw [hidle]; exact hW.view
  clear hidle h
  rw [h1] at hR
  have h2 : ¬ (4611686018427387904 : Int) < (q.cur : Int) := by omega
  have h4 : (q.fr == (v.self : Int)) = true := beq_iff_eq.2 h3
  generalize hk3 : (q.kind == (3 : Int)) = u at *
  go_enter Tryz.func30, Tryz.ntmps30
  go_wp2_with fail
  generalize w.alloc (.cells c 67) = W0 at *
  clear k0
  refine wp_region_held_drew (S := TkW w g c q v) (by kernel_rfl) (hS.keep (below_drew (Below.refl _ _))) (fun hHeld => ?_)
  clear hHeld
  replace hS := hS.keep (below_drew (Below.refl _ _))
  generalize W0.drew = W1 at *
  refine wpAnyH_take (i := 0) (oi := ⟨some 12, _, _, _, _, _⟩) (v := .agg c) rfl (by kernel_rfl) (by kernel_rfl) (by kernel_rfl) (fun _ _ _ h => h) (yields_row (by rfl) 67 (.tmp 3) rfl w.heap.size rfl 67 c (0, 0) _ (fun W h => h.b0) Tryz.underlying67 rfl hi) hS ?_
  try simp only [Act.put, List.setIfInBounds_toArray, List.set_cons_zero, List.set_cons_succ]
  refine wpAnyH_ready (rs := [1]) (by kernel_rfl) (by simp) ?_
  refine AllReadyH.cons (o := ⟨some 13, _, _, _, _, _⟩) rfl (fun K hK => ?_) AllReadyH.nil
  go_simp
  refine (hR _).mono ?_
  rintro e W2 ⟨rfl, hb⟩
  have hS2 := hS.keep hb
  clear hb hS
  go_wp2_with fail
  refine hK.out _ _ hS2 (fun hHeld => ?_)
  clear hHeld hK K
  try simp only [Act.put, List.setIfInBounds_toArray, List.set_cons_zero, List.set_cons_succ]
  refine wpAnyH_take (i := 2) (oi := ⟨some 14, _, _, _, _, _⟩) (v := .bool false) rfl (by kernel_rfl) (by kernel_rfl) (by kernel_rfl) (fun _ _ _ h => h) (Or.inl ⟨by rfl, fun W hW => by have p0 := hW.at4; have p1 := hW.at1; have p2 := hW.at2; have p3 := hW.view.atSelf; go_simp; try (intro h; omega)⟩) hS2 ?_
  try simp only [Act.put, List.setIfInBounds_toArray, List.set_cons_zero, List.set_cons_succ]
  refine wpAnyH_take (i := 3) (oi := ⟨some 15, _, _, _, _, _⟩) (v := .bool false) rfl (by kernel_rfl) (by kernel_rfl) (by kernel_rfl) (fun _ _ _ h => h) (Or.inl ⟨by rfl, fun W hW => by have p0 := hW.at4; have p1 := hW.at1; have p2 := hW.at2; have p3 := hW.view.atSelf; go_simp; try (intro h; omega)⟩) hS2 ?_
  try simp only [Act.put, List.setIfInBounds_toArray, List.set_cons_zero, List.set_cons_succ]
  refine wpAnyH_take (i := 4) (oi := ⟨some 16, _, _, _, _, _⟩) (v := .pointer (some ⟨w.heap.size, 4, none⟩)) rfl (by kernel_rfl) (by kernel_rfl) (by kernel_rfl) (fun _ _ _ h => h) (Or.inl ⟨by rfl, fun W hW => by have p0 := hW.at4; have p1 := hW.at1; have p2 := hW.at2; have p3 := hW.view.atSelf; go_simp; try (intro h; omega)⟩) hS2 ?_
  try simp only [Act.put, List.setIfInBounds_toArray, List.set_cons_zero, List.set_cons_succ]
  refine wpAnyH_take (i := 5) (oi := ⟨some 17, _, _, _, _, _⟩) (v := .int .u64 (q.cur : Int)) rfl (by kernel_rfl) (by kernel_rfl) (by kernel_rfl) (fun _ _ _ h => h) (Or.inl ⟨by rfl, fun W hW => by have p0 := hW.at4; have p1 := hW.at1; have p2 := hW.at2; have p3 := hW.view.atSelf; go_simp; try (intro h; omega)⟩) hS2 ?_
  try simp only [Act.put, List.setIfInBounds_toArray, List.set_cons_zero, List.set_cons_succ]
  refine wpAnyH_take (i := 6) (oi := ⟨some 18, _, _, _, _, _⟩) (v := .bool false) rfl (by kernel_rfl) (by kernel_rfl) (by kernel_rfl) (fun _ _ _ h => h) (Or.inl ⟨by rfl, fun W hW => by have p0 := hW.at4; have p1 := hW.at1; have p2 := hW.at2; have p3 := hW.view.atSelf; go_simp; try (intro h; omega)⟩) hS2 ?_
  try simp only [Act.put, List.setIfInBounds_toArray, List.set_cons_zero, List.set_cons_succ]
  refine wpAnyH_take (i := 7) (oi := ⟨some 19, _, _, _, _, _⟩) (v := .bool false) rfl (by kernel_rfl) (by kernel_rfl) (by kernel_rfl) (fun _ _ _ h => h) (Or.inl ⟨by rfl, fun W hW => by have p0 := hW.at4; have p1 := hW.at1; have p2 := hW.at2; have p3 := hW.view.atSelf; go_simp; try (intro h; omega)⟩) hS2 ?_
  try simp only [Act.put, List.setIfInBounds_toArray, List.set_cons_zero, List.set_cons_succ]
  refine wpAnyH_take (i := 8) (oi := ⟨some 20, _, _, _, _, _⟩) (v := .bool false) rfl (by kernel_rfl) (by kernel_rfl) (by kernel_rfl) (fun _ _ _ h => h) (Or.inl ⟨by rfl, fun W hW => by have p0 := hW.at4; have p1 := hW.at1; have p2 := hW.at2; have p3 := hW.view.atSelf; go_simp; try (intro h; omega)⟩) hS2 ?_
  try simp only [Act.put, List.setIfInBounds_toArray, List.set_cons_zero, List.set_cons_succ]
  refine wpAnyH_take (i := 9) (oi := ⟨some 21, _, _, _, _, _⟩) (v := .pointer (some ⟨w.heap.size, 1, none⟩)) rfl (by kernel_rfl) (by kernel_rfl) (by kernel_rfl) (fun _ _ _ h => h) (Or.inl ⟨by rfl, fun W hW => by have p0 := hW.at4; have p1 := hW.at1; have p2 := hW.at2; have p3 := hW.view.atSelf; go_simp; try (intro h; omega)⟩) hS2 ?_
  try simp only [Act.put, List.setIfInBounds_toArray, List.set_cons_zero, List.set_cons_succ]
  refine wpAnyH_take (i := 10) (oi := ⟨some 22, _, _, _, _, _⟩) (v := .int .i64 q.fr) rfl (by kernel_rfl) (by kernel_rfl) (by kernel_rfl) (fun _ _ _ h => h) (Or.inl ⟨by rfl, fun W hW => by have p0 := hW.at4; have p1 := hW.at1; have p2 := hW.at2; have p3 := hW.view.atSelf; go_simp; try (intro h; omega)⟩) hS2 ?_
  try simp only [Act.put, List.setIfInBounds_toArray, List.set_cons_zero, List.set_cons_succ]
  refine wpAnyH_take (i := 11) (oi := ⟨some 23, _, _, _, _, _⟩) (v := .pointer (some ⟨g, 0, none⟩)) rfl (by kernel_rfl) (by kernel_rfl) (by kernel_rfl) (fun _ _ _ h => h) (Or.inl ⟨by rfl, fun W hW => by have p0 := hW.at4; have p1 := hW.at1; have p2 := hW.at2; have p3 := hW.view.atSelf; go_simp; try (intro h; omega)⟩) hS2 ?_
  try simp only [Act.put, List.setIfInBounds_toArray, List.set_cons_zero, List.set_cons_succ]
  refine wpAnyH_take (i := 12) (oi := ⟨some 24, _, _, _, _, _⟩) (v := .pointer (some ⟨g, 0, none⟩)) rfl (by kernel_rfl) (by kernel_rfl) (by kernel_rfl) (fun _ _ _ h => h) (Or.inl ⟨by rfl, fun W hW => by have p0 := hW.at4; have p1 := hW.at1; have p2 := hW.at2; have p3 := hW.view.atSelf; go_simp; try (intro h; omega)⟩) hS2 ?_
  try simp only [Act.put, List.setIfInBounds_toArray, List.set_cons_zero, List.set_cons_succ]
  refine wpAnyH_take (i := 13) (oi := ⟨some 25, _, _, _, _, _⟩) (v := .pointer (some ⟨g, 0, none⟩)) rfl (by kernel_rfl) (by kernel_rfl) (by kernel_rfl) (fun _ _ _ h => h) (Or.inl ⟨by rfl, fun W hW => by have p0 := hW.at4; have p1 := hW.at1; have p2 := hW.at2; have p3 := hW.view.atSelf; go_simp; try (intro h; omega)⟩) hS2 ?_
  try simp only [Act.put, List.setIfInBounds_toArray, List.set_cons_zero, List.set_cons_succ]
  refine wpAnyH_take (i := 14) (oi := ⟨some 26, _, _, _, _, _⟩) (v := .int .i64 (v.self : Int)) rfl (by kernel_rfl) (by kernel_rfl) (by kernel_rfl) (fun _ _ _ h => h) (Or.inl ⟨by rfl, fun W hW => by have p0 := hW.at4; have p1 := hW.at1; have p2 := hW.at2; have p3 := hW.view.atSelf; go_simp; try (intro h; omega)⟩) hS2 ?_
  try simp only [Act.put, List.setIfInBounds_toArray, List.set_cons_zero, List.set_cons_succ]
  refine wpAnyH_take (i := 15) (oi := ⟨some 27, _, _, _, _, _⟩) (v := .bool true) rfl (by kernel_rfl) (by kernel_rfl) (by kernel_rfl) (fun _ _ _ h => h) (Or.inl ⟨by rfl, fun W hW => by have p0 := hW.at4; have p1 := hW.at1; have p2 := hW.at2; have p3 := hW.view.atSelf; go_simp; try (intro h; omega)⟩) hS2 ?_
  try simp only [Act.put, List.setIfInBounds_toArray, List.set_cons_zero, List.set_cons_succ]
  refine wpAnyH_take (i := 16) (oi := ⟨some 28, _, _, _, _, _⟩) (v := .bool true) rfl (by kernel_rfl) (by kernel_rfl) (by kernel_rfl) (fun _ _ _ h => h) (Or.inl ⟨by rfl, fun W hW => by have p0 := hW.at4; have p1 := hW.at1; have p2 := hW.at2; have p3 := hW.view.atSelf; go_simp; try (intro h; omega)⟩) hS2 ?_
  try simp only [Act.put, List.setIfInBounds_toArray, List.set_cons_zero, List.set_cons_succ]
  refine wpAnyH_take (i := 17) (oi := ⟨some 29, _, _, _, _, _⟩) (v := .bool true) rfl (by kernel_rfl) (by kernel_rfl) (by kernel_rfl) (fun _ _ _ h => h) (Or.inl ⟨by rfl, fun W hW => by have p0 := hW.at4; have p1 := hW.at1; have p2 := hW.at2; have p3 := hW.view.atSelf; go_simp; try (intro h; omega)⟩) hS2 ?_
  try simp only [Act.put, List.setIfInBounds_toArray, List.set_cons_zero, List.set_cons_succ]
  refine wpAnyH_take (i := 18) (oi := ⟨some 30, _, _, _, _, _⟩) (v := undef) rfl (by kernel_rfl) (by kernel_rfl) (by kernel_rfl) (fun _ _ _ h => h) (Or.inr ⟨by rfl, rfl⟩) hS2 ?_
  try simp only [Act.put, List.setIfInBounds_toArray, List.set_cons_zero, List.set_cons_succ]
  refine wpAnyH_take (i := 19) (oi := ⟨some 31, _, _, _, _, _⟩) (v := undef) rfl (by kernel_rfl) (by kernel_rfl) (by kernel_rfl) (fun _ _ _ h => h) (Or.inr ⟨by rfl, rfl⟩) hS2 ?_
  try simp only [Act.put, List.setIfInBounds_toArray, List.set_cons_zero, List.set_cons_succ]
  refine wpAnyH_take (i := 20) (oi := ⟨some 32, _, _, _, _, _⟩) (v := undef) rfl (by kernel_rfl) (by kernel_rfl) (by kernel_rfl) (fun _ _ _ h => h) (Or.inr ⟨by rfl, rfl⟩) hS2 ?_
  try simp only [Act.put, List.setIfInBounds_toArray, List.set_cons_zero, List.set_cons_succ]
  refine wpAnyH_take (i := 21) (oi := ⟨some 33, _, _, _, _, _⟩) (v := undef) rfl (by kernel_rfl) (by kernel_rfl) (by kernel_rfl) (fun _ _ _ h => h) (Or.inr ⟨by rfl, rfl⟩) hS2 ?_
  try simp only [Act.put, List.setIfInBounds_toArray, List.set_cons_zero, List.set_cons_succ]
  refine wpAnyH_take (i := 22) (oi := ⟨some 34, _, _, _, _, _⟩) (v := undef) rfl (by kernel_rfl) (by kernel_rfl) (by kernel_rfl) (fun _ _ _ h => h) (Or.inr ⟨by rfl, rfl⟩) hS2 ?_
  try simp only [Act.put, List.setIfInBounds_toArray, List.set_cons_zero, List.set_cons_succ]
  refine wpAnyH_take (i := 23) (oi := ⟨some 35, _, _, _, _, _⟩) (v := undef) rfl (by kernel_rfl) (by kernel_rfl) (by kernel_rfl) (fun _ _ _ h => h) (Or.inr ⟨by rfl, rfl⟩) hS2 ?_
  try simp only [Act.put, List.setIfInBounds_toArray, List.set_cons_zero, List.set_cons_succ]
  refine wpAnyH_take (i := 24) (oi := ⟨some 36, _, _, _, _, _⟩) (v := undef) rfl (by kernel_rfl) (by kernel_rfl) (by kernel_rfl) (fun _ _ _ h => h) (Or.inr ⟨by rfl, rfl⟩) hS2 ?_
  try simp only [Act.put, List.setIfInBounds_toArray, List.set_cons_zero, List.set_cons_succ]
  refine wpAnyH_take (i := 25) (oi := ⟨some 37, _, _, _, _, _⟩) (v := undef) rfl (by kernel_rfl) (by kernel_rfl) (by kernel_rfl) (fun _ _ _ h => h) (Or.inr ⟨by rfl, rfl⟩) hS2 ?_
  try simp only [Act.put, List.setIfInBounds_toArray, List.set_cons_zero, List.set_cons_succ]
  refine wpAnyH_take (i := 26) (oi := ⟨some 38, _, _, _, _, _⟩) (v := undef) rfl (by kernel_rfl) (by kernel_rfl) (by kernel_rfl) (fun _ _ _ h => h) (Or.inr ⟨by rfl, rfl⟩) hS2 ?_
  try simp only [Act.put, List.setIfInBounds_toArray, List.set_cons_zero, List.set_cons_succ]
  refine wpAnyH_take (i := 27) (oi := ⟨some 39, _, _, _, _, _⟩) (v := undef) rfl (by kernel_rfl) (by kernel_rfl) (by kernel_rfl) (fun _ _ _ h => h) (Or.inr ⟨by rfl, rfl⟩) hS2 ?_
  try simp only [Act.put, List.setIfInBounds_toArray, List.set_cons_zero, List.set_cons_succ]
  refine wpAnyH_take (i := 28) (oi := ⟨some 40, _, _, _, _, _⟩) (v := .bool true) rfl (by kernel_rfl) (by kernel_rfl) (by kernel_rfl) (fun _ _ _ h => h) (Or.inl ⟨by rfl, fun W hW => by have p0 := hW.at4; have p1 := hW.at1; have p2 := hW.at2; have p3 := hW.view.atSelf; go_simp; try (intro h; omega)⟩) hS2 ?_
  try simp only [Act.put, List.setIfInBounds_toArray, List.set_cons_zero, List.set_cons_succ]
  refine wpAnyH_done (by kernel_rfl) ?_ _
  go_wp2_with fail
  go_ret
  exact hdone _ hS2
set_option maxHeartbeats 4000000 in
set_option maxRecDepth 100000 in
theorem vTake_idleD {g : Nat} {v : VS} (w : World) (h : VB w g v) (c : Array Value) (q : Pkt) (hq : PkIs c q) (h1 : rightP q = true) (h2 : q.cur ≤ 4611686018427387904) (h3 : q.fr ≠ (v.self : Int)) (h5 : q.kind = 3) (h6 : q.of_ = (v.self : Int)) : Calls Tryz.prog 30 #[.pointer (some ⟨g, 0, none⟩), .agg c] w (VtPost w g v q) := by
  have hidle : hearV v q (rightP q) = (v, []) := by
    unfold hearV
    rw [if_pos (show idleP v.self q (rightP q) from (Or.inr (Or.inr (Or.inr ⟨h5, h6⟩))))]
  have hR := fun W => vRight_calls hq W
  have hi : (Tryz.prog.info? 67).map (·.size) = some c.size := by rw [hq.size]; exact info26
  have hS := tkW_start h hq
  have k0 := hS.at0
  have hdone : ∀ W, TkW w g c q v W → VtPost w g v q (.returned (.slice none 0 0)) W := fun W hW => by
    refine ⟨_, rfl, ?_, ?_, hW.but⟩
    · rw [hidle]; exact ⟨[], .nil, World.ownsRow_nil _ _ _ _⟩
    · rw [hidle]; exact hW.view
  clear hidle h
  rw [h1] at hR
  have h2 : ¬ (4611686018427387904 : Int) < (q.cur : Int) := by omega
  have h4 : (q.fr == (v.self : Int)) = false := beq_eq_false_iff_ne.2 h3
  have h7 : (q.of_ == (v.self : Int)) = true := beq_iff_eq.2 h6
  have hk3 : (q.kind == (3 : Int)) = true := beq_iff_eq.2 h5
  go_enter Tryz.func30, Tryz.ntmps30
  go_wp2_with fail
  generalize w.alloc (.cells c 67) = W0 at *
  clear k0
  refine wp_region_held_drew (S := TkW w g c q v) (by kernel_rfl) (hS.keep (below_drew (Below.refl _ _))) (fun hHeld => ?_)
  clear hHeld
  replace hS := hS.keep (below_drew (Below.refl _ _))
  generalize W0.drew = W1 at *
  refine wpAnyH_take (i := 0) (oi := ⟨some 12, _, _, _, _, _⟩) (v := .agg c) rfl (by kernel_rfl) (by kernel_rfl) (by kernel_rfl) (fun _ _ _ h => h) (yields_row (by rfl) 67 (.tmp 3) rfl w.heap.size rfl 67 c (0, 0) _ (fun W h => h.b0) Tryz.underlying67 rfl hi) hS ?_
  try simp only [Act.put, List.setIfInBounds_toArray, List.set_cons_zero, List.set_cons_succ]
  refine wpAnyH_ready (rs := [1]) (by kernel_rfl) (by simp) ?_
  refine AllReadyH.cons (o := ⟨some 13, _, _, _, _, _⟩) rfl (fun K hK => ?_) AllReadyH.nil
  go_simp
  refine (hR _).mono ?_
  rintro e W2 ⟨rfl, hb⟩
  have hS2 := hS.keep hb
  clear hb hS
  go_wp2_with fail
  refine hK.out _ _ hS2 (fun hHeld => ?_)
  clear hHeld hK K
  try simp only [Act.put, List.setIfInBounds_toArray, List.set_cons_zero, List.set_cons_succ]
  refine wpAnyH_take (i := 2) (oi := ⟨some 14, _, _, _, _, _⟩) (v := .bool false) rfl (by kernel_rfl) (by kernel_rfl) (by kernel_rfl) (fun _ _ _ h => h) (Or.inl ⟨by rfl, fun W hW => by have p0 := hW.at4; have p1 := hW.at1; have p2 := hW.at2; have p3 := hW.view.atSelf; go_simp; try (intro h; omega)⟩) hS2 ?_
  try simp only [Act.put, List.setIfInBounds_toArray, List.set_cons_zero, List.set_cons_succ]
  refine wpAnyH_take (i := 3) (oi := ⟨some 15, _, _, _, _, _⟩) (v := .bool false) rfl (by kernel_rfl) (by kernel_rfl) (by kernel_rfl) (fun _ _ _ h => h) (Or.inl ⟨by rfl, fun W hW => by have p0 := hW.at4; have p1 := hW.at1; have p2 := hW.at2; have p3 := hW.view.atSelf; go_simp; try (intro h; omega)⟩) hS2 ?_
  try simp only [Act.put, List.setIfInBounds_toArray, List.set_cons_zero, List.set_cons_succ]
  refine wpAnyH_take (i := 4) (oi := ⟨some 16, _, _, _, _, _⟩) (v := .pointer (some ⟨w.heap.size, 4, none⟩)) rfl (by kernel_rfl) (by kernel_rfl) (by kernel_rfl) (fun _ _ _ h => h) (Or.inl ⟨by rfl, fun W hW => by have p0 := hW.at4; have p1 := hW.at1; have p2 := hW.at2; have p3 := hW.view.atSelf; go_simp; try (intro h; omega)⟩) hS2 ?_
  try simp only [Act.put, List.setIfInBounds_toArray, List.set_cons_zero, List.set_cons_succ]
  refine wpAnyH_take (i := 5) (oi := ⟨some 17, _, _, _, _, _⟩) (v := .int .u64 (q.cur : Int)) rfl (by kernel_rfl) (by kernel_rfl) (by kernel_rfl) (fun _ _ _ h => h) (Or.inl ⟨by rfl, fun W hW => by have p0 := hW.at4; have p1 := hW.at1; have p2 := hW.at2; have p3 := hW.view.atSelf; go_simp; try (intro h; omega)⟩) hS2 ?_
  try simp only [Act.put, List.setIfInBounds_toArray, List.set_cons_zero, List.set_cons_succ]
  refine wpAnyH_take (i := 6) (oi := ⟨some 18, _, _, _, _, _⟩) (v := .bool false) rfl (by kernel_rfl) (by kernel_rfl) (by kernel_rfl) (fun _ _ _ h => h) (Or.inl ⟨by rfl, fun W hW => by have p0 := hW.at4; have p1 := hW.at1; have p2 := hW.at2; have p3 := hW.view.atSelf; go_simp; try (intro h; omega)⟩) hS2 ?_
  try simp only [Act.put, List.setIfInBounds_toArray, List.set_cons_zero, List.set_cons_succ]
  refine wpAnyH_take (i := 7) (oi := ⟨some 19, _, _, _, _, _⟩) (v := .bool false) rfl (by kernel_rfl) (by kernel_rfl) (by kernel_rfl) (fun _ _ _ h => h) (Or.inl ⟨by rfl, fun W hW => by have p0 := hW.at4; have p1 := hW.at1; have p2 := hW.at2; have p3 := hW.view.atSelf; go_simp; try (intro h; omega)⟩) hS2 ?_
  try simp only [Act.put, List.setIfInBounds_toArray, List.set_cons_zero, List.set_cons_succ]
  refine wpAnyH_take (i := 8) (oi := ⟨some 20, _, _, _, _, _⟩) (v := .bool false) rfl (by kernel_rfl) (by kernel_rfl) (by kernel_rfl) (fun _ _ _ h => h) (Or.inl ⟨by rfl, fun W hW => by have p0 := hW.at4; have p1 := hW.at1; have p2 := hW.at2; have p3 := hW.view.atSelf; go_simp; try (intro h; omega)⟩) hS2 ?_
  try simp only [Act.put, List.setIfInBounds_toArray, List.set_cons_zero, List.set_cons_succ]
  refine wpAnyH_take (i := 9) (oi := ⟨some 21, _, _, _, _, _⟩) (v := .pointer (some ⟨w.heap.size, 1, none⟩)) rfl (by kernel_rfl) (by kernel_rfl) (by kernel_rfl) (fun _ _ _ h => h) (Or.inl ⟨by rfl, fun W hW => by have p0 := hW.at4; have p1 := hW.at1; have p2 := hW.at2; have p3 := hW.view.atSelf; go_simp; try (intro h; omega)⟩) hS2 ?_
  try simp only [Act.put, List.setIfInBounds_toArray, List.set_cons_zero, List.set_cons_succ]
  refine wpAnyH_take (i := 10) (oi := ⟨some 22, _, _, _, _, _⟩) (v := .int .i64 q.fr) rfl (by kernel_rfl) (by kernel_rfl) (by kernel_rfl) (fun _ _ _ h => h) (Or.inl ⟨by rfl, fun W hW => by have p0 := hW.at4; have p1 := hW.at1; have p2 := hW.at2; have p3 := hW.view.atSelf; go_simp; try (intro h; omega)⟩) hS2 ?_
  try simp only [Act.put, List.setIfInBounds_toArray, List.set_cons_zero, List.set_cons_succ]
  refine wpAnyH_take (i := 11) (oi := ⟨some 23, _, _, _, _, _⟩) (v := .pointer (some ⟨g, 0, none⟩)) rfl (by kernel_rfl) (by kernel_rfl) (by kernel_rfl) (fun _ _ _ h => h) (Or.inl ⟨by rfl, fun W hW => by have p0 := hW.at4; have p1 := hW.at1; have p2 := hW.at2; have p3 := hW.view.atSelf; go_simp; try (intro h; omega)⟩) hS2 ?_
  try simp only [Act.put, List.setIfInBounds_toArray, List.set_cons_zero, List.set_cons_succ]
  refine wpAnyH_take (i := 12) (oi := ⟨some 24, _, _, _, _, _⟩) (v := .pointer (some ⟨g, 0, none⟩)) rfl (by kernel_rfl) (by kernel_rfl) (by kernel_rfl) (fun _ _ _ h => h) (Or.inl ⟨by rfl, fun W hW => by have p0 := hW.at4; have p1 := hW.at1; have p2 := hW.at2; have p3 := hW.view.atSelf; go_simp; try (intro h; omega)⟩) hS2 ?_
  try simp only [Act.put, List.setIfInBounds_toArray, List.set_cons_zero, List.set_cons_succ]
  refine wpAnyH_take (i := 13) (oi := ⟨some 25, _, _, _, _, _⟩) (v := .pointer (some ⟨g, 0, none⟩)) rfl (by kernel_rfl) (by kernel_rfl) (by kernel_rfl) (fun _ _ _ h => h) (Or.inl ⟨by rfl, fun W hW => by have p0 := hW.at4; have p1 := hW.at1; have p2 := hW.at2; have p3 := hW.view.atSelf; go_simp; try (intro h; omega)⟩) hS2 ?_
  try simp only [Act.put, List.setIfInBounds_toArray, List.set_cons_zero, List.set_cons_succ]
  refine wpAnyH_take (i := 14) (oi := ⟨some 26, _, _, _, _, _⟩) (v := .int .i64 (v.self : Int)) rfl (by kernel_rfl) (by kernel_rfl) (by kernel_rfl) (fun _ _ _ h => h) (Or.inl ⟨by rfl, fun W hW => by have p0 := hW.at4; have p1 := hW.at1; have p2 := hW.at2; have p3 := hW.view.atSelf; go_simp; try (intro h; omega)⟩) hS2 ?_
  try simp only [Act.put, List.setIfInBounds_toArray, List.set_cons_zero, List.set_cons_succ]
  refine wpAnyH_take (i := 15) (oi := ⟨some 27, _, _, _, _, _⟩) (v := .bool false) rfl (by kernel_rfl) (by kernel_rfl) (by kernel_rfl) (fun _ _ _ h => h) (Or.inl ⟨by rfl, fun W hW => by have p0 := hW.at4; have p1 := hW.at1; have p2 := hW.at2; have p3 := hW.view.atSelf; go_simp; try (intro h; omega)⟩) hS2 ?_
  try simp only [Act.put, List.setIfInBounds_toArray, List.set_cons_zero, List.set_cons_succ]
  refine wpAnyH_take (i := 16) (oi := ⟨some 28, _, _, _, _, _⟩) (v := .bool false) rfl (by kernel_rfl) (by kernel_rfl) (by kernel_rfl) (fun _ _ _ h => h) (Or.inl ⟨by rfl, fun W hW => by have p0 := hW.at4; have p1 := hW.at1; have p2 := hW.at2; have p3 := hW.view.atSelf; go_simp; try (intro h; omega)⟩) hS2 ?_
  try simp only [Act.put, List.setIfInBounds_toArray, List.set_cons_zero, List.set_cons_succ]
  refine wpAnyH_take (i := 17) (oi := ⟨some 29, _, _, _, _, _⟩) (v := .bool false) rfl (by kernel_rfl) (by kernel_rfl) (by kernel_rfl) (fun _ _ _ h => h) (Or.inl ⟨by rfl, fun W hW => by have p0 := hW.at4; have p1 := hW.at1; have p2 := hW.at2; have p3 := hW.view.atSelf; go_simp; try (intro h; omega)⟩) hS2 ?_
  try simp only [Act.put, List.setIfInBounds_toArray, List.set_cons_zero, List.set_cons_succ]
  refine wpAnyH_take (i := 18) (oi := ⟨some 30, _, _, _, _, _⟩) (v := .bool true) rfl (by kernel_rfl) (by kernel_rfl) (by kernel_rfl) (fun _ _ _ h => h) (Or.inl ⟨by rfl, fun W hW => by have p0 := hW.at4; have p1 := hW.at1; have p2 := hW.at2; have p3 := hW.view.atSelf; go_simp; try (intro h; omega)⟩) hS2 ?_
  try simp only [Act.put, List.setIfInBounds_toArray, List.set_cons_zero, List.set_cons_succ]
  refine wpAnyH_take (i := 19) (oi := ⟨some 31, _, _, _, _, _⟩) (v := .bool true) rfl (by kernel_rfl) (by kernel_rfl) (by kernel_rfl) (fun _ _ _ h => h) (Or.inl ⟨by rfl, fun W hW => by have p0 := hW.at4; have p1 := hW.at1; have p2 := hW.at2; have p3 := hW.view.atSelf; go_simp; try (intro h; omega)⟩) hS2 ?_
  try simp only [Act.put, List.setIfInBounds_toArray, List.set_cons_zero, List.set_cons_succ]
  refine wpAnyH_take (i := 20) (oi := ⟨some 32, _, _, _, _, _⟩) (v := .pointer (some ⟨w.heap.size, 2, none⟩)) rfl (by kernel_rfl) (by kernel_rfl) (by kernel_rfl) (fun _ _ _ h => h) (Or.inl ⟨by rfl, fun W hW => by have p0 := hW.at4; have p1 := hW.at1; have p2 := hW.at2; have p3 := hW.view.atSelf; go_simp; try (intro h; omega)⟩) hS2 ?_
  try simp only [Act.put, List.setIfInBounds_toArray, List.set_cons_zero, List.set_cons_succ]
  refine wpAnyH_take (i := 21) (oi := ⟨some 33, _, _, _, _, _⟩) (v := .int .i64 q.of_) rfl (by kernel_rfl) (by kernel_rfl) (by kernel_rfl) (fun _ _ _ h => h) (Or.inl ⟨by rfl, fun W hW => by have p0 := hW.at4; have p1 := hW.at1; have p2 := hW.at2; have p3 := hW.view.atSelf; go_simp; try (intro h; omega)⟩) hS2 ?_
  try simp only [Act.put, List.setIfInBounds_toArray, List.set_cons_zero, List.set_cons_succ]
  refine wpAnyH_take (i := 22) (oi := ⟨some 34, _, _, _, _, _⟩) (v := .pointer (some ⟨g, 0, none⟩)) rfl (by kernel_rfl) (by kernel_rfl) (by kernel_rfl) (fun _ _ _ h => h) (Or.inl ⟨by rfl, fun W hW => by have p0 := hW.at4; have p1 := hW.at1; have p2 := hW.at2; have p3 := hW.view.atSelf; go_simp; try (intro h; omega)⟩) hS2 ?_
  try simp only [Act.put, List.setIfInBounds_toArray, List.set_cons_zero, List.set_cons_succ]
  refine wpAnyH_take (i := 23) (oi := ⟨some 35, _, _, _, _, _⟩) (v := .pointer (some ⟨g, 0, none⟩)) rfl (by kernel_rfl) (by kernel_rfl) (by kernel_rfl) (fun _ _ _ h => h) (Or.inl ⟨by rfl, fun W hW => by have p0 := hW.at4; have p1 := hW.at1; have p2 := hW.at2; have p3 := hW.view.atSelf; go_simp; try (intro h; omega)⟩) hS2 ?_
  try simp only [Act.put, List.setIfInBounds_toArray, List.set_cons_zero, List.set_cons_succ]
  refine wpAnyH_take (i := 24) (oi := ⟨some 36, _, _, _, _, _⟩) (v := .pointer (some ⟨g, 0, none⟩)) rfl (by kernel_rfl) (by kernel_rfl) (by kernel_rfl) (fun _ _ _ h => h) (Or.inl ⟨by rfl, fun W hW => by have p0 := hW.at4; have p1 := hW.at1; have p2 := hW.at2; have p3 := hW.view.atSelf; go_simp; try (intro h; omega)⟩) hS2 ?_
  try simp only [Act.put, List.setIfInBounds_toArray, List.set_cons_zero, List.set_cons_succ]
  refine wpAnyH_take (i := 25) (oi := ⟨some 37, _, _, _, _, _⟩) (v := .int .i64 (v.self : Int)) rfl (by kernel_rfl) (by kernel_rfl) (by kernel_rfl) (fun _ _ _ h => h) (Or.inl ⟨by rfl, fun W hW => by have p0 := hW.at4; have p1 := hW.at1; have p2 := hW.at2; have p3 := hW.view.atSelf; go_simp; try (intro h; omega)⟩) hS2 ?_
  try simp only [Act.put, List.setIfInBounds_toArray, List.set_cons_zero, List.set_cons_succ]
  refine wpAnyH_take (i := 26) (oi := ⟨some 38, _, _, _, _, _⟩) (v := .bool true) rfl (by kernel_rfl) (by kernel_rfl) (by kernel_rfl) (fun _ _ _ h => h) (Or.inl ⟨by rfl, fun W hW => by have p0 := hW.at4; have p1 := hW.at1; have p2 := hW.at2; have p3 := hW.view.atSelf; go_simp; try (intro h; omega)⟩) hS2 ?_
  try simp only [Act.put, List.setIfInBounds_toArray, List.set_cons_zero, List.set_cons_succ]
  refine wpAnyH_take (i := 27) (oi := ⟨some 39, _, _, _, _, _⟩) (v := .bool true) rfl (by kernel_rfl) (by kernel_rfl) (by kernel_rfl) (fun _ _ _ h => h) (Or.inl ⟨by rfl, fun W hW => by have p0 := hW.at4; have p1 := hW.at1; have p2 := hW.at2; have p3 := hW.view.atSelf; go_simp; try (intro h; omega)⟩) hS2 ?_
  try simp only [Act.put, List.setIfInBounds_toArray, List.set_cons_zero, List.set_cons_succ]
  refine wpAnyH_take (i := 28) (oi := ⟨some 40, _, _, _, _, _⟩) (v := .bool true) rfl (by kernel_rfl) (by kernel_rfl) (by kernel_rfl) (fun _ _ _ h => h) (Or.inl ⟨by rfl, fun W hW => by have p0 := hW.at4; have p1 := hW.at1; have p2 := hW.at2; have p3 := hW.view.atSelf; go_simp; try (intro h; omega)⟩) hS2 ?_
  try simp only [Act.put, List.setIfInBounds_toArray, List.set_cons_zero, List.set_cons_succ]
  refine wpAnyH_done (by kernel_rfl) ?_ _
  go_wp2_with fail
  go_ret
  exact hdone _ hS2
end Go.Proofs.YtgdcnenlelckhaaGreatDoor

namespace Go.Proofs.YtgdcnenlelckhaaGreatDoor
open Go.RowKit Go.Proofs.YtgdcnenlelckhaaGreatDoorW.PrintWords
open SlS SlT
theorem put_all (a z : Array Value) (hz : z.size = a.size) : Array.foldl (fun cs x => cs.setIfInBounds (0 + x.2) x.1) z a.zipIdx 0 a.size = a := by
  have := put_tail a #[] z 0 rfl hz
  simpa using this
theorem run_build1 (c : Array Value) (hcs : c.size = 261) (W : World) : (Instr.buildSlice 81 1 #[(0, .agg c)]).run Tryz.prog W = .ok (.slice (some ⟨W.heap.size, 0, none⟩) 1 1) (W.alloc (.cells c 67)) := by
  obtain ⟨i0, hi0, hz0, hz1, hz2⟩ : ∃ i0, Tryz.prog.info? 67 = some i0 ∧ i0.zero = some (.agg Tryz.zeroCells67) ∧ i0.size = 261 ∧ i0.bytes = 2088 := info_parts (by kernel_rfl)
  have hR : ∀ z : Array Value, ((Array.range 261).map (fun x => z[x % z.size]!)).size = c.size := fun z => by rw [Array.size_map, Array.size_range, hcs]
  have hfill : ∀ z : Array Value, z.size = c.size → Instr.fill (fun i => some (i * 261, 261)) z [(0, .agg c)] = some c := fun z hz => by
    have hp := put_all c z hz
    simp only [Instr.fill, Value.cells, Nat.zero_mul]
    rw [if_neg (by simp [hcs, hz])]
    simpa using hp
  have hR2 := hfill _ (hR Tryz.zeroCells67)
  have hs : ∀ W, (sizeOf 67).run Tryz.prog W = .ok 261 W := fun W => by kernel_rfl
  have hz := (zero_of_info (P := Tryz.prog) (t := 67) (v := .agg Tryz.zeroCells67) (n := 261) (by kernel_rfl)).1
  unfold Instr.buildSlice
  simp only [Sem.run_bind, run_underlying Tryz.underlying81, Result.andThen_ok, hs, Nat.one_mul]
  rw [if_neg (by decide)]
  rw [if_neg (by decide)]
  simp only [Sem.run_bind, Sem.run_pure, Result.andThen_ok, hz, Value.cells]
  rw [hR2]
  simp [newRow, newObj, go_sem]
  rfl
theorem wp_build1 {op : Oper} {a : Act} {w : World} {K : Act → World → Prop} {Q : Exit → Act → World → Prop} (x : Operand) (c : Array Value) (ho : op.op = .buildSlice 81 1 #[(0, x)]) (hx : a.eval x = .agg c) (hcs : c.size = 261)
    (h : K (a.put op.dst (.slice (some ⟨w.heap.size, 0, none⟩) 1 1)) (w.alloc (.cells c 67))) : op.wp Tryz.prog a w K Q := by
  unfold Oper.wp execOp
  simp only [ho, List.map_toArray, List.map_cons, List.map_nil, hx, Sem.run_bind, run_build1 c hcs w, Result.andThen_ok, Sem.run_pure]
  exact h
theorem wpList_build1 {ops : Array Oper} {rest : List Oper} {op : Oper} {a : Act} {w : World} {Q : Exit → Act → World → Prop} (hgd : op.guard = none) (x : Operand) (c : Array Value) (ho : op.op = .buildSlice 81 1 #[(0, x)]) (hx : a.eval x = .agg c) (hcs : c.size = 261)
    (h : wpList Tryz.prog ops Q rest (a.put op.dst (.slice (some ⟨w.heap.size, 0, none⟩) 1 1)) (w.alloc (.cells c 67))) : wpList Tryz.prog ops Q (op :: rest) a w :=
  wpList_plain hgd fun _ hK => wp_build1 x c ho hx hcs (hK _ _ h)
inductive TkA (g p : Nat) (upd n l o : Value) : Act → Prop
  | mk {u1 u2 u9 u10 u11 u12 u13 u14 u15 u16 u17 u18 u19 u20 u21 u22 u23 u24 u25 u26 u27 u28 u29 u30 u31 u32 u33 u34 u35 u36 u37 u38 u39 u40 u41 u42 u43 u44 u45 u46 u47 u48 u49 u50 u51 u52 u53 u54 u55 u56 u57 u58 u59 u60 u61 u62 u63 u64 u65 u66 u67 u68 u69 u70 u71 u72 u73 u74 u75 u76 u77 u78 u79 u80 u81 u82 u83 u84 u85 u86 u87 u88 u89 u90 u91 u92 u93 u94 u95 u96 u97 u98 u99 u100 u101 u102 u103 u104 u105 u106 u107 u108 u109 u110 u111 u112 u113 u114 u115 u116 u117 u118 u119 u120 u121 u122 u123 u124 u125 u126 u127 u128 u129 u130 u131 u132 : Value} : TkA g p upd n l o ⟨#[.pointer (some ⟨g, 0, none⟩), u1, u2, .pointer (some ⟨p, 0, none⟩), .slice none 0 0, upd, n, l, o, u9, u10, u11, u12, u13, u14, u15, u16, u17, u18, u19, u20, u21, u22, u23, u24, u25, u26, u27, u28, u29, u30, u31, u32, u33, u34, u35, u36, u37, u38, u39, u40, u41, u42, u43, u44, u45, u46, u47, u48, u49, u50, u51, u52, u53, u54, u55, u56, u57, u58, u59, u60, u61, u62, u63, u64, u65, u66, u67, u68, u69, u70, u71, u72, u73, u74, u75, u76, u77, u78, u79, u80, u81, u82, u83, u84, u85, u86, u87, u88, u89, u90, u91, u92, u93, u94, u95, u96, u97, u98, u99, u100, u101, u102, u103, u104, u105, u106, u107, u108, u109, u110, u111, u112, u113, u114, u115, u116, u117, u118, u119, u120, u121, u122, u123, u124, u125, u126, u127, u128, u129, u130, u131, u132], []⟩
theorem TkA_mk {g p : Nat} {upd n l o u1 u2 u9 u10 u11 u12 u13 u14 u15 u16 u17 u18 u19 u20 u21 u22 u23 u24 u25 u26 u27 u28 u29 u30 u31 u32 u33 u34 u35 u36 u37 u38 u39 u40 u41 u42 u43 u44 u45 u46 u47 u48 u49 u50 u51 u52 u53 u54 u55 u56 u57 u58 u59 u60 u61 u62 u63 u64 u65 u66 u67 u68 u69 u70 u71 u72 u73 u74 u75 u76 u77 u78 u79 u80 u81 u82 u83 u84 u85 u86 u87 u88 u89 u90 u91 u92 u93 u94 u95 u96 u97 u98 u99 u100 u101 u102 u103 u104 u105 u106 u107 u108 u109 u110 u111 u112 u113 u114 u115 u116 u117 u118 u119 u120 u121 u122 u123 u124 u125 u126 u127 u128 u129 u130 u131 u132 : Value} : TkA g p upd n l o ⟨#[.pointer (some ⟨g, 0, none⟩), u1, u2, .pointer (some ⟨p, 0, none⟩), .slice none 0 0, upd, n, l, o, u9, u10, u11, u12, u13, u14, u15, u16, u17, u18, u19, u20, u21, u22, u23, u24, u25, u26, u27, u28, u29, u30, u31, u32, u33, u34, u35, u36, u37, u38, u39, u40, u41, u42, u43, u44, u45, u46, u47, u48, u49, u50, u51, u52, u53, u54, u55, u56, u57, u58, u59, u60, u61, u62, u63, u64, u65, u66, u67, u68, u69, u70, u71, u72, u73, u74, u75, u76, u77, u78, u79, u80, u81, u82, u83, u84, u85, u86, u87, u88, u89, u90, u91, u92, u93, u94, u95, u96, u97, u98, u99, u100, u101, u102, u103, u104, u105, u106, u107, u108, u109, u110, u111, u112, u113, u114, u115, u116, u117, u118, u119, u120, u121, u122, u123, u124, u125, u126, u127, u128, u129, u130, u131, u132], []⟩ := TkA.mk
theorem wp_cutT {P : Program} {x y : Code} {Q : Exit → Act → World → Prop} {a : Act} {w : World} (g p : Nat) (upd n o : Value) (T : Value → World → Prop) (h1 : x.wp P (Exit.then (fun a W => ∃ l, TkA g p upd n l o a ∧ T l W) Q) a w) (h2 : ∀ (u1 u2 u9 u10 u11 u12 u13 u14 u15 u16 u17 u18 u19 u20 u21 u22 u23 u24 u25 u26 u27 u28 u29 u30 u31 u32 u33 u34 u35 u36 u37 u38 u39 u40 u41 u42 u43 u44 u45 u46 u47 u48 u49 u50 u51 u52 u53 u54 u55 u56 u57 u58 u59 u60 u61 u62 u63 u64 u65 u66 u67 u68 u69 u70 u71 u72 u73 u74 u75 u76 u77 u78 u79 u80 u81 u82 u83 u84 u85 u86 u87 u88 u89 u90 u91 u92 u93 u94 u95 u96 u97 u98 u99 u100 u101 u102 u103 u104 u105 u106 u107 u108 u109 u110 u111 u112 u113 u114 u115 u116 u117 u118 u119 u120 u121 u122 u123 u124 u125 u126 u127 u128 u129 u130 u131 u132 l : Value) (W : World), T l W → y.wp P Q ⟨#[.pointer (some ⟨g, 0, none⟩), u1, u2, .pointer (some ⟨p, 0, none⟩), .slice none 0 0, upd, n, l, o, u9, u10, u11, u12, u13, u14, u15, u16, u17, u18, u19, u20, u21, u22, u23, u24, u25, u26, u27, u28, u29, u30, u31, u32, u33, u34, u35, u36, u37, u38, u39, u40, u41, u42, u43, u44, u45, u46, u47, u48, u49, u50, u51, u52, u53, u54, u55, u56, u57, u58, u59, u60, u61, u62, u63, u64, u65, u66, u67, u68, u69, u70, u71, u72, u73, u74, u75, u76, u77, u78, u79, u80, u81, u82, u83, u84, u85, u86, u87, u88, u89, u90, u91, u92, u93, u94, u95, u96, u97, u98, u99, u100, u101, u102, u103, u104, u105, u106, u107, u108, u109, u110, u111, u112, u113, u114, u115, u116, u117, u118, u119, u120, u121, u122, u123, u124, u125, u126, u127, u128, u129, u130, u131, u132], []⟩ W) : (Code.seq x y).wp P Q a w := by
  refine wp_cut _ h1 ?_
  intro a W hx
  obtain ⟨l, hA, h⟩ := hx
  cases hA
  exact h2 _ _ _ _ _ _ _ _ _ _ _ _ _ _ _ _ _ _ _ _ _ _ _ _ _ _ _ _ _ _ _ _ _ _ _ _ _ _ _ _ _ _ _ _ _ _ _ _ _ _ _ _ _ _ _ _ _ _ _ _ _ _ _ _ _ _ _ _ _ _ _ _ _ _ _ _ _ _ _ _ _ _ _ _ _ _ _ _ _ _ _ _ _ _ _ _ _ _ _ _ _ _ _ _ _ _ _ _ _ _ _ _ _ _ _ _ _ _ _ _ _ _ _ _ _ _ _ _ h
theorem taken_cur (v : VS) (q : Pkt) : (takenV v q).cur = max v.cur q.cur := by
  unfold takenV
  split <;> rfl
theorem info_pk' : ∃ i0, Tryz.prog.info? 67 = some i0 ∧ i0.zero = some (.agg Tryz.zeroCells67) ∧ i0.size = 261 ∧ i0.bytes = 2088 := info_parts (by kernel_rfl)
theorem rowP_len {cs : List (Array Value)} {l : List Pkt} (h : PksIs cs l) : (rowP cs).length = l.length * 261 := by
  induction h with
  | nil => rfl
  | @cons c q cs l h1 _ ih =>
    show (c.toList ++ rowP cs).length = _
    rw [List.length_append, ih, Array.length_toList, h1.size, List.length_cons]
    omega
theorem rowP_snoc (cs : List (Array Value)) (c : Array Value) : rowP (cs ++ [c]) = rowP cs ++ c.toList := by simp [rowP]
theorem news_row (w : World) (c : Array Value) (T : TypeId) : ∀ (j : Nat) (u : Value), c.toList[j]? = some u → (w.alloc (.cells c T)).cell? ((⟨w.heap.size, 0, none⟩ : Addr).add j) = some u := by
  intro j u h
  have hadd : (⟨w.heap.size, 0, none⟩ : Addr).add j = ⟨w.heap.size, j, none⟩ := by unfold Addr.add; split <;> simp_all
  rw [hadd, cellBox (heapN w _)]
  rw [Array.getElem?_toList] at h
  exact h
theorem one_row {c : Array Value} (h : c.all (·.oneCell') = true) : ∀ u ∈ c.toList, u.oneCell' = true := by
  rw [Array.all_eq_true_iff_forall_mem] at h
  intro u hu
  exact h u (by simpa using hu)
theorem TkW.grown {w : World} {g : Nat} {c : Array Value} {q : Pkt} {v : VS} {W W2 W' : World} {x : Value} {b n : Nat} {xs : List Value} (h : TkW w g c q v W) (hg : W.grownBy W' x.ownBlock) (ho : W2.ownsRow b 67 261 x n xs) (hb : w.heap.size + 1 ≤ b) : TkW w g c q v W' := by
  have hne : ∀ k, k ≤ w.heap.size → some k ≠ x.ownBlock := fun k hk e => by have := own_base ho k e.symm; omega
  have hk : ∀ k, k < W.heap.size → k ≤ w.heap.size → W'.heap[k]? = W.heap[k]? := fun k hk h1 => hg.block k hk (hne k h1)
  obtain ⟨cc, hv1, hv2⟩ := h.view
  have hgl := h.glt
  have hs := h.but.size
  refine ⟨⟨hg.os.trans h.but.os, hg.tape.trans h.but.tape, hg.output.trans h.but.output, Nat.le_trans h.but.size hg.size, fun k hk1 hk2 => (hk k (by omega) (by omega)).trans (h.but.block k hk1 hk2)⟩, (hk _ (blk_lt h.b0) (Nat.le_refl _)).trans h.b0, ⟨cc, (hk _ (blk_lt hv1) (by omega)).trans hv1, hv2⟩, h.glt, h.pk⟩
set_option maxHeartbeats 8000000 in
set_option maxRecDepth 100000 in
theorem vTake_update {g : Nat} {v : VS} (w : World) (h : VB w g v) (c : Array Value) (q : Pkt) (hq : PkIs c q) (h1 : rightP q = true) (h2 : q.cur ≤ 4611686018427387904) (h3 : q.fr ≠ (v.self : Int)) (h5 : q.kind = 3) (h6 : q.of_ ≠ (v.self : Int)) (hcur : v.cur + 1 < 18446744073709551616) : Calls Tryz.prog 30 #[.pointer (some ⟨g, 0, none⟩), .agg c] w (VtPost w g v q) := by
  have hnid : ¬ idleP v.self q (rightP q) := by
    rintro (h | h | h | h)
    · rw [h1] at h; cases h
    · omega
    · exact h3 h
    · exact h6 h.2
  have hR := fun W => vRight_calls hq W
  have hi : (Tryz.prog.info? 67).map (·.size) = some c.size := by rw [hq.size]; exact info26
  have hS := tkW_start h hq
  have k0 := hS.at0
  clear h
  have h1' := h1
  unfold rightP rightV at h1'
  simp only [Bool.and_eq_true, decide_eq_true_eq] at h1'
  rw [if_pos h5] at h1'
  simp only [Bool.and_eq_true, decide_eq_true_eq] at h1'
  obtain ⟨n, hof⟩ : ∃ n : Nat, q.of_ = n := ⟨q.of_.toNat, by omega⟩
  have hno : nodeOf q = n := by unfold nodeOf; rw [if_pos h5, hof]; rfl
  have hn : n < 64 := by omega
  rw [h1] at hR
  have h2 : ¬ (4611686018427387904 : Int) < (q.cur : Int) := by omega
  have h4 : (q.fr == (v.self : Int)) = false := beq_eq_false_iff_ne.2 h3
  have hk3 : (q.kind == (3 : Int)) = true := beq_iff_eq.2 h5
  have h7 : (q.of_ == (v.self : Int)) = false := beq_eq_false_iff_ne.2 h6
  go_enter Tryz.func30, Tryz.ntmps30
  go_wp2_with fail
  generalize w.alloc (.cells c 67) = W0 at *
  clear k0
  refine wp_region_held_drew (S := TkW w g c q v) (by kernel_rfl) (hS.keep (below_drew (Below.refl _ _))) (fun hHeld => ?_)
  clear hHeld
  replace hS := hS.keep (below_drew (Below.refl _ _))
  generalize W0.drew = W1 at *
  refine wpAnyH_take (i := 0) (oi := ⟨some 12, _, _, _, _, _⟩) (v := .agg c) rfl (by kernel_rfl) (by kernel_rfl) (by kernel_rfl) (fun _ _ _ h => h) (yields_row (by rfl) 67 (.tmp 3) rfl w.heap.size rfl 67 c (0, 0) _ (fun W h => h.b0) Tryz.underlying67 rfl hi) hS ?_
  try simp only [Act.put, List.setIfInBounds_toArray, List.set_cons_zero, List.set_cons_succ]
  refine wpAnyH_ready (rs := [1]) (by kernel_rfl) (by simp) ?_
  refine AllReadyH.cons (o := ⟨some 13, _, _, _, _, _⟩) rfl (fun K hK => ?_) AllReadyH.nil
  go_simp
  refine (hR _).mono ?_
  rintro e W2 ⟨rfl, hb⟩
  have hS2 := hS.keep hb
  clear hb hS
  go_wp2_with fail
  refine hK.out _ _ hS2 (fun hHeld => ?_)
  clear hHeld hK K
  try simp only [Act.put, List.setIfInBounds_toArray, List.set_cons_zero, List.set_cons_succ]
  refine wpAnyH_take (i := 2) (oi := ⟨some 14, _, _, _, _, _⟩) (v := .bool false) rfl (by kernel_rfl) (by kernel_rfl) (by kernel_rfl) (fun _ _ _ h => h) (Or.inl ⟨by rfl, fun W hW => by have p0 := hW.at4; have p1 := hW.at1; have p2 := hW.at2; have p3 := hW.view.atSelf; go_simp; try (intro h; omega)⟩) hS2 ?_
  try simp only [Act.put, List.setIfInBounds_toArray, List.set_cons_zero, List.set_cons_succ]
  refine wpAnyH_take (i := 3) (oi := ⟨some 15, _, _, _, _, _⟩) (v := .bool false) rfl (by kernel_rfl) (by kernel_rfl) (by kernel_rfl) (fun _ _ _ h => h) (Or.inl ⟨by rfl, fun W hW => by have p0 := hW.at4; have p1 := hW.at1; have p2 := hW.at2; have p3 := hW.view.atSelf; go_simp; try (intro h; omega)⟩) hS2 ?_
  try simp only [Act.put, List.setIfInBounds_toArray, List.set_cons_zero, List.set_cons_succ]
  refine wpAnyH_take (i := 4) (oi := ⟨some 16, _, _, _, _, _⟩) (v := .pointer (some ⟨w.heap.size, 4, none⟩)) rfl (by kernel_rfl) (by kernel_rfl) (by kernel_rfl) (fun _ _ _ h => h) (Or.inl ⟨by rfl, fun W hW => by have p0 := hW.at4; have p1 := hW.at1; have p2 := hW.at2; have p3 := hW.view.atSelf; go_simp; try (intro h; omega)⟩) hS2 ?_
  try simp only [Act.put, List.setIfInBounds_toArray, List.set_cons_zero, List.set_cons_succ]
  refine wpAnyH_take (i := 5) (oi := ⟨some 17, _, _, _, _, _⟩) (v := .int .u64 (q.cur : Int)) rfl (by kernel_rfl) (by kernel_rfl) (by kernel_rfl) (fun _ _ _ h => h) (Or.inl ⟨by rfl, fun W hW => by have p0 := hW.at4; have p1 := hW.at1; have p2 := hW.at2; have p3 := hW.view.atSelf; go_simp; try (intro h; omega)⟩) hS2 ?_
  try simp only [Act.put, List.setIfInBounds_toArray, List.set_cons_zero, List.set_cons_succ]
  refine wpAnyH_take (i := 6) (oi := ⟨some 18, _, _, _, _, _⟩) (v := .bool false) rfl (by kernel_rfl) (by kernel_rfl) (by kernel_rfl) (fun _ _ _ h => h) (Or.inl ⟨by rfl, fun W hW => by have p0 := hW.at4; have p1 := hW.at1; have p2 := hW.at2; have p3 := hW.view.atSelf; go_simp; try (intro h; omega)⟩) hS2 ?_
  try simp only [Act.put, List.setIfInBounds_toArray, List.set_cons_zero, List.set_cons_succ]
  refine wpAnyH_take (i := 7) (oi := ⟨some 19, _, _, _, _, _⟩) (v := .bool false) rfl (by kernel_rfl) (by kernel_rfl) (by kernel_rfl) (fun _ _ _ h => h) (Or.inl ⟨by rfl, fun W hW => by have p0 := hW.at4; have p1 := hW.at1; have p2 := hW.at2; have p3 := hW.view.atSelf; go_simp; try (intro h; omega)⟩) hS2 ?_
  try simp only [Act.put, List.setIfInBounds_toArray, List.set_cons_zero, List.set_cons_succ]
  refine wpAnyH_take (i := 8) (oi := ⟨some 20, _, _, _, _, _⟩) (v := .bool false) rfl (by kernel_rfl) (by kernel_rfl) (by kernel_rfl) (fun _ _ _ h => h) (Or.inl ⟨by rfl, fun W hW => by have p0 := hW.at4; have p1 := hW.at1; have p2 := hW.at2; have p3 := hW.view.atSelf; go_simp; try (intro h; omega)⟩) hS2 ?_
  try simp only [Act.put, List.setIfInBounds_toArray, List.set_cons_zero, List.set_cons_succ]
  refine wpAnyH_take (i := 9) (oi := ⟨some 21, _, _, _, _, _⟩) (v := .pointer (some ⟨w.heap.size, 1, none⟩)) rfl (by kernel_rfl) (by kernel_rfl) (by kernel_rfl) (fun _ _ _ h => h) (Or.inl ⟨by rfl, fun W hW => by have p0 := hW.at4; have p1 := hW.at1; have p2 := hW.at2; have p3 := hW.view.atSelf; go_simp; try (intro h; omega)⟩) hS2 ?_
  try simp only [Act.put, List.setIfInBounds_toArray, List.set_cons_zero, List.set_cons_succ]
  refine wpAnyH_take (i := 10) (oi := ⟨some 22, _, _, _, _, _⟩) (v := .int .i64 q.fr) rfl (by kernel_rfl) (by kernel_rfl) (by kernel_rfl) (fun _ _ _ h => h) (Or.inl ⟨by rfl, fun W hW => by have p0 := hW.at4; have p1 := hW.at1; have p2 := hW.at2; have p3 := hW.view.atSelf; go_simp; try (intro h; omega)⟩) hS2 ?_
  try simp only [Act.put, List.setIfInBounds_toArray, List.set_cons_zero, List.set_cons_succ]
  refine wpAnyH_take (i := 11) (oi := ⟨some 23, _, _, _, _, _⟩) (v := .pointer (some ⟨g, 0, none⟩)) rfl (by kernel_rfl) (by kernel_rfl) (by kernel_rfl) (fun _ _ _ h => h) (Or.inl ⟨by rfl, fun W hW => by have p0 := hW.at4; have p1 := hW.at1; have p2 := hW.at2; have p3 := hW.view.atSelf; go_simp; try (intro h; omega)⟩) hS2 ?_
  try simp only [Act.put, List.setIfInBounds_toArray, List.set_cons_zero, List.set_cons_succ]
  refine wpAnyH_take (i := 12) (oi := ⟨some 24, _, _, _, _, _⟩) (v := .pointer (some ⟨g, 0, none⟩)) rfl (by kernel_rfl) (by kernel_rfl) (by kernel_rfl) (fun _ _ _ h => h) (Or.inl ⟨by rfl, fun W hW => by have p0 := hW.at4; have p1 := hW.at1; have p2 := hW.at2; have p3 := hW.view.atSelf; go_simp; try (intro h; omega)⟩) hS2 ?_
  try simp only [Act.put, List.setIfInBounds_toArray, List.set_cons_zero, List.set_cons_succ]
  refine wpAnyH_take (i := 13) (oi := ⟨some 25, _, _, _, _, _⟩) (v := .pointer (some ⟨g, 0, none⟩)) rfl (by kernel_rfl) (by kernel_rfl) (by kernel_rfl) (fun _ _ _ h => h) (Or.inl ⟨by rfl, fun W hW => by have p0 := hW.at4; have p1 := hW.at1; have p2 := hW.at2; have p3 := hW.view.atSelf; go_simp; try (intro h; omega)⟩) hS2 ?_
  try simp only [Act.put, List.setIfInBounds_toArray, List.set_cons_zero, List.set_cons_succ]
  refine wpAnyH_take (i := 14) (oi := ⟨some 26, _, _, _, _, _⟩) (v := .int .i64 (v.self : Int)) rfl (by kernel_rfl) (by kernel_rfl) (by kernel_rfl) (fun _ _ _ h => h) (Or.inl ⟨by rfl, fun W hW => by have p0 := hW.at4; have p1 := hW.at1; have p2 := hW.at2; have p3 := hW.view.atSelf; go_simp; try (intro h; omega)⟩) hS2 ?_
  try simp only [Act.put, List.setIfInBounds_toArray, List.set_cons_zero, List.set_cons_succ]
  refine wpAnyH_take (i := 15) (oi := ⟨some 27, _, _, _, _, _⟩) (v := .bool false) rfl (by kernel_rfl) (by kernel_rfl) (by kernel_rfl) (fun _ _ _ h => h) (Or.inl ⟨by rfl, fun W hW => by have p0 := hW.at4; have p1 := hW.at1; have p2 := hW.at2; have p3 := hW.view.atSelf; go_simp; try (intro h; omega)⟩) hS2 ?_
  try simp only [Act.put, List.setIfInBounds_toArray, List.set_cons_zero, List.set_cons_succ]
  refine wpAnyH_take (i := 16) (oi := ⟨some 28, _, _, _, _, _⟩) (v := .bool false) rfl (by kernel_rfl) (by kernel_rfl) (by kernel_rfl) (fun _ _ _ h => h) (Or.inl ⟨by rfl, fun W hW => by have p0 := hW.at4; have p1 := hW.at1; have p2 := hW.at2; have p3 := hW.view.atSelf; go_simp; try (intro h; omega)⟩) hS2 ?_
  try simp only [Act.put, List.setIfInBounds_toArray, List.set_cons_zero, List.set_cons_succ]
  refine wpAnyH_take (i := 17) (oi := ⟨some 29, _, _, _, _, _⟩) (v := .bool false) rfl (by kernel_rfl) (by kernel_rfl) (by kernel_rfl) (fun _ _ _ h => h) (Or.inl ⟨by rfl, fun W hW => by have p0 := hW.at4; have p1 := hW.at1; have p2 := hW.at2; have p3 := hW.view.atSelf; go_simp; try (intro h; omega)⟩) hS2 ?_
  try simp only [Act.put, List.setIfInBounds_toArray, List.set_cons_zero, List.set_cons_succ]
  refine wpAnyH_take (i := 18) (oi := ⟨some 30, _, _, _, _, _⟩) (v := .bool true) rfl (by kernel_rfl) (by kernel_rfl) (by kernel_rfl) (fun _ _ _ h => h) (Or.inl ⟨by rfl, fun W hW => by have p0 := hW.at4; have p1 := hW.at1; have p2 := hW.at2; have p3 := hW.view.atSelf; go_simp; try (intro h; omega)⟩) hS2 ?_
  try simp only [Act.put, List.setIfInBounds_toArray, List.set_cons_zero, List.set_cons_succ]
  refine wpAnyH_take (i := 19) (oi := ⟨some 31, _, _, _, _, _⟩) (v := .bool true) rfl (by kernel_rfl) (by kernel_rfl) (by kernel_rfl) (fun _ _ _ h => h) (Or.inl ⟨by rfl, fun W hW => by have p0 := hW.at4; have p1 := hW.at1; have p2 := hW.at2; have p3 := hW.view.atSelf; go_simp; try (intro h; omega)⟩) hS2 ?_
  try simp only [Act.put, List.setIfInBounds_toArray, List.set_cons_zero, List.set_cons_succ]
  refine wpAnyH_take (i := 20) (oi := ⟨some 32, _, _, _, _, _⟩) (v := .pointer (some ⟨w.heap.size, 2, none⟩)) rfl (by kernel_rfl) (by kernel_rfl) (by kernel_rfl) (fun _ _ _ h => h) (Or.inl ⟨by rfl, fun W hW => by have p0 := hW.at4; have p1 := hW.at1; have p2 := hW.at2; have p3 := hW.view.atSelf; go_simp; try (intro h; omega)⟩) hS2 ?_
  try simp only [Act.put, List.setIfInBounds_toArray, List.set_cons_zero, List.set_cons_succ]
  refine wpAnyH_take (i := 21) (oi := ⟨some 33, _, _, _, _, _⟩) (v := .int .i64 q.of_) rfl (by kernel_rfl) (by kernel_rfl) (by kernel_rfl) (fun _ _ _ h => h) (Or.inl ⟨by rfl, fun W hW => by have p0 := hW.at4; have p1 := hW.at1; have p2 := hW.at2; have p3 := hW.view.atSelf; go_simp; try (intro h; omega)⟩) hS2 ?_
  try simp only [Act.put, List.setIfInBounds_toArray, List.set_cons_zero, List.set_cons_succ]
  refine wpAnyH_take (i := 22) (oi := ⟨some 34, _, _, _, _, _⟩) (v := .pointer (some ⟨g, 0, none⟩)) rfl (by kernel_rfl) (by kernel_rfl) (by kernel_rfl) (fun _ _ _ h => h) (Or.inl ⟨by rfl, fun W hW => by have p0 := hW.at4; have p1 := hW.at1; have p2 := hW.at2; have p3 := hW.view.atSelf; go_simp; try (intro h; omega)⟩) hS2 ?_
  try simp only [Act.put, List.setIfInBounds_toArray, List.set_cons_zero, List.set_cons_succ]
  refine wpAnyH_take (i := 23) (oi := ⟨some 35, _, _, _, _, _⟩) (v := .pointer (some ⟨g, 0, none⟩)) rfl (by kernel_rfl) (by kernel_rfl) (by kernel_rfl) (fun _ _ _ h => h) (Or.inl ⟨by rfl, fun W hW => by have p0 := hW.at4; have p1 := hW.at1; have p2 := hW.at2; have p3 := hW.view.atSelf; go_simp; try (intro h; omega)⟩) hS2 ?_
  try simp only [Act.put, List.setIfInBounds_toArray, List.set_cons_zero, List.set_cons_succ]
  refine wpAnyH_take (i := 24) (oi := ⟨some 36, _, _, _, _, _⟩) (v := .pointer (some ⟨g, 0, none⟩)) rfl (by kernel_rfl) (by kernel_rfl) (by kernel_rfl) (fun _ _ _ h => h) (Or.inl ⟨by rfl, fun W hW => by have p0 := hW.at4; have p1 := hW.at1; have p2 := hW.at2; have p3 := hW.view.atSelf; go_simp; try (intro h; omega)⟩) hS2 ?_
  try simp only [Act.put, List.setIfInBounds_toArray, List.set_cons_zero, List.set_cons_succ]
  refine wpAnyH_take (i := 25) (oi := ⟨some 37, _, _, _, _, _⟩) (v := .int .i64 (v.self : Int)) rfl (by kernel_rfl) (by kernel_rfl) (by kernel_rfl) (fun _ _ _ h => h) (Or.inl ⟨by rfl, fun W hW => by have p0 := hW.at4; have p1 := hW.at1; have p2 := hW.at2; have p3 := hW.view.atSelf; go_simp; try (intro h; omega)⟩) hS2 ?_
  try simp only [Act.put, List.setIfInBounds_toArray, List.set_cons_zero, List.set_cons_succ]
  refine wpAnyH_take (i := 26) (oi := ⟨some 38, _, _, _, _, _⟩) (v := .bool false) rfl (by kernel_rfl) (by kernel_rfl) (by kernel_rfl) (fun _ _ _ h => h) (Or.inl ⟨by rfl, fun W hW => by have p0 := hW.at4; have p1 := hW.at1; have p2 := hW.at2; have p3 := hW.view.atSelf; go_simp; try (intro h; omega)⟩) hS2 ?_
  try simp only [Act.put, List.setIfInBounds_toArray, List.set_cons_zero, List.set_cons_succ]
  refine wpAnyH_take (i := 27) (oi := ⟨some 39, _, _, _, _, _⟩) (v := .bool false) rfl (by kernel_rfl) (by kernel_rfl) (by kernel_rfl) (fun _ _ _ h => h) (Or.inl ⟨by rfl, fun W hW => by have p0 := hW.at4; have p1 := hW.at1; have p2 := hW.at2; have p3 := hW.view.atSelf; go_simp; try (intro h; omega)⟩) hS2 ?_
  try simp only [Act.put, List.setIfInBounds_toArray, List.set_cons_zero, List.set_cons_succ]
  refine wpAnyH_take (i := 28) (oi := ⟨some 40, _, _, _, _, _⟩) (v := .bool false) rfl (by kernel_rfl) (by kernel_rfl) (by kernel_rfl) (fun _ _ _ h => h) (Or.inl ⟨by rfl, fun W hW => by have p0 := hW.at4; have p1 := hW.at1; have p2 := hW.at2; have p3 := hW.view.atSelf; go_simp; try (intro h; omega)⟩) hS2 ?_
  try simp only [Act.put, List.setIfInBounds_toArray, List.set_cons_zero, List.set_cons_succ]
  refine wpAnyH_done (by kernel_rfl) ?_ _
  have k1 := hS2.at1
  have k2 := hS2.at2
  rw [hof] at k2
  go_wp2_with fail
  have k4 := hS2.at4
  have q0 := hS2.view.atCur
  have q1 := hS2.view.thaw 16449
  have l1 := hq.lts
  have hmx : ((max v.cur q.cur : Nat) : Int) = max (v.cur : Int) (q.cur : Int) := by omega
  have hS3 := hS2.put ((But.refl (fun k => k = g) W2).set (p := ⟨g, 16449, none⟩) (fun _ => rfl) (.int .u64 ((max v.cur q.cur : Nat) : Int))) (hS2.view.curSet (max v.cur q.cur) (by have := hS2.view.cur64; omega))
  rw [hmx] at hS3
  replace hS3 := Lib.hid hS3
  go_region
  rename_i K hK
  refine hK _ _ ?_
  clear hK K
  replace hS3 := hS3.out.keep (below_drew (Below.refl _ _))
  change TkW w g c q (maxV v q.cur) _ at hS3
  clear hS2 k4 q0 q1 hmx k1 k2
  generalize World.drew _ = W3 at *
  have htk : takenV v q = if (maxV v q.cur).ep n ≤ q.ep then claimV (maxV v q.cur) n q.ep q.cl else maxV v q.cur := by
    unfold takenV
    rw [hno]
  refine wp_cutT g w.heap.size (.bool true) (.int .i64 (n : Int)) undef (fun l W => l = undef ∧ TkW w g c q (takenV v q) W) ?_ ?_
  · have k3 := hS3.at3
    have e1 := hS3.view.atEp n hn
    have e0 := hS3.view.ep64 n hn
    rw [htk]
    clear htk
    by_cases hle : (maxV v q.cur).ep n ≤ q.ep
    · rw [if_pos hle]
      have hd : decide ((((maxV v q.cur).ep n : Nat) : Int) ≤ (q.ep : Int)) = true := decide_eq_true (by omega)
      have hd2 : (((maxV v q.cur).ep n : Nat) : Int) ≤ (q.ep : Int) := by omega
      generalize (maxV v q.cur).ep n = x at *
      go_wp2_with fail
      go_region
      replace hS3 := hS3.keep (below_drew (Below.refl _ _))
      have hb0 := hS3.b0
      go_wp2_with (refine wpList_load_row rfl 67 _ rfl w.heap.size rfl 67 c (0, 0) _ hb0 Tryz.underlying67 rfl hi ?_)
      refine (vclaim_calls _ hS3.view n hn c q hq).mono ?_
      rintro e W4 ⟨x1, rfl, hv4, hb4⟩
      have hS4 := Lib.hid (hS3.put hb4 hv4)
      clear hb4 hv4 hb0
      go_wp2_with fail
      exact ⟨_, TkA_mk, rfl, hS4.out⟩
    · rw [if_neg hle]
      have hd : decide ((((maxV v q.cur).ep n : Nat) : Int) ≤ (q.ep : Int)) = false := decide_eq_false (by omega)
      have hd2 : ¬ (((maxV v q.cur).ep n : Nat) : Int) ≤ (q.ep : Int) := by omega
      generalize (maxV v q.cur).ep n = x at *
      go_wp2_with fail
      go_region
      replace hS3 := Lib.hid (hS3.keep (below_drew (Below.refl _ _)))
      go_wp2_with fail
      exact ⟨_, TkA_mk, rfl, hS3.out⟩
  clear hS3 htk W3
  intro u1 u2 u9 u10 u11 u12 u13 u14 u15 u16 u17 u18 u19 u20 u21 u22 u23 u24 u25 u26 u27 u28 u29 u30 u31 u32 u33 u34 u35 u36 u37 u38 u39 u40 u41 u42 u43 u44 u45 u46 u47 u48 u49 u50 u51 u52 u53 u54 u55 u56 u57 u58 u59 u60 u61 u62 u63 u64 u65 u66 u67 u68 u69 u70 u71 u72 u73 u74 u75 u76 u77 u78 u79 u80 u81 u82 u83 u84 u85 u86 u87 u88 u89 u90 u91 u92 u93 u94 u95 u96 u97 u98 u99 u100 u101 u102 u103 u104 u105 u106 u107 u108 u109 u110 u111 u112 u113 u114 u115 u116 u117 u118 u119 u120 u121 u122 u123 u124 u125 u126 u127 u128 u129 u130 u131 u132 xl W3 ⟨hxl, hS3⟩
  subst hxl
  have hS3 := Lib.hid hS3
  go_wp2_with fail
  go_ret
  refine ⟨_, rfl, ?_, ?_, hS3.out.but⟩
  · unfold hearV
    rw [if_neg hnid, if_pos h5]
    exact ⟨[], .nil, World.ownsRow_nil _ _ _ _⟩
  · unfold hearV
    rw [if_neg hnid, if_pos h5]
    exact hS3.out.view
/-- what is told back -/
def lstV (u : VS) (q : Pkt) : List Pkt := if q.kind = 1 ∨ q.kind = 4 then [tellV u 2] else []
theorem beat_own (v : VS) (fr : Int) (e : Nat) (p : Nat → Nat) : beatV v fr e p = -1 ∨ ∃ s, s < 16384 ∧ beatV v fr e p = v.own s := by
  unfold beatV
  cases hf : ((List.range 16384).filter (hasN p)).find? (fun s => decide (v.own s ≠ -1 ∧ v.own s ≠ fr ∧ e < v.ep (v.own s).toNat)) with
  | none => exact Or.inl rfl
  | some s => exact Or.inr ⟨s, List.mem_range.1 (List.mem_filter.1 (List.mem_of_find?_eq_some hf)).1, rfl⟩
set_option maxHeartbeats 8000000 in
set_option maxRecDepth 100000 in
theorem vTake_other {g : Nat} {v : VS} (w : World) (h : VB w g v) (c : Array Value) (q : Pkt) (hq : PkIs c q) (h1 : rightP q = true) (h2 : q.cur ≤ 4611686018427387904) (h3 : q.fr ≠ (v.self : Int)) (h5 : q.kind ≠ 3) (hcur : v.cur + 1 < 18446744073709551616) : Calls Tryz.prog 30 #[.pointer (some ⟨g, 0, none⟩), .agg c] w (VtPost w g v q) := by
  have hnid : ¬ idleP v.self q (rightP q) := by
    rintro (h | h | h | h)
    · rw [h1] at h; cases h
    · omega
    · exact h3 h
    · exact h5 h.1
  have hR := fun W => vRight_calls hq W
  have hi : (Tryz.prog.info? 67).map (·.size) = some c.size := by rw [hq.size]; exact info26
  have hS := tkW_start h hq
  have k0 := hS.at0
  clear h
  have h1' := h1
  unfold rightP rightV at h1'
  simp only [Bool.and_eq_true, decide_eq_true_eq] at h1'
  rw [if_neg h5] at h1'
  simp only [decide_eq_true_eq] at h1'
  obtain ⟨n, hfr⟩ : ∃ n : Nat, q.fr = n := ⟨q.fr.toNat, by omega⟩
  have hno : nodeOf q = n := by unfold nodeOf; rw [if_neg h5, hfr]; rfl
  have hn : n < 64 := by omega
  rw [h1] at hR
  have h2 : ¬ (4611686018427387904 : Int) < (q.cur : Int) := by omega
  have h4 : (q.fr == (v.self : Int)) = false := beq_eq_false_iff_ne.2 h3
  have hk3 : (q.kind == (3 : Int)) = false := beq_eq_false_iff_ne.2 h5
  go_enter Tryz.func30, Tryz.ntmps30
  go_wp2_with fail
  generalize w.alloc (.cells c 67) = W0 at *
  clear k0
  refine wp_region_held_drew (S := TkW w g c q v) (by kernel_rfl) (hS.keep (below_drew (Below.refl _ _))) (fun hHeld => ?_)
  clear hHeld
  replace hS := hS.keep (below_drew (Below.refl _ _))
  generalize W0.drew = W1 at *
  refine wpAnyH_take (i := 0) (oi := ⟨some 12, _, _, _, _, _⟩) (v := .agg c) rfl (by kernel_rfl) (by kernel_rfl) (by kernel_rfl) (fun _ _ _ h => h) (yields_row (by rfl) 67 (.tmp 3) rfl w.heap.size rfl 67 c (0, 0) _ (fun W h => h.b0) Tryz.underlying67 rfl hi) hS ?_
  try simp only [Act.put, List.setIfInBounds_toArray, List.set_cons_zero, List.set_cons_succ]
  refine wpAnyH_ready (rs := [1]) (by kernel_rfl) (by simp) ?_
  refine AllReadyH.cons (o := ⟨some 13, _, _, _, _, _⟩) rfl (fun K hK => ?_) AllReadyH.nil
  go_simp
  refine (hR _).mono ?_
  rintro e W2 ⟨rfl, hb⟩
  have hS2 := hS.keep hb
  clear hb hS
  go_wp2_with fail
  refine hK.out _ _ hS2 (fun hHeld => ?_)
  clear hHeld hK K
  try simp only [Act.put, List.setIfInBounds_toArray, List.set_cons_zero, List.set_cons_succ]
  refine wpAnyH_take (i := 2) (oi := ⟨some 14, _, _, _, _, _⟩) (v := .bool false) rfl (by kernel_rfl) (by kernel_rfl) (by kernel_rfl) (fun _ _ _ h => h) (Or.inl ⟨by rfl, fun W hW => by have p0 := hW.at4; have p1 := hW.at1; have p2 := hW.at2; have p3 := hW.view.atSelf; go_simp; try (intro h; omega)⟩) hS2 ?_
  try simp only [Act.put, List.setIfInBounds_toArray, List.set_cons_zero, List.set_cons_succ]
  refine wpAnyH_take (i := 3) (oi := ⟨some 15, _, _, _, _, _⟩) (v := .bool false) rfl (by kernel_rfl) (by kernel_rfl) (by kernel_rfl) (fun _ _ _ h => h) (Or.inl ⟨by rfl, fun W hW => by have p0 := hW.at4; have p1 := hW.at1; have p2 := hW.at2; have p3 := hW.view.atSelf; go_simp; try (intro h; omega)⟩) hS2 ?_
  try simp only [Act.put, List.setIfInBounds_toArray, List.set_cons_zero, List.set_cons_succ]
  refine wpAnyH_take (i := 4) (oi := ⟨some 16, _, _, _, _, _⟩) (v := .pointer (some ⟨w.heap.size, 4, none⟩)) rfl (by kernel_rfl) (by kernel_rfl) (by kernel_rfl) (fun _ _ _ h => h) (Or.inl ⟨by rfl, fun W hW => by have p0 := hW.at4; have p1 := hW.at1; have p2 := hW.at2; have p3 := hW.view.atSelf; go_simp; try (intro h; omega)⟩) hS2 ?_
  try simp only [Act.put, List.setIfInBounds_toArray, List.set_cons_zero, List.set_cons_succ]
  refine wpAnyH_take (i := 5) (oi := ⟨some 17, _, _, _, _, _⟩) (v := .int .u64 (q.cur : Int)) rfl (by kernel_rfl) (by kernel_rfl) (by kernel_rfl) (fun _ _ _ h => h) (Or.inl ⟨by rfl, fun W hW => by have p0 := hW.at4; have p1 := hW.at1; have p2 := hW.at2; have p3 := hW.view.atSelf; go_simp; try (intro h; omega)⟩) hS2 ?_
  try simp only [Act.put, List.setIfInBounds_toArray, List.set_cons_zero, List.set_cons_succ]
  refine wpAnyH_take (i := 6) (oi := ⟨some 18, _, _, _, _, _⟩) (v := .bool false) rfl (by kernel_rfl) (by kernel_rfl) (by kernel_rfl) (fun _ _ _ h => h) (Or.inl ⟨by rfl, fun W hW => by have p0 := hW.at4; have p1 := hW.at1; have p2 := hW.at2; have p3 := hW.view.atSelf; go_simp; try (intro h; omega)⟩) hS2 ?_
  try simp only [Act.put, List.setIfInBounds_toArray, List.set_cons_zero, List.set_cons_succ]
  refine wpAnyH_take (i := 7) (oi := ⟨some 19, _, _, _, _, _⟩) (v := .bool false) rfl (by kernel_rfl) (by kernel_rfl) (by kernel_rfl) (fun _ _ _ h => h) (Or.inl ⟨by rfl, fun W hW => by have p0 := hW.at4; have p1 := hW.at1; have p2 := hW.at2; have p3 := hW.view.atSelf; go_simp; try (intro h; omega)⟩) hS2 ?_
  try simp only [Act.put, List.setIfInBounds_toArray, List.set_cons_zero, List.set_cons_succ]
  refine wpAnyH_take (i := 8) (oi := ⟨some 20, _, _, _, _, _⟩) (v := .bool false) rfl (by kernel_rfl) (by kernel_rfl) (by kernel_rfl) (fun _ _ _ h => h) (Or.inl ⟨by rfl, fun W hW => by have p0 := hW.at4; have p1 := hW.at1; have p2 := hW.at2; have p3 := hW.view.atSelf; go_simp; try (intro h; omega)⟩) hS2 ?_
  try simp only [Act.put, List.setIfInBounds_toArray, List.set_cons_zero, List.set_cons_succ]
  refine wpAnyH_take (i := 9) (oi := ⟨some 21, _, _, _, _, _⟩) (v := .pointer (some ⟨w.heap.size, 1, none⟩)) rfl (by kernel_rfl) (by kernel_rfl) (by kernel_rfl) (fun _ _ _ h => h) (Or.inl ⟨by rfl, fun W hW => by have p0 := hW.at4; have p1 := hW.at1; have p2 := hW.at2; have p3 := hW.view.atSelf; go_simp; try (intro h; omega)⟩) hS2 ?_
  try simp only [Act.put, List.setIfInBounds_toArray, List.set_cons_zero, List.set_cons_succ]
  refine wpAnyH_take (i := 10) (oi := ⟨some 22, _, _, _, _, _⟩) (v := .int .i64 q.fr) rfl (by kernel_rfl) (by kernel_rfl) (by kernel_rfl) (fun _ _ _ h => h) (Or.inl ⟨by rfl, fun W hW => by have p0 := hW.at4; have p1 := hW.at1; have p2 := hW.at2; have p3 := hW.view.atSelf; go_simp; try (intro h; omega)⟩) hS2 ?_
  try simp only [Act.put, List.setIfInBounds_toArray, List.set_cons_zero, List.set_cons_succ]
  refine wpAnyH_take (i := 11) (oi := ⟨some 23, _, _, _, _, _⟩) (v := .pointer (some ⟨g, 0, none⟩)) rfl (by kernel_rfl) (by kernel_rfl) (by kernel_rfl) (fun _ _ _ h => h) (Or.inl ⟨by rfl, fun W hW => by have p0 := hW.at4; have p1 := hW.at1; have p2 := hW.at2; have p3 := hW.view.atSelf; go_simp; try (intro h; omega)⟩) hS2 ?_
  try simp only [Act.put, List.setIfInBounds_toArray, List.set_cons_zero, List.set_cons_succ]
  refine wpAnyH_take (i := 12) (oi := ⟨some 24, _, _, _, _, _⟩) (v := .pointer (some ⟨g, 0, none⟩)) rfl (by kernel_rfl) (by kernel_rfl) (by kernel_rfl) (fun _ _ _ h => h) (Or.inl ⟨by rfl, fun W hW => by have p0 := hW.at4; have p1 := hW.at1; have p2 := hW.at2; have p3 := hW.view.atSelf; go_simp; try (intro h; omega)⟩) hS2 ?_
  try simp only [Act.put, List.setIfInBounds_toArray, List.set_cons_zero, List.set_cons_succ]
  refine wpAnyH_take (i := 13) (oi := ⟨some 25, _, _, _, _, _⟩) (v := .pointer (some ⟨g, 0, none⟩)) rfl (by kernel_rfl) (by kernel_rfl) (by kernel_rfl) (fun _ _ _ h => h) (Or.inl ⟨by rfl, fun W hW => by have p0 := hW.at4; have p1 := hW.at1; have p2 := hW.at2; have p3 := hW.view.atSelf; go_simp; try (intro h; omega)⟩) hS2 ?_
  try simp only [Act.put, List.setIfInBounds_toArray, List.set_cons_zero, List.set_cons_succ]
  refine wpAnyH_take (i := 14) (oi := ⟨some 26, _, _, _, _, _⟩) (v := .int .i64 (v.self : Int)) rfl (by kernel_rfl) (by kernel_rfl) (by kernel_rfl) (fun _ _ _ h => h) (Or.inl ⟨by rfl, fun W hW => by have p0 := hW.at4; have p1 := hW.at1; have p2 := hW.at2; have p3 := hW.view.atSelf; go_simp; try (intro h; omega)⟩) hS2 ?_
  try simp only [Act.put, List.setIfInBounds_toArray, List.set_cons_zero, List.set_cons_succ]
  refine wpAnyH_take (i := 15) (oi := ⟨some 27, _, _, _, _, _⟩) (v := .bool false) rfl (by kernel_rfl) (by kernel_rfl) (by kernel_rfl) (fun _ _ _ h => h) (Or.inl ⟨by rfl, fun W hW => by have p0 := hW.at4; have p1 := hW.at1; have p2 := hW.at2; have p3 := hW.view.atSelf; go_simp; try (intro h; omega)⟩) hS2 ?_
  try simp only [Act.put, List.setIfInBounds_toArray, List.set_cons_zero, List.set_cons_succ]
  refine wpAnyH_take (i := 16) (oi := ⟨some 28, _, _, _, _, _⟩) (v := .bool false) rfl (by kernel_rfl) (by kernel_rfl) (by kernel_rfl) (fun _ _ _ h => h) (Or.inl ⟨by rfl, fun W hW => by have p0 := hW.at4; have p1 := hW.at1; have p2 := hW.at2; have p3 := hW.view.atSelf; go_simp; try (intro h; omega)⟩) hS2 ?_
  try simp only [Act.put, List.setIfInBounds_toArray, List.set_cons_zero, List.set_cons_succ]
  refine wpAnyH_take (i := 17) (oi := ⟨some 29, _, _, _, _, _⟩) (v := .bool false) rfl (by kernel_rfl) (by kernel_rfl) (by kernel_rfl) (fun _ _ _ h => h) (Or.inl ⟨by rfl, fun W hW => by have p0 := hW.at4; have p1 := hW.at1; have p2 := hW.at2; have p3 := hW.view.atSelf; go_simp; try (intro h; omega)⟩) hS2 ?_
  try simp only [Act.put, List.setIfInBounds_toArray, List.set_cons_zero, List.set_cons_succ]
  refine wpAnyH_take (i := 18) (oi := ⟨some 30, _, _, _, _, _⟩) (v := .bool false) rfl (by kernel_rfl) (by kernel_rfl) (by kernel_rfl) (fun _ _ _ h => h) (Or.inl ⟨by rfl, fun W hW => by have p0 := hW.at4; have p1 := hW.at1; have p2 := hW.at2; have p3 := hW.view.atSelf; go_simp; try (intro h; omega)⟩) hS2 ?_
  try simp only [Act.put, List.setIfInBounds_toArray, List.set_cons_zero, List.set_cons_succ]
  refine wpAnyH_take (i := 19) (oi := ⟨some 31, _, _, _, _, _⟩) (v := .bool false) rfl (by kernel_rfl) (by kernel_rfl) (by kernel_rfl) (fun _ _ _ h => h) (Or.inl ⟨by rfl, fun W hW => by have p0 := hW.at4; have p1 := hW.at1; have p2 := hW.at2; have p3 := hW.view.atSelf; go_simp; try (intro h; omega)⟩) hS2 ?_
  try simp only [Act.put, List.setIfInBounds_toArray, List.set_cons_zero, List.set_cons_succ]
  refine wpAnyH_take (i := 20) (oi := ⟨some 32, _, _, _, _, _⟩) (v := undef) rfl (by kernel_rfl) (by kernel_rfl) (by kernel_rfl) (fun _ _ _ h => h) (Or.inr ⟨by rfl, rfl⟩) hS2 ?_
  try simp only [Act.put, List.setIfInBounds_toArray, List.set_cons_zero, List.set_cons_succ]
  refine wpAnyH_take (i := 21) (oi := ⟨some 33, _, _, _, _, _⟩) (v := undef) rfl (by kernel_rfl) (by kernel_rfl) (by kernel_rfl) (fun _ _ _ h => h) (Or.inr ⟨by rfl, rfl⟩) hS2 ?_
  try simp only [Act.put, List.setIfInBounds_toArray, List.set_cons_zero, List.set_cons_succ]
  refine wpAnyH_take (i := 22) (oi := ⟨some 34, _, _, _, _, _⟩) (v := undef) rfl (by kernel_rfl) (by kernel_rfl) (by kernel_rfl) (fun _ _ _ h => h) (Or.inr ⟨by rfl, rfl⟩) hS2 ?_
  try simp only [Act.put, List.setIfInBounds_toArray, List.set_cons_zero, List.set_cons_succ]
  refine wpAnyH_take (i := 23) (oi := ⟨some 35, _, _, _, _, _⟩) (v := undef) rfl (by kernel_rfl) (by kernel_rfl) (by kernel_rfl) (fun _ _ _ h => h) (Or.inr ⟨by rfl, rfl⟩) hS2 ?_
  try simp only [Act.put, List.setIfInBounds_toArray, List.set_cons_zero, List.set_cons_succ]
  refine wpAnyH_take (i := 24) (oi := ⟨some 36, _, _, _, _, _⟩) (v := undef) rfl (by kernel_rfl) (by kernel_rfl) (by kernel_rfl) (fun _ _ _ h => h) (Or.inr ⟨by rfl, rfl⟩) hS2 ?_
  try simp only [Act.put, List.setIfInBounds_toArray, List.set_cons_zero, List.set_cons_succ]
  refine wpAnyH_take (i := 25) (oi := ⟨some 37, _, _, _, _, _⟩) (v := undef) rfl (by kernel_rfl) (by kernel_rfl) (by kernel_rfl) (fun _ _ _ h => h) (Or.inr ⟨by rfl, rfl⟩) hS2 ?_
  try simp only [Act.put, List.setIfInBounds_toArray, List.set_cons_zero, List.set_cons_succ]
  refine wpAnyH_take (i := 26) (oi := ⟨some 38, _, _, _, _, _⟩) (v := undef) rfl (by kernel_rfl) (by kernel_rfl) (by kernel_rfl) (fun _ _ _ h => h) (Or.inr ⟨by rfl, rfl⟩) hS2 ?_
  try simp only [Act.put, List.setIfInBounds_toArray, List.set_cons_zero, List.set_cons_succ]
  refine wpAnyH_take (i := 27) (oi := ⟨some 39, _, _, _, _, _⟩) (v := .bool false) rfl (by kernel_rfl) (by kernel_rfl) (by kernel_rfl) (fun _ _ _ h => h) (Or.inl ⟨by rfl, fun W hW => by have p0 := hW.at4; have p1 := hW.at1; have p2 := hW.at2; have p3 := hW.view.atSelf; go_simp; try (intro h; omega)⟩) hS2 ?_
  try simp only [Act.put, List.setIfInBounds_toArray, List.set_cons_zero, List.set_cons_succ]
  refine wpAnyH_take (i := 28) (oi := ⟨some 40, _, _, _, _, _⟩) (v := .bool false) rfl (by kernel_rfl) (by kernel_rfl) (by kernel_rfl) (fun _ _ _ h => h) (Or.inl ⟨by rfl, fun W hW => by have p0 := hW.at4; have p1 := hW.at1; have p2 := hW.at2; have p3 := hW.view.atSelf; go_simp; try (intro h; omega)⟩) hS2 ?_
  try simp only [Act.put, List.setIfInBounds_toArray, List.set_cons_zero, List.set_cons_succ]
  refine wpAnyH_done (by kernel_rfl) ?_ _
  have k1 := hS2.at1
  rw [hfr] at k1
  go_wp2_with fail
  have k4 := hS2.at4
  have q0 := hS2.view.atCur
  have q1 := hS2.view.thaw 16449
  have l1 := hq.lts
  have hmx : ((max v.cur q.cur : Nat) : Int) = max (v.cur : Int) (q.cur : Int) := by omega
  have hS3 := hS2.put ((But.refl (fun k => k = g) W2).set (p := ⟨g, 16449, none⟩) (fun _ => rfl) (.int .u64 ((max v.cur q.cur : Nat) : Int))) (hS2.view.curSet (max v.cur q.cur) (by have := hS2.view.cur64; omega))
  rw [hmx] at hS3
  replace hS3 := Lib.hid hS3
  go_region
  rename_i K hK
  refine hK _ _ ?_
  clear hK K
  replace hS3 := hS3.out.keep (below_drew (Below.refl _ _))
  change TkW w g c q (maxV v q.cur) _ at hS3
  clear hS2 k4 q0 q1 hmx k1
  generalize World.drew _ = W3 at *
  have htk : takenV v q = if (maxV v q.cur).ep n ≤ q.ep then claimV (maxV v q.cur) n q.ep q.cl else maxV v q.cur := by
    unfold takenV
    rw [hno]
  refine wp_cutT g w.heap.size (.bool false) (.int .i64 (n : Int)) undef (fun l W => l = undef ∧ TkW w g c q (takenV v q) W) ?_ ?_
  · have k3 := hS3.at3
    have e1 := hS3.view.atEp n hn
    have e0 := hS3.view.ep64 n hn
    rw [htk]
    clear htk
    by_cases hle : (maxV v q.cur).ep n ≤ q.ep
    · rw [if_pos hle]
      have hd : decide ((((maxV v q.cur).ep n : Nat) : Int) ≤ (q.ep : Int)) = true := decide_eq_true (by omega)
      have hd2 : (((maxV v q.cur).ep n : Nat) : Int) ≤ (q.ep : Int) := by omega
      generalize (maxV v q.cur).ep n = x at *
      go_wp2_with fail
      go_region
      replace hS3 := hS3.keep (below_drew (Below.refl _ _))
      have hb0 := hS3.b0
      go_wp2_with (refine wpList_load_row rfl 67 _ rfl w.heap.size rfl 67 c (0, 0) _ hb0 Tryz.underlying67 rfl hi ?_)
      refine (vclaim_calls _ hS3.view n hn c q hq).mono ?_
      rintro e W4 ⟨x1, rfl, hv4, hb4⟩
      have hS4 := Lib.hid (hS3.put hb4 hv4)
      clear hb4 hv4 hb0
      go_wp2_with fail
      exact ⟨_, TkA_mk, rfl, hS4.out⟩
    · rw [if_neg hle]
      have hd : decide ((((maxV v q.cur).ep n : Nat) : Int) ≤ (q.ep : Int)) = false := decide_eq_false (by omega)
      have hd2 : ¬ (((maxV v q.cur).ep n : Nat) : Int) ≤ (q.ep : Int) := by omega
      generalize (maxV v q.cur).ep n = x at *
      go_wp2_with fail
      go_region
      replace hS3 := Lib.hid (hS3.keep (below_drew (Below.refl _ _)))
      go_wp2_with fail
      exact ⟨_, TkA_mk, rfl, hS3.out⟩
  clear hS3 htk W3
  intro u1 u2 u9 u10 u11 u12 u13 u14 u15 u16 u17 u18 u19 u20 u21 u22 u23 u24 u25 u26 u27 u28 u29 u30 u31 u32 u33 u34 u35 u36 u37 u38 u39 u40 u41 u42 u43 u44 u45 u46 u47 u48 u49 u50 u51 u52 u53 u54 u55 u56 u57 u58 u59 u60 u61 u62 u63 u64 u65 u66 u67 u68 u69 u70 u71 u72 u73 u74 u75 u76 u77 u78 u79 u80 u81 u82 u83 u84 u85 u86 u87 u88 u89 u90 u91 u92 u93 u94 u95 u96 u97 u98 u99 u100 u101 u102 u103 u104 u105 u106 u107 u108 u109 u110 u111 u112 u113 u114 u115 u116 u117 u118 u119 u120 u121 u122 u123 u124 u125 u126 u127 u128 u129 u130 u131 u132 xl W3 ⟨hxl, hS3⟩
  subst hxl
  refine wp_cutT g w.heap.size (.bool false) (.int .i64 (n : Int)) undef (fun l W => l = undef ∧ TkW w g c q (takenV v q) W) ?_ ?_
  · have hS3 := Lib.hid hS3
    go_wp2_with fail
    exact ⟨_, TkA_mk, rfl, hS3.out⟩
  clear hS3 W3
  intro u1 u2 u9 u10 u11 u12 u13 u14 u15 u16 u17 u18 u19 u20 u21 u22 u23 u24 u25 u26 u27 u28 u29 u30 u31 u32 u33 u34 u35 u36 u37 u38 u39 u40 u41 u42 u43 u44 u45 u46 u47 u48 u49 u50 u51 u52 u53 u54 u55 u56 u57 u58 u59 u60 u61 u62 u63 u64 u65 u66 u67 u68 u69 u70 u71 u72 u73 u74 u75 u76 u77 u78 u79 u80 u81 u82 u83 u84 u85 u86 u87 u88 u89 u90 u91 u92 u93 u94 u95 u96 u97 u98 u99 u100 u101 u102 u103 u104 u105 u106 u107 u108 u109 u110 u111 u112 u113 u114 u115 u116 u117 u118 u119 u120 u121 u122 u123 u124 u125 u126 u127 u128 u129 u130 u131 u132 xl W3 ⟨hxl, hS3⟩
  subst hxl
  refine wp_cutT g w.heap.size (.bool false) (.int .i64 (n : Int)) undef (fun l W => l = undef ∧ TkW w g c q (liftV (takenV v q) q) W) ?_ ?_
  · have hlf : liftV (takenV v q) q = if q.ep = (takenV v q).ep (takenV v q).self ∧ (takenV v q).self < n then raiseV (takenV v q) else takenV v q := by
      unfold liftV
      rw [hno]
    rw [hlf]
    have hcu : (takenV v q).cur + 1 < 18446744073709551616 := by rw [taken_cur]; omega
    have k3 := hS3.at3
    have hs64 := hS3.view.self64
    have e1 := hS3.view.atEp _ hs64
    have e2 := hS3.view.atSelf
    have hRs := fun W hW => vraise_calls (g := g) (v := takenV v q) W hW hcu
    generalize takenV v q = u at *
    clear hlf
    by_cases ha : q.ep = u.ep u.self
    · have hd : ((q.ep : Int) == ((u.ep u.self : Nat) : Int)) = true := beq_iff_eq.2 (by omega)
      by_cases hb : u.self < n
      · rw [if_pos ⟨ha, hb⟩]
        have hd2 : decide ((u.self : Int) < (n : Int)) = true := decide_eq_true (by omega)
        clear ha
        generalize hx : u.ep u.self = x at *
        generalize hy : u.self = y at *
        clear hx hy
        go_wp2_with fail
        go_region
        replace hS3 := hS3.keep (below_drew (Below.refl _ _))
        have hRs := Lib.hid (hRs _ hS3.view)
        have hS3 := Lib.hid hS3
        go_wp2_with fail
        refine hRs.out.mono ?_
        rintro e W4 ⟨x1, rfl, hv4, hb4⟩
        have hS4 := Lib.hid (hS3.out.put hb4 hv4)
        clear hb4 hv4
        go_wp2_with fail
        exact ⟨_, TkA_mk, rfl, hS4.out⟩
      · rw [if_neg (fun h => hb h.2)]
        have hd2 : decide ((u.self : Int) < (n : Int)) = false := decide_eq_false (by omega)
        clear ha hRs
        generalize hx : u.ep u.self = x at *
        generalize hy : u.self = y at *
        clear hx hy
        go_wp2_with fail
        go_region
        replace hS3 := Lib.hid (hS3.keep (below_drew (Below.refl _ _)))
        go_wp2_with fail
        exact ⟨_, TkA_mk, rfl, hS3.out⟩
    · rw [if_neg (fun h => ha h.1)]
      have hd : ((q.ep : Int) == ((u.ep u.self : Nat) : Int)) = false := beq_eq_false_iff_ne.2 (by omega)
      clear ha hRs
      generalize hx : u.ep u.self = x at *
      generalize hy : u.self = y at *
      clear hx hy
      go_wp2_with fail
      go_region
      replace hS3 := Lib.hid (hS3.keep (below_drew (Below.refl _ _)))
      go_wp2_with fail
      exact ⟨_, TkA_mk, rfl, hS3.out⟩
  clear hS3 W3
  intro u1 u2 u9 u10 u11 u12 u13 u14 u15 u16 u17 u18 u19 u20 u21 u22 u23 u24 u25 u26 u27 u28 u29 u30 u31 u32 u33 u34 u35 u36 u37 u38 u39 u40 u41 u42 u43 u44 u45 u46 u47 u48 u49 u50 u51 u52 u53 u54 u55 u56 u57 u58 u59 u60 u61 u62 u63 u64 u65 u66 u67 u68 u69 u70 u71 u72 u73 u74 u75 u76 u77 u78 u79 u80 u81 u82 u83 u84 u85 u86 u87 u88 u89 u90 u91 u92 u93 u94 u95 u96 u97 u98 u99 u100 u101 u102 u103 u104 u105 u106 u107 u108 u109 u110 u111 u112 u113 u114 u115 u116 u117 u118 u119 u120 u121 u122 u123 u124 u125 u126 u127 u128 u129 u130 u131 u132 xl W3 ⟨hxl, hS3⟩
  subst hxl
  have hH1 : (hearV v q (rightP q)).1 = liftV (takenV v q) q := by
    unfold hearV
    rw [if_neg hnid, if_neg h5]
  have hH2 : (hearV v q (rightP q)).2 = answV (liftV (takenV v q) q) q := by
    unfold hearV
    rw [if_neg hnid, if_neg h5]
  unfold VtPost
  rw [hH1, hH2]
  clear hH1 hH2 hnid hno hR h2 h4 hk3 hfr
  generalize liftV (takenV v q) q = u at *
  refine wp_cutT g w.heap.size (.bool false) (.int .i64 (n : Int)) undef (fun l W => l = .slice none 0 0 ∧ TkW w g c q u W) ?_ ?_
  · have hS3 := Lib.hid hS3
    go_wp2_with fail
    exact ⟨_, TkA_mk, rfl, hS3.out⟩
  clear hS3 W3
  intro u1 u2 u9 u10 u11 u12 u13 u14 u15 u16 u17 u18 u19 u20 u21 u22 u23 u24 u25 u26 u27 u28 u29 u30 u31 u32 u33 u34 u35 u36 u37 u38 u39 u40 u41 u42 u43 u44 u45 u46 u47 u48 u49 u50 u51 u52 u53 u54 u55 u56 u57 u58 u59 u60 u61 u62 u63 u64 u65 u66 u67 u68 u69 u70 u71 u72 u73 u74 u75 u76 u77 u78 u79 u80 u81 u82 u83 u84 u85 u86 u87 u88 u89 u90 u91 u92 u93 u94 u95 u96 u97 u98 u99 u100 u101 u102 u103 u104 u105 u106 u107 u108 u109 u110 u111 u112 u113 u114 u115 u116 u117 u118 u119 u120 u121 u122 u123 u124 u125 u126 u127 u128 u129 u130 u131 u132 xl W3 ⟨hxl, hS3⟩
  subst hxl
  refine wp_cutT g w.heap.size (.bool false) (.int .i64 (n : Int)) undef (fun x W => TkW w g c q u W ∧ PksRow W (w.heap.size + 1) x (lstV u q)) ?_ ?_
  · have k0 := hS3.at0
    have hmk : ∀ (W4 : World) (c' : Array Value), PkIs c' (tellV u 2) → TkW w g c q u W4 → TkW w g c q u (W4.alloc (.cells c' 67)) := fun W4 c' _ h => h.keep (below_new' _ _)
    have hT := fun W (hW : VB W g u) => vTell_calls W hW 2
    obtain ⟨i0, hi0, hz0, hz1, hz2⟩ := info_pk'
    have hcase : q.kind = 1 ∨ q.kind = 4 ∨ (q.kind ≠ 1 ∧ q.kind ≠ 4) := by omega
    rcases hcase with hk | hk | ⟨hk, hk'⟩
    · have hl : lstV u q = [tellV u 2] := by unfold lstV; rw [if_pos (by omega)]
      rw [hl]
      rw [hk] at k0
      clear hk
      have hu := hS3.but.size
      go_wp2_with fail
      refine (hT _ hS3.view).mono ?_
      rintro e W4 ⟨c', rfl, hpc, hb4⟩
      have hS4 := Lib.hid (hmk _ c' hpc (hS3.keep hb4))
      have hc' := hpc.size
      have hln : (W4.alloc (.cells c' 67)).heap.size = W4.heap.size + 1 := by simp
      have hb5 := hb4.size
      clear hb4 hT hmk
      go_wp2_with (first | (with_reducible refine wpList_build1 rfl (.tmp 102) c' rfl rfl hc' ?_) | (at_builtin; refine wpList_append_own _ rfl _ _ 81 rfl (w.heap.size + 1) 67 i0 (.agg Tryz.zeroCells67) 261 2088 Tryz.underlying81 hi0 hz0 hz1 hz2 (zero_pk.size) (by decide) (.slice none 0 0) 0 [] rfl (World.ownsRow_nil _ _ _ _) ⟨W4.heap.size, 0, none⟩ 1 1 c'.toList rfl (by rw [Array.length_toList, hc']) (news_row _ _ _) (one_row hpc.one) (by simp only [maxLen]; omega) (by omega) (by omega) ?_; intro x' W7 hown7 hgr _; replace hgr := Lib.hid hgr; replace hown7 := Lib.hid hown7))
      have hS7 := hS4.out.grown hgr.out (World.ownsRow_nil W4 (w.heap.size + 1) _ _) (Nat.le_refl _)
      refine ⟨_, TkA_mk, hS7, [c'], .cons hpc .nil, ?_⟩
      simpa [rowP] using hown7.out
    · have hl : lstV u q = [tellV u 2] := by unfold lstV; rw [if_pos (by omega)]
      rw [hl]
      rw [hk] at k0
      clear hk
      have hu := hS3.but.size
      go_wp2_with fail
      refine (hT _ hS3.view).mono ?_
      rintro e W4 ⟨c', rfl, hpc, hb4⟩
      have hS4 := Lib.hid (hmk _ c' hpc (hS3.keep hb4))
      have hc' := hpc.size
      have hln : (W4.alloc (.cells c' 67)).heap.size = W4.heap.size + 1 := by simp
      have hb5 := hb4.size
      clear hb4 hT hmk
      go_wp2_with (first | (with_reducible refine wpList_build1 rfl (.tmp 102) c' rfl rfl hc' ?_) | (at_builtin; refine wpList_append_own _ rfl _ _ 81 rfl (w.heap.size + 1) 67 i0 (.agg Tryz.zeroCells67) 261 2088 Tryz.underlying81 hi0 hz0 hz1 hz2 (zero_pk.size) (by decide) (.slice none 0 0) 0 [] rfl (World.ownsRow_nil _ _ _ _) ⟨W4.heap.size, 0, none⟩ 1 1 c'.toList rfl (by rw [Array.length_toList, hc']) (news_row _ _ _) (one_row hpc.one) (by simp only [maxLen]; omega) (by omega) (by omega) ?_; intro x' W7 hown7 hgr _; replace hgr := Lib.hid hgr; replace hown7 := Lib.hid hown7))
      have hS7 := hS4.out.grown hgr.out (World.ownsRow_nil W4 (w.heap.size + 1) _ _) (Nat.le_refl _)
      refine ⟨_, TkA_mk, hS7, [c'], .cons hpc .nil, ?_⟩
      simpa [rowP] using hown7.out
    · have hl : lstV u q = [] := by unfold lstV; rw [if_neg (by omega)]
      rw [hl]
      have hd1 : (q.kind == (1 : Int)) = false := beq_eq_false_iff_ne.2 hk
      have hd2 : (q.kind == (4 : Int)) = false := beq_eq_false_iff_ne.2 hk'
      have hS3 := Lib.hid hS3
      clear hT hmk
      go_wp2_with fail
      exact ⟨_, TkA_mk, hS3.out, [], .nil, World.ownsRow_nil _ _ _ _⟩
  clear hS3 W3
  intro u1 u2 u9 u10 u11 u12 u13 u14 u15 u16 u17 u18 u19 u20 u21 u22 u23 u24 u25 u26 u27 u28 u29 u30 u31 u32 u33 u34 u35 u36 u37 u38 u39 u40 u41 u42 u43 u44 u45 u46 u47 u48 u49 u50 u51 u52 u53 u54 u55 u56 u57 u58 u59 u60 u61 u62 u63 u64 u65 u66 u67 u68 u69 u70 u71 u72 u73 u74 u75 u76 u77 u78 u79 u80 u81 u82 u83 u84 u85 u86 u87 u88 u89 u90 u91 u92 u93 u94 u95 u96 u97 u98 u99 u100 u101 u102 u103 u104 u105 u106 u107 u108 u109 u110 u111 u112 u113 u114 u115 u116 u117 u118 u119 u120 u121 u122 u123 u124 u125 u126 u127 u128 u129 u130 u131 u132 xl W3 ⟨hS3, hrow⟩
  refine wp_cutT g w.heap.size (.bool false) (.int .i64 (n : Int)) (.int .i64 (beatV u q.fr q.ep q.cl)) (fun x W => TkW w g c q u W ∧ PksRow W (w.heap.size + 1) x (lstV u q)) ?_ ?_
  · have hb0 := hS3.b0
    obtain ⟨cs, hcs, hown⟩ := hrow
    have hown := Lib.hid hown
    go_wp2_with (refine wpList_load_row rfl 67 _ rfl w.heap.size rfl 67 c (0, 0) _ hb0 Tryz.underlying67 rfl hi ?_)
    refine (vbeaten_calls _ hS3.view c q hq).mono ?_
    rintro e W4 ⟨rfl, hb4⟩
    have hS4 := Lib.hid (hS3.keep hb4)
    have hown4 := Lib.hid (pw_own_below hown.out hb4)
    clear hb4 hb0
    go_wp2_with fail
    exact ⟨_, TkA_mk, hS4.out, cs, hcs, hown4.out⟩
  clear hS3 hrow W3
  intro u1 u2 u9 u10 u11 u12 u13 u14 u15 u16 u17 u18 u19 u20 u21 u22 u23 u24 u25 u26 u27 u28 u29 u30 u31 u32 u33 u34 u35 u36 u37 u38 u39 u40 u41 u42 u43 u44 u45 u46 u47 u48 u49 u50 u51 u52 u53 u54 u55 u56 u57 u58 u59 u60 u61 u62 u63 u64 u65 u66 u67 u68 u69 u70 u71 u72 u73 u74 u75 u76 u77 u78 u79 u80 u81 u82 u83 u84 u85 u86 u87 u88 u89 u90 u91 u92 u93 u94 u95 u96 u97 u98 u99 u100 u101 u102 u103 u104 u105 u106 u107 u108 u109 u110 u111 u112 u113 u114 u115 u116 u117 u118 u119 u120 u121 u122 u123 u124 u125 u126 u127 u128 u129 u130 u131 u132 xl W3 ⟨hS3, hrow⟩
  refine wp_cutT g w.heap.size (.bool false) (.int .i64 (n : Int)) (.int .i64 (beatV u q.fr q.ep q.cl)) (fun x W => TkW w g c q u W ∧ PksRow W (w.heap.size + 1) x (answV u q)) ?_ ?_
  · have hans : answV u q = lstV u q ++ (if beatV u q.fr q.ep q.cl = -1 then [] else [⟨3, u.self, beatV u q.fr q.ep q.cl, u.ep (beatV u q.fr q.ep q.cl).toNat, u.cur, wordV u (beatV u q.fr q.ep q.cl).toNat⟩]) := rfl
    rw [hans]
    have hbn : beatV u q.fr q.ep q.cl = -1 ∨ ∃ o : Nat, o < 64 ∧ beatV u q.fr q.ep q.cl = o := by
      rcases beat_own u q.fr q.ep q.cl with h | ⟨s, hs, h⟩
      · exact Or.inl h
      · have := hS3.view.nodes s hs
        rw [h]
        by_cases he : u.own s = -1
        · exact Or.inl he
        · exact Or.inr ⟨(u.own s).toNat, by omega, by omega⟩
    generalize beatV u q.fr q.ep q.cl = bt at *
    rcases hbn with rfl | ⟨o, ho, rfl⟩
    · rw [if_pos rfl, List.append_nil]
      replace hS3 := Lib.hid hS3
      replace hrow := Lib.hid hrow
      go_wp2_with fail
      exact ⟨_, TkA_mk, hS3.out, hrow.out⟩
    · rw [if_neg (by omega), Int.toNat_natCast]
      have hne : ((o : Int) != (-1 : Int)) = true := bne_iff_ne.2 (by omega)
      have hs64 := hS3.view.self64
      have hep := hS3.view.ep64 o ho
      have hcu := hS3.view.cur64
      have hC := fun W (hW : VB W g u) => vClaims_calls W hW o ho
      obtain ⟨cs, hcs, hown⟩ := hrow
      have hown := Lib.hid hown
      have hll : (lstV u q).length ≤ 1 := by unfold lstV; split <;> simp
      obtain ⟨i0, hi0, hz0, hz1, hz2⟩ := info_pk'
      go_wp2_with fail
      refine wp_region_last (S := TkW w g c q u) 22 (by kernel_rfl) ?_
      replace hown := pw_own_below hown.out (below_drew (Below.refl W3.heap.size W3))
      replace hS3 := hS3.keep (below_drew (Below.refl _ _))
      generalize World.drew _ = W4 at *
      refine wpAnyT_take (i := 0) (oi := ⟨some 110, _, _, _, _, _⟩) (v := xl) rfl (by kernel_rfl) (by kernel_rfl) (by kernel_rfl) (by kernel_rfl) (fun _ _ _ h => h) (Or.inl ⟨by rfl, fun W hW => by have q0 := hW.view.atSelf; have q1 := hW.view.atEp _ ho; have q2 := hW.view.atCur; go_simp; try (intro h; omega)⟩) hS3 ?_
      try simp only [Act.put, List.setIfInBounds_toArray, List.set_cons_zero, List.set_cons_succ]
      refine wpAnyT_take (i := 1) (oi := ⟨some 111, _, _, _, _, _⟩) (v := .pointer (some ⟨g, 0, none⟩)) rfl (by kernel_rfl) (by kernel_rfl) (by kernel_rfl) (by kernel_rfl) (fun _ _ _ h => h) (Or.inl ⟨by rfl, fun W hW => by have q0 := hW.view.atSelf; have q1 := hW.view.atEp _ ho; have q2 := hW.view.atCur; go_simp; try (intro h; omega)⟩) hS3 ?_
      try simp only [Act.put, List.setIfInBounds_toArray, List.set_cons_zero, List.set_cons_succ]
      refine wpAnyT_take (i := 2) (oi := ⟨some 112, _, _, _, _, _⟩) (v := .pointer (some ⟨g, 0, none⟩)) rfl (by kernel_rfl) (by kernel_rfl) (by kernel_rfl) (by kernel_rfl) (fun _ _ _ h => h) (Or.inl ⟨by rfl, fun W hW => by have q0 := hW.view.atSelf; have q1 := hW.view.atEp _ ho; have q2 := hW.view.atCur; go_simp; try (intro h; omega)⟩) hS3 ?_
      try simp only [Act.put, List.setIfInBounds_toArray, List.set_cons_zero, List.set_cons_succ]
      refine wpAnyT_take (i := 3) (oi := ⟨some 113, _, _, _, _, _⟩) (v := .pointer (some ⟨g, 0, none⟩)) rfl (by kernel_rfl) (by kernel_rfl) (by kernel_rfl) (by kernel_rfl) (fun _ _ _ h => h) (Or.inl ⟨by rfl, fun W hW => by have q0 := hW.view.atSelf; have q1 := hW.view.atEp _ ho; have q2 := hW.view.atCur; go_simp; try (intro h; omega)⟩) hS3 ?_
      try simp only [Act.put, List.setIfInBounds_toArray, List.set_cons_zero, List.set_cons_succ]
      refine wpAnyT_take (i := 4) (oi := ⟨some 114, _, _, _, _, _⟩) (v := .int .i64 (u.self : Int)) rfl (by kernel_rfl) (by kernel_rfl) (by kernel_rfl) (by kernel_rfl) (fun _ _ _ h => h) (Or.inl ⟨by rfl, fun W hW => by have q0 := hW.view.atSelf; have q1 := hW.view.atEp _ ho; have q2 := hW.view.atCur; go_simp; try (intro h; omega)⟩) hS3 ?_
      try simp only [Act.put, List.setIfInBounds_toArray, List.set_cons_zero, List.set_cons_succ]
      refine wpAnyT_take (i := 5) (oi := ⟨some 115, _, _, _, _, _⟩) (v := .int .i64 (o : Int)) rfl (by kernel_rfl) (by kernel_rfl) (by kernel_rfl) (by kernel_rfl) (fun _ _ _ h => h) (Or.inl ⟨by rfl, fun W hW => by have q0 := hW.view.atSelf; have q1 := hW.view.atEp _ ho; have q2 := hW.view.atCur; go_simp; try (intro h; omega)⟩) hS3 ?_
      try simp only [Act.put, List.setIfInBounds_toArray, List.set_cons_zero, List.set_cons_succ]
      refine wpAnyT_take (i := 6) (oi := ⟨some 116, _, _, _, _, _⟩) (v := .pointer (some ⟨g, 0, none⟩)) rfl (by kernel_rfl) (by kernel_rfl) (by kernel_rfl) (by kernel_rfl) (fun _ _ _ h => h) (Or.inl ⟨by rfl, fun W hW => by have q0 := hW.view.atSelf; have q1 := hW.view.atEp _ ho; have q2 := hW.view.atCur; go_simp; try (intro h; omega)⟩) hS3 ?_
      try simp only [Act.put, List.setIfInBounds_toArray, List.set_cons_zero, List.set_cons_succ]
      refine wpAnyT_take (i := 7) (oi := ⟨some 117, _, _, _, _, _⟩) (v := .int .i64 (o : Int)) rfl (by kernel_rfl) (by kernel_rfl) (by kernel_rfl) (by kernel_rfl) (fun _ _ _ h => h) (Or.inl ⟨by rfl, fun W hW => by have q0 := hW.view.atSelf; have q1 := hW.view.atEp _ ho; have q2 := hW.view.atCur; go_simp; try (intro h; omega)⟩) hS3 ?_
      try simp only [Act.put, List.setIfInBounds_toArray, List.set_cons_zero, List.set_cons_succ]
      refine wpAnyT_take (i := 8) (oi := ⟨some 118, _, _, _, _, _⟩) (v := .pointer (some ⟨g, 0, none⟩)) rfl (by kernel_rfl) (by kernel_rfl) (by kernel_rfl) (by kernel_rfl) (fun _ _ _ h => h) (Or.inl ⟨by rfl, fun W hW => by have q0 := hW.view.atSelf; have q1 := hW.view.atEp _ ho; have q2 := hW.view.atCur; go_simp; try (intro h; omega)⟩) hS3 ?_
      try simp only [Act.put, List.setIfInBounds_toArray, List.set_cons_zero, List.set_cons_succ]
      refine wpAnyT_take (i := 9) (oi := ⟨some 119, _, _, _, _, _⟩) (v := .pointer (some ⟨g, 16385, none⟩)) rfl (by kernel_rfl) (by kernel_rfl) (by kernel_rfl) (by kernel_rfl) (fun _ _ _ h => h) (Or.inl ⟨by rfl, fun W hW => by have q0 := hW.view.atSelf; have q1 := hW.view.atEp _ ho; have q2 := hW.view.atCur; go_simp; try (intro h; omega)⟩) hS3 ?_
      try simp only [Act.put, List.setIfInBounds_toArray, List.set_cons_zero, List.set_cons_succ]
      refine wpAnyT_take (i := 10) (oi := ⟨some 120, _, _, _, _, _⟩) (v := .pointer (some ⟨g, 16385 + o, none⟩)) rfl (by kernel_rfl) (by kernel_rfl) (by kernel_rfl) (by kernel_rfl) (fun _ _ _ h => h) (Or.inl ⟨by rfl, fun W hW => by have q0 := hW.view.atSelf; have q1 := hW.view.atEp _ ho; have q2 := hW.view.atCur; go_simp; try (intro h; omega)⟩) hS3 ?_
      try simp only [Act.put, List.setIfInBounds_toArray, List.set_cons_zero, List.set_cons_succ]
      refine wpAnyT_take (i := 11) (oi := ⟨some 121, _, _, _, _, _⟩) (v := .int .u64 (u.ep o : Int)) rfl (by kernel_rfl) (by kernel_rfl) (by kernel_rfl) (by kernel_rfl) (fun _ _ _ h => h) (Or.inl ⟨by rfl, fun W hW => by have q0 := hW.view.atSelf; have q1 := hW.view.atEp _ ho; have q2 := hW.view.atCur; go_simp; try (intro h; omega)⟩) hS3 ?_
      try simp only [Act.put, List.setIfInBounds_toArray, List.set_cons_zero, List.set_cons_succ]
      refine wpAnyT_take (i := 12) (oi := ⟨some 122, _, _, _, _, _⟩) (v := .pointer (some ⟨g, 0, none⟩)) rfl (by kernel_rfl) (by kernel_rfl) (by kernel_rfl) (by kernel_rfl) (fun _ _ _ h => h) (Or.inl ⟨by rfl, fun W hW => by have q0 := hW.view.atSelf; have q1 := hW.view.atEp _ ho; have q2 := hW.view.atCur; go_simp; try (intro h; omega)⟩) hS3 ?_
      try simp only [Act.put, List.setIfInBounds_toArray, List.set_cons_zero, List.set_cons_succ]
      refine wpAnyT_take (i := 13) (oi := ⟨some 123, _, _, _, _, _⟩) (v := .pointer (some ⟨g, 0, none⟩)) rfl (by kernel_rfl) (by kernel_rfl) (by kernel_rfl) (by kernel_rfl) (fun _ _ _ h => h) (Or.inl ⟨by rfl, fun W hW => by have q0 := hW.view.atSelf; have q1 := hW.view.atEp _ ho; have q2 := hW.view.atCur; go_simp; try (intro h; omega)⟩) hS3 ?_
      try simp only [Act.put, List.setIfInBounds_toArray, List.set_cons_zero, List.set_cons_succ]
      refine wpAnyT_take (i := 14) (oi := ⟨some 124, _, _, _, _, _⟩) (v := .pointer (some ⟨g, 16449, none⟩)) rfl (by kernel_rfl) (by kernel_rfl) (by kernel_rfl) (by kernel_rfl) (fun _ _ _ h => h) (Or.inl ⟨by rfl, fun W hW => by have q0 := hW.view.atSelf; have q1 := hW.view.atEp _ ho; have q2 := hW.view.atCur; go_simp; try (intro h; omega)⟩) hS3 ?_
      try simp only [Act.put, List.setIfInBounds_toArray, List.set_cons_zero, List.set_cons_succ]
      refine wpAnyT_take (i := 15) (oi := ⟨some 125, _, _, _, _, _⟩) (v := .int .u64 (u.cur : Int)) rfl (by kernel_rfl) (by kernel_rfl) (by kernel_rfl) (by kernel_rfl) (fun _ _ _ h => h) (Or.inl ⟨by rfl, fun W hW => by have q0 := hW.view.atSelf; have q1 := hW.view.atEp _ ho; have q2 := hW.view.atCur; go_simp; try (intro h; omega)⟩) hS3 ?_
      try simp only [Act.put, List.setIfInBounds_toArray, List.set_cons_zero, List.set_cons_succ]
      refine wpAnyT_take (i := 16) (oi := ⟨some 126, _, _, _, _, _⟩) (v := .pointer (some ⟨g, 0, none⟩)) rfl (by kernel_rfl) (by kernel_rfl) (by kernel_rfl) (by kernel_rfl) (fun _ _ _ h => h) (Or.inl ⟨by rfl, fun W hW => by have q0 := hW.view.atSelf; have q1 := hW.view.atEp _ ho; have q2 := hW.view.atCur; go_simp; try (intro h; omega)⟩) hS3 ?_
      try simp only [Act.put, List.setIfInBounds_toArray, List.set_cons_zero, List.set_cons_succ]
      refine wpAnyT_take (i := 17) (oi := ⟨some 127, _, _, _, _, _⟩) (v := .int .i64 (o : Int)) rfl (by kernel_rfl) (by kernel_rfl) (by kernel_rfl) (by kernel_rfl) (fun _ _ _ h => h) (Or.inl ⟨by rfl, fun W hW => by have q0 := hW.view.atSelf; have q1 := hW.view.atEp _ ho; have q2 := hW.view.atCur; go_simp; try (intro h; omega)⟩) hS3 ?_
      try simp only [Act.put, List.setIfInBounds_toArray, List.set_cons_zero, List.set_cons_succ]
      replace hown := Lib.hid hown
      refine wpAnyT_one (i := 18) (o := ⟨some 128, _, _, _, _, _⟩) (by kernel_rfl) rfl (fun K hK => ?_)
      go_simp
      refine (hC _ hS3.view).mono ?_
      rintro e W5 ⟨a5, rfl, ha, hb5⟩
      replace hown := Lib.hid (pw_own_below hown.out hb5)
      replace hS3 := Lib.hid (hS3.keep hb5)
      clear hb5
      go_wp2_with fail
      refine hK.out _ _ (fun _ => hS3.out) ?_
      clear hK K
      try simp only [Act.put, List.setIfInBounds_toArray, List.set_cons_zero, List.set_cons_succ]
      have hbd := build_pk ha.size (.int .i64 3) (.int .i64 (u.self : Int)) (.int .i64 (o : Int)) (.int .u64 (u.ep o : Int)) (.int .u64 (u.cur : Int))
      rw [ha.size] at hbd
      have hpk : PkIs (#[.int .i64 3, .int .i64 (u.self : Int), .int .i64 (o : Int), .int .u64 (u.ep o : Int), .int .u64 (u.cur : Int)] ++ a5) ⟨3, u.self, o, u.ep o, u.cur, wordV u o⟩ := ⟨a5, rfl, ha, hep, hcu⟩
      have has := ha.size
      generalize hc5 : #[Value.int .i64 3, .int .i64 (u.self : Int), .int .i64 (o : Int), .int .u64 (u.ep o : Int), .int .u64 (u.cur : Int)] ++ a5 = c5 at *
      have hc5 := Lib.hid hc5
      have hpk := Lib.hid hpk
      have hcs5 : c5.size = 261 := hpk.out.size
      refine wpAnyT_one (i := 19) (o := ⟨some 129, _, _, _, _, _⟩) (by kernel_rfl) rfl (fun K hK => ?_)
      go_simp
      go_wp2_with fail
      refine hK.out _ _ (fun _ => hS3.out) ?_
      clear hK K hbd
      try simp only [Act.put, List.setIfInBounds_toArray, List.set_cons_zero, List.set_cons_succ]
      have hS6 := Lib.hid (hS3.out.keep (below_new' W5 (.cells c5 67)))
      have hown6 := Lib.hid (hown.out.alloc (.cells c5 67))
      refine wpAnyT_one (i := 20) (o := ⟨some 130, _, _, _, _, _⟩) (by kernel_rfl) rfl (fun K hK => ?_)
      refine wp_build1 (.tmp 129) c5 rfl rfl hcs5 ?_
      refine hK.out _ _ (fun _ => hS6.out) ?_
      clear hK K
      try simp only [Act.put, List.setIfInBounds_toArray, List.set_cons_zero, List.set_cons_succ]
      refine wpAnyT_one (i := 21) (o := ⟨some 131, _, _, _, _, _⟩) (by kernel_rfl) rfl (fun K hK => ?_)
      have hln : (W5.alloc (.cells c5 67)).heap.size = W5.heap.size + 1 := by simp
      have hw5 := hS3.out.but.size
      refine wp_append_own _ (.tmp 110) (.tmp 130) 81 rfl (w.heap.size + 1) 67 i0 (.agg Tryz.zeroCells67) 261 2088 Tryz.underlying81 hi0 hz0 hz1 hz2 (zero_pk.size) (by decide) xl _ _ rfl hown6.out ⟨W5.heap.size, 0, none⟩ 1 1 c5.toList rfl (by rw [Array.length_toList, hcs5]) (news_row _ _ _) (one_row hpk.out.one) (by simp only [maxLen]; omega) (by omega) (by omega) ?_
      intro x' W7 hown7 hgr _
      have hS7 := hS6.out.grown hgr hown6.out (Nat.le_refl _)
      refine hK.out _ _ (fun _ => hS7) ?_
      clear hK K
      try simp only [Act.put, List.setIfInBounds_toArray, List.set_cons_zero, List.set_cons_succ]
      replace hS7 := Lib.hid hS7
      replace hown7 := Lib.hid hown7
      refine wpAnyT_one (i := 22) (o := ⟨some 7, _, _, _, _, _⟩) (by kernel_rfl) rfl (fun K hK => ?_)
      go_simp
      go_wp2_with fail
      refine hK.out _ _ (fun h => absurd rfl h) ?_
      clear hK K
      try simp only [Act.put, List.setIfInBounds_toArray, List.set_cons_zero, List.set_cons_succ]
      refine wpAnyT_done (by kernel_rfl) ?_ _
      go_wp2_with fail
      refine ⟨_, TkA_mk, hS7.out, cs ++ [c5], hcs.snoc hpk.out, ?_⟩
      rw [rowP_snoc, List.length_append]
      exact hown7.out
  clear hS3 hrow W3
  intro u1 u2 u9 u10 u11 u12 u13 u14 u15 u16 u17 u18 u19 u20 u21 u22 u23 u24 u25 u26 u27 u28 u29 u30 u31 u32 u33 u34 u35 u36 u37 u38 u39 u40 u41 u42 u43 u44 u45 u46 u47 u48 u49 u50 u51 u52 u53 u54 u55 u56 u57 u58 u59 u60 u61 u62 u63 u64 u65 u66 u67 u68 u69 u70 u71 u72 u73 u74 u75 u76 u77 u78 u79 u80 u81 u82 u83 u84 u85 u86 u87 u88 u89 u90 u91 u92 u93 u94 u95 u96 u97 u98 u99 u100 u101 u102 u103 u104 u105 u106 u107 u108 u109 u110 u111 u112 u113 u114 u115 u116 u117 u118 u119 u120 u121 u122 u123 u124 u125 u126 u127 u128 u129 u130 u131 u132 xl W3 ⟨hS3, hrow⟩
  have hS3 := Lib.hid hS3
  obtain ⟨cs, hcs, hown⟩ := hrow
  have hown := Lib.hid hown
  go_wp2_with fail
  go_ret
  exact ⟨_, rfl, ⟨cs, hcs, own_weaken hown.out (Nat.le_succ _)⟩, hS3.out.view, hS3.out.but⟩
end Go.Proofs.YtgdcnenlelckhaaGreatDoor

namespace Go.Proofs.YtgdcnenlelckhaaGreatDoor
open Go.RowKit Go.Proofs.YtgdcnenlelckhaaGreatDoorW.PrintWords
open SlS SlT
theorem vTake_calls {g : Nat} {v : VS} (w : World) (h : VB w g v) (c : Array Value) (q : Pkt) (hq : PkIs c q) (hcur : v.cur + 1 < 18446744073709551616) : Calls Tryz.prog 30 #[.pointer (some ⟨g, 0, none⟩), .agg c] w (VtPost w g v q) := by
  cases h1 : rightP q with
  | false => exact vTake_idleA w h c q hq h1
  | true =>
    by_cases h2 : 4611686018427387904 < q.cur
    · exact vTake_idleB w h c q hq h1 h2
    · by_cases h3 : q.fr = (v.self : Int)
      · exact vTake_idleC w h c q hq h1 (by omega) h3
      · by_cases h5 : q.kind = 3
        · by_cases h6 : q.of_ = (v.self : Int)
          · exact vTake_idleD w h c q hq h1 (by omega) h3 h5 h6
          · exact vTake_update w h c q hq h1 (by omega) h3 h5 h6 hcur
        · exact vTake_other w h c q hq h1 (by omega) h3 h5 hcur
/-- the bytes of a packet -/
def encT (q : Pkt) : ByteArray := if rightP q then ⟨(encV q.kind.toNat q.fr.toNat q.of_.toNat q.ep q.cur (printH (hasN q.cl))).toArray⟩ else ⟨#[]⟩
theorem Encode_pk {c : Array Value} {q : Pkt} (hq : PkIs c q) (w : World) (hE : Env w) : Calls Tryz.prog 52 #[.agg c] w fun r w' => ∃ x : Int, r = .returned (.tuple #[.string (encT q), .int .i64 x]) ∧ Below w.heap.size w w' := by
  obtain ⟨a, h⟩ := hq
  refine (Encode_calls c _ _ _ _ _ a _ h w hE).mono ?_
  rintro r w' ⟨rfl, hb⟩
  unfold encR encT rightP
  cases rightV q.kind q.fr q.of_ q.ep q.cur with
  | true => exact ⟨0, rfl, hb⟩
  | false => exact ⟨140, rfl, hb⟩
structure DecIs (s : List UInt8) (q : Pkt) : Prop where
  right : rightP q = true
  ep : q.ep < 18446744073709551616
  cur : q.cur < 18446744073709551616
  cl : ∀ i, q.cl i < 18446744073709551616
  enc : encV q.kind.toNat q.fr.toNat q.of_.toNat q.ep q.cur (printH (hasN q.cl)) = s
open Classical in
/-- the packet that some bytes are -/
noncomputable def decP (s : List UInt8) : Option Pkt := if h : ∃ q, DecIs s q then some h.choose else none
theorem decP_some {s : List UInt8} {q : Pkt} (h : decP s = some q) : DecIs s q := by
  unfold decP at h
  split at h
  · rename_i hx
    injection h with h
    rw [← h]
    exact hx.choose_spec
  · cases h
theorem words_eq {f f' : Nat → Nat} (hf : ∀ i, f i < 18446744073709551616) (hf' : ∀ i, f' i < 18446744073709551616) (h : ∀ n, n < 16384 → hasN f n = hasN f' n) : ∀ i, i < 256 → f i = f' i := by
  intro i hi
  refine Nat.eq_of_testBit_eq fun j => ?_
  rcases Nat.lt_or_ge j 64 with hj | hj
  · have h1 := h (i * 64 + j) (by omega)
    unfold hasN at h1
    rw [show (i * 64 + j) / 64 = i by omega, show (i * 64 + j) % 64 = j by omega] at h1
    exact h1
  · have h1 := Nat.testBit_lt_two_pow (i := j) (Nat.lt_of_lt_of_le (hf i) (show 18446744073709551616 ≤ 2 ^ j from (Nat.pow_le_pow_right (by omega) hj : 2 ^ 64 ≤ 2 ^ j)))
    have h2 := Nat.testBit_lt_two_pow (i := j) (Nat.lt_of_lt_of_le (hf' i) (show 18446744073709551616 ≤ 2 ^ j from (Nat.pow_le_pow_right (by omega) hj : 2 ^ 64 ≤ 2 ^ j)))
    rw [h1, h2]
theorem DecIs.same {s : List UInt8} {q q' : Pkt} (h : DecIs s q) (h' : DecIs s q') : PktEq q q' ∧ ∀ n, n < 16384 → hasN q.cl n = hasN q'.cl n := by
  have h1 := h.right
  have h2 := h'.right
  unfold rightP at h1 h2
  obtain ⟨K, F, O, e1, e2, e3, b1, b2, b3⟩ := right_nat h1
  obtain ⟨K', F', O', e4, e5, e6, b4, b5, b6⟩ := right_nat h2
  have hl := print_len (hasN q.cl)
  have hl' := print_len (hasN q'.cl)
  have he := h.enc.trans h'.enc.symm
  rw [e1, e2, e3, e4, e5, e6] at he
  simp only [Int.toNat_natCast] at he
  obtain ⟨i1, i2, i3, i4, i5, ht⟩ := encV_inj (by omega) (by omega) (by omega) (by omega) (by omega) (by omega) h.ep h'.ep h.cur h'.cur (Nat.lt_of_le_of_lt hl (by decide)) (Nat.lt_of_le_of_lt hl' (by decide)) he
  have hn : ∀ n, n < 16384 → hasN q.cl n = hasN q'.cl n := fun n hn => printH_inj ht hn
  exact ⟨⟨by omega, by omega, by omega, i4, i5, words_eq h.cl h'.cl hn⟩, hn⟩
theorem decP_of {s : List UInt8} {q : Pkt} (h : DecIs s q) : ∃ q', decP s = some q' ∧ PktEq q q' ∧ (∀ n, n < 16384 → hasN q.cl n = hasN q'.cl n) ∧ DecIs s q' := by
  have hx : ∃ q, DecIs s q := ⟨q, h⟩
  have h2 := hx.choose_spec
  obtain ⟨h3, h4⟩ := h.same h2
  refine ⟨hx.choose, ?_, h3, h4, h2⟩
  unfold decP
  rw [dif_pos hx]
theorem PkIs.congr {c : Array Value} {q q' : Pkt} (h : PkIs c q) (he : PktEq q q') (hl : ∀ i, q'.cl i < 18446744073709551616) : PkIs c q' := by
  obtain ⟨a, h⟩ := h
  exact ⟨a, by rw [← he.kind, ← he.fr, ← he.of_, ← he.ep, ← he.cur]; exact h.cells, ⟨h.words.size, fun i hi => by rw [← he.cl i hi]; exact h.words.get i hi, hl⟩, by rw [← he.ep]; exact h.he, by rw [← he.cur]; exact h.hcu⟩
/-- what a reading tells -/
def DcRes (s : List UInt8) (c : Array Value) (x : Int) : Prop := match decP s with
  | some q => x = 0 ∧ PkIs c q
  | none => x = 140 ∧ c = Tryz.zeroCells67
theorem dc_res {w w' : World} {s : List UInt8} {r : Ending} (h : DcPost w s r w') : ∃ c x, r = .returned (.tuple #[.agg c, .int .i64 x]) ∧ DcRes s c x ∧ c.size = 261 ∧ c.all (·.oneCell') = true ∧ Below w.heap.size w w' := by
  obtain ⟨⟨c, K, F, O, e, cu, a, f, rfl, hp, hr, he⟩ | ⟨h1, rfl⟩, hb⟩ := h
  · refine ⟨c, 0, rfl, ?_, hp.size, hp.one, hb⟩
    have hd : DecIs s ⟨K, F, O, e, cu, f⟩ := ⟨hr, hp.he, hp.hcu, hp.words.lt, by simpa using he⟩
    obtain ⟨q', h2, h3, h4, h5⟩ := decP_of hd
    unfold DcRes
    rw [h2]
    exact ⟨rfl, (show PkIs c ⟨K, F, O, e, cu, f⟩ from ⟨a, hp⟩).congr h3 h5.cl⟩
  · refine ⟨_, 140, rfl, ?_, zero_pk.size, zero_pk.one, hb⟩
    unfold DcRes
    cases hd : decP s with
    | none => exact ⟨rfl, rfl⟩
    | some q =>
      have h2 := decP_some hd
      have h3 := h2.right
      unfold rightP at h3
      obtain ⟨K, F, O, e1, e2, e3, -⟩ := right_nat h3
      have h4 := h2.enc
      rw [e1, e2, e3] at h4 h3
      simp only [Int.toNat_natCast] at h4
      exact absurd h4 (h1 K F O q.ep q.cur (hasN q.cl) h3 h2.ep h2.cur)
/-- what has gone out, as cells -/
def outR (l : List (Int × ByteArray)) : List Value := l.flatMap fun p => [.int .i64 p.1, .string p.2]
theorem outR_app (a b : List (Int × ByteArray)) : outR (a ++ b) = outR a ++ outR b := by simp [outR]
/-- a bus's box -/
structure BB (W : World) (b g : Nat) (x : Value) (v : VS) (l : List (Int × ByteArray)) : Prop where
  box : W.heap[b]? = some (.cells #[.pointer (some ⟨g, 0, none⟩), x] 78 (0, 0))
  view : VB W g v
  ne : b ≠ g
  outs : W.ownsRow 0 35 2 x l.length (outR l)
  nb : x.ownBlock ≠ some b
  ng : x.ownBlock ≠ some g
def foot (b g : Nat) (x : Value) (k : Nat) : Prop := k = b ∨ k = g ∨ x.ownBlock = some k
theorem BB.lt {W : World} {b g : Nat} {x : Value} {v : VS} {l : List (Int × ByteArray)} (h : BB W b g x v l) : b < W.heap.size ∧ g < W.heap.size ∧ ∀ k, x.ownBlock = some k → k < W.heap.size :=
  ⟨blk_lt h.box, h.view.lt, fun k hk => (h.outs.lt k hk).2⟩
theorem own_keep {S : Nat → Prop} {w w1 : World} {base : Nat} {e : TypeId} {size n : Nat} {v : Value} {xs : List Value} (h : w.ownsRow base e size v n xs) (hb : But S w w1) (hS : ∀ k, v.ownBlock = some k → ¬ S k) : w1.ownsRow base e size v n xs := by
  refine ⟨h.1, ?_⟩
  rcases h.2 with hn | ⟨g, cap, cur, rfl, hb1, hgg, rest⟩
  · exact .inl hn
  · refine .inr ⟨g, cap, cur, rfl, hb1, ?_, rest⟩
    rw [hb.block g (blk_lt hgg) (hS g rfl)]
    exact hgg
theorem BB.keep {S : Nat → Prop} {W W' : World} {b g : Nat} {x : Value} {v : VS} {l : List (Int × ByteArray)} (h : BB W b g x v l) (hb : But S W W') (hS : ∀ k, foot b g x k → ¬ S k) : BB W' b g x v l :=
  ⟨(hb.block _ h.lt.1 (hS _ (Or.inl rfl))).trans h.box, h.view.keep hb (hS _ (Or.inr (Or.inl rfl))), h.ne, own_keep h.outs hb (fun k hk => hS k (Or.inr (Or.inr hk))), h.nb, h.ng⟩
theorem BB.below {W W' : World} {b g : Nat} {x : Value} {v : VS} {l : List (Int × ByteArray)} (h : BB W b g x v l) (hb : Below W.heap.size W W') : BB W' b g x v l := h.keep (but_below hb fun _ => False) fun _ _ h => h
/-- a call on a bus: what it leaves -/
def BusPost (w : World) (b g : Nat) (x : Value) (v : VS) (l : List (Int × ByteArray)) (w' : World) : Prop :=
  ∃ x', BB w' b g x' v l ∧ But (foot b g x) w w' ∧ ∀ k, x'.ownBlock = some k → x.ownBlock = some k ∨ w.heap.size ≤ k
theorem foot_next {w W : World} {b g : Nat} {x x' : Value} (hx : ∀ k, x'.ownBlock = some k → x.ownBlock = some k ∨ w.heap.size ≤ k) : ∀ k, k < w.heap.size → foot b g x' k → foot b g x k := by
  rintro k hk (h | h | h)
  · exact Or.inl h
  · exact Or.inr (Or.inl h)
  · rcases hx k h with h | h
    · exact Or.inr (Or.inr h)
    · omega
theorem BusPost.trans {w w1 w2 : World} {b g : Nat} {x x1 : Value} {v : VS} {l : List (Int × ByteArray)} (h : But (foot b g x) w w1) (hx : ∀ k, x1.ownBlock = some k → x.ownBlock = some k ∨ w.heap.size ≤ k) (h2 : BusPost w1 b g x1 v l w2) : BusPost w b g x v l w2 := by
  obtain ⟨x2, hb, hbut, hx2⟩ := h2
  refine ⟨x2, hb, h.trans hbut (foot_next (W := w) hx), fun k hk => ?_⟩
  rcases hx2 k hk with h3 | h3
  · exact hx k h3
  · exact Or.inr (Nat.le_trans h.size h3)
theorem BusPost.next {w w1 w2 : World} {b g : Nat} {x : Value} {v : VS} {l : List (Int × ByteArray)} (h : BusPost w b g x v l w1) (hb : Below w1.heap.size w1 w2) : BusPost w b g x v l w2 := by
  obtain ⟨x2, h1, h2, h3⟩ := h
  exact ⟨x2, h1.below hb, h2.next hb, h3⟩
theorem info_out' : ∃ i0, Tryz.prog.info? 35 = some i0 ∧ i0.zero = some (.agg #[.int .i64 0, .string ⟨#[]⟩]) ∧ i0.size = 2 ∧ i0.bytes = 24 := info_parts (by kernel_rfl)
theorem Env.foot {S : Nat → Prop} {w w' : World} {n : Nat} (h : Env w) (hb : But S w w') (hlow : ∀ k, S k → n ≤ k) (hn : n ≤ w.heap.size) : Below n w w' := hb.below hn fun i hi hs => by have := hlow i hs; omega
end Go.Proofs.YtgdcnenlelckhaaGreatDoor

namespace Go.Proofs.YtgdcnenlelckhaaGreatDoor
open Go.RowKit Go.Proofs.YtgdcnenlelckhaaGreatDoorW.PrintWords
open SlS SlT
theorem rowP_at : ∀ {cs : List (Array Value)} {ps : List Pkt}, PksIs cs ps → ∀ (k : Nat) (c : Array Value), cs[k]? = some c → ∀ j u, c.toList[j]? = some u → (rowP cs)[k * 261 + j]? = some u
  | _, _, .nil, k, c, h, _, _, _ => by simp at h
  | _, _, .cons (c := c0) (cs := cs) hc hcs, 0, c, h, j, u, hu => by
    simp only [List.getElem?_cons_zero, Option.some.injEq] at h
    subst h
    show (c0.toList ++ rowP cs)[0 * 261 + j]? = _
    have hj : j < c0.toList.length := (List.getElem?_eq_some_iff.1 hu).1
    rw [Nat.zero_mul, Nat.zero_add, List.getElem?_append_left hj]
    exact hu
  | _, _, .cons (c := c0) (cs := cs) hc hcs, k + 1, c, h, j, u, hu => by
    rw [List.getElem?_cons_succ] at h
    have ih := rowP_at hcs k c h j u hu
    show (c0.toList ++ rowP cs)[(k + 1) * 261 + j]? = _
    have h1 : c0.toList.length = 261 := by rw [Array.length_toList, hc.size]
    rw [List.getElem?_append_right (by omega), h1, show (k + 1) * 261 + j - 261 = k * 261 + j by omega]
    exact ih
theorem PksIs.at {cs : List (Array Value)} {ps : List Pkt} (h : PksIs cs ps) : ∀ k, k < ps.length → ∃ c q, cs[k]? = some c ∧ ps[k]? = some q ∧ PkIs c q := by
  induction h with
  | nil => intro k hk; simp at hk
  | cons h1 _ ih =>
    intro k hk
    cases k with
    | zero => exact ⟨_, _, rfl, rfl, h1⟩
    | succ k => exact ih k (by simpa using hk)
theorem grow_but {W W' : World} {r : Option Nat} (h : W.grownBy W' r) (S : Nat → Prop) (hS : ∀ k, r = some k → S k) : But S W W' :=
  ⟨h.os, h.tape, h.output, h.size, fun k hk hn => h.block k hk (fun e => hn (hS k e.symm))⟩
/-- one thing more has gone out -/
theorem bus_out {w W W4 : World} {b g : Nat} {x x1 x2 : Value} {v : VS} {l : List (Int × ByteArray)} {tgt : Int} {T : ByteArray} {O : Obj} (h : BB W b g x1 v l) (hbut : But (foot b g x) w W) (hx : ∀ k, x1.ownBlock = some k → x.ownBlock = some k ∨ w.heap.size ≤ k)
    (hgr : (W.alloc O).grownBy W4 x1.ownBlock) (hown : W4.ownsRow 0 35 2 x2 (l.length + 1) (outR l ++ [.int .i64 tgt, .string T])) (hat : x2.ownBlock = x1.ownBlock ∨ x2.ownBlock = some (W.alloc O).heap.size) :
    BB (W4.setCell ⟨b, 1, none⟩ x2) b g x2 v (l ++ [(tgt, T)]) ∧ But (foot b g x) w (W4.setCell ⟨b, 1, none⟩ x2) ∧ ∀ k, x2.ownBlock = some k → x.ownBlock = some k ∨ w.heap.size ≤ k := by
  obtain ⟨hlb, hlg, hlx⟩ := h.lt
  have hs : (W.alloc O).heap.size = W.heap.size + 1 := by simp
  have b1 : BB (W.alloc O) b g x1 v l := h.below (below_new' W O)
  have g1 := grow_but hgr (fun k => x1.ownBlock = some k) fun k hk => hk
  have hbox : W4.heap[b]? = some (.cells #[.pointer (some ⟨g, 0, none⟩), x1] 78 (0, 0)) := (g1.block b (by omega) h.nb).trans b1.box
  have hview : VB W4 g v := b1.view.keep g1 h.ng
  have hnb : x2.ownBlock ≠ some b := by
    rcases hat with e | e
    · rw [e]; exact h.nb
    · rw [e]; intro e2; injection e2 with e2; omega
  have hng : x2.ownBlock ≠ some g := by
    rcases hat with e | e
    · rw [e]; exact h.ng
    · rw [e]; intro e2; injection e2 with e2; omega
  have g2 : But (fun k => k = b) W4 (W4.setCell ⟨b, 1, none⟩ x2) := (But.refl (fun k => k = b) W4).set (p := ⟨b, 1, none⟩) (fun _ => rfl) x2
  refine ⟨⟨?_, hview.keep g2 (fun e => h.ne e.symm), h.ne, ?_, hnb, hng⟩, ?_, ?_⟩
  · have := heap_setCell_same W4 b 1 _ _ x2 hbox
    simpa using this
  · rw [outR_app, List.length_append]
    exact own_keep hown g2 (fun k hk e => hnb (by rw [hk, e]))
  · refine (((hbut.alloc O).trans g1 (fun k hk h1 => ?_)).trans g2 (fun k _ e => Or.inl e))
    rcases hx k h1 with h2 | h2
    · exact Or.inr (Or.inr h2)
    · omega
  · intro k hk
    rcases hat with e | e
    · exact hx k (by rw [← e]; exact hk)
    · rw [e] at hk
      injection hk with hk
      exact Or.inr (by have := hbut.size; omega)
theorem bus_cell {W W4 : World} {b g : Nat} {x1 : Value} {v : VS} {l : List (Int × ByteArray)} {O : Obj} (h : BB W b g x1 v l) (hgr : (W.alloc O).grownBy W4 x1.ownBlock) : W4.cell? ⟨b, 1, none⟩ = some x1 ∧ W4.frozen? ⟨b, 1, none⟩ = false := by
  have b1 : BB (W.alloc O) b g x1 v l := h.below (below_new' W O)
  have g1 := grow_but hgr (fun k => x1.ownBlock = some k) fun k hk => hk
  have hbox : W4.heap[b]? = some (.cells #[.pointer (some ⟨g, 0, none⟩), x1] 78 (0, 0)) := (g1.block b (by have := h.lt.1; simp; omega) h.nb).trans b1.box
  exact ⟨by rw [cellBox hbox]; rfl, openBox hbox⟩
theorem two_out (a : Int) (T : ByteArray) : ∀ u ∈ [Value.int .i64 a, Value.string T], u.oneCell' = true := fun u h => by
  rcases List.mem_cons.1 h with rfl | h
  · rfl
  · rw [List.mem_singleton.1 h]; rfl
def layL (tgt : Int) (ps : List Pkt) : List (Int × ByteArray) := ps.map fun q => (tgt, encT q)
set_option maxHeartbeats 4000000 in
set_option maxRecDepth 100000 in
theorem lay_calls {b g : Nat} {x : Value} {v : VS} {l : List (Int × ByteArray)} (w : World) (h : BB w b g x v l) (hE : ∀ W, But (foot b g x) w W → Env W) (tgt : Int) (y : Value) (cs : List (Array Value)) (ps : List Pkt) (hcs : PksIs cs ps) (base : Nat)
    (hrow : w.ownsRow base 67 261 y ps.length (rowP cs)) (hy : ∀ k, y.ownBlock = some k → ¬ foot b g x k) (hps : ps.length ≤ 2) (hl : l.length ≤ 1000000000) :
    Calls Tryz.prog 29 #[.pointer (some ⟨b, 0, none⟩), .int .i64 tgt, y] w fun r w' => ∃ z, r = .returned z ∧ BusPost w b g x v (l ++ layL tgt ps) w' := by
  obtain ⟨A, cc, rfl⟩ := own_slice hrow
  obtain ⟨i0, hi0, hz0, hz1, hz2⟩ := info_out'
  have hylt : ∀ k, (Value.slice A ps.length cc).ownBlock = some k → k < w.heap.size := fun k hk => (hrow.lt k hk).2
  have start : ∃ x', BB w b g x' v (l ++ layL tgt (ps.take 0)) ∧ But (foot b g x) w w ∧ (∀ k, x'.ownBlock = some k → x.ownBlock = some k ∨ w.heap.size ≤ k) := ⟨x, by simpa [layL] using h, But.refl _ _, fun k hk => Or.inl hk⟩
  clear h
  go_enter Tryz.func29, Tryz.ntmps29
  go_wp2_with fail
  go_loopw [7, 8, 9, 12] (fun _ _ _ i wr => ∃ k : Nat, k ≤ ps.length ∧ i = .int .i64 k ∧ wr.ownsRow base 67 261 (.slice A ps.length cc) ps.length (rowP cs) ∧ ∃ x', BB wr b g x' v (l ++ layL tgt (ps.take k)) ∧ But (foot b g x) w wr ∧ (∀ k, x'.ownBlock = some k → x.ownBlock = some k ∨ w.heap.size ≤ k)) (fun _ _ _ i _ => ps.length - (intOf i).toNat)
  case atStart => exact ⟨0, by omega, rfl, hrow, start⟩
  case round =>
    clear hrow start
    obtain ⟨k, hk, rfl, hrow, x1, hB, hbut, hx⟩ := hrel
    by_cases hkl : k < ps.length
    · obtain ⟨c, q, hc, hq, hpk⟩ := hcs.at k hkl
      obtain ⟨gA, cap, hgA, -, -⟩ := hrow.form (by omega)
      obtain rfl : A = some ⟨gA, 0, none⟩ := by injection hgA
      have hgo : decide ((k : Int) < (ps.length : Int)) = true := decide_eq_true (by omega)
      have hrl := rowP_len hcs
      have hmid : wr.rangeAt gA (k * 261) c.toList := fun j u hu => by
        have h1 := rowP_at hcs k c hc j u hu
        have h2 : k * 261 + j < (rowP cs).length := (List.getElem?_eq_some_iff.1 h1).1
        rw [hrow.cellAt _ (by omega)]
        exact h1
      have hsz := hpk.size
      have hone := hpk.one
      have hil : (Tryz.prog.info? 67).map (·.size) = some c.toList.length := by rw [Array.length_toList, hsz]; exact info26
      have hi : (Tryz.prog.info? 67).map (·.size) = some c.size := by rw [hsz]; exact info26
      have hZ : Tryz.zeroCells67.size = c.size := by rw [hsz]; exact zero_pk.size
      have hN := heapN wr (.cells Tryz.zeroCells67 67)
      have hnew : Below wr.heap.size wr ((wr.alloc (.cells Tryz.zeroCells67 67)).setRow wr.heap.size c) := below_setRow (below_new' wr _) (Nat.le_refl _) _
      have hbox := setRow_heap _ _ _ c _ _ hN
      have hE2 := hE _ (hbut.next hnew)
      have hB2 := hB.below hnew
      have hbut2 := hbut.next hnew
      have hrow2 := pw_own_below hrow hnew
      have hstep : layL tgt (ps.take (k + 1)) = layL tgt (ps.take k) ++ [(tgt, encT q)] := by rw [List.take_add_one, hq]; simp [layL]
      have hlen : (l ++ layL tgt (ps.take k)).length ≤ 1000000002 := by simp [layL]; omega
      have hyk := hylt gA rfl
      have hyf := hy gA rfl
      have hstep := Lib.hid hstep
      have hE2 := Lib.hid hE2
      have hB2 := Lib.hid hB2
      have hbut2 := Lib.hid hbut2
      have hrow2 := Lib.hid hrow2
      have hx := Lib.hid hx
      have hcs := Lib.hid hcs
      clear hE hB hbut hrow hy hylt hnew hrl hc hq
      have hEnc := fun W hW => Encode_pk hpk W hW
      clear hpk
      generalize encT q = T at *
      generalize hL : l ++ layL tgt (ps.take k) = L at *
      have hL := Lib.hid hL
      go_wp2_with (first | (refine wpList_load_mid rfl 67 _ rfl gA (k * 261) rfl c.toList _ hmid Tryz.underlying67 rfl hil ?_; rw [Array.toArray_toList]) | (refine wpList_store_row rfl 67 _ _ rfl wr.heap.size c rfl rfl 67 Tryz.zeroCells67 hN hi hZ hone ?_) | (refine wpList_load_row rfl 67 _ rfl wr.heap.size rfl 67 c (0, 0) _ hbox Tryz.underlying67 rfl hi ?_))
      refine (hEnc _ hE2.out).mono ?_
      rintro e W3 ⟨x9, rfl, hb3⟩
      have hB3 := hB2.out.below hb3
      have hbut3 := Lib.hid (hbut2.out.next hb3)
      have hrow3 := Lib.hid (pw_own_below hrow2.out hb3)
      have c1 : W3.cell? ⟨b, 1, none⟩ = some x1 := by rw [cellBox hB3.box]; rfl
      have c2 : W3.frozen? ⟨b, 1, none⟩ = false := openBox hB3.box
      have hlt3 := hB3.lt.1
      have hown3 := hB3.outs
      have hB3 := Lib.hid hB3
      clear hb3 hEnc hB2 hbut2 hrow2 hE2 hbox hmid hN
      go_wp2_with (at_builtin; refine wpList_append_own_at _ rfl _ _ 32 rfl 0 35 i0 (.agg #[.int .i64 0, .string ⟨#[]⟩]) 2 24 Tryz.underlying32 hi0 hz0 hz1 hz2 rfl (by decide) x1 _ _ rfl (hown3.alloc _) ⟨W3.heap.size, 0, none⟩ 1 1 [.int .i64 tgt, .string T] rfl rfl (news2 _ _ _ _) (two_out _ _) (by simp only [maxLen]; omega) (by omega) (Nat.zero_le _) ?_; intro x2 W4 hown4 hgr _ hat; obtain ⟨A2, d2, rfl⟩ := own_slice hown4; have c3 := (bus_cell hB3.out hgr).1; have c4 := (bus_cell hB3.out hgr).2; replace hgr := Lib.hid hgr; replace hown4 := Lib.hid hown4; replace hat := Lib.hid hat)
      obtain ⟨f1, f2, f3⟩ := bus_out hB3.out hbut3.out hx.out hgr.out hown4.out hat.out
      have hgk : (Value.slice (some ⟨gA, 0, none⟩) ps.length cc).ownBlock = some gA := rfl
      refine ⟨⟨k + 1, by omega, by go_num, ?_, _, ?_, f2, f3⟩, by simp [intOf]; omega⟩
      · have r1 := (hrow3.out.alloc (.cells #[.int .i64 tgt, .string T] 35))
        have r2 := own_keep r1 (grow_but hgr.out (fun k => x1.ownBlock = some k) fun k hk => hk) (fun k2 hk2 h2 => by
          rw [hgk] at hk2
          injection hk2 with hk2
          rw [← hk2] at h2
          rcases hx.out _ h2 with h3 | h3
          · exact hyf (Or.inr (Or.inr h3))
          · omega)
        exact own_keep r2 ((But.refl (fun k => k = b) W4).set (p := ⟨b, 1, none⟩) (fun _ => rfl) _) (fun k2 hk2 h2 => by
          rw [hgk] at hk2
          injection hk2 with hk2
          exact hyf (Or.inl (by rw [hk2]; exact h2)))
      · rw [hstep.out, ← List.append_assoc, hL.out]
        exact f1
    · obtain rfl : k = ps.length := by omega
      rw [List.take_length] at hB
      have hgo : decide ((ps.length : Int) < (ps.length : Int)) = false := decide_eq_false (by omega)
      have hB := Lib.hid hB
      have hbut := Lib.hid hbut
      have hx := Lib.hid hx
      clear hE hrow hy hylt
      go_wp2_with fail
      refine bodyPost_end (results_none rfl _ _ _) rfl ?_
      exact ⟨_, rfl, x1, hB.out, hbut.out, hx.out⟩
end Go.Proofs.YtgdcnenlelckhaaGreatDoor

namespace Go.Proofs.YtgdcnenlelckhaaGreatDoor
open Go.RowKit Go.Proofs.YtgdcnenlelckhaaGreatDoorW.PrintWords
open SlS SlT
/-- the box alone -/
theorem BB.c0 {W : World} {b g : Nat} {x : Value} {v : VS} {l : List (Int × ByteArray)} (h : BB W b g x v l) : W.cell? ⟨b, 0, none⟩ = some (.pointer (some ⟨g, 0, none⟩)) := by rw [cellBox h.box]; rfl
theorem BB.c1 {W : World} {b g : Nat} {x : Value} {v : VS} {l : List (Int × ByteArray)} (h : BB W b g x v l) : W.cell? ⟨b, 1, none⟩ = some x := by rw [cellBox h.box]; rfl
theorem bOuts_calls {b g : Nat} {x : Value} {v : VS} {l : List (Int × ByteArray)} (w : World) (h : BB w b g x v l) : Calls Tryz.prog 10 #[.pointer (some ⟨b, 0, none⟩)] w fun r w' => r = .returned x ∧ BB w' b g (.slice none 0 0) v [] ∧ w'.ownsRow 0 35 2 x l.length (outR l) ∧ But (fun k => k = b) w w' := by
  obtain ⟨A, c, rfl⟩ := own_slice h.outs
  have c1 := h.c1
  have c2 : w.frozen? ⟨b, 1, none⟩ = false := openBox h.box
  have hbut := (But.refl (fun k => k = b) w).set (p := ⟨b, 1, none⟩) (fun _ => rfl) (.slice none 0 0)
  have hown := own_keep h.outs hbut (fun k hk e => h.nb (by rw [hk, e]))
  have hbox := heap_setCell_same w b 1 _ _ (.slice none 0 0) h.box
  have hbb : BB (w.setCell ⟨b, 1, none⟩ (.slice none 0 0)) b g (.slice none 0 0) v [] := ⟨by simpa using hbox, h.view.keep hbut (fun e => h.ne e.symm), h.ne, World.ownsRow_nil _ _ _ _, by simp [Value.ownBlock], by simp [Value.ownBlock]⟩
  have hbut := Lib.hid hbut
  have hown := Lib.hid hown
  have hbb := Lib.hid hbb
  clear h hbox
  go_enter Tryz.func10, Tryz.ntmps10
  go_wp2_with fail
  go_ret
  exact ⟨rfl, hbb.out, hown.out, hbut.out⟩
theorem bView_calls {b g : Nat} {x : Value} {v : VS} {l : List (Int × ByteArray)} (w : World) (h : BB w b g x v l) : Calls Tryz.prog 19 #[.pointer (some ⟨b, 0, none⟩)] w fun r w' => ∃ g', r = .returned (.pointer (some ⟨g', 0, none⟩)) ∧ w.heap.size ≤ g' ∧ VB w' g' v ∧ Below w.heap.size w w' := by
  have c0 := h.c0
  have hC := vClone_calls w h.view
  have hC := Lib.hid hC
  clear h
  go_enter Tryz.func19, Tryz.ntmps19
  go_wp2_with fail
  refine hC.out.mono ?_
  rintro e w2 ⟨g', rfl, h1, h2, h3⟩
  have h2 := Lib.hid h2
  have h3 := Lib.hid h3
  go_wp2_with fail
  go_ret
  exact ⟨g', rfl, h1, h2.out, h3.out⟩
def BNewPost (self : Int) (f : Nat → Nat) (e : Nat) (w : World) (r : Ending) (w' : World) : Prop :=
  Below w.heap.size w w' ∧ if 0 ≤ self ∧ self < 64 then (if e ≤ 4611686018427387904 then ∃ b g, r = .returned (.tuple #[.pointer (some ⟨b, 0, none⟩), .int .i64 0]) ∧ w.heap.size ≤ b ∧ w.heap.size ≤ g ∧ BB w' b g (.slice none 0 0) (newV self.toNat e f) []
    else r = .returned (.tuple #[.pointer none, .int .i64 1])) else r = .returned (.tuple #[.pointer none, .int .i64 150])
set_option maxHeartbeats 1000000 in
theorem bNew_calls (self : Int) (a : Array Value) (f : Nat → Nat) (ha : Words a f) (e : Nat) (he : e < 18446744073709551616) (w : World) : Calls Tryz.prog 13 #[.int .i64 self, .agg a, .int .u64 e] w (BNewPost self f e w) := by
  have hN := fun W => vNew_calls self a f ha e he W
  have hs1 : (Tryz.prog.info? 43).map (·.size) = some a.size := by rw [ha.size]; exact info30
  have hsz := ha.size
  clear ha
  have hb0 := below_new' w (.cells a 43)
  unfold BNewPost
  unfold NewPost at hN
  by_cases h1 : 0 ≤ self ∧ self < 64
  · by_cases h2 : e ≤ 4611686018427387904
    · simp only [if_pos h1, if_pos h2] at hN ⊢
      go_enter Tryz.func13, Tryz.ntmps13
      go_wp2_with (refine wpList_load_row rfl 43 _ rfl w.heap.size rfl 43 a (0, 0) _ (heapN w _) Tryz.underlying43 rfl hs1 ?_)
      refine (hN _).mono ?_
      rintro r w2 ⟨hb, g, rfl, hg, hv⟩
      have hb2 := hb0.trans (hb.mono hb0.size)
      clear hb hN
      have hg2 : w.heap.size ≤ g := Nat.le_trans hb0.size hg
      have hnew := below_new' w2 (.cells #[.pointer (some ⟨g, 0, none⟩), .slice none 0 0] 78)
      have hlt := hv.lt
      have hbb : BB (w2.alloc (.cells #[.pointer (some ⟨g, 0, none⟩), .slice none 0 0] 78)) w2.heap.size g (.slice none 0 0) (newV self.toNat e f) [] := ⟨heapN w2 _, hv.below hnew, by omega, World.ownsRow_nil _ _ _ _, by simp [Value.ownBlock], by simp [Value.ownBlock]⟩
      have hbw := Lib.hid (hb2.trans (hnew.mono hb2.size))
      have hbs := hb2.size
      have hbb := Lib.hid hbb
      clear hnew hv hb0 hb2
      go_wp2_with fail
      refine bodyPost_ret (v := .tuple #[.pointer (some ⟨w2.heap.size, 0, none⟩), .int .i64 0]) (by simp [results, Tryz.results13, go_sem]) rfl ?_
      exact ⟨hbw.out, _, _, rfl, hbs, hg2, hbb.out⟩
    · simp only [if_pos h1, if_neg h2] at hN ⊢
      go_enter Tryz.func13, Tryz.ntmps13
      go_wp2_with (refine wpList_load_row rfl 43 _ rfl w.heap.size rfl 43 a (0, 0) _ (heapN w _) Tryz.underlying43 rfl hs1 ?_)
      refine (hN _).mono ?_
      rintro r w2 ⟨hb, rfl⟩
      have hb2 := Lib.hid (hb0.trans (hb.mono hb0.size))
      clear hb0 hb hN
      go_wp2_with fail
      refine bodyPost_ret (v := .tuple #[.pointer none, .int .i64 1]) (by simp [results, Tryz.results13, go_sem]) rfl ?_
      exact ⟨hb2.out, rfl⟩
  · simp only [if_neg h1] at hN ⊢
    go_enter Tryz.func13, Tryz.ntmps13
    go_wp2_with (refine wpList_load_row rfl 43 _ rfl w.heap.size rfl 43 a (0, 0) _ (heapN w _) Tryz.underlying43 rfl hs1 ?_)
    refine (hN _).mono ?_
    rintro r w2 ⟨hb, rfl⟩
    have hb2 := Lib.hid (hb0.trans (hb.mono hb0.size))
    clear hb0 hb hN
    go_wp2_with fail
    refine bodyPost_ret (v := .tuple #[.pointer none, .int .i64 150]) (by simp [results, Tryz.results13, go_sem]) rfl ?_
    exact ⟨hb2.out, rfl⟩
/-- a node is told -/
def TellPost (w : World) (b g : Nat) (x : Value) (v : VS) (l : List (Int × ByteArray)) (kind tgt : Int) (r : Ending) (w' : World) : Prop :=
  if 0 ≤ tgt ∧ tgt < 64 ∧ tgt ≠ (v.self : Int) then r = .returned (.int .i64 0) ∧ BusPost w b g x v (l ++ layL tgt [tellV v kind]) w' else r = .returned (.int .i64 150) ∧ BusPost w b g x v l w'
set_option maxHeartbeats 2000000 in
set_option maxRecDepth 100000 in
theorem btell_calls {b g : Nat} {x : Value} {v : VS} {l : List (Int × ByteArray)} (w : World) (h : BB w b g x v l) (hE : ∀ W, But (foot b g x) w W → Env W) (kind tgt : Int) (hl : l.length ≤ 1000000000) :
    Calls Tryz.prog 26 #[.pointer (some ⟨b, 0, none⟩), .int .i64 kind, .int .i64 tgt] w (TellPost w b g x v l kind tgt) := by
  have c0 := h.c0
  have hsf := vSelf_calls w h.view
  have hs64 := h.view.self64
  have hT := vTell_calls w h.view kind
  obtain ⟨hlb, hlg, hlx⟩ := h.lt
  have stay : BusPost w b g x v l w := ⟨x, h, But.refl _ _, fun k hk => Or.inl hk⟩
  unfold TellPost
  by_cases h1 : tgt < 0
  · simp only [if_neg (show ¬ (0 ≤ tgt ∧ tgt < 64 ∧ tgt ≠ (v.self : Int)) by omega)]
    have hd : decide (tgt < 0) = true := decide_eq_true h1
    have stay := Lib.hid stay
    clear hT h
    go_enter Tryz.func26, Tryz.ntmps26
    go_wp2_with fail
    go_ret
    exact ⟨rfl, stay.out⟩
  · have hd : decide (tgt < 0) = false := decide_eq_false h1
    by_cases h2 : 64 ≤ tgt
    · simp only [if_neg (show ¬ (0 ≤ tgt ∧ tgt < 64 ∧ tgt ≠ (v.self : Int)) by omega)]
      have hd2 : decide (64 ≤ tgt) = true := decide_eq_true h2
      have stay := Lib.hid stay
      clear hT h
      go_enter Tryz.func26, Tryz.ntmps26
      go_wp2_with fail
      go_ret
      exact ⟨rfl, stay.out⟩
    · have hd2 : decide (64 ≤ tgt) = false := decide_eq_false h2
      by_cases h3 : tgt = (v.self : Int)
      · simp only [if_neg (show ¬ (0 ≤ tgt ∧ tgt < 64 ∧ tgt ≠ (v.self : Int)) from fun h => h.2.2 h3)]
        have hd3 : (tgt == (v.self : Int)) = true := beq_iff_eq.2 h3
        have stay := Lib.hid stay
        clear hT h h3
        generalize v.self = sf at *
        go_enter Tryz.func26, Tryz.ntmps26
        go_wp2_with (go_at_call 28; refine hsf.mono ?_; rintro e w2 ⟨rfl, rfl⟩)
        go_ret
        exact ⟨rfl, stay.out⟩
      · simp only [if_pos (show 0 ≤ tgt ∧ tgt < 64 ∧ tgt ≠ (v.self : Int) from ⟨by omega, by omega, h3⟩)]
        have hd3 : (tgt == (v.self : Int)) = false := beq_eq_false_iff_ne.2 h3
        have h := Lib.hid h
        have hT := Lib.hid hT
        have h3 := Lib.hid h3
        clear stay
        generalize v.self = sf at *
        go_enter Tryz.func26, Tryz.ntmps26
        go_wp2_with (go_at_call 28; refine hsf.mono ?_; rintro e w2 ⟨rfl, rfl⟩)
        refine hT.out.mono ?_
        rintro e w2 ⟨c', rfl, hpc, hb2⟩
        have hc' := hpc.size
        have hb3 := hb2.trans ((below_new' w2 (.cells c' 67)).mono hb2.size)
        have hB3 := h.out.below hb3
        have hbs := hb2.size
        have hlay := lay_calls _ hB3 (fun W hW => hE W ((but_below hb3 _).trans hW fun _ _ h => h)) tgt (.slice (some ⟨w2.heap.size, 0, none⟩) 1 1) [c'] [tellV v kind] (.cons hpc .nil) 0
          ⟨by simp [rowP, hc'], Or.inr ⟨w2.heap.size, 1, c', rfl, Nat.zero_le _, heapN w2 _, Nat.le_refl _, by decide, by rw [hc'], by simp only [rowP, List.flatMap_cons, List.flatMap_nil, List.append_nil, List.length_singleton]; rw [List.take_of_length_le (by simp [hc'])]⟩⟩
          (fun k hk hf => by
            have : k = w2.heap.size := by simp [Value.ownBlock] at hk; exact hk.symm
            rcases hf with h | h | h
            · omega
            · omega
            · have := hlx k h; omega) (by simp) hl
        have hlay := Lib.hid hlay
        have hb3 := Lib.hid hb3
        clear hb2 hpc hB3 hE hT hsf
        go_wp2_with (with_reducible refine wpList_build1 rfl (.tmp 29) c' rfl rfl hc' ?_)
        refine hlay.out.mono ?_
        rintro e w4 ⟨z, rfl, hP⟩
        have hP := Lib.hid (BusPost.trans (x1 := x) (but_below hb3.out _) (fun k hk => Or.inl hk) hP)
        clear hlay hb3
        go_wp2_with fail
        go_ret
        exact ⟨rfl, hP.out⟩
set_option maxHeartbeats 1000000 in
theorem bPing_calls {b g : Nat} {x : Value} {v : VS} {l : List (Int × ByteArray)} (w : World) (h : BB w b g x v l) (hE : ∀ W, But (foot b g x) w W → Env W) (tgt : Int) (hl : l.length ≤ 1000000000) :
    Calls Tryz.prog 9 #[.pointer (some ⟨b, 0, none⟩), .int .i64 tgt] w (TellPost w b g x v l 1 tgt) := by
  have hT := btell_calls w h hE 1 tgt hl
  clear h hE
  unfold TellPost at hT ⊢
  by_cases h1 : 0 ≤ tgt ∧ tgt < 64 ∧ tgt ≠ (v.self : Int)
  · simp only [if_pos h1] at hT ⊢
    clear h1
    go_enter Tryz.func9, Tryz.ntmps9
    go_wp2_with fail
    refine hT.mono ?_
    rintro e w2 ⟨rfl, hP⟩
    have hP := Lib.hid hP
    clear hT
    go_wp2_with fail
    go_ret
    exact ⟨rfl, hP.out⟩
  · simp only [if_neg h1] at hT ⊢
    clear h1
    go_enter Tryz.func9, Tryz.ntmps9
    go_wp2_with fail
    refine hT.mono ?_
    rintro e w2 ⟨rfl, hP⟩
    have hP := Lib.hid hP
    clear hT
    go_wp2_with fail
    go_ret
    exact ⟨rfl, hP.out⟩
set_option maxHeartbeats 1000000 in
theorem bMeet_calls {b g : Nat} {x : Value} {v : VS} {l : List (Int × ByteArray)} (w : World) (h : BB w b g x v l) (hE : ∀ W, But (foot b g x) w W → Env W) (tgt : Int) (hl : l.length ≤ 1000000000) :
    Calls Tryz.prog 36 #[.pointer (some ⟨b, 0, none⟩), .int .i64 tgt] w (TellPost w b g x v l 4 tgt) := by
  have hT := btell_calls w h hE 4 tgt hl
  clear h hE
  unfold TellPost at hT ⊢
  by_cases h1 : 0 ≤ tgt ∧ tgt < 64 ∧ tgt ≠ (v.self : Int)
  · simp only [if_pos h1] at hT ⊢
    clear h1
    go_enter Tryz.func36, Tryz.ntmps36
    go_wp2_with fail
    refine hT.mono ?_
    rintro e w2 ⟨rfl, hP⟩
    have hP := Lib.hid hP
    clear hT
    go_wp2_with fail
    go_ret
    exact ⟨rfl, hP.out⟩
  · simp only [if_neg h1] at hT ⊢
    clear h1
    go_enter Tryz.func36, Tryz.ntmps36
    go_wp2_with fail
    refine hT.mono ?_
    rintro e w2 ⟨rfl, hP⟩
    have hP := Lib.hid hP
    clear hT
    go_wp2_with fail
    go_ret
    exact ⟨rfl, hP.out⟩
end Go.Proofs.YtgdcnenlelckhaaGreatDoor

namespace Go.Proofs.YtgdcnenlelckhaaGreatDoor
open Go.RowKit Go.Proofs.YtgdcnenlelckhaaGreatDoorW.PrintWords
open SlS SlT
/-- what a bus does with bytes: what it knows then, what goes out, the answer -/
noncomputable def takeB (v : VS) (s : List UInt8) : VS × List (Int × ByteArray) × Bool := match decP s with
  | none => (v, [], false)
  | some q => if q.fr = (v.self : Int) then (v, [], false) else ((hearV v q true).1, layL q.fr (hearV v q true).2, true)
def BtPost (w : World) (b g : Nat) (x : Value) (v : VS) (l : List (Int × ByteArray)) (s : List UInt8) (r : Ending) (w' : World) : Prop :=
  r = .returned (.bool (takeB v s).2.2) ∧ BusPost w b g x (takeB v s).1 (l ++ (takeB v s).2.1) w'
structure BtB (p b g : Nat) (c : Array Value) (q : Pkt) (W : World) : Prop where
  box : W.heap[p]? = some (.cells c 67 (0, 0))
  bus : W.cell? ⟨b, 0, none⟩ = some (.pointer (some ⟨g, 0, none⟩))
  pk : decP [] = decP [] ∧ c[1]? = some (.int .i64 q.fr)
theorem BtB.c0 {p b g : Nat} {c : Array Value} {q : Pkt} {W : World} (h : BtB p b g c q W) : W.cell? ⟨b, 0, none⟩ = some (.pointer (some ⟨g, 0, none⟩)) := h.bus
theorem BtB.c1 {p b g : Nat} {c : Array Value} {q : Pkt} {W : World} (h : BtB p b g c q W) : W.cell? ⟨p, 1, none⟩ = some (.int .i64 q.fr) := by rw [cellBox h.box]; exact h.pk.2
theorem BtB.keep {p b g : Nat} {c : Array Value} {q : Pkt} {W W' : World} (h : BtB p b g c q W) {S : Nat → Prop} (hb : But S W W') (h1 : ¬ S p) (h2 : ¬ S b) : BtB p b g c q W' :=
  ⟨(hb.block _ (blk_lt h.box) h1).trans h.box, (hb.cell (p := ⟨b, 0, none⟩) (World.block_lt_of_cell? W _ h.bus) h2).trans h.bus, h.pk⟩
theorem hear_len (v : VS) (q : Pkt) (r : Bool) : (hearV v q r).2.length ≤ 2 := by
  unfold hearV
  split
  · simp
  · split
    · simp
    · show (answV _ _).length ≤ 2
      unfold answV
      rw [List.length_append]
      split <;> split <;> simp
theorem zero_fr : Tryz.zeroCells67[1]? = some (.int .i64 0) := by rw [zero26]; simp [Array.getElem?_append]
set_option maxHeartbeats 4000000 in
set_option maxRecDepth 100000 in
theorem bTake_calls {b g : Nat} {x : Value} {v : VS} {l : List (Int × ByteArray)} (w : World) (h : BB w b g x v l) (hE : ∀ W, But (foot b g x) w W → Env W) (s : ByteArray) (hs : s.size ≤ 140737488351232) (hcur : v.cur + 1 < 18446744073709551616) (hl : l.length ≤ 1000000000) :
    Calls Tryz.prog 11 #[.pointer (some ⟨b, 0, none⟩), .string s] w (BtPost w b g x v l s.data.toList) := by
  have hD := Decode_calls s hs w (hE w (But.refl _ _))
  have hD := Lib.hid hD
  have hs0 := hE
  go_enter Tryz.func11, Tryz.ntmps11
  go_wp2_with fail
  refine hD.out.mono ?_
  intro r w1 hd
  obtain ⟨c, x9, rfl, hres, hcs, hone, hb1⟩ := dc_res hd
  have hi : (Tryz.prog.info? 67).map (·.size) = some c.size := by rw [hcs]; exact info26
  have hZ : Tryz.zeroCells67.size = c.size := by rw [hcs]; exact zero_pk.size
  have hN := heapN w1 (.cells Tryz.zeroCells67 67)
  have hb2 : Below w.heap.size w ((w1.alloc (.cells Tryz.zeroCells67 67)).setRow w1.heap.size c) := below_setRow (hb1.trans ((below_new' w1 _).mono hb1.size)) hb1.size _
  have hbox := setRow_heap _ _ _ c _ _ hN
  have hB := h.below hb2
  have hbs := hb1.size
  obtain ⟨hlb, hlg, hlx⟩ := h.lt
  have hbut := but_below hb2 (foot b g x)
  replace hb2 := Lib.hid hb2
  replace hB := Lib.hid hB
  replace hbox := Lib.hid hbox
  replace hbut := Lib.hid hbut
  replace hres := Lib.hid hres
  clear hd hb1 h hD hs0
  unfold DcRes at hres
  cases hdp : decP s.data.toList with
  | none =>
    rw [hdp] at hres
    obtain ⟨rfl, hcz⟩ := hres.out
    have hc1 : c[1]? = some (.int .i64 0) := by rw [hcz]; exact zero_fr
    have hdp := Lib.hid hdp
    clear hres hcz
    go_wp2_with (refine wpList_store_row rfl 67 _ _ rfl w1.heap.size c rfl rfl 67 Tryz.zeroCells67 hN hi hZ hone ?_)
    have hS : BtB w1.heap.size b g c ⟨0, 0, 0, 0, 0, fun _ => 0⟩ ((w1.alloc (.cells Tryz.zeroCells67 67)).setRow w1.heap.size c).drew := (BtB.mk hbox.out hB.out.c0 ⟨rfl, hc1⟩).keep (S := fun _ => False) (but_below (below_drew (Below.refl _ _)) _) (fun h => h) (fun h => h)
    have hfin : BusPost w b g x v l ((w1.alloc (.cells Tryz.zeroCells67 67)).setRow w1.heap.size c).drew := BusPost.next ⟨x, hB.out, hbut.out, fun k hk => Or.inl hk⟩ (below_drew (Below.refl _ _))
    clear hN hb2 hB hbox hbut hE hc1
    refine wp_region_held_drew (S := BtB w1.heap.size b g c ⟨0, 0, 0, 0, 0, fun _ => 0⟩) (by kernel_rfl) hS (fun hHeld => ?_)
    clear hHeld
    generalize World.drew _ = W2 at *
    generalize w1.heap.size = p at *
    refine wpAnyH_take (i := 0) (oi := ⟨some 13, _, _, _, _, _⟩) (v := .int .i64 140) rfl (by kernel_rfl) (by kernel_rfl) (by kernel_rfl) (fun _ _ _ h => h) (Or.inl ⟨by rfl, fun W hW => by have p0 := hW.c0; have p1 := hW.c1; go_simp; try (intro h; omega)⟩) hS ?_
    try simp only [Act.put, List.setIfInBounds_toArray, List.set_cons_zero, List.set_cons_succ]
    refine wpAnyH_take (i := 1) (oi := ⟨some 14, _, _, _, _, _⟩) (v := .bool true) rfl (by kernel_rfl) (by kernel_rfl) (by kernel_rfl) (fun _ _ _ h => h) (Or.inl ⟨by rfl, fun W hW => by have p0 := hW.c0; have p1 := hW.c1; go_simp; try (intro h; omega)⟩) hS ?_
    try simp only [Act.put, List.setIfInBounds_toArray, List.set_cons_zero, List.set_cons_succ]
    refine wpAnyH_take (i := 2) (oi := ⟨some 15, _, _, _, _, _⟩) (v := .bool true) rfl (by kernel_rfl) (by kernel_rfl) (by kernel_rfl) (fun _ _ _ h => h) (Or.inl ⟨by rfl, fun W hW => by have p0 := hW.c0; have p1 := hW.c1; go_simp; try (intro h; omega)⟩) hS ?_
    try simp only [Act.put, List.setIfInBounds_toArray, List.set_cons_zero, List.set_cons_succ]
    refine wpAnyH_take (i := 3) (oi := ⟨some 16, _, _, _, _, _⟩) (v := undef) rfl (by kernel_rfl) (by kernel_rfl) (by kernel_rfl) (fun _ _ _ h => h) (Or.inr ⟨by rfl, rfl⟩) hS ?_
    try simp only [Act.put, List.setIfInBounds_toArray, List.set_cons_zero, List.set_cons_succ]
    refine wpAnyH_take (i := 4) (oi := ⟨some 17, _, _, _, _, _⟩) (v := undef) rfl (by kernel_rfl) (by kernel_rfl) (by kernel_rfl) (fun _ _ _ h => h) (Or.inr ⟨by rfl, rfl⟩) hS ?_
    try simp only [Act.put, List.setIfInBounds_toArray, List.set_cons_zero, List.set_cons_succ]
    refine wpAnyH_take (i := 5) (oi := ⟨some 18, _, _, _, _, _⟩) (v := undef) rfl (by kernel_rfl) (by kernel_rfl) (by kernel_rfl) (fun _ _ _ h => h) (Or.inr ⟨by rfl, rfl⟩) hS ?_
    try simp only [Act.put, List.setIfInBounds_toArray, List.set_cons_zero, List.set_cons_succ]
    refine wpAnyH_take (i := 6) (oi := ⟨some 19, _, _, _, _, _⟩) (v := undef) rfl (by kernel_rfl) (by kernel_rfl) (by kernel_rfl) (fun _ _ _ h => h) (Or.inr ⟨by rfl, rfl⟩) hS ?_
    try simp only [Act.put, List.setIfInBounds_toArray, List.set_cons_zero, List.set_cons_succ]
    refine wpAnyH_take (i := 7) (oi := ⟨some 20, _, _, _, _, _⟩) (v := undef) rfl (by kernel_rfl) (by kernel_rfl) (by kernel_rfl) (fun _ _ _ h => h) (Or.inr ⟨by rfl, rfl⟩) hS ?_
    try simp only [Act.put, List.setIfInBounds_toArray, List.set_cons_zero, List.set_cons_succ]
    refine wpAnyH_take (i := 8) (oi := ⟨some 21, _, _, _, _, _⟩) (v := undef) rfl (by kernel_rfl) (by kernel_rfl) (by kernel_rfl) (fun _ _ _ h => h) (Or.inr ⟨by rfl, rfl⟩) hS ?_
    try simp only [Act.put, List.setIfInBounds_toArray, List.set_cons_zero, List.set_cons_succ]
    refine wpAnyH_take (i := 9) (oi := ⟨some 22, _, _, _, _, _⟩) (v := undef) rfl (by kernel_rfl) (by kernel_rfl) (by kernel_rfl) (fun _ _ _ h => h) (Or.inr ⟨by rfl, rfl⟩) hS ?_
    try simp only [Act.put, List.setIfInBounds_toArray, List.set_cons_zero, List.set_cons_succ]
    refine wpAnyH_take (i := 10) (oi := ⟨some 23, _, _, _, _, _⟩) (v := undef) rfl (by kernel_rfl) (by kernel_rfl) (by kernel_rfl) (fun _ _ _ h => h) (Or.inr ⟨by rfl, rfl⟩) hS ?_
    try simp only [Act.put, List.setIfInBounds_toArray, List.set_cons_zero, List.set_cons_succ]
    refine wpAnyH_take (i := 11) (oi := ⟨some 24, _, _, _, _, _⟩) (v := .bool true) rfl (by kernel_rfl) (by kernel_rfl) (by kernel_rfl) (fun _ _ _ h => h) (Or.inl ⟨by rfl, fun W hW => by have p0 := hW.c0; have p1 := hW.c1; go_simp; try (intro h; omega)⟩) hS ?_
    try simp only [Act.put, List.setIfInBounds_toArray, List.set_cons_zero, List.set_cons_succ]
    refine wpAnyH_done (by kernel_rfl) ?_ _
    have hfin := Lib.hid hfin
    go_wp2_with fail
    go_ret
    unfold BtPost takeB
    rw [hdp.out]
    simp only [List.append_nil]
    exact ⟨rfl, hfin.out⟩
  | some q =>
    rw [hdp] at hres
    obtain ⟨rfl, hpk⟩ := hres.out
    have hright := (decP_some hdp).right
    have hat := hpk.at
    have hdp := Lib.hid hdp
    clear hres
    go_wp2_with (refine wpList_store_row rfl 67 _ _ rfl w1.heap.size c rfl rfl 67 Tryz.zeroCells67 hN hi hZ hone ?_)
    have hS : BtB w1.heap.size b g c q ((w1.alloc (.cells Tryz.zeroCells67 67)).setRow w1.heap.size c).drew := (BtB.mk hbox.out hB.out.c0 ⟨rfl, hat.2.1⟩).keep (S := fun _ => False) (but_below (below_drew (Below.refl _ _)) _) (fun h => h) (fun h => h)
    have hB2 : BB ((w1.alloc (.cells Tryz.zeroCells67 67)).setRow w1.heap.size c).drew b g x v l := hB.out.below (below_drew (Below.refl _ _))
    have hbut2 : But (foot b g x) w ((w1.alloc (.cells Tryz.zeroCells67 67)).setRow w1.heap.size c).drew := hbut.out.drew
    clear hN hb2 hbox hB hbut
    have hB := hB2
    have hbut := hbut2
    clear hB2 hbut2
    refine wp_region_held_drew (S := BtB w1.heap.size b g c q) (by kernel_rfl) hS (fun hHeld => ?_)
    clear hHeld
    generalize World.drew _ = W2 at *
    generalize w1.heap.size = p at *
    by_cases hme : q.fr = (v.self : Int)
    · have hme2 : (q.fr == (v.self : Int)) = true := beq_iff_eq.2 hme
      have hme := Lib.hid hme
      clear hright hat
      refine wpAnyH_take (i := 0) (oi := ⟨some 13, _, _, _, _, _⟩) (v := .int .i64 0) rfl (by kernel_rfl) (by kernel_rfl) (by kernel_rfl) (fun _ _ _ h => h) (Or.inl ⟨by rfl, fun W hW => by have p0 := hW.c0; have p1 := hW.c1; go_simp; try (intro h; omega)⟩) hS ?_
      try simp only [Act.put, List.setIfInBounds_toArray, List.set_cons_zero, List.set_cons_succ]
      refine wpAnyH_take (i := 1) (oi := ⟨some 14, _, _, _, _, _⟩) (v := .bool false) rfl (by kernel_rfl) (by kernel_rfl) (by kernel_rfl) (fun _ _ _ h => h) (Or.inl ⟨by rfl, fun W hW => by have p0 := hW.c0; have p1 := hW.c1; go_simp; try (intro h; omega)⟩) hS ?_
      try simp only [Act.put, List.setIfInBounds_toArray, List.set_cons_zero, List.set_cons_succ]
      refine wpAnyH_take (i := 2) (oi := ⟨some 15, _, _, _, _, _⟩) (v := .bool false) rfl (by kernel_rfl) (by kernel_rfl) (by kernel_rfl) (fun _ _ _ h => h) (Or.inl ⟨by rfl, fun W hW => by have p0 := hW.c0; have p1 := hW.c1; go_simp; try (intro h; omega)⟩) hS ?_
      try simp only [Act.put, List.setIfInBounds_toArray, List.set_cons_zero, List.set_cons_succ]
      refine wpAnyH_take (i := 3) (oi := ⟨some 16, _, _, _, _, _⟩) (v := .pointer (some ⟨p, 1, none⟩)) rfl (by kernel_rfl) (by kernel_rfl) (by kernel_rfl) (fun _ _ _ h => h) (Or.inl ⟨by rfl, fun W hW => by have p0 := hW.c0; have p1 := hW.c1; go_simp; try (intro h; omega)⟩) hS ?_
      try simp only [Act.put, List.setIfInBounds_toArray, List.set_cons_zero, List.set_cons_succ]
      refine wpAnyH_take (i := 4) (oi := ⟨some 17, _, _, _, _, _⟩) (v := .int .i64 q.fr) rfl (by kernel_rfl) (by kernel_rfl) (by kernel_rfl) (fun _ _ _ h => h) (Or.inl ⟨by rfl, fun W hW => by have p0 := hW.c0; have p1 := hW.c1; go_simp; try (intro h; omega)⟩) hS ?_
      try simp only [Act.put, List.setIfInBounds_toArray, List.set_cons_zero, List.set_cons_succ]
      refine wpAnyH_take (i := 5) (oi := ⟨some 18, _, _, _, _, _⟩) (v := .pointer (some ⟨b, 0, none⟩)) rfl (by kernel_rfl) (by kernel_rfl) (by kernel_rfl) (fun _ _ _ h => h) (Or.inl ⟨by rfl, fun W hW => by have p0 := hW.c0; have p1 := hW.c1; go_simp; try (intro h; omega)⟩) hS ?_
      try simp only [Act.put, List.setIfInBounds_toArray, List.set_cons_zero, List.set_cons_succ]
      refine wpAnyH_take (i := 6) (oi := ⟨some 19, _, _, _, _, _⟩) (v := .pointer (some ⟨b, 0, none⟩)) rfl (by kernel_rfl) (by kernel_rfl) (by kernel_rfl) (fun _ _ _ h => h) (Or.inl ⟨by rfl, fun W hW => by have p0 := hW.c0; have p1 := hW.c1; go_simp; try (intro h; omega)⟩) hS ?_
      try simp only [Act.put, List.setIfInBounds_toArray, List.set_cons_zero, List.set_cons_succ]
      refine wpAnyH_take (i := 7) (oi := ⟨some 20, _, _, _, _, _⟩) (v := .pointer (some ⟨b, 0, none⟩)) rfl (by kernel_rfl) (by kernel_rfl) (by kernel_rfl) (fun _ _ _ h => h) (Or.inl ⟨by rfl, fun W hW => by have p0 := hW.c0; have p1 := hW.c1; go_simp; try (intro h; omega)⟩) hS ?_
      try simp only [Act.put, List.setIfInBounds_toArray, List.set_cons_zero, List.set_cons_succ]
      refine wpAnyH_take (i := 8) (oi := ⟨some 21, _, _, _, _, _⟩) (v := .pointer (some ⟨g, 0, none⟩)) rfl (by kernel_rfl) (by kernel_rfl) (by kernel_rfl) (fun _ _ _ h => h) (Or.inl ⟨by rfl, fun W hW => by have p0 := hW.c0; have p1 := hW.c1; go_simp; try (intro h; omega)⟩) hS ?_
      try simp only [Act.put, List.setIfInBounds_toArray, List.set_cons_zero, List.set_cons_succ]
      refine wpAnyH_ready (rs := [9]) (by kernel_rfl) (by simp) ?_
      refine AllReadyH.cons (o := ⟨some 22, _, _, _, _, _⟩) rfl (fun K hK => ?_) AllReadyH.nil
      go_simp
      refine (vSelf_calls _ (hB.view)).mono ?_
      rintro e W3 ⟨rfl, rfl⟩
      go_wp2_with fail
      refine hK.out _ _ hS (fun hHeld => ?_)
      clear hHeld hK K
      try simp only [Act.put, List.setIfInBounds_toArray, List.set_cons_zero, List.set_cons_succ]
      refine wpAnyH_take (i := 10) (oi := ⟨some 23, _, _, _, _, _⟩) (v := .bool true) rfl (by kernel_rfl) (by kernel_rfl) (by kernel_rfl) (fun _ _ _ h => h) (Or.inl ⟨by rfl, fun W hW => by have p0 := hW.c0; have p1 := hW.c1; go_simp; try (intro h; omega)⟩) hS ?_
      try simp only [Act.put, List.setIfInBounds_toArray, List.set_cons_zero, List.set_cons_succ]
      refine wpAnyH_take (i := 11) (oi := ⟨some 24, _, _, _, _, _⟩) (v := .bool true) rfl (by kernel_rfl) (by kernel_rfl) (by kernel_rfl) (fun _ _ _ h => h) (Or.inl ⟨by rfl, fun W hW => by have p0 := hW.c0; have p1 := hW.c1; go_simp; try (intro h; omega)⟩) hS ?_
      try simp only [Act.put, List.setIfInBounds_toArray, List.set_cons_zero, List.set_cons_succ]
      refine wpAnyH_done (by kernel_rfl) ?_ _
      have hfin : BusPost w b g x v l W2 := ⟨x, hB, hbut, fun k hk => Or.inl hk⟩
      have hfin := Lib.hid hfin
      clear hB hbut hS hE
      go_wp2_with fail
      go_ret
      unfold BtPost takeB
      rw [hdp.out]
      simp only [if_pos hme.out, List.append_nil]
      exact ⟨rfl, hfin.out⟩
    · have hme2 : (q.fr == (v.self : Int)) = false := beq_eq_false_iff_ne.2 hme
      have hme := Lib.hid hme
      clear hat
      refine wpAnyH_take (i := 0) (oi := ⟨some 13, _, _, _, _, _⟩) (v := .int .i64 0) rfl (by kernel_rfl) (by kernel_rfl) (by kernel_rfl) (fun _ _ _ h => h) (Or.inl ⟨by rfl, fun W hW => by have p0 := hW.c0; have p1 := hW.c1; go_simp; try (intro h; omega)⟩) hS ?_
      try simp only [Act.put, List.setIfInBounds_toArray, List.set_cons_zero, List.set_cons_succ]
      refine wpAnyH_take (i := 1) (oi := ⟨some 14, _, _, _, _, _⟩) (v := .bool false) rfl (by kernel_rfl) (by kernel_rfl) (by kernel_rfl) (fun _ _ _ h => h) (Or.inl ⟨by rfl, fun W hW => by have p0 := hW.c0; have p1 := hW.c1; go_simp; try (intro h; omega)⟩) hS ?_
      try simp only [Act.put, List.setIfInBounds_toArray, List.set_cons_zero, List.set_cons_succ]
      refine wpAnyH_take (i := 2) (oi := ⟨some 15, _, _, _, _, _⟩) (v := .bool false) rfl (by kernel_rfl) (by kernel_rfl) (by kernel_rfl) (fun _ _ _ h => h) (Or.inl ⟨by rfl, fun W hW => by have p0 := hW.c0; have p1 := hW.c1; go_simp; try (intro h; omega)⟩) hS ?_
      try simp only [Act.put, List.setIfInBounds_toArray, List.set_cons_zero, List.set_cons_succ]
      refine wpAnyH_take (i := 3) (oi := ⟨some 16, _, _, _, _, _⟩) (v := .pointer (some ⟨p, 1, none⟩)) rfl (by kernel_rfl) (by kernel_rfl) (by kernel_rfl) (fun _ _ _ h => h) (Or.inl ⟨by rfl, fun W hW => by have p0 := hW.c0; have p1 := hW.c1; go_simp; try (intro h; omega)⟩) hS ?_
      try simp only [Act.put, List.setIfInBounds_toArray, List.set_cons_zero, List.set_cons_succ]
      refine wpAnyH_take (i := 4) (oi := ⟨some 17, _, _, _, _, _⟩) (v := .int .i64 q.fr) rfl (by kernel_rfl) (by kernel_rfl) (by kernel_rfl) (fun _ _ _ h => h) (Or.inl ⟨by rfl, fun W hW => by have p0 := hW.c0; have p1 := hW.c1; go_simp; try (intro h; omega)⟩) hS ?_
      try simp only [Act.put, List.setIfInBounds_toArray, List.set_cons_zero, List.set_cons_succ]
      refine wpAnyH_take (i := 5) (oi := ⟨some 18, _, _, _, _, _⟩) (v := .pointer (some ⟨b, 0, none⟩)) rfl (by kernel_rfl) (by kernel_rfl) (by kernel_rfl) (fun _ _ _ h => h) (Or.inl ⟨by rfl, fun W hW => by have p0 := hW.c0; have p1 := hW.c1; go_simp; try (intro h; omega)⟩) hS ?_
      try simp only [Act.put, List.setIfInBounds_toArray, List.set_cons_zero, List.set_cons_succ]
      refine wpAnyH_take (i := 6) (oi := ⟨some 19, _, _, _, _, _⟩) (v := .pointer (some ⟨b, 0, none⟩)) rfl (by kernel_rfl) (by kernel_rfl) (by kernel_rfl) (fun _ _ _ h => h) (Or.inl ⟨by rfl, fun W hW => by have p0 := hW.c0; have p1 := hW.c1; go_simp; try (intro h; omega)⟩) hS ?_
      try simp only [Act.put, List.setIfInBounds_toArray, List.set_cons_zero, List.set_cons_succ]
      refine wpAnyH_take (i := 7) (oi := ⟨some 20, _, _, _, _, _⟩) (v := .pointer (some ⟨b, 0, none⟩)) rfl (by kernel_rfl) (by kernel_rfl) (by kernel_rfl) (fun _ _ _ h => h) (Or.inl ⟨by rfl, fun W hW => by have p0 := hW.c0; have p1 := hW.c1; go_simp; try (intro h; omega)⟩) hS ?_
      try simp only [Act.put, List.setIfInBounds_toArray, List.set_cons_zero, List.set_cons_succ]
      refine wpAnyH_take (i := 8) (oi := ⟨some 21, _, _, _, _, _⟩) (v := .pointer (some ⟨g, 0, none⟩)) rfl (by kernel_rfl) (by kernel_rfl) (by kernel_rfl) (fun _ _ _ h => h) (Or.inl ⟨by rfl, fun W hW => by have p0 := hW.c0; have p1 := hW.c1; go_simp; try (intro h; omega)⟩) hS ?_
      try simp only [Act.put, List.setIfInBounds_toArray, List.set_cons_zero, List.set_cons_succ]
      refine wpAnyH_ready (rs := [9]) (by kernel_rfl) (by simp) ?_
      refine AllReadyH.cons (o := ⟨some 22, _, _, _, _, _⟩) rfl (fun K hK => ?_) AllReadyH.nil
      go_simp
      refine (vSelf_calls _ (hB.view)).mono ?_
      rintro e W3 ⟨rfl, rfl⟩
      go_wp2_with fail
      refine hK.out _ _ hS (fun hHeld => ?_)
      clear hHeld hK K
      try simp only [Act.put, List.setIfInBounds_toArray, List.set_cons_zero, List.set_cons_succ]
      refine wpAnyH_take (i := 10) (oi := ⟨some 23, _, _, _, _, _⟩) (v := .bool false) rfl (by kernel_rfl) (by kernel_rfl) (by kernel_rfl) (fun _ _ _ h => h) (Or.inl ⟨by rfl, fun W hW => by have p0 := hW.c0; have p1 := hW.c1; go_simp; try (intro h; omega)⟩) hS ?_
      try simp only [Act.put, List.setIfInBounds_toArray, List.set_cons_zero, List.set_cons_succ]
      refine wpAnyH_take (i := 11) (oi := ⟨some 24, _, _, _, _, _⟩) (v := .bool false) rfl (by kernel_rfl) (by kernel_rfl) (by kernel_rfl) (fun _ _ _ h => h) (Or.inl ⟨by rfl, fun W hW => by have p0 := hW.c0; have p1 := hW.c1; go_simp; try (intro h; omega)⟩) hS ?_
      try simp only [Act.put, List.setIfInBounds_toArray, List.set_cons_zero, List.set_cons_succ]
      refine wpAnyH_done (by kernel_rfl) ?_ _
      replace hS := Lib.hid hS
      replace hB := Lib.hid hB
      replace hbut := Lib.hid hbut
      go_wp2_with fail
      replace hS := hS.out.keep (S := fun _ => False) (but_below (below_drew (Below.refl _ _)) _) (fun h => h) (fun h => h)
      replace hB := hB.out.below (below_drew (Below.refl _ _))
      replace hbut := hbut.out.drew
      refine wp_region_held_drew (S := BtB p b g c q) (by kernel_rfl) hS (fun hHeld => ?_)
      clear hHeld
      generalize World.drew _ = W3 at *
      refine wpAnyH_take (i := 0) (oi := ⟨some 27, _, _, _, _, _⟩) (v := .func (.func 29) #[.pointer (some ⟨b, 0, none⟩)] #[]) rfl (by kernel_rfl) (by kernel_rfl) (by kernel_rfl) (fun _ _ _ h => h) (Or.inl ⟨by rfl, fun W hW => by have p0 := hW.c0; have p1 := hW.c1; go_simp; try (intro h; omega)⟩) hS ?_
      try simp only [Act.put, List.setIfInBounds_toArray, List.set_cons_zero, List.set_cons_succ]
      refine wpAnyH_take (i := 1) (oi := ⟨some 28, _, _, _, _, _⟩) (v := .pointer (some ⟨p, 1, none⟩)) rfl (by kernel_rfl) (by kernel_rfl) (by kernel_rfl) (fun _ _ _ h => h) (Or.inl ⟨by rfl, fun W hW => by have p0 := hW.c0; have p1 := hW.c1; go_simp; try (intro h; omega)⟩) hS ?_
      try simp only [Act.put, List.setIfInBounds_toArray, List.set_cons_zero, List.set_cons_succ]
      refine wpAnyH_take (i := 2) (oi := ⟨some 29, _, _, _, _, _⟩) (v := .int .i64 q.fr) rfl (by kernel_rfl) (by kernel_rfl) (by kernel_rfl) (fun _ _ _ h => h) (Or.inl ⟨by rfl, fun W hW => by have p0 := hW.c0; have p1 := hW.c1; go_simp; try (intro h; omega)⟩) hS ?_
      try simp only [Act.put, List.setIfInBounds_toArray, List.set_cons_zero, List.set_cons_succ]
      refine wpAnyH_take (i := 3) (oi := ⟨some 30, _, _, _, _, _⟩) (v := .pointer (some ⟨b, 0, none⟩)) rfl (by kernel_rfl) (by kernel_rfl) (by kernel_rfl) (fun _ _ _ h => h) (Or.inl ⟨by rfl, fun W hW => by have p0 := hW.c0; have p1 := hW.c1; go_simp; try (intro h; omega)⟩) hS ?_
      try simp only [Act.put, List.setIfInBounds_toArray, List.set_cons_zero, List.set_cons_succ]
      refine wpAnyH_take (i := 4) (oi := ⟨some 31, _, _, _, _, _⟩) (v := .pointer (some ⟨b, 0, none⟩)) rfl (by kernel_rfl) (by kernel_rfl) (by kernel_rfl) (fun _ _ _ h => h) (Or.inl ⟨by rfl, fun W hW => by have p0 := hW.c0; have p1 := hW.c1; go_simp; try (intro h; omega)⟩) hS ?_
      try simp only [Act.put, List.setIfInBounds_toArray, List.set_cons_zero, List.set_cons_succ]
      refine wpAnyH_take (i := 5) (oi := ⟨some 32, _, _, _, _, _⟩) (v := .pointer (some ⟨b, 0, none⟩)) rfl (by kernel_rfl) (by kernel_rfl) (by kernel_rfl) (fun _ _ _ h => h) (Or.inl ⟨by rfl, fun W hW => by have p0 := hW.c0; have p1 := hW.c1; go_simp; try (intro h; omega)⟩) hS ?_
      try simp only [Act.put, List.setIfInBounds_toArray, List.set_cons_zero, List.set_cons_succ]
      refine wpAnyH_take (i := 6) (oi := ⟨some 33, _, _, _, _, _⟩) (v := .pointer (some ⟨g, 0, none⟩)) rfl (by kernel_rfl) (by kernel_rfl) (by kernel_rfl) (fun _ _ _ h => h) (Or.inl ⟨by rfl, fun W hW => by have p0 := hW.c0; have p1 := hW.c1; go_simp; try (intro h; omega)⟩) hS ?_
      try simp only [Act.put, List.setIfInBounds_toArray, List.set_cons_zero, List.set_cons_succ]
      refine wpAnyH_take (i := 7) (oi := ⟨some 34, _, _, _, _, _⟩) (v := .agg c) rfl (by kernel_rfl) (by kernel_rfl) (by kernel_rfl) (fun _ _ _ h => h) (yields_row (by rfl) 67 (.tmp 5) rfl p rfl 67 c (0, 0) _ (fun W h => h.box) Tryz.underlying67 rfl hi) hS ?_
      try simp only [Act.put, List.setIfInBounds_toArray, List.set_cons_zero, List.set_cons_succ]
      refine wpAnyH_ready (rs := [8]) (by kernel_rfl) (by simp) ?_
      refine AllReadyH.cons (o := ⟨some 35, _, _, _, _, _⟩) rfl (fun K hK => ?_) AllReadyH.nil
      go_simp
      refine (vTake_calls _ hB.view c q hpk hcur).mono ?_
      rintro e W4 ⟨y, rfl, hrow, hv4, hb4⟩
      rw [hright] at hrow hv4
      obtain ⟨cs, hcs4, hown⟩ := hrow
      obtain ⟨hlb3, hlg3, hlx3⟩ := hB.lt
      have hpn : p ≠ g := fun e => by
        obtain ⟨cv, hcv, -⟩ := hB.view
        have hbx := hS.box
        rw [e, hcv] at hbx
        injection hbx with hbx
        injection hbx with q1 q2 q3
        exact absurd q2 (by decide)
      have hS4 := hS.keep hb4 hpn hB.ne
      have hB4 : BB W4 b g x (hearV v q true).1 l := ⟨(hb4.block _ hlb3 hB.ne).trans hB.box, hv4, hB.ne, own_keep hB.outs hb4 (fun k hk e => hB.ng (by rw [hk, e])), hB.nb, hB.ng⟩
      have hbut4 : But (foot b g x) w W4 := hbut.trans hb4 (fun k _ e => Or.inr (Or.inl e))
      have hyl := fun k hk => hown.lt k hk
      have hlay := lay_calls W4 hB4 (fun W hW => hE W (hbut4.trans hW fun _ _ h => h)) q.fr y cs _ hcs4 _ hown (fun k hk hf => by
        have h1 := (hyl k hk).1
        rcases hf with h | h | h
        · omega
        · omega
        · have := hlx3 k h; omega) (hear_len v q true) hl
      have hpb : p ≠ b := fun e => by
        have hbx := hS.box
        rw [e, hB.box] at hbx
        injection hbx with hbx
        injection hbx with q1 q2 q3
        exact absurd q2 (by decide)
      have hpx : x.ownBlock ≠ some p := fun e => by
        rcases hB.outs.2 with ⟨hx0, -⟩ | ⟨gx, cap, cur, hx0, -, hgx, -⟩
        · rw [hx0] at e; simp [Value.ownBlock] at e
        · rw [hx0] at e
          simp [Value.ownBlock] at e
          have hbx := hS.box
          rw [← e, hgx] at hbx
          injection hbx with hbx
          injection hbx with q1 q2 q3
          exact absurd q2 (by decide)
      obtain ⟨A9, c9, rfl⟩ := own_slice hown
      have hlay := Lib.hid hlay
      have hS4 := Lib.hid hS4
      have hbut4 := Lib.hid hbut4
      clear hS hB hbut hb4 hv4 hown hcs4 hB4 hyl hE
      go_wp2_with fail
      refine hK.out _ _ hS4.out (fun hHeld => ?_)
      clear hHeld hK K
      try simp only [Act.put, List.setIfInBounds_toArray, List.set_cons_zero, List.set_cons_succ]
      refine wpAnyH_ready (rs := [9]) (by kernel_rfl) (by simp) ?_
      refine AllReadyH.cons (o := ⟨some 36, _, _, _, _, _⟩) rfl (fun K hK => ?_) AllReadyH.nil
      go_simp
      refine hlay.out.mono ?_
      rintro e W5 ⟨z, rfl, x5, hB5, hbut5, hx5⟩
      have hS5 : BtB p b g c q W5 := ⟨(hbut5.block p (blk_lt hS4.out.box) (fun hf => by
        rcases hf with h | h | h
        · exact hpb h
        · exact hpn h
        · exact hpx h)).trans hS4.out.box, hB5.c0, hS4.out.pk⟩
      have hfin := Lib.hid (BusPost.trans (x1 := x) hbut4.out (fun k hk => Or.inl hk) ⟨x5, hB5, hbut5, hx5⟩)
      have hS5 := Lib.hid hS5
      clear hS4 hbut4 hB5 hbut5 hx5 hlay
      go_wp2_with fail
      refine hK.out _ _ hS5.out (fun hHeld => ?_)
      clear hHeld hK K
      try simp only [Act.put, List.setIfInBounds_toArray, List.set_cons_zero, List.set_cons_succ]
      refine wpAnyH_done (by kernel_rfl) ?_ _
      go_wp2_with fail
      go_ret
      unfold BtPost takeB
      rw [hdp.out]
      simp only [if_neg hme.out]
      exact ⟨rfl, hfin.out⟩
end Go.Proofs.YtgdcnenlelckhaaGreatDoor

namespace Go.Proofs.YtgdcnenlelckhaaGreatDoor
theorem has_word (v : VS) (n s : Nat) : hasN (wordV v n) s = decide (v.own s = (n : Int)) := by
  unfold hasN
  rw [wordV_bit v n (s / 64) (s % 64) (Nat.mod_lt _ (by decide))]
  have e : s / 64 * 64 + s % 64 = s := by omega
  rw [e]
/-- a node that was told nothing but what nodes claimed: C j s: the node j claims the slot s -/
structure Honest (C : Nat → Nat → Bool) (i : Nat) (v : VS) : Prop where
  self : v.self = i
  cur : v.cur ≤ 64
  mine : v.ep i = i + 1
  eps : ∀ j : Nat, j < 64 → v.ep j = 0 ∨ v.ep j = j + 1
  own : ∀ s, s < 16384 → v.own s = -1 ∨ ∃ j : Nat, j < 64 ∧ v.own s = (j : Int) ∧ C j s = true
  all : ∀ s, s < 16384 → C i s = true → v.own s = (i : Int)
/-- a packet that tells what its sender claims -/
structure Fair (C : Nat → Nat → Bool) (j : Nat) (q : Pkt) : Prop where
  kind : q.kind = 1 ∨ q.kind = 2
  fr : q.fr = (j : Int)
  ep : q.ep = j + 1
  cur : q.cur ≤ 64
  cl : ∀ s, s < 16384 → hasN q.cl s = C j s
theorem tell_fair {C : Nat → Nat → Bool} {i : Nat} {v : VS} (h : Honest C i v) (kind : Int) (hk : kind = 1 ∨ kind = 2) : Fair C i (tellV v kind) := by
  refine ⟨hk, by show (v.self : Int) = i; rw [h.self], by show v.ep v.self = i + 1; rw [h.self]; exact h.mine, h.cur, fun s hs => ?_⟩
  show hasN (wordV v v.self) s = _
  rw [h.self, has_word]
  cases hc : C i s with
  | true => rw [h.all s hs hc]; simp
  | false =>
    rcases h.own s hs with h1 | ⟨j, hj, h1, h2⟩
    · rw [h1]; simp
    · rw [h1]
      have : j ≠ i := fun e => by rw [e, hc] at h2; cases h2
      simp
      omega
theorem taken_honest {C : Nat → Nat → Bool} (hC : ∀ s j k : Nat, C j s = true → C k s = true → j = k) {i j : Nat} {v : VS} {q : Pkt} (hj : j < 64) (hij : j ≠ i) (h : Honest C i v) (hq : Fair C j q) :
    Honest C i (takenV v q) ∧ (∀ s, s < 16384 → (takenV v q).own s = if C j s = true then (j : Int) else v.own s) := by
  have hn : nodeOf q = j := by
    unfold nodeOf
    have : ¬ q.kind = 3 := by rcases hq.kind with h | h <;> rw [h] <;> decide
    rw [if_neg this, hq.fr]
    rfl
  have hle : (maxV v q.cur).ep (nodeOf q) ≤ q.ep := by
    show v.ep (nodeOf q) ≤ q.ep
    rw [hn, hq.ep]
    rcases h.eps j hj with h1 | h1 <;> omega
  have hT : takenV v q = claimV (maxV v q.cur) j q.ep q.cl := by
    unfold takenV
    rw [if_pos hle, hn]
  have hO : ∀ s, s < 16384 → (takenV v q).own s = if C j s = true then (j : Int) else v.own s := by
    intro s hs
    rw [hT]
    show (if hasN q.cl s = true then (if v.own s = -1 ∨ v.own s = (j : Int) ∨ upd v.ep j q.ep (v.own s).toNat < q.ep then (j : Int) else v.own s) else (if v.own s = (j : Int) then -1 else v.own s)) = _
    rw [hq.cl s hs]
    cases hc : C j s with
    | true =>
      rw [if_pos rfl, if_pos rfl]
      rcases h.own s hs with h1 | ⟨k, hk, h1, h2⟩
      · rw [if_pos (Or.inl h1)]
      · have := hC s k j h2 hc
        subst this
        rw [if_pos (Or.inr (Or.inl h1))]
    | false =>
      have e0 : ¬ (false = true) := by decide
      rw [if_neg e0, if_neg e0]
      rcases h.own s hs with h1 | ⟨k, hk, h1, h2⟩
      · rw [if_neg (by rw [h1]; omega)]
      · have : k ≠ j := fun e => by rw [e, hc] at h2; cases h2
        rw [if_neg (by rw [h1]; omega)]
  have hE : ∀ k, (takenV v q).ep k = if k = j then q.ep else v.ep k := by
    intro k
    rw [hT]
    rfl
  refine ⟨⟨by rw [taken_self]; exact h.self, ?_, ?_, ?_, ?_, ?_⟩, hO⟩
  · rw [hT]
    show max v.cur q.cur ≤ 64
    have := h.cur
    have := hq.cur
    omega
  · rw [hE, if_neg (fun e => hij e.symm)]
    exact h.mine
  · intro k hk
    rw [hE]
    split
    · rename_i e
      exact Or.inr (by rw [hq.ep, e])
    · exact h.eps k hk
  · intro s hs
    rw [hO s hs]
    split
    · rename_i hc
      exact Or.inr ⟨j, hj, rfl, hc⟩
    · exact h.own s hs
  · intro s hs hc
    rw [hO s hs]
    split
    · rename_i hc2
      have := hC s i j hc hc2
      exact absurd this.symm hij
    · exact h.all s hs hc
theorem hear_honest {C : Nat → Nat → Bool} (hC : ∀ s j k : Nat, C j s = true → C k s = true → j = k) {i j : Nat} {v : VS} {q : Pkt} (hj : j < 64) (hij : j ≠ i) (h : Honest C i v) (hq : Fair C j q) :
    Honest C i (hearV v q true).1 ∧ (∀ p ∈ (hearV v q true).2, Fair C i p) ∧ (∀ s, s < 16384 → (hearV v q true).1.own s = if C j s = true then (j : Int) else v.own s) := by
  obtain ⟨h1, hO⟩ := taken_honest hC hj hij h hq
  have hk3 : ¬ q.kind = 3 := by rcases hq.kind with h | h <;> rw [h] <;> decide
  have hidle : ¬ idleP v.self q true := by
    rintro (h2 | h2 | h2 | h2)
    · cases h2
    · have := hq.cur
      omega
    · rw [hq.fr, h.self] at h2
      omega
    · exact hk3 h2.1
  have hn : nodeOf q = j := by
    unfold nodeOf
    rw [if_neg hk3, hq.fr]
    rfl
  have hL : liftV (takenV v q) q = takenV v q := by
    unfold liftV
    rw [if_neg]
    rintro ⟨h2, -⟩
    rw [h1.self, h1.mine, hq.ep] at h2
    omega
  have hB : beatV (takenV v q) q.fr q.ep q.cl = -1 := by
    unfold beatV
    have : ((List.range 16384).filter (hasN q.cl)).find? (fun s => decide ((takenV v q).own s ≠ -1 ∧ (takenV v q).own s ≠ q.fr ∧ q.ep < (takenV v q).ep ((takenV v q).own s).toNat)) = none := by
      rw [List.find?_eq_none]
      intro s hs hd
      obtain ⟨h2, h3⟩ := List.mem_filter.1 hs
      have h4 := List.mem_range.1 h2
      rw [hq.cl s h4] at h3
      have h5 := (of_decide_eq_true hd).2.1
      rw [hO s h4, if_pos h3, hq.fr] at h5
      exact h5 rfl
    rw [this]
  have hH : hearV v q true = (takenV v q, answV (takenV v q) q) := by
    unfold hearV
    rw [if_neg hidle, if_neg hk3, hL]
  rw [hH]
  refine ⟨h1, fun p hp => ?_, hO⟩
  have hp' : p ∈ answV (takenV v q) q := hp
  unfold answV at hp'
  rw [hB, if_pos rfl, List.append_nil] at hp'
  split at hp'
  · have : p = tellV (takenV v q) 2 := by simpa using hp'
    rw [this]
    exact tell_fair h1 2 (Or.inr rfl)
  · cases hp'
end Go.Proofs.YtgdcnenlelckhaaGreatDoor
