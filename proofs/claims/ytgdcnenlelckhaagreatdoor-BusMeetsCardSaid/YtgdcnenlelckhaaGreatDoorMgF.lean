/- What is known of the nodes, by the document: a row in memory. The document's view: copied, raised, a slot that becomes a node's. The document's view: a slot becomes a node's; claims are taken in. The document's view: claims are taken in. The document's view: who is beaten; what it tells. The document's view: a slot is given, a slot is won. The document's view takes in what another one tells. Conditions: none. -/
import Derived.Test.YtgdcnenlelckhaaGreatDoorMgE
set_option linter.unusedVariables false
set_option linter.unusedSimpArgs false
namespace Go.Proofs.YtgdcnenlelckhaaGreatDoor
open Go.RowKit Go.Proofs.YtgdcnenlelckhaaGreatDoorW.PrintWords
open SlS SlT
structure XC (c : Array Value) (x : XS) : Prop where
  size : 16448 ≤ c.size
  ep : ∀ n, n < 64 → c[n * 257]? = some (.int .u64 (x.ep n))
  cl : ∀ n i, n < 64 → i < 256 → c[n * 257 + 1 + i]? = some (.int .u64 (x.cl n i))
  epLt : ∀ n, n < 64 → x.ep n < 18446744073709551616
  clLt : ∀ n i, n < 64 → i < 256 → x.cl n i < 18446744073709551616
def xEp (x : XS) (n e : Nat) : XS := { x with ep := upd x.ep n e }
def xCl (x : XS) (n i y : Nat) : XS := { x with cl := fun o j => if o = n ∧ j = i then y else x.cl o j }
theorem XC.setEp {c : Array Value} {x : XS} (h : XC c x) (n : Nat) (hn : n < 64) (e : Nat) (he : e < 18446744073709551616) : XC (c.setIfInBounds (n * 257) (.int .u64 (e : Int))) (xEp x n e) := by
  have hz := h.size
  refine ⟨by simpa using hz, fun k hk => ?_, fun k i hk hi => ?_, fun k hk => ?_, h.clLt⟩
  · show _ = some (Value.int .u64 ((if k = n then e else x.ep k : Nat) : Int))
    by_cases e2 : k = n
    · subst e2; rw [set_this (by omega), if_pos rfl]
    · rw [set_other (by omega), if_neg e2]; exact h.ep k hk
  · rw [set_other (by omega)]; exact h.cl k i hk hi
  · show (if k = n then e else x.ep k) < _
    split
    · exact he
    · exact h.epLt k hk
theorem XC.setCl {c : Array Value} {x : XS} (h : XC c x) (n i : Nat) (hn : n < 64) (hi : i < 256) (y : Nat) (hy : y < 18446744073709551616) : XC (c.setIfInBounds (n * 257 + 1 + i) (.int .u64 (y : Int))) (xCl x n i y) := by
  have hz := h.size
  refine ⟨by simpa using hz, fun k hk => ?_, fun k j hk hj => ?_, h.epLt, fun k j hk hj => ?_⟩
  · rw [set_other (by omega)]; exact h.ep k hk
  · show _ = some (Value.int .u64 ((if k = n ∧ j = i then y else x.cl k j : Nat) : Int))
    by_cases e2 : k = n ∧ j = i
    · obtain ⟨rfl, rfl⟩ := e2; rw [set_this (by omega), if_pos ⟨rfl, rfl⟩]
    · rw [set_other (by omega), if_neg e2]; exact h.cl k j hk hj
  · show (if k = n ∧ j = i then y else x.cl k j) < _
    split
    · exact hy
    · exact h.clLt k j hk hj
theorem XC.congr {c : Array Value} {x x' : XS} (h : XC c x) (h1 : ∀ n, n < 64 → x.ep n = x'.ep n) (h2 : ∀ n i, n < 64 → i < 256 → x.cl n i = x'.cl n i) : XC c x' :=
  ⟨h.size, fun n hn => by rw [← h1 n hn]; exact h.ep n hn, fun n i hn hi => by rw [← h2 n i hn hi]; exact h.cl n i hn hi, fun n hn => by rw [← h1 n hn]; exact h.epLt n hn, fun n i hn hi => by rw [← h2 n i hn hi]; exact h.clLt n i hn hi⟩
/-- the row of nodes -/
def XR (W : World) (g : Nat) (x : XS) : Prop := ∃ c, W.heap[g]? = some (.cells c 87 (0, 0)) ∧ XC c x
theorem XR.lt {W : World} {g : Nat} {x : XS} (h : XR W g x) : g < W.heap.size := by
  obtain ⟨c, h, -⟩ := h
  exact blk_lt h
theorem XR.keep {S : Nat → Prop} {w w' : World} {g : Nat} {x : XS} (h : XR w g x) (hb : But S w w') (hn : ¬ S g) : XR w' g x := by
  obtain ⟨c, h1, h2⟩ := h
  exact ⟨c, (hb.block g (blk_lt h1) hn).trans h1, h2⟩
theorem XR.below {w w' : World} {g : Nat} {x : XS} (h : XR w g x) (hb : Below w.heap.size w w') : XR w' g x := h.keep (but_below hb fun _ => False) fun h => h
theorem XR.congr {w : World} {g : Nat} {x x' : XS} (h : XR w g x) (h1 : ∀ n, n < 64 → x.ep n = x'.ep n) (h2 : ∀ n i, n < 64 → i < 256 → x.cl n i = x'.cl n i) : XR w g x' := by
  obtain ⟨c, h3, h4⟩ := h
  exact ⟨c, h3, h4.congr h1 h2⟩
theorem XR.atEp {W : World} {g : Nat} {x : XS} (h : XR W g x) (n : Nat) (hn : n < 64) : W.cell? ⟨g, n * 257, none⟩ = some (.int .u64 (x.ep n)) := by
  obtain ⟨c, h1, h2⟩ := h
  rw [cellBox h1]; exact h2.ep n hn
theorem XR.atCl {W : World} {g : Nat} {x : XS} (h : XR W g x) (n i : Nat) (hn : n < 64) (hi : i < 256) : W.cell? ⟨g, n * 257 + 1 + i, none⟩ = some (.int .u64 (x.cl n i)) := by
  obtain ⟨c, h1, h2⟩ := h
  rw [cellBox h1]; exact h2.cl n i hn hi
theorem XR.thaw {W : World} {g : Nat} {x : XS} (h : XR W g x) (i : Nat) : W.frozen? ⟨g, i, none⟩ = false := by
  obtain ⟨c, h1, h2⟩ := h
  exact openBox h1
theorem XR.epLt {W : World} {g : Nat} {x : XS} (h : XR W g x) : ∀ n, n < 64 → x.ep n < 18446744073709551616 := by
  obtain ⟨c, h1, h2⟩ := h
  exact h2.epLt
theorem XR.clLt {W : World} {g : Nat} {x : XS} (h : XR W g x) : ∀ n i, n < 64 → i < 256 → x.cl n i < 18446744073709551616 := by
  obtain ⟨c, h1, h2⟩ := h
  exact h2.clLt
theorem XR.epSet {W : World} {g : Nat} {x : XS} (h : XR W g x) (n : Nat) (hn : n < 64) (e : Nat) (he : e < 18446744073709551616) : XR (W.setCell ⟨g, n * 257, none⟩ (.int .u64 (e : Int))) g (xEp x n e) := by
  obtain ⟨c, h1, h2⟩ := h
  exact ⟨_, heap_setCell_same _ g (n * 257) _ _ _ h1, h2.setEp n hn e he⟩
theorem XR.clSet {W : World} {g : Nat} {x : XS} (h : XR W g x) (n i : Nat) (hn : n < 64) (hi : i < 256) (y : Nat) (hy : y < 18446744073709551616) : XR (W.setCell ⟨g, n * 257 + 1 + i, none⟩ (.int .u64 (y : Int))) g (xCl x n i y) := by
  obtain ⟨c, h1, h2⟩ := h
  exact ⟨_, heap_setCell_same _ g (n * 257 + 1 + i) _ _ _ h1, h2.setCl n i hn hi y hy⟩
theorem XR.drew {W : World} {g : Nat} {x : XS} (h : XR W g x) : XR W.drew g x := h.below (below_drew (Below.refl _ _))
/-- a view by value -/
def xval (g c sf cu : Nat) : Array Value := #[.int .i64 (sf : Int), .slice (some ⟨g, 0, none⟩) 64 c, .int .u64 (cu : Int)]
/-- a box of such a view, and its row -/
structure XW (w : World) (p g c : Nat) (S : Nat → Prop) (sf cu : Nat) (x : XS) (W : World) : Prop where
  but : But S w W
  box : W.heap[p]? = some (.cells #[.int .i64 (sf : Int), .slice (some ⟨g, 0, none⟩) 64 c, .int .u64 (cu : Int)] 51 (0, 0))
  row : XR W g x
  ne : p ≠ g
theorem XW.keep {w : World} {p g c : Nat} {S S2 : Nat → Prop} {sf cu : Nat} {x x' : XS} {W W' : World} (h : XW w p g c S sf cu x W) (hb : But S2 W W') (hS : ∀ k, k < w.heap.size → S2 k → S k) (hp : ¬ S2 p) (hr : XR W' g x') : XW w p g c S sf cu x' W' :=
  ⟨h.but.trans hb hS, (hb.block _ (blk_lt h.box) hp).trans h.box, hr, h.ne⟩
theorem XW.below {w : World} {p g c : Nat} {S : Nat → Prop} {sf cu : Nat} {x : XS} {W W' : World} (h : XW w p g c S sf cu x W) (hb : Below W.heap.size W W') : XW w p g c S sf cu x W' :=
  h.keep (but_below hb fun _ => False) (fun _ _ h => h.elim) (fun h => h) (h.row.below hb)
theorem XW.x0 {w : World} {p g c : Nat} {S : Nat → Prop} {sf cu : Nat} {x : XS} {W : World} (h : XW w p g c S sf cu x W) : W.cell? ⟨p, 0, none⟩ = some (.int .i64 (sf : Int)) := by rw [cellBox h.box]; rfl
theorem XW.x1 {w : World} {p g c : Nat} {S : Nat → Prop} {sf cu : Nat} {x : XS} {W : World} (h : XW w p g c S sf cu x W) : W.cell? ⟨p, 1, none⟩ = some (.slice (some ⟨g, 0, none⟩) 64 c) := by rw [cellBox h.box]; rfl
theorem XW.x2 {w : World} {p g c : Nat} {S : Nat → Prop} {sf cu : Nat} {x : XS} {W : World} (h : XW w p g c S sf cu x W) : W.cell? ⟨p, 2, none⟩ = some (.int .u64 (cu : Int)) := by rw [cellBox h.box]; rfl
theorem XW.put {w : World} {p g c : Nat} {S : Nat → Prop} {sf cu : Nat} {x x' : XS} {W : World} (h : XW w p g c S sf cu x W) (hS : S g) {i : Nat} {v : Value} (hr : XR (W.setCell ⟨g, i, none⟩ v) g x') : XW w p g c S sf cu x' (W.setCell ⟨g, i, none⟩ v) :=
  h.keep ((But.refl (fun k => k = g) W).set (p := ⟨g, i, none⟩) (fun _ => rfl) v) (fun k _ e => by rw [e]; exact hS) (fun e => h.ne e) hr
theorem XW.drew {w : World} {p g c : Nat} {S : Nat → Prop} {sf cu : Nat} {x : XS} {W : World} (h : XW w p g c S sf cu x W) : XW w p g c S sf cu x W.drew := h.below (below_drew (Below.refl _ _))
theorem xw_start {w : World} {g c sf cu : Nat} {x : XS} (S : Nat → Prop) (h : XR w g x) : XW w w.heap.size g c S sf cu x (w.alloc (.cells #[.int .i64 (sf : Int), .slice (some ⟨g, 0, none⟩) 64 c, .int .u64 (cu : Int)] 51)) :=
  ⟨but_below (below_new' w _) S, heapN w _, h.below (below_new' w _), by have := h.lt; omega⟩
/-- whose a slot is, node by node -/
def ownUp (x : XS) (s n : Nat) : Bool := (List.range n).any fun o => hasN (x.cl o) s
theorem owner_at {x : XS} {s n : Nat} (hn : n < 64) (h : hasN (x.cl n) s = true) (hl : ∀ o, o < n → hasN (x.cl o) s = false) : ownerX x s = n := by
  unfold ownerX
  have : (List.range 64).find? (fun n => hasN (x.cl n) s) = some n := by
    rw [List.find?_eq_some_iff_getElem]
    refine ⟨h, n, by simpa using hn, by simp, fun j hj => ?_⟩
    simp [hl j hj]
  rw [this]
theorem owner_no {x : XS} {s : Nat} (hl : ∀ o, o < 64 → hasN (x.cl o) s = false) : ownerX x s = -1 := by
  unfold ownerX
  have : (List.range 64).find? (fun n => hasN (x.cl n) s) = none := by
    rw [List.find?_eq_none]
    intro o ho
    simp [hl o (List.mem_range.1 ho)]
  rw [this]
set_option maxHeartbeats 1000000 in
set_option maxRecDepth 100000 in
theorem xOwner_calls {g c sf cu : Nat} {x : XS} (w : World) (h : XR w g x) (s : Nat) (hs : s < 16384) : Calls Tryz.prog 97 #[.agg #[.int .i64 (sf : Int), .slice (some ⟨g, 0, none⟩) 64 c, .int .u64 (cu : Int)], .int .i64 s] w fun r w' => r = .returned (.int .i64 (ownerX x s)) ∧ Below w.heap.size w w' := by
  have hX := xw_start (fun _ => False) (c := c) (sf := sf) (cu := cu) h
  have hd1 : decide ((s : Int) < 0) = false := decide_eq_false (by omega)
  have hd2 : decide ((16383 : Int) < (s : Int)) = false := decide_eq_false (by omega)
  have hbel : Below w.heap.size w (w.alloc (.cells #[.int .i64 (sf : Int), .slice (some ⟨g, 0, none⟩) 64 c, .int .u64 (cu : Int)] 51)) := below_new' w _
  have c1 := hX.x1
  have hrow := hX.row
  clear h hX
  go_enter Tryz.func97, Tryz.ntmps97
  go_wp2_with fail
  generalize World.alloc _ _ = W at *
  have hbel := Lib.hid hbel
  go_loopw [5] (fun i wr => ∃ k : Nat, k ≤ 64 ∧ i = .int .i64 k ∧ (∀ o, o < k → hasN (x.cl o) s = false) ∧ wr = W) (fun i _ => 64 - (intOf i).toNat)
  case atStart => exact ⟨0, by omega, rfl, fun o ho => by omega, rfl⟩
  case round =>
    obtain ⟨k, hk, rfl, hno, rfl⟩ := hrel
    by_cases hk6 : k < 64
    · have hgo : decide ((k : Int) < 64) = true := decide_eq_true (by omega)
      have c2 := hrow.atCl k (s / 64) hk6 (by omega)
      have hbt := bit_of (fun i => if i < 256 then x.cl k i else 0) (fun i => by
        split
        · rename_i h; exact hrow.clLt k i hk6 h
        · omega) s
      have hh : hasN (fun i => if i < 256 then x.cl k i else 0) s = hasN (x.cl k) s := by unfold hasN; simp only [if_pos (show s / 64 < 256 by omega)]
      rw [hh] at hbt
      simp only [if_pos (show s / 64 < 256 by omega)] at hbt
      cases hB : hasN (x.cl k) s with
      | true =>
        rw [if_pos hB] at hbt
        have hfin := Lib.hid (owner_at hk6 hB hno)
        clear hno hB hh hrow
        generalize x.cl k (s / 64) = y at *
        go_wp2_with fail
        go_ret
        exact ⟨by rw [hfin.out]; rfl, hbel.out⟩
      | false =>
        rw [if_neg (by rw [hB]; decide)] at hbt
        have hno2 : ∀ o, o < k + 1 → hasN (x.cl o) s = false := fun o ho => by
          by_cases e : o = k
          · rw [e]; exact hB
          · exact hno o (by omega)
        have hno2 := Lib.hid hno2
        clear hno hB hh hrow
        generalize x.cl k (s / 64) = y at *
        go_wp2_with fail
        exact ⟨⟨k + 1, by omega, by go_num, hno2.out, by trivial⟩, by simp [intOf]; omega⟩
    · obtain rfl : k = 64 := by omega
      have hfin := Lib.hid (owner_no hno)
      clear hno
      go_wp2_with fail
      go_ret
      exact ⟨by rw [hfin.out]; rfl, hbel.out⟩
end Go.Proofs.YtgdcnenlelckhaaGreatDoor

namespace Go.Proofs.YtgdcnenlelckhaaGreatDoor
open Go.RowKit Go.Proofs.YtgdcnenlelckhaaGreatDoorW.PrintWords
open SlS SlT
/-- a box of a view, a place for the answer, and the row -/
structure XV (w : World) (p rv g c : Nat) (S : Nat → Prop) (sf cu : Nat) (x : XS) (W : World) : Prop where
  xw : XW w p g c S sf cu x W
  rvb : W.heap[rv]? = some (.cells #[.int .i64 0, .slice none 0 0, .int .u64 0] 51 (0, 0))
  rne : rv ≠ g
  pne : p ≠ rv
theorem XV.keep {w : World} {p rv g c : Nat} {S S2 : Nat → Prop} {sf cu : Nat} {x x' : XS} {W W' : World} (h : XV w p rv g c S sf cu x W) (hb : But S2 W W') (hS : ∀ k, k < w.heap.size → S2 k → S k) (hp : ¬ S2 p) (hv : ¬ S2 rv) (hr : XR W' g x') : XV w p rv g c S sf cu x' W' :=
  ⟨h.xw.keep hb hS hp hr, (hb.block _ (blk_lt h.rvb) hv).trans h.rvb, h.rne, h.pne⟩
theorem XV.below {w : World} {p rv g c : Nat} {S : Nat → Prop} {sf cu : Nat} {x : XS} {W W' : World} (h : XV w p rv g c S sf cu x W) (hb : Below W.heap.size W W') : XV w p rv g c S sf cu x W' :=
  h.keep (but_below hb fun _ => False) (fun _ _ h => h.elim) (fun h => h) (fun h => h) (h.xw.row.below hb)
theorem XV.drew {w : World} {p rv g c : Nat} {S : Nat → Prop} {sf cu : Nat} {x : XS} {W : World} (h : XV w p rv g c S sf cu x W) : XV w p rv g c S sf cu x W.drew := h.below (below_drew (Below.refl _ _))
theorem XV.put {w : World} {p rv g c : Nat} {S : Nat → Prop} {sf cu : Nat} {x x' : XS} {W : World} (h : XV w p rv g c S sf cu x W) (hS : S g) {i : Nat} {v : Value} (hr : XR (W.setCell ⟨g, i, none⟩ v) g x') : XV w p rv g c S sf cu x' (W.setCell ⟨g, i, none⟩ v) :=
  h.keep ((But.refl (fun k => k = g) W).set (p := ⟨g, i, none⟩) (fun _ => rfl) v) (fun k _ e => by rw [e]; exact hS) (fun e => h.xw.ne e) (fun e => h.rne e) hr
theorem XV.setCu {w : World} {p rv g c : Nat} {S : Nat → Prop} {sf cu : Nat} {x : XS} {W : World} (h : XV w p rv g c S sf cu x W) (hp : w.heap.size ≤ p) (e : Nat) : XV w p rv g c S sf e x (W.setCell ⟨p, 2, none⟩ (.int .u64 (e : Int))) := by
  have hb : But (fun k => k = p) W (W.setCell ⟨p, 2, none⟩ (.int .u64 (e : Int))) := (But.refl (fun k => k = p) W).set (p := ⟨p, 2, none⟩) (fun _ => rfl) _
  have hbox := heap_setCell_same W p 2 _ _ (.int .u64 (e : Int)) h.xw.box
  exact ⟨⟨h.xw.but.trans hb (fun k hk e => by omega), by simpa using hbox, h.xw.row.keep hb (fun e => h.xw.ne e.symm), h.xw.ne⟩, (hb.block _ (blk_lt h.rvb) (fun e => h.pne e.symm)).trans h.rvb, h.rne, h.pne⟩
theorem xv_start {w : World} {g c sf cu : Nat} {x : XS} (S : Nat → Prop) (h : XR w g x) : XV w w.heap.size (w.heap.size + 1) g c S sf cu x ((w.alloc (.cells #[.int .i64 (sf : Int), .slice (some ⟨g, 0, none⟩) 64 c, .int .u64 (cu : Int)] 51)).alloc (.cells #[.int .i64 0, .slice none 0 0, .int .u64 0] 51)) :=
  ⟨(xw_start S h).below (below_new' _ _), heap1 w _ _, by have := h.lt; omega, by omega⟩
/-- the answer: the box's cells, behind their store -/
def XOut (w : World) (g c sf cu : Nat) (S : Nat → Prop) (x : XS) (r : Ending) (w' : World) : Prop :=
  r = .returned (.agg #[.int .i64 (sf : Int), .slice (some ⟨g, 0, none⟩) 64 c, .int .u64 (cu : Int)]) ∧ XR w' g x ∧ But S w w'
theorem XV.fin {w : World} {p rv g c : Nat} {S : Nat → Prop} {sf cu : Nat} {x : XS} {W : World} (h : XV w p rv g c S sf cu x W) (hrv : w.heap.size ≤ rv) :
    (W.setRow rv #[.int .i64 (sf : Int), .slice (some ⟨g, 0, none⟩) 64 c, .int .u64 (cu : Int)]).heap[rv]? = some (.cells #[.int .i64 (sf : Int), .slice (some ⟨g, 0, none⟩) 64 c, .int .u64 (cu : Int)] 51 (0, 0)) ∧
    XOut w g c sf cu S x (.returned (.agg #[.int .i64 (sf : Int), .slice (some ⟨g, 0, none⟩) 64 c, .int .u64 (cu : Int)])) (W.setRow rv #[.int .i64 (sf : Int), .slice (some ⟨g, 0, none⟩) 64 c, .int .u64 (cu : Int)]) := by
  have hb := below_setRow (g := rv) (Below.refl rv W) (Nat.le_refl _) #[.int .i64 (sf : Int), .slice (some ⟨g, 0, none⟩) 64 c, .int .u64 (cu : Int)]
  have hb2 : But (fun k => k = rv) W (W.setRow rv #[.int .i64 (sf : Int), .slice (some ⟨g, 0, none⟩) 64 c, .int .u64 (cu : Int)]) :=
    ⟨hb.os, hb.tape, hb.output, hb.size, fun k _ hn => setRow_other _ _ _ _ (fun e => hn e)⟩
  exact ⟨setRow_heap _ _ _ _ _ _ h.rvb, rfl, h.xw.row.keep hb2 (fun e => h.rne e.symm), h.xw.but.trans hb2 (fun k hk e => by omega)⟩
theorem info51 (a b c : Value) : (Tryz.prog.info? 51).map (·.size) = some (#[a, b, c] : Array Value).size := by
  have : (Tryz.prog.info? 51).map (·.size) = some 3 := by kernel_rfl
  rw [this]; rfl
theorem one51 (sf : Int) (g c : Nat) (cu : Int) : (#[Value.int .i64 sf, .slice (some ⟨g, 0, none⟩) 64 c, .int .u64 cu]).all (·.oneCell') = true := by simp [Value.oneCell']
theorem rv_cells {W : World} {rv : Nat} (h : W.heap[rv]? = some (.cells #[.int .i64 0, .slice none 0 0, .int .u64 0] 51 (0, 0))) :
    W.cell? ⟨rv, 0, none⟩ = some (.int .i64 0) ∧ W.cell? ⟨rv, 1, none⟩ = some (.slice none 0 0) ∧ W.cell? ⟨rv, 2, none⟩ = some (.int .u64 0) ∧ W.frozen? ⟨rv, 0, none⟩ = false ∧ W.frozen? ⟨rv, 1, none⟩ = false ∧ W.frozen? ⟨rv, 2, none⟩ = false :=
  ⟨by rw [cellBox h]; rfl, by rw [cellBox h]; rfl, by rw [cellBox h]; rfl, openBox h, openBox h, openBox h⟩
theorem rv_fin {W : World} {rv : Nat} (h : W.heap[rv]? = some (.cells #[.int .i64 0, .slice none 0 0, .int .u64 0] 51 (0, 0))) (a b c : Value) :
    (((W.setCell ⟨rv, 0, none⟩ a).setCell ⟨rv, 1, none⟩ b).setCell ⟨rv, 2, none⟩ c).heap[rv]? = some (.cells #[a, b, c] 51 (0, 0)) ∧ But (fun k => k = rv) W (((W.setCell ⟨rv, 0, none⟩ a).setCell ⟨rv, 1, none⟩ b).setCell ⟨rv, 2, none⟩ c) := by
  have h1 := heap_setCell_same _ rv 0 _ _ a h
  have h2 := heap_setCell_same _ rv 1 _ _ b h1
  have h3 := heap_setCell_same _ rv 2 _ _ c h2
  exact ⟨by simpa using h3, (((But.refl (fun k => k = rv) W).set (p := ⟨rv, 0, none⟩) (fun _ => rfl) a).set (p := ⟨rv, 1, none⟩) (fun _ => rfl) b).set (p := ⟨rv, 2, none⟩) (fun _ => rfl) c⟩
theorem xout_fin {w W : World} {g c sf cu : Nat} {S : Nat → Prop} {x : XS} (hR : XR W g x) (hb : But S w W) (o1 o2 : Obj) : XOut w g c sf cu S x (.returned (.agg #[.int .i64 (sf : Int), .slice (some ⟨g, 0, none⟩) 64 c, .int .u64 (cu : Int)])) ((W.alloc o1).alloc o2) :=
  ⟨rfl, (hR.below (below_new' _ _)).below (below_new' _ _), (hb.alloc _).alloc _⟩
set_option maxHeartbeats 1000000 in
set_option maxRecDepth 100000 in
theorem xraise_calls {g c sf cu : Nat} {x : XS} (w : World) (h : XR w g x) (hs : sf < 64) (hc : cu + 1 < 18446744073709551616) : Calls Tryz.prog 64 #[.agg #[.int .i64 (sf : Int), .slice (some ⟨g, 0, none⟩) 64 c, .int .u64 (cu : Int)]] w (XOut w g c sf (cu + 1) (fun k => k = g) (xEp x sf (cu + 1))) := by
  have hg := h.lt
  have e4 := h.atEp sf hs
  have e5 := h.thaw (sf * 257)
  have hR := h.epSet sf hs (cu + 1) hc
  have hb := (But.refl (fun k => k = g) w).set (p := ⟨g, sf * 257, none⟩) (fun _ => rfl) (.int .u64 ((cu + 1 : Nat) : Int))
  have hF := fun o1 o2 => xout_fin (c := c) (sf := sf) (cu := cu + 1) hR hb o1 o2
  rw [show ((cu + 1 : Nat) : Int) = (cu : Int) + 1 by omega] at hF
  replace hF := Lib.hid hF
  clear h hR hb
  generalize x.ep sf = y at *
  go_enter Tryz.func64, Tryz.ntmps64
  go_wp2_with fail
  refine bodyPost_ret (results_cell_row Tryz.results64 _ _ (w.heap.size + 1) 51 _ (0, 0) _ rfl (by have := heapN (World.alloc (w.setCell ⟨g, sf * 257, none⟩ (.int .u64 ((cu : Int) + 1))) (.cells #[.int .i64 (sf : Int), .slice (some ⟨g, 0, none⟩) 64 c, .int .u64 ((cu : Int) + 1)] 51)) (.cells #[.int .i64 (sf : Int), .slice (some ⟨g, 0, none⟩) 64 c, .int .u64 ((cu : Int) + 1)] 51); simpa [World.setCell] using this) Tryz.underlying51 rfl (info51 _ _ _)) rfl (hF.out _ _)
set_option maxHeartbeats 1000000 in
set_option maxRecDepth 100000 in
theorem xcopied_calls {g c sf cu : Nat} {x : XS} (w : World) (h : XR w g x) : Calls Tryz.prog 63 #[.agg #[.int .i64 (sf : Int), .slice (some ⟨g, 0, none⟩) 64 c, .int .u64 (cu : Int)]] w fun r w' => ∃ g' c', r = .returned (.agg #[.int .i64 (sf : Int), .slice (some ⟨g', 0, none⟩) 64 c', .int .u64 (cu : Int)]) ∧ w.heap.size ≤ g' ∧ XR w' g' x ∧ Below w.heap.size w w' := by
  have hg := h.lt
  obtain ⟨cs, hcs, hx⟩ := h
  have hz := hx.size
  have hcs := Lib.hid hcs
  have hone : ∀ j, j < 16448 → ∃ k z, cs[j]? = some (.int k z) := fun j hj => by
    by_cases h0 : j % 257 = 0
    · have := hx.ep (j / 257) (by omega)
      rw [show j / 257 * 257 = j by omega] at this
      exact ⟨_, _, this⟩
    · have := hx.cl (j / 257) (j % 257 - 1) (by omega) (by omega)
      rw [show j / 257 * 257 + 1 + (j % 257 - 1) = j by omega] at this
      exact ⟨_, _, this⟩
  have hx := Lib.hid hx
  have hone := Lib.hid hone
  obtain ⟨i0, hi0, hz0, hz1, hz2⟩ : ∃ i0, Tryz.prog.info? 87 = some i0 ∧ i0.zero = some (.agg Tryz.zeroCells87) ∧ i0.size = 257 ∧ i0.bytes = 2056 := info_parts (by kernel_rfl)
  go_enter Tryz.func63, Tryz.ntmps63
  go_wp2_with fail
  have hb3 : Below w.heap.size w (((w.alloc (.cells #[.int .i64 (sf : Int), .slice (some ⟨g, 0, none⟩) 64 c, .int .u64 (cu : Int)] 51)).alloc (.cells #[.int .i64 0, .slice none 0 0, .int .u64 0] 51)).alloc (.cells #[] 87)) := ((below_new' w _).trans ((below_new' _ _).mono (by simp))).trans ((below_new' _ _).mono (by simp; omega))
  have a1 := heap0 w (.cells #[.int .i64 (sf : Int), .slice (some ⟨g, 0, none⟩) 64 c, .int .u64 (cu : Int)] 51) (.cells #[.int .i64 0, .slice none 0 0, .int .u64 0] 51)
  have a2 := heap1 w (.cells #[.int .i64 (sf : Int), .slice (some ⟨g, 0, none⟩) 64 c, .int .u64 (cu : Int)] 51) (.cells #[.int .i64 0, .slice none 0 0, .int .u64 0] 51)
  have s2 : ((w.alloc (.cells #[.int .i64 (sf : Int), .slice (some ⟨g, 0, none⟩) 64 c, .int .u64 (cu : Int)] 51)).alloc (.cells #[.int .i64 0, .slice none 0 0, .int .u64 0] 51)).heap.size = w.heap.size + 1 + 1 := by simp
  generalize (w.alloc (.cells #[.int .i64 (sf : Int), .slice (some ⟨g, 0, none⟩) 64 c, .int .u64 (cu : Int)] 51)).alloc (.cells #[.int .i64 0, .slice none 0 0, .int .u64 0] 51) = W2 at *
  have a3 := heapN W2 (.cells #[] 87)
  have n3 := below_new' W2 (.cells #[] 87)
  have s3 : (W2.alloc (.cells #[] 87)).heap.size = w.heap.size + 1 + 1 + 1 := by simp [s2]
  replace a1 := (n3.block _ (by omega)).trans a1
  replace a2 := (n3.block _ (by omega)).trans a2
  rw [s2] at a3
  generalize W2.alloc (.cells #[] 87) = W3 at *
  have hcs3 := (hb3.block g hg).trans hcs.out
  refine wp_append_own _ (.tmp 3) (.tmp 5) 49 rfl (w.heap.size + 1 + 1) 87 i0 (.agg Tryz.zeroCells87) 257 2056 Tryz.underlying49 hi0 hz0 hz1 hz2 (by kernel_rfl) (by decide) (.slice (some ⟨w.heap.size + 1 + 1, 0, none⟩) 0 0) 0 [] rfl
    ⟨rfl, Or.inr ⟨w.heap.size + 1 + 1, 0, #[], rfl, Nat.le_refl _, a3, Nat.le_refl _, by decide, rfl, rfl⟩⟩ ⟨g, 0, none⟩ 64 c (cs.toList.take 16448) rfl (by rw [List.length_take, Array.length_toList]; omega) ?_ ?_ (by simp only [maxLen]; omega) (by omega) (by omega) ?_
  · intro j u hj
    have hadd : (⟨g, 0, none⟩ : Addr).add j = ⟨g, j, none⟩ := by unfold Addr.add; split <;> simp_all
    rw [hadd, cellBox hcs3]
    have hj2 : j < 16448 := by
      have := (List.getElem?_eq_some_iff.1 hj).1
      rw [List.length_take] at this
      omega
    rw [List.getElem?_take_of_lt hj2, Array.getElem?_toList] at hj
    exact hj
  · intro u hu
    obtain ⟨j, hj, hj2⟩ := List.mem_iff_getElem.1 hu
    have hj3 : j < 16448 := by rw [List.length_take] at hj; omega
    obtain ⟨k, z, hk⟩ := hone.out j hj3
    have : (cs.toList.take 16448)[j]? = some u := by rw [List.getElem?_eq_getElem hj, hj2]
    rw [List.getElem?_take_of_lt hj3, Array.getElem?_toList, hk] at this
    rw [← Option.some.inj this]
    rfl
  intro v' W4 hown hgr _
  obtain ⟨A, c', rfl⟩ := own_slice hown
  simp only [Nat.zero_add] at hown ⊢
  obtain ⟨g', cap, hgA, -, -⟩ := hown.form (by omega)
  obtain rfl : A = some ⟨g', 0, none⟩ := by injection hgA
  have hg' := (hown.lt g' rfl).1
  have hXR : XR W4 g' x := by
    rcases hown.2 with ⟨h0, -⟩ | ⟨g2, cap2, cur, h0, -, hcur, hn, -, hsz, htk⟩
    · cases h0
    · injection h0 with h0 _ _
      injection h0 with h0
      injection h0 with h0 _ _
      subst h0
      have hx' := hx.out
      have hget : ∀ j, j < 16448 → cur[j]? = cs[j]? := fun j hj => by
        have h1 : (cur.toList.take (64 * 257))[j]? = (([] : List Value) ++ cs.toList.take 16448)[j]? := by rw [htk]
        rw [List.nil_append, List.getElem?_take_of_lt (by omega), List.getElem?_take_of_lt hj, Array.getElem?_toList, Array.getElem?_toList] at h1
        exact h1
      exact ⟨cur, hcur, ⟨by omega, fun n hn => by rw [hget _ (by omega)]; exact hx'.ep n hn, fun n i hn hi => by rw [hget _ (by omega)]; exact hx'.cl n i hn hi, hx'.epLt, hx'.clLt⟩⟩
  have hb4 : Below (w.heap.size + 1 + 1) W3 W4 := (Below.refl _ _).grown hgr (by omega) (fun k hk => by simp [Value.ownBlock] at hk; omega)
  have b1 := (hb4.block _ (by omega)).trans a1
  have b2 := (hb4.block _ (by omega)).trans a2
  have hbw := hb3.trans (hb4.mono (by omega))
  have s4 : w.heap.size + 1 + 1 + 1 ≤ W4.heap.size := by have := hb4.size; omega
  have d0 : W4.cell? ⟨w.heap.size, 0, none⟩ = some (.int .i64 (sf : Int)) := by rw [cellBox b1]; rfl
  have d1 : W4.cell? ⟨w.heap.size, 1, none⟩ = some (.slice (some ⟨g, 0, none⟩) 64 c) := by rw [cellBox b1]; rfl
  have d2 : W4.cell? ⟨w.heap.size, 2, none⟩ = some (.int .u64 (cu : Int)) := by rw [cellBox b1]; rfl
  have d3 : W4.frozen? ⟨w.heap.size, 1, none⟩ = false := openBox b1
  have f1 := heap_setCell_same W4 w.heap.size 1 _ _ (.slice (some ⟨g', 0, none⟩) 64 c') b1
  replace f1 : (W4.setCell ⟨w.heap.size, 1, none⟩ (.slice (some ⟨g', 0, none⟩) 64 c')).heap[w.heap.size]? = some (.cells #[.int .i64 (sf : Int), .slice (some ⟨g', 0, none⟩) 64 c', .int .u64 (cu : Int)] 51 (0, 0)) := by simpa using f1
  have g1 : But (fun k => k = w.heap.size) W4 (W4.setCell ⟨w.heap.size, 1, none⟩ (.slice (some ⟨g', 0, none⟩) 64 c')) := (But.refl (fun k => k = w.heap.size) W4).set (p := ⟨w.heap.size, 1, none⟩) (fun _ => rfl) _
  have f2 := (g1.block _ (by omega) (by omega)).trans b2
  have hXR2 := hXR.keep g1 (by omega)
  have hbw2 := hbw.trans (g1.below (n := w.heap.size) (by omega) (fun i hi e => by omega))
  obtain ⟨q0, q1, q2, q3, q4, q5⟩ := rv_cells b2
  obtain ⟨r1, r2⟩ := rv_fin f2 (.int .i64 (sf : Int)) (.slice (some ⟨g', 0, none⟩) 64 c') (.int .u64 (cu : Int))
  have hXR3 := Lib.hid (hXR2.keep r2 (by omega))
  have hbw3 := Lib.hid (hbw2.trans (r2.below (n := w.heap.size) (by have := hbw2.size; omega) (fun i hi e => by omega)))
  have r1 := Lib.hid r1
  clear hown hgr hXR hb4 b1 b2 g1 hbw hb3 a1 a2 a3 n3 hcs3 f1 f2 hXR2 hbw2 r2
  go_wp2_with fail
  refine bodyPost_ret (results_cell_row Tryz.results63 _ _ (w.heap.size + 1) 51 _ (0, 0) _ rfl r1.out Tryz.underlying51 rfl (info51 _ _ _)) rfl ⟨g', c', rfl, by omega, hXR3.out, hbw3.out⟩
end Go.Proofs.YtgdcnenlelckhaaGreatDoor

namespace Go.Proofs.YtgdcnenlelckhaaGreatDoor
open Go.RowKit Go.Proofs.YtgdcnenlelckhaaGreatDoorW.PrintWords
open SlS SlT
theorem XV.fin3 {w : World} {p rv g c : Nat} {S : Nat → Prop} {sf cu : Nat} {x : XS} {W : World} (h : XV w p rv g c S sf cu x W) (hrv : w.heap.size ≤ rv) :
    (((W.setCell ⟨rv, 0, none⟩ (.int .i64 (sf : Int))).setCell ⟨rv, 1, none⟩ (.slice (some ⟨g, 0, none⟩) 64 c)).setCell ⟨rv, 2, none⟩ (.int .u64 (cu : Int))).heap[rv]? = some (.cells #[.int .i64 (sf : Int), .slice (some ⟨g, 0, none⟩) 64 c, .int .u64 (cu : Int)] 51 (0, 0)) ∧
    XOut w g c sf cu S x (.returned (.agg #[.int .i64 (sf : Int), .slice (some ⟨g, 0, none⟩) 64 c, .int .u64 (cu : Int)])) (((W.setCell ⟨rv, 0, none⟩ (.int .i64 (sf : Int))).setCell ⟨rv, 1, none⟩ (.slice (some ⟨g, 0, none⟩) 64 c)).setCell ⟨rv, 2, none⟩ (.int .u64 (cu : Int))) := by
  obtain ⟨r1, r2⟩ := rv_fin h.rvb (.int .i64 (sf : Int)) (.slice (some ⟨g, 0, none⟩) 64 c) (.int .u64 (cu : Int))
  exact ⟨r1, rfl, h.xw.row.keep r2 (fun e => h.rne e.symm), h.xw.but.trans r2 (fun k hk e => by omega)⟩
theorem less_and (y k : Nat) (hy : y < 18446744073709551616) (hk : k < 64) : bits .andNot .u64 (y : Int) (2 ^ k) = ((lessN y (2 ^ k) : Nat) : Int) := by
  have := andNot64 y (2 ^ k) hy (pow_lt64 hk)
  rw [Int.natCast_pow] at this
  exact this
theorem or_pow (y k : Nat) (hy : y < 18446744073709551616) (hk : k < 64) : bits .or .u64 (y : Int) (2 ^ k) = ((y ||| 2 ^ k : Nat) : Int) := by
  have := or64 y (2 ^ k) hy (pow_lt64 hk)
  rw [Int.natCast_pow] at this
  exact this
/-- the slot is a node's, of the first nodes -/
def ownX (x : XS) (s n k : Nat) : XS := { x with cl := fun o j => if o < k ∧ j = s / 64 then (if o = n then lessN (x.cl o j) (2 ^ (s % 64)) ||| 2 ^ (s % 64) else lessN (x.cl o j) (2 ^ (s % 64))) else x.cl o j }
set_option maxHeartbeats 2000000 in
set_option maxRecDepth 100000 in
theorem xowned_calls {g c sf cu : Nat} {x : XS} (w : World) (h : XR w g x) (s n : Nat) (hs : s < 16384) (hn : n < 64) : Calls Tryz.prog 62 #[.agg #[.int .i64 (sf : Int), .slice (some ⟨g, 0, none⟩) 64 c, .int .u64 (cu : Int)], .int .i64 s, .int .i64 n] w (XOut w g c sf cu (fun k => k = g) (giveX x s n)) := by
  have hX := xv_start (c := c) (sf := sf) (cu := cu) (fun k => k = g) h
  have hwp := wrap_pow (k := s % 64) (by omega)
  have hlt := h.clLt
  have hgl := h.lt
  clear h
  have hX := Lib.hid hX
  go_enter Tryz.func62, Tryz.ntmps62
  go_wp2_with fail
  replace hX := hX.out
  generalize World.alloc _ (.cells #[.int .i64 0, .slice none 0 0, .int .u64 0] 51) = W0 at *
  go_loopw [8] (fun i wr => ∃ k : Nat, k ≤ 64 ∧ i = .int .i64 k ∧ XV w w.heap.size (w.heap.size + 1) g c (fun k => k = g) sf cu (ownX x s n k) wr) (fun i _ => 64 - (intOf i).toNat)
  case atStart => exact ⟨0, by omega, rfl, hX.keep (S2 := fun _ => False) (but_below (Below.refl _ _) _) (fun _ _ h => h.elim) (fun h => h) (fun h => h) (hX.xw.row.congr (fun _ _ => rfl) (fun o j _ _ => by simp [ownX]))⟩
  case round =>
    clear hX
    obtain ⟨k, hk, rfl, hX⟩ := hrel
    have c1 := hX.xw.x1
    by_cases hk6 : k < 64
    · have hgo : decide ((k : Int) < 64) = true := decide_eq_true (by omega)
      have c2 := hX.xw.row.atCl k (s / 64) hk6 (by omega)
      have c3 := hX.xw.row.thaw (k * 257 + 1 + s / 64)
      have hcl : (ownX x s n k).cl k (s / 64) = x.cl k (s / 64) := by show (if k < k ∧ _ then (if k = n then _ else _) else _) = _; rw [if_neg (fun h => by omega)]
      rw [hcl] at c2
      have hy := hlt k (s / 64) hk6 (by omega)
      have hA := less_and (x.cl k (s / 64)) (s % 64) hy (by omega)
      have hly : lessN (x.cl k (s / 64)) (2 ^ (s % 64)) < 18446744073709551616 := less_lt _ _ hy
      have hO := or_pow (lessN (x.cl k (s / 64)) (2 ^ (s % 64))) (s % 64) hly (by omega)
      have hoy : lessN (x.cl k (s / 64)) (2 ^ (s % 64)) ||| 2 ^ (s % 64) < 18446744073709551616 := Nat.or_lt_two_pow (n := 64) (by simpa using hly) (by simpa using pow_lt64 (show s % 64 < 64 by omega))
      have hX2 := hX.put rfl (hX.xw.row.clSet k (s / 64) hk6 (by omega) _ hly)
      by_cases hkn : k = n
      · subst hkn
        have hX3 := hX2.put rfl (hX2.xw.row.clSet k (s / 64) hk6 (by omega) _ hoy)
        have hX4 : XV w w.heap.size (w.heap.size + 1) g c (fun k => k = g) sf cu (ownX x s k (k + 1)) _ := hX3.keep (S2 := fun _ => False) (but_below (Below.refl _ _) _) (fun _ _ h => h.elim) (fun h => h) (fun h => h) (hX3.xw.row.congr (fun _ _ => rfl) (fun o j ho hj => by
          show (if o = k ∧ j = s / 64 then _ else if o = k ∧ j = s / 64 then _ else if o < k ∧ j = s / 64 then (if o = k then _ else _) else x.cl o j) = if o < k + 1 ∧ j = s / 64 then (if o = k then _ else _) else x.cl o j
          by_cases h1 : o = k ∧ j = s / 64
          · obtain ⟨rfl, rfl⟩ := h1
            rw [if_pos ⟨rfl, rfl⟩, if_pos (show o < o + 1 ∧ s / 64 = s / 64 from ⟨by omega, rfl⟩), if_pos rfl]
          · rw [if_neg h1, if_neg h1]
            by_cases h2 : o < k ∧ j = s / 64
            · rw [if_pos h2, if_pos (show o < k + 1 ∧ j = s / 64 from ⟨by omega, h2.2⟩)]
            · rw [if_neg h2, if_neg (show ¬ (o < k + 1 ∧ j = s / 64) from fun h => by omega)]))
        have hX4 := Lib.hid hX4
        clear hX hX2 hX3 hcl hlt hy hly hoy
        generalize lessN (x.cl k (s / 64)) (2 ^ (s % 64)) ||| 2 ^ (s % 64) = z2 at *
        generalize lessN (x.cl k (s / 64)) (2 ^ (s % 64)) = z1 at *
        generalize x.cl k (s / 64) = y at *
        go_wp2_with fail
        go_region
        go_wp2_with fail
        go_region
        go_wp2_with fail
        exact ⟨⟨k + 1, by omega, by go_num, by first | exact hX4.out | exact hX4.out.drew | exact hX4.out.drew.drew⟩, by simp [intOf]; omega⟩
      · have hd : ((k : Int) == (n : Int)) = false := beq_eq_false_iff_ne.2 (by omega)
        have hX4 : XV w w.heap.size (w.heap.size + 1) g c (fun k => k = g) sf cu (ownX x s n (k + 1)) _ := hX2.keep (S2 := fun _ => False) (but_below (Below.refl _ _) _) (fun _ _ h => h.elim) (fun h => h) (fun h => h) (hX2.xw.row.congr (fun _ _ => rfl) (fun o j ho hj => by
          show (if o = k ∧ j = s / 64 then _ else if o < k ∧ j = s / 64 then (if o = n then _ else _) else x.cl o j) = if o < k + 1 ∧ j = s / 64 then (if o = n then _ else _) else x.cl o j
          by_cases h1 : o = k ∧ j = s / 64
          · obtain ⟨rfl, rfl⟩ := h1
            rw [if_pos ⟨rfl, rfl⟩, if_pos (show o < o + 1 ∧ s / 64 = s / 64 from ⟨by omega, rfl⟩), if_neg hkn]
          · rw [if_neg h1]
            by_cases h2 : o < k ∧ j = s / 64
            · rw [if_pos h2, if_pos (show o < k + 1 ∧ j = s / 64 from ⟨by omega, h2.2⟩)]
            · rw [if_neg h2, if_neg (show ¬ (o < k + 1 ∧ j = s / 64) from fun h => by omega)]))
        have hX4 := Lib.hid hX4
        clear hX hX2 hcl hlt hy hly hoy hO
        generalize lessN (x.cl k (s / 64)) (2 ^ (s % 64)) = z1 at *
        generalize x.cl k (s / 64) = y at *
        go_wp2_with fail
        go_region
        go_wp2_with fail
        exact ⟨⟨k + 1, by omega, by go_num, by first | exact hX4.out | exact hX4.out.drew⟩, by simp [intOf]; omega⟩
    · obtain rfl : k = 64 := by omega
      have hX4 : XV w w.heap.size (w.heap.size + 1) g c (fun k => k = g) sf cu (giveX x s n) wr := hX.keep (S2 := fun _ => False) (but_below (Below.refl _ _) _) (fun _ _ h => h.elim) (fun h => h) (fun h => h) (hX.xw.row.congr (fun _ _ => rfl) (fun o j ho hj => by
        show (if o < 64 ∧ j = s / 64 then (if o = n then _ else _) else x.cl o j) = if j = s / 64 then (if o = n then _ else _) else x.cl o j
        by_cases h1 : j = s / 64
        · rw [if_pos ⟨ho, h1⟩, if_pos h1]
        · rw [if_neg (fun h => h1 h.2), if_neg h1]))
      have x0 := hX.xw.x0
      have x2 := hX.xw.x2
      obtain ⟨q0, q1, q2, q3, q4, q5⟩ := rv_cells hX.rvb
      obtain ⟨f1, f2⟩ := hX4.fin3 (Nat.le_succ _)
      have f1 := Lib.hid f1
      have f2 := Lib.hid f2
      clear hX hX4 hlt
      go_wp2_with fail
      refine bodyPost_ret (results_cell_row Tryz.results62 _ _ (w.heap.size + 1) 51 _ (0, 0) _ rfl f1.out Tryz.underlying51 rfl (info51 _ _ _)) rfl f2.out
end Go.Proofs.YtgdcnenlelckhaaGreatDoor

namespace Go.Proofs.YtgdcnenlelckhaaGreatDoor
open Go.RowKit Go.Proofs.YtgdcnenlelckhaaGreatDoorW.PrintWords
open SlS SlT
structure ClX (w : World) (g c : Nat) (ck : Array Value) (sf cu : Nat) (x : XS) (W : World) : Prop where
  xv : XV w w.heap.size (w.heap.size + 1 + 1) g c (fun k => k = g) sf cu x W
  pb : W.heap[w.heap.size + 1]? = some (.cells ck 67 (0, 0))
  glt : g < w.heap.size
theorem ClX.put {w : World} {g c : Nat} {ck : Array Value} {sf cu : Nat} {x x' : XS} {W : World} (h : ClX w g c ck sf cu x W) {i : Nat} {v : Value} (hr : XR (W.setCell ⟨g, i, none⟩ v) g x') : ClX w g c ck sf cu x' (W.setCell ⟨g, i, none⟩ v) :=
  ⟨h.xv.put rfl hr, (((But.refl (fun k => k = g) W).set (p := ⟨g, i, none⟩) (fun _ => rfl) v).block _ (blk_lt h.pb) (by have := h.glt; omega)).trans h.pb, h.glt⟩
theorem ClX.congr {w : World} {g c : Nat} {ck : Array Value} {sf cu : Nat} {x x' : XS} {W : World} (h : ClX w g c ck sf cu x W) (h1 : ∀ n, n < 64 → x.ep n = x'.ep n) (h2 : ∀ n i, n < 64 → i < 256 → x.cl n i = x'.cl n i) : ClX w g c ck sf cu x' W :=
  ⟨h.xv.keep (S2 := fun _ => False) (but_below (Below.refl _ _) _) (fun _ _ h => h.elim) (fun h => h) (fun h => h) (h.xv.xw.row.congr h1 h2), h.pb, h.glt⟩
theorem ClX.drew {w : World} {g c : Nat} {ck : Array Value} {sf cu : Nat} {x : XS} {W : World} (h : ClX w g c ck sf cu x W) : ClX w g c ck sf cu x W.drew :=
  ⟨h.xv.drew, ((below_drew (Below.refl W.heap.size W)).block _ (blk_lt h.pb)).trans h.pb, h.glt⟩
theorem clX_start {w : World} {g c sf cu : Nat} {x : XS} {ck : Array Value} (h : XR w g x) : ClX w g c ck sf cu x (((w.alloc (.cells #[.int .i64 (sf : Int), .slice (some ⟨g, 0, none⟩) 64 c, .int .u64 (cu : Int)] 51)).alloc (.cells ck 67)).alloc (.cells #[.int .i64 0, .slice none 0 0, .int .u64 0] 51)) := by
  have hg := h.lt
  have h1 := xw_start (c := c) (sf := sf) (cu := cu) (fun k => k = g) h
  have s1 : (w.alloc (.cells #[.int .i64 (sf : Int), .slice (some ⟨g, 0, none⟩) 64 c, .int .u64 (cu : Int)] 51)).heap.size = w.heap.size + 1 := by simp
  generalize w.alloc (.cells #[.int .i64 (sf : Int), .slice (some ⟨g, 0, none⟩) 64 c, .int .u64 (cu : Int)] 51) = w1 at *
  have q2 : (w1.alloc (.cells ck 67)).heap[w.heap.size + 1]? = some (.cells ck 67 (0, 0)) := by rw [← s1]; exact heapN w1 _
  have s2 : (w1.alloc (.cells ck 67)).heap.size = w.heap.size + 1 + 1 := by simp [s1]
  have h2 := h1.below (below_new' w1 (.cells ck 67))
  generalize w1.alloc (.cells ck 67) = w2 at *
  have n3 := below_new' w2 (.cells #[.int .i64 0, .slice none 0 0, .int .u64 0] 51)
  refine ⟨⟨h2.below n3, by rw [← s2]; exact heapN w2 _, by omega, by omega⟩, (n3.block _ (by omega)).trans q2, hg⟩
theorem clX_start2 {w w1 : World} {g c sf cu : Nat} {x : XS} {ck : Array Value} (h : XR w1 g x) (hb : But (fun k => k = g) w w1) (hs : w1.heap.size = w.heap.size) : ClX w g c ck sf cu x (((w1.alloc (.cells #[.int .i64 (sf : Int), .slice (some ⟨g, 0, none⟩) 64 c, .int .u64 (cu : Int)] 51)).alloc (.cells ck 67)).alloc (.cells #[.int .i64 0, .slice none 0 0, .int .u64 0] 51)) := by
  have h1 := clX_start (c := c) (sf := sf) (cu := cu) (ck := ck) h
  have b := h1.xv.xw.box
  have v := h1.xv.rvb
  have p := h1.pb
  have a1 := h1.xv.xw.ne
  have a2 := h1.xv.rne
  have a3 := h1.xv.pne
  have a4 := h1.glt
  rw [hs] at b v p a1 a2 a3 a4
  exact ⟨⟨⟨hb.trans h1.xv.xw.but (fun _ _ h => h), b, h1.xv.xw.row, a1⟩, v, a2, a3⟩, p, a4⟩
def xI (x : XS) (n e : Nat) (p : Nat → Nat) (i : Nat) : XS := { x with ep := upd x.ep n e, cl := fun o j => if j < i then (claimX x n e p).cl o j else x.cl o j }
def xM (x : XS) (n e : Nat) (p : Nat → Nat) (i m won : Nat) : XS := { x with ep := upd x.ep n e, cl := fun o j => if j < i then (claimX x n e p).cl o j else if j = i ∧ o < m then lessN (x.cl o j) won else x.cl o j }
def gK (x : XS) (n e i o : Nat) : Nat := if o ≠ n ∧ e ≤ x.ep o then x.cl o i else 0
theorem gK_all (x : XS) (n e i : Nat) : orN 64 (gK x n e i) = keptX x n e i := rfl
theorem orK_lt {x : XS} {n e i : Nat} (hi : i < 256) (hc : ∀ n i, n < 64 → i < 256 → x.cl n i < 18446744073709551616) : ∀ m, m ≤ 64 → orN m (gK x n e i) < 18446744073709551616
  | 0, _ => Nat.zero_lt_succ _
  | m + 1, hm => by
    rw [orN_succ]
    refine Nat.or_lt_two_pow (n := 64) (orK_lt hi hc m (by omega)) ?_
    unfold gK
    split
    · exact hc m i (by omega) hi
    · decide
set_option maxHeartbeats 4000000 in
set_option maxRecDepth 100000 in
theorem xclaim_calls {g c sf cu : Nat} {x : XS} (w : World) (h : XR w g x) (n : Nat) (hn : n < 64) (ck : Array Value) (q : Pkt) (hq : PkIs ck q) : Calls Tryz.prog 85 #[.agg #[.int .i64 (sf : Int), .slice (some ⟨g, 0, none⟩) 64 c, .int .u64 (cu : Int)], .int .i64 n, .agg ck] w (XOut w g c sf cu (fun k => k = g) (claimX x n q.ep q.cl)) := by
  have hlt := h.clLt
  obtain ⟨r0, r1, r2, r3, r4, r5⟩ := hq.at
  obtain ⟨l1, l2, l3⟩ := hq.lts
  have hep := h.epLt
  have hg := h.lt
  have hX := clX_start (c := c) (sf := sf) (cu := cu) (ck := ck) h
  clear h
  go_enter Tryz.func85, Tryz.ntmps85
  refine wp_cut (fun a W => a = ⟨#[.agg #[.int .i64 (sf : Int), .slice (some ⟨g, 0, none⟩) 64 c, .int .u64 (cu : Int)], .int .i64 n, .agg ck, .pointer (some ⟨w.heap.size, 0, none⟩), undef, .pointer (some ⟨w.heap.size + 1, 0, none⟩), .pointer (some ⟨w.heap.size + 1 + 1, 0, none⟩), undef, undef, undef, undef, undef, undef, undef, undef, undef, undef, undef, undef, undef, undef, undef, undef, undef, undef, undef, undef, undef, undef, undef, undef, undef, undef, undef, undef, undef, undef, undef, undef, undef, undef, undef, undef, undef, undef, undef, undef, undef, undef, undef, undef, undef, undef, undef, undef, undef, undef, undef, undef, undef, undef, undef, undef, undef, undef, undef, undef, undef, undef, undef, undef, undef, undef, undef, undef, undef, undef, undef, undef, undef, undef, undef, undef, undef, undef, undef, undef, undef, undef, undef, undef, undef, undef], []⟩ ∧ ClX w g c ck sf cu x W) ?_ ?_
  · replace hX := Lib.hid hX
    go_wp2_with fail
    exact ⟨trivial, hX.out⟩
  clear hX
  rintro a W ⟨rfl, hX⟩
  have e1 := hX.xv.xw.x1
  have e3 : W.cell? ⟨w.heap.size + 1, 3, none⟩ = some (.int .u64 (q.ep : Int)) := by rw [cellBox hX.pb]; exact r3
  have e4 := hX.xv.xw.row.atEp n hn
  have e5 := hX.xv.xw.row.thaw (n * 257)
  have hX2 := hX.put (hX.xv.xw.row.epSet n hn q.ep l1)
  have hX3 : ClX w g c ck sf cu (xI x n q.ep q.cl 0) _ := hX2.congr (fun _ _ => rfl) (fun o j _ _ => by simp [xI, xEp])
  replace hX3 := Lib.hid hX3
  clear hX hX2
  generalize x.ep n = y0 at *
  go_wp2_with fail
  replace hX3 := hX3.out
  clear e1 e3 e4 e5
  generalize W.setCell _ _ = W0 at *
  go_loopw [7, 8, 9, 10, 11] (fun i _ _ _ _ wr => ∃ k : Nat, k ≤ 256 ∧ i = .int .i64 k ∧ ClX w g c ck sf cu (xI x n q.ep q.cl k) wr) (fun i _ _ _ _ _ => 256 - (intOf i).toNat)
  case atStart => exact ⟨0, by omega, rfl, hX3⟩
  case round =>
    clear hX3
    obtain ⟨k, hk, rfl, hX⟩ := hrel
    by_cases hk6 : k < 256
    · have hgo : decide ((k : Int) < 256) = true := decide_eq_true (by omega)
      obtain ⟨wo, rfl⟩ : ∃ wo : World, wo = wr := ⟨_, rfl⟩
      have hX := Lib.hid hX
      go_wp2_with fail
      go_loopw [8, 9] (fun kv m wr => ∃ j : Nat, j ≤ 64 ∧ m = .int .i64 j ∧ kv = .int .u64 (orN j (gK x n q.ep k) : Nat) ∧ ClX w g c ck sf cu (xI x n q.ep q.cl k) wr) (fun _ m _ => 64 - (intOf m).toNat)
      case atStart => exact ⟨0, by omega, rfl, rfl, hX.out⟩
      case round =>
        clear hX
        obtain ⟨j, hj, rfl, rfl, hX⟩ := hrel
        have x1 := hX.xv.xw.x1
        by_cases hj6 : j < 64
        · have hgo2 : decide ((j : Int) < 64) = true := decide_eq_true (by omega)
          have hol := orK_lt (e := q.ep) (n := n) hk6 hlt j (by omega)
          have hsucc := orN_succ j (gK x n q.ep k)
          by_cases hjn : j = n
          · have hd : ((j : Int) != (n : Int)) = false := by rw [hjn]; simp
            have hg0 : gK x n q.ep k j = 0 := by unfold gK; rw [if_neg (fun h => h.1 hjn)]
            rw [hg0, Nat.or_zero] at hsucc
            have hsucc := Lib.hid hsucc
            have hX2 := Lib.hid hX.drew
            clear hX hlt hep r5 l3 hg0 hjn
            generalize orN j (gK x n q.ep k) = K0 at *
            go_wp2_with fail
            go_region
            go_wp2_with fail
            exact ⟨⟨j + 1, by omega, by go_num, by rw [hsucc.out], hX2.out⟩, by simp [intOf]; omega⟩
          · have hd : ((j : Int) != (n : Int)) = true := bne_iff_ne.2 (by omega)
            have c3 : wr.cell? ⟨w.heap.size + 1, 3, none⟩ = some (.int .u64 (q.ep : Int)) := by rw [cellBox hX.pb]; exact r3
            have c4 := hX.xv.xw.row.atEp j hj6
            have hepj : (xI x n q.ep q.cl k).ep j = x.ep j := by show (if j = n then q.ep else x.ep j) = x.ep j; rw [if_neg hjn]
            rw [hepj] at c4
            have hepl := hep j hj6
            by_cases hle : q.ep ≤ x.ep j
            · have hd2 : decide ((q.ep : Int) ≤ ((x.ep j : Nat) : Int)) = true := decide_eq_true (by omega)
              have hd3 : (q.ep : Int) ≤ ((x.ep j : Nat) : Int) := by omega
              have hg0 : gK x n q.ep k j = x.cl j k := by unfold gK; rw [if_pos ⟨hjn, hle⟩]
              rw [hg0] at hsucc
              have c5 := hX.xv.xw.row.atCl j k hj6 hk6
              have hclj : (xI x n q.ep q.cl k).cl j k = x.cl j k := by show (if k < k then _ else x.cl j k) = x.cl j k; rw [if_neg (by omega)]
              rw [hclj] at c5
              have hO := or64 (orN j (gK x n q.ep k)) (x.cl j k) hol (hlt j k hj6 hk6)
              have hsucc := Lib.hid hsucc
              have hX2 := Lib.hid hX.drew
              clear hX hlt hep r5 l3 hg0 hjn hclj hepj hle
              generalize orN j (gK x n q.ep k) ||| x.cl j k = K1 at *
              generalize orN j (gK x n q.ep k) = K0 at *
              generalize x.cl j k = y at *
              generalize x.ep j = z at *
              go_wp2_with fail
              go_region
              go_wp2_with fail
              exact ⟨⟨j + 1, by omega, by go_num, by rw [hsucc.out], hX2.out⟩, by simp [intOf]; omega⟩
            · have hd2 : decide ((q.ep : Int) ≤ ((x.ep j : Nat) : Int)) = false := decide_eq_false (by omega)
              have hd3 : ¬ (q.ep : Int) ≤ ((x.ep j : Nat) : Int) := by omega
              have hg0 : gK x n q.ep k j = 0 := by unfold gK; rw [if_neg (fun h => hle h.2)]
              rw [hg0, Nat.or_zero] at hsucc
              have hsucc := Lib.hid hsucc
              have hX2 := Lib.hid hX.drew
              clear hX hlt hep r5 l3 hg0 hjn hepj hle
              generalize orN j (gK x n q.ep k) = K0 at *
              generalize x.ep j = z at *
              go_wp2_with fail
              go_region
              go_wp2_with fail
              exact ⟨⟨j + 1, by omega, by go_num, by rw [hsucc.out], hX2.out⟩, by simp [intOf]; omega⟩
        · obtain rfl : j = 64 := by omega
          have hgo2 : decide (((64 : Nat) : Int) < 64) = false := by decide
          have hkl := orK_lt (e := q.ep) (n := n) hk6 hlt 64 (Nat.le_refl _)
          rw [gK_all] at hkl ⊢
          have c5 : wr.cell? ⟨w.heap.size + 1, 5 + k, none⟩ = some (.int .u64 (q.cl k : Int)) := by rw [cellBox hX.pb]; exact r5 k hk6
          have hN := andNot64 (q.cl k) (keptX x n q.ep k) (l3 k) hkl
          have hwl : lessN (q.cl k) (keptX x n q.ep k) < 18446744073709551616 := less_lt _ _ (l3 k)
          change bits .andNot .u64 ((q.cl k : Nat) : Int) ((keptX x n q.ep k : Nat) : Int) = ((lessN (q.cl k) (keptX x n q.ep k) : Nat) : Int) at hN
          have hstart : ClX w g c ck sf cu (xM x n q.ep q.cl k 0 (lessN (q.cl k) (keptX x n q.ep k))) wr := hX.congr (fun _ _ => rfl) (fun o j _ _ => by
            show (if j < k then _ else x.cl o j) = if j < k then _ else if j = k ∧ o < 0 then _ else x.cl o j
            rw [if_neg (show ¬ (j = k ∧ o < 0) from fun h => by omega)])
          have hstart := Lib.hid hstart
          have hWon : ∀ o, (claimX x n q.ep q.cl).cl o k = if o = n then lessN (q.cl k) (keptX x n q.ep k) else lessN (x.cl o k) (lessN (q.cl k) (keptX x n q.ep k)) := fun o => rfl
          have hWon := Lib.hid hWon
          clear hX hkl
          generalize hwon : lessN (q.cl k) (keptX x n q.ep k) = won at *
          generalize keptX x n q.ep k = kp at *
          have hwon := Lib.hid hwon
          have r5 := Lib.hid r5
          have l3 := Lib.hid l3
          generalize q.cl k = qk at *
          obtain ⟨wz, rfl⟩ : ∃ wz : World, wz = wr := ⟨_, rfl⟩
          go_wp2_with fail
          go_loopw [11] (fun m wr => ∃ j : Nat, j ≤ 64 ∧ m = .int .i64 j ∧ ClX w g c ck sf cu (xM x n q.ep q.cl k j won) wr) (fun m _ => 64 - (intOf m).toNat)
          case atStart => exact ⟨0, by omega, rfl, hstart.out⟩
          case round =>
            clear hstart
            obtain ⟨j, hj, rfl, hX⟩ := hrel
            have x1 := hX.xv.xw.x1
            by_cases hj6 : j < 64
            · have hgo3 : decide ((j : Int) < 64) = true := decide_eq_true (by omega)
              have d2 := hX.xv.xw.row.atCl j k hj6 hk6
              have d3 := hX.xv.xw.row.thaw (j * 257 + 1 + k)
              have hclj : (xM x n q.ep q.cl k j won).cl j k = x.cl j k := by show (if k < k then _ else if k = k ∧ j < j then _ else x.cl j k) = x.cl j k; rw [if_neg (by omega), if_neg (fun h => by omega)]
              rw [hclj] at d2
              have hA := andNot64 (x.cl j k) won (hlt j k hj6 hk6) hwl
              change bits .andNot .u64 ((x.cl j k : Nat) : Int) ((won : Nat) : Int) = ((lessN (x.cl j k) won : Nat) : Int) at hA
              have hX2 := hX.put (hX.xv.xw.row.clSet j k hj6 hk6 (lessN (x.cl j k) won) (less_lt _ _ (hlt j k hj6 hk6)))
              have hX3 : ClX w g c ck sf cu (xM x n q.ep q.cl k (j + 1) won) _ := hX2.congr (fun _ _ => rfl) (fun o i _ _ => by
                show (if o = j ∧ i = k then lessN (x.cl j k) won else if i < k then _ else if i = k ∧ o < j then lessN (x.cl o i) won else x.cl o i) = if i < k then _ else if i = k ∧ o < j + 1 then lessN (x.cl o i) won else x.cl o i
                by_cases h1 : o = j ∧ i = k
                · obtain ⟨rfl, rfl⟩ := h1
                  rw [if_pos ⟨rfl, rfl⟩, if_neg (show ¬ i < i by omega), if_pos (show i = i ∧ o < o + 1 from ⟨rfl, by omega⟩)]
                · rw [if_neg h1]
                  by_cases h2 : i < k
                  · rw [if_pos h2, if_pos h2]
                  · rw [if_neg h2, if_neg h2]
                    by_cases h3 : i = k ∧ o < j
                    · rw [if_pos h3, if_pos (show i = k ∧ o < j + 1 from ⟨h3.1, by omega⟩)]
                    · rw [if_neg h3, if_neg (show ¬ (i = k ∧ o < j + 1) from fun h => by omega)])
              have hX3 := Lib.hid hX3.drew
              clear hX hX2 hlt hep hclj hWon
              generalize lessN (x.cl j k) won = z at *
              generalize x.cl j k = y at *
              go_wp2_with fail
              go_region
              go_wp2_with fail
              exact ⟨⟨j + 1, by omega, by go_num, hX3.out⟩, by simp [intOf]; omega⟩
            · obtain rfl : j = 64 := by omega
              have hgo3 : decide (((64 : Nat) : Int) < 64) = false := by decide
              have d2 := hX.xv.xw.row.atCl n k hn hk6
              have d3 := hX.xv.xw.row.thaw (n * 257 + 1 + k)
              have hX2 := hX.put (hX.xv.xw.row.clSet n k hn hk6 won hwl)
              have hX3 : ClX w g c ck sf cu (xI x n q.ep q.cl (k + 1)) _ := hX2.congr (fun _ _ => rfl) (fun o i ho _ => by
                show (if o = n ∧ i = k then won else if i < k then (claimX x n q.ep q.cl).cl o i else if i = k ∧ o < 64 then lessN (x.cl o i) won else x.cl o i) = if i < k + 1 then (claimX x n q.ep q.cl).cl o i else x.cl o i
                by_cases h2 : i < k
                · rw [if_neg (show ¬ (o = n ∧ i = k) from fun h => by omega), if_pos h2, if_pos (show i < k + 1 by omega)]
                · by_cases h3 : i = k
                  · subst h3
                    rw [if_pos (show i < i + 1 by omega), hWon.out o]
                    by_cases h4 : o = n
                    · rw [if_pos ⟨h4, rfl⟩, if_pos h4]
                    · rw [if_neg (fun h => h4 h.1), if_neg (show ¬ i < i by omega), if_pos ⟨rfl, ho⟩, if_neg h4]
                  · rw [if_neg (show ¬ (o = n ∧ i = k) from fun h => h3 h.2), if_neg h2, if_neg (show ¬ (i = k ∧ o < 64) from fun h => h3 h.1), if_neg (show ¬ i < k + 1 by omega)])
              have hX3 := Lib.hid hX3
              clear hX hX2 hlt hep hWon
              generalize (xM x n q.ep q.cl k 64 won).cl n k = y at *
              go_wp2_with fail
              exact ⟨⟨k + 1, by omega, by go_num, hX3.out⟩, by simp [intOf]; omega⟩
    · obtain rfl : k = 256 := by omega
      have hgo : decide (((256 : Nat) : Int) < 256) = false := by decide
      have hX4 := hX.congr (x' := claimX x n q.ep q.cl) (fun _ _ => rfl) (fun o i _ hi => by show (if i < 256 then _ else _) = _; rw [if_pos hi])
      have x0 := hX.xv.xw.x0
      have x1 := hX.xv.xw.x1
      have x2 := hX.xv.xw.x2
      obtain ⟨q0, q1, q2, q3, q4, q5⟩ := rv_cells hX.xv.rvb
      obtain ⟨f1, f2⟩ := hX4.xv.fin3 (by omega)
      have f1 := Lib.hid f1
      have f2 := Lib.hid f2
      clear hX hX4 hlt hep r5 l3
      go_wp2_with fail
      refine bodyPost_ret (results_cell_row Tryz.results85 _ _ (w.heap.size + 1 + 1) 51 _ (0, 0) _ rfl f1.out Tryz.underlying51 rfl (info51 _ _ _)) rfl f2.out
end Go.Proofs.YtgdcnenlelckhaaGreatDoor

namespace Go.Proofs.YtgdcnenlelckhaaGreatDoor
open Go.RowKit Go.Proofs.YtgdcnenlelckhaaGreatDoorW.PrintWords
open SlS SlT
theorem owner_node (x : XS) (s : Nat) : ownerX x s = -1 ∨ ∃ o : Nat, o < 64 ∧ ownerX x s = o := by
  unfold ownerX
  cases h : (List.range 64).find? (fun n => hasN (x.cl n) s) with
  | none => exact Or.inl rfl
  | some n => exact Or.inr ⟨n, List.mem_range.1 (List.mem_of_find?_eq_some h), rfl⟩
def beatC (x : XS) (fr : Int) (e s : Nat) : Prop := ownerX x s ≠ -1 ∧ ownerX x s ≠ fr ∧ e < x.ep (ownerX x s).toNat
instance (x : XS) (fr : Int) (e s : Nat) : Decidable (beatC x fr e s) := by unfold beatC; infer_instance
theorem beatX_at {x : XS} {fr : Int} {e : Nat} {p : Nat → Nat} {k : Nat} (hk : k < 16384) (h1 : hasN p k = true) (h2 : beatC x fr e k) (hno : ∀ s, s < k → ¬ (hasN p s = true ∧ beatC x fr e s)) : beatX x fr e p = ownerX x k := by
  unfold beatX
  have : ((List.range 16384).filter (hasN p)).find? (fun s => decide (ownerX x s ≠ -1 ∧ ownerX x s ≠ fr ∧ e < x.ep (ownerX x s).toNat)) = some k := by
    rw [List.find?_filter, List.find?_eq_some_iff_getElem]
    refine ⟨decide_eq_true ⟨h1, decide_eq_true h2⟩, k, by simpa using hk, by simp, fun j hj => ?_⟩
    have := hno j hj
    simp only [List.getElem_range]
    rw [Bool.not_eq_true']
    exact decide_eq_false (fun h => this ⟨h.1, of_decide_eq_true h.2⟩)
  rw [this]
theorem beatX_no {x : XS} {fr : Int} {e : Nat} {p : Nat → Nat} (hno : ∀ s, s < 16384 → ¬ (hasN p s = true ∧ beatC x fr e s)) : beatX x fr e p = -1 := by
  unfold beatX
  have : ((List.range 16384).filter (hasN p)).find? (fun s => decide (ownerX x s ≠ -1 ∧ ownerX x s ≠ fr ∧ e < x.ep (ownerX x s).toNat)) = none := by
    rw [List.find?_eq_none]
    intro s hs hd
    obtain ⟨h1, h2⟩ := List.mem_filter.1 hs
    exact hno s (List.mem_range.1 h1) ⟨h2, of_decide_eq_true hd⟩
  rw [this]
structure BeX (w : World) (g c : Nat) (ck : Array Value) (sf cu : Nat) (x : XS) (W : World) : Prop where
  xw : XW w w.heap.size g c (fun _ => False) sf cu x W
  pb : W.heap[w.heap.size + 1]? = some (.cells ck 67 (0, 0))
theorem BeX.below {w : World} {g c : Nat} {ck : Array Value} {sf cu : Nat} {x : XS} {W W' : World} (h : BeX w g c ck sf cu x W) (hb : Below W.heap.size W W') : BeX w g c ck sf cu x W' :=
  ⟨h.xw.below hb, (hb.block _ (blk_lt h.pb)).trans h.pb⟩
theorem beX_start {w : World} {g c sf cu : Nat} {x : XS} {ck : Array Value} (h : XR w g x) : BeX w g c ck sf cu x ((w.alloc (.cells #[.int .i64 (sf : Int), .slice (some ⟨g, 0, none⟩) 64 c, .int .u64 (cu : Int)] 51)).alloc (.cells ck 67)) :=
  ⟨(xw_start (fun _ => False) h).below (below_new' _ _), heap1 w _ _⟩
set_option maxHeartbeats 4000000 in
set_option maxRecDepth 100000 in
theorem xbeaten_calls {g c sf cu : Nat} {x : XS} (w : World) (h : XR w g x) (ck : Array Value) (q : Pkt) (hq : PkIs ck q) : Calls Tryz.prog 86 #[.agg #[.int .i64 (sf : Int), .slice (some ⟨g, 0, none⟩) 64 c, .int .u64 (cu : Int)], .agg ck] w fun r w' => r = .returned (.int .i64 (beatX x q.fr q.ep q.cl)) ∧ Below w.heap.size w w' := by
  have hX := beX_start (c := c) (sf := sf) (cu := cu) (ck := ck) h
  have hep := h.epLt
  obtain ⟨r0, r1, r2, r3, r4, r5⟩ := hq.at
  obtain ⟨l1, l2, l3⟩ := hq.lts
  clear h
  replace hX := Lib.hid hX
  go_enter Tryz.func86, Tryz.ntmps86
  go_wp2_with fail
  replace hX := hX.out
  generalize World.alloc _ (.cells ck 67) = W0 at *
  go_loopw [5, 6] (fun i _ wr => ∃ k : Nat, k ≤ 16384 ∧ i = .int .i64 k ∧ (∀ s, s < k → ¬ (hasN q.cl s = true ∧ beatC x q.fr q.ep s)) ∧ BeX w g c ck sf cu x wr) (fun i _ _ => 16384 - (intOf i).toNat)
  case atStart => exact ⟨0, by omega, rfl, fun s hs => by omega, hX⟩
  case round =>
    clear hX
    obtain ⟨k, hk, rfl, hno, hX⟩ := hrel
    by_cases hk6 : k < 16384
    · have hgo : decide ((k : Int) < 16384) = true := decide_eq_true (by omega)
      have hcl : wr.cell? ⟨w.heap.size + 1, 5 + k / 64, none⟩ = some (.int .u64 (q.cl (k / 64) : Int)) := by rw [cellBox hX.pb]; exact r5 _ (by omega)
      have hbt := bit_of q.cl l3 k
      have more : ¬ (hasN q.cl k = true ∧ beatC x q.fr q.ep k) → ∀ s, s < k + 1 → ¬ (hasN q.cl s = true ∧ beatC x q.fr q.ep s) := fun hx s hs => by
        by_cases e : s = k
        · rw [e]; exact hx
        · exact hno s (by omega)
      cases hB : hasN q.cl k with
      | false =>
        rw [if_neg (by rw [hB]; decide)] at hbt
        have hm := Lib.hid (more (fun h => by rw [hB] at h; exact absurd h.1 (by decide)))
        have hX := Lib.hid hX
        clear more hno hB r5 l3
        generalize q.cl (k / 64) = y at *
        go_wp2_with fail
        exact ⟨⟨k + 1, by omega, by go_num, hm.out, hX.out⟩, by simp [intOf]; omega⟩
      | true =>
        rw [if_pos hB] at hbt
        have x0 := hX.xw.x0
        have x1 := hX.xw.x1
        have x2 := hX.xw.x2
        have hOw := xOwner_calls (c := c) (sf := sf) (cu := cu) wr hX.xw.row k hk6
        replace hOw := Lib.hid hOw
        replace hX := Lib.hid hX
        generalize hy : q.cl (k / 64) = y at *
        clear hy
        rcases owner_node x k with ho | ⟨o, ho, hoe⟩
        · have hm := Lib.hid (more (fun h => h.2.1 ho))
          rw [ho] at hOw
          clear more hno hB r5 l3 ho
          go_wp2_with fail
          refine hOw.out.mono ?_
          rintro r W2 ⟨rfl, hb⟩
          have hX2 := hX.out.below hb
          clear hX hOw hb
          have hX2 := Lib.hid hX2
          go_wp2_with fail
          go_region
          go_wp2_with fail
          exact ⟨⟨k + 1, by omega, by go_num, hm.out, hX2.out.below (below_drew (Below.refl _ _))⟩, by simp [intOf]; omega⟩
        · have hge : decide ((0 : Int) ≤ (o : Int)) = true := decide_eq_true (by omega)
          rw [hoe] at hOw
          by_cases hf : (o : Int) = q.fr
          · have hne : ((o : Int) != q.fr) = false := by rw [hf]; simp
            have hm := Lib.hid (more (fun h => h.2.2.1 (by rw [hoe]; exact hf)))
            clear more hno hB r5 l3 hoe hf
            go_wp2_with fail
            refine hOw.out.mono ?_
            rintro r W2 ⟨rfl, hb⟩
            have hX2 := hX.out.below hb
            have c1 : W2.cell? ⟨w.heap.size + 1, 1, none⟩ = some (.int .i64 q.fr) := by rw [cellBox hX2.pb]; exact r1
            clear hX hOw hb
            have hX2 := Lib.hid hX2
            go_wp2_with fail
            go_region
            go_wp2_with fail
            exact ⟨⟨k + 1, by omega, by go_num, hm.out, hX2.out.below (below_drew (Below.refl _ _))⟩, by simp [intOf]; omega⟩
          · have hne : ((o : Int) != q.fr) = true := bne_iff_ne.2 hf
            by_cases hlt : q.ep < x.ep o
            · have hd : decide ((q.ep : Int) < ((x.ep o : Nat) : Int)) = true := decide_eq_true (by omega)
              have hd2 : (q.ep : Int) < ((x.ep o : Nat) : Int) := by omega
              have hfin := Lib.hid ((beatX_at hk6 hB ⟨by rw [hoe]; omega, by rw [hoe]; exact hf, by rw [hoe, Int.toNat_natCast]; exact hlt⟩ hno).trans hoe)
              have hf := Lib.hid hf
              clear more hno hB r5 l3 hoe hlt
              go_wp2_with fail
              refine hOw.out.mono ?_
              rintro r W2 ⟨rfl, hb⟩
              have hX2 := hX.out.below hb
              have c1 : W2.cell? ⟨w.heap.size + 1, 1, none⟩ = some (.int .i64 q.fr) := by rw [cellBox hX2.pb]; exact r1
              have c3 : W2.cell? ⟨w.heap.size + 1, 3, none⟩ = some (.int .u64 (q.ep : Int)) := by rw [cellBox hX2.pb]; exact r3
              have d1 := hX2.xw.x1
              have d2 := hX2.xw.row.atEp o ho
              clear hX hOw hb
              have hX2 := Lib.hid hX2
              generalize x.ep o = z at *
              go_wp2_with fail
              go_region
              go_wp2_with fail
              go_ret
              exact ⟨by rw [hfin.out]; rfl, (hX2.out.xw.but.drew).below (Nat.le_refl _) (fun _ _ h => h)⟩
            · have hd : decide ((q.ep : Int) < ((x.ep o : Nat) : Int)) = false := decide_eq_false (by omega)
              have hd2 : ¬ (q.ep : Int) < ((x.ep o : Nat) : Int) := by omega
              have hm := Lib.hid (more (fun h => hlt (by have := h.2.2.2; rw [hoe, Int.toNat_natCast] at this; exact this)))
              have hf := Lib.hid hf
              clear more hno hB r5 l3 hoe hlt
              go_wp2_with fail
              refine hOw.out.mono ?_
              rintro r W2 ⟨rfl, hb⟩
              have hX2 := hX.out.below hb
              have c1 : W2.cell? ⟨w.heap.size + 1, 1, none⟩ = some (.int .i64 q.fr) := by rw [cellBox hX2.pb]; exact r1
              have c3 : W2.cell? ⟨w.heap.size + 1, 3, none⟩ = some (.int .u64 (q.ep : Int)) := by rw [cellBox hX2.pb]; exact r3
              have d1 := hX2.xw.x1
              have d2 := hX2.xw.row.atEp o ho
              clear hX hOw hb
              have hX2 := Lib.hid hX2
              generalize x.ep o = z at *
              go_wp2_with fail
              go_region
              go_wp2_with fail
              exact ⟨⟨k + 1, by omega, by go_num, hm.out, hX2.out.below (below_drew (Below.refl _ _))⟩, by simp [intOf]; omega⟩
    · obtain rfl : k = 16384 := by omega
      have hgo : decide (((16384 : Nat) : Int) < 16384) = false := by decide
      have hfin := Lib.hid (beatX_no hno)
      have hb := Lib.hid (hX.xw.but.below (Nat.le_refl _) (fun _ _ h => h))
      clear hno hX r5 l3
      go_wp2_with fail
      go_ret
      exact ⟨by rw [hfin.out]; rfl, hb.out⟩
/-- a packet whose words beyond the slots are nought -/
def trimP (q : Pkt) : Pkt := { q with cl := fun i => if i < 256 then q.cl i else 0 }
theorem app1_zero (v : Value) (b : Array Value) : (#[v] ++ b)[0]? = some v := by rw [Array.getElem?_append_left (by simp)]; rfl
theorem app1_succ (v : Value) (b : Array Value) (j : Nat) : (#[v] ++ b)[j + 1]? = b[j]? := by
  rw [Array.getElem?_append_right (by simp)]
  have e : j + 1 - (#[v] : Array Value).size = j := by simp
  rw [e]
theorem XR.words {W : World} {g : Nat} {x : XS} (h : XR W g x) (n : Nat) (hn : n < 64) : ∃ a, Words a (fun i => if i < 256 then x.cl n i else 0) ∧ W.rangeAt g (n * 257 + 1) a.toList ∧ ∃ y : Array Value, y = #[.int .u64 (x.ep n)] ++ a ∧ W.rangeAt g (n * 257) y.toList := by
  obtain ⟨A, hA, hg⟩ : ∃ A : Array Value, A.size = 256 ∧ ∀ i, i < 256 → A[i]? = some (.int .u64 (x.cl n i)) := ⟨Array.ofFn fun (i : Fin 256) => Value.int .u64 (x.cl n i), Array.size_ofFn, fun i hi => by rw [Array.getElem?_ofFn, dif_pos hi]⟩
  have h1 : W.rangeAt g (n * 257 + 1) A.toList := fun j u hj => by
    rw [Array.getElem?_toList] at hj
    rcases Nat.lt_or_ge j 256 with hlt | hge
    · rw [hg j hlt] at hj
      rw [← hj]
      exact h.atCl n j hn hlt
    · rw [Array.getElem?_eq_none (by omega)] at hj
      cases hj
  refine ⟨A, ⟨hA, fun i hi => by rw [hg i hi, if_pos hi], fun i => ?_⟩, h1, _, rfl, fun j u hj => ?_⟩
  · show (if i < 256 then x.cl n i else 0) < _
    split
    · rename_i hi; exact h.clLt n i hn hi
    · omega
  · rw [Array.getElem?_toList] at hj
    cases j with
    | zero =>
      rw [app1_zero] at hj
      injection hj with hj
      rw [← hj, Nat.add_zero]
      exact h.atEp n hn
    | succ j =>
      rw [app1_succ] at hj
      have := h1 j u (by rw [Array.getElem?_toList]; exact hj)
      rw [show n * 257 + (j + 1) = n * 257 + 1 + j by omega]
      exact this
theorem info87 : (Tryz.prog.info? 87).map (·.size) = some 257 := by kernel_rfl
theorem zsize87 : Tryz.zeroCells87.size = 257 := by kernel_rfl
theorem tellX_pk (x : XS) (kind : Int) (a : Array Value) (ha : Words a (fun i => if i < 256 then x.cl x.self i else 0)) (hep : x.ep x.self < 18446744073709551616) (hcu : x.cur < 18446744073709551616) : PkIs (#[.int .i64 kind, .int .i64 (x.self : Int), .int .i64 0, .int .u64 (x.ep x.self : Int), .int .u64 (x.cur : Int)] ++ a) (trimP (tellX x kind)) := ⟨a, rfl, ha, hep, hcu⟩
set_option maxHeartbeats 4000000 in
set_option maxRecDepth 100000 in
theorem xTell_calls {g c : Nat} {x : XS} (w : World) (h : XR w g x) (hs : x.self < 64) (hcu : x.cur < 18446744073709551616) (kind : Int) : Calls Tryz.prog 60 #[.agg #[.int .i64 (x.self : Int), .slice (some ⟨g, 0, none⟩) 64 c, .int .u64 (x.cur : Int)], .int .i64 kind] w fun r w' => ∃ k, r = .returned (.agg k) ∧ PkIs k (trimP (tellX x kind)) ∧ Below w.heap.size w w' := by
  have hep := h.epLt _ hs
  have h0 := h
  obtain ⟨a, ha, hr1, y, hy, hr2⟩ := h.words x.self hs
  have has := ha.size
  have hgl := h.lt
  have hys : y.size = 257 := by rw [hy, Array.size_append, has]; rfl
  have hyone : y.all (·.oneCell') = true := by rw [hy, Array.all_append, ha.one]; simp [Value.oneCell']
  have hpk := tellX_pk x kind a ha hep hcu
  replace hy := Lib.hid hy
  clear h
  have hX : XW w w.heap.size g c (fun _ => False) x.self x.cur x (w.alloc (.cells #[.int .i64 (x.self : Int), .slice (some ⟨g, 0, none⟩) 64 c, .int .u64 (x.cur : Int)] 51)) := xw_start (fun _ => False) h0
  clear h0
  have hr2' : ∀ W, Below w.heap.size w W → W.rangeAt g (x.self * 257) y.toList := fun W hb j u hj => (hb.cell (p := ⟨g, x.self * 257 + j, none⟩) hgl).trans (hr2 j u hj)
  have hil : (Tryz.prog.info? 87).map (·.size) = some y.toList.length := by rw [Array.length_toList, hys]; exact info87
  have hiy : (Tryz.prog.info? 87).map (·.size) = some y.size := by rw [hys]; exact info87
  have hzy : Tryz.zeroCells87.size = y.size := by rw [hys]; exact zsize87
  have hia : (Tryz.prog.info? 43).map (·.size) = some a.toList.length := info43l ha
  have hbd := build_pk4 ha.size (.int .i64 kind) (.int .i64 (x.self : Int)) (.int .u64 (x.ep x.self : Int)) (.int .u64 (x.cur : Int))
  rw [has] at hbd
  generalize hk : #[Value.int .i64 kind, .int .i64 (x.self : Int), .int .i64 0, .int .u64 (x.ep x.self : Int), .int .u64 (x.cur : Int)] ++ a = k at *
  have hk := Lib.hid hk
  have hks := hpk.size
  have hkone := hpk.one
  have hik : (Tryz.prog.info? 67).map (·.size) = some k.size := by rw [hks]; exact info26
  have hzk : Tryz.zeroCells67.size = k.size := by rw [hks]; exact zero_pk.size
  have hpk := Lib.hid hpk
  have hX2 := hX.below (below_new' _ (.cells Tryz.zeroCells67 67))
  have hrv := heap1 w (.cells #[.int .i64 (x.self : Int), .slice (some ⟨g, 0, none⟩) 64 c, .int .u64 (x.cur : Int)] 51) (.cells Tryz.zeroCells67 67)
  clear hX
  replace hX2 := Lib.hid hX2
  replace hrv := Lib.hid hrv
  go_enter Tryz.func60, Tryz.ntmps60
  refine wp_cut (fun a W => a = ⟨#[.agg #[.int .i64 (x.self : Int), .slice (some ⟨g, 0, none⟩) 64 c, .int .u64 (x.cur : Int)], .int .i64 kind, .pointer (some ⟨w.heap.size, 0, none⟩), undef, .pointer (some ⟨w.heap.size + 1, 0, none⟩), undef, undef, undef, undef, undef, undef, undef, undef, undef, undef, undef, undef, undef, undef, undef, undef, undef], []⟩ ∧ XW w w.heap.size g c (fun _ => False) x.self x.cur x W ∧ W.heap[w.heap.size + 1]? = some (.cells Tryz.zeroCells67 67 (0, 0))) ?_ ?_
  · go_wp2_with fail
    exact ⟨trivial, hX2.out, hrv.out⟩
  clear hX2 hrv
  rintro _ W ⟨rfl, hX, hrv⟩
  have hbel := hX.but.below (n := w.heap.size) (Nat.le_refl _) (fun _ _ h => h)
  have x0 := hX.x0
  have x1 := hX.x1
  have x2 := hX.x2
  have hmid := hr2' W hbel
  have hN := heapN W (.cells Tryz.zeroCells87 87)
  have hst : Below W.heap.size W ((W.alloc (.cells Tryz.zeroCells87 87)).setRow W.heap.size y) := below_setRow (below_new' W _) (Nat.le_refl _) _
  have hbox := setRow_heap _ _ _ y _ _ hN
  have hX3 := hX.below hst
  have hrv3 := (hst.block _ (blk_lt hrv)).trans hrv
  have hst := Lib.hid hst
  have hX3 := Lib.hid hX3
  have hrv3 := Lib.hid hrv3
  have hbox := Lib.hid hbox
  clear hX hrv hr2' hr1 hr2
  generalize hz : x.self = sf at *
  generalize hz2 : x.cur = cu at *
  generalize hz3 : x.ep sf = ep at *
  clear hz hz2 hz3
  refine wp_cut (fun a W => ∃ u, a = ⟨#[.agg #[.int .i64 (sf : Int), .slice (some ⟨g, 0, none⟩) 64 c, .int .u64 (cu : Int)], .int .i64 kind, .pointer (some ⟨w.heap.size, 0, none⟩), undef, .pointer (some ⟨w.heap.size + 1, 0, none⟩), .pointer (some ⟨u, 0, none⟩), .pointer (some ⟨w.heap.size, 1, none⟩), .slice (some ⟨g, 0, none⟩) 64 c, .pointer (some ⟨w.heap.size, 0, none⟩), .int .i64 (sf : Int), .pointer (some ⟨g, sf * 257, none⟩), .agg y, undef, undef, undef, undef, undef, undef, undef, undef, undef, undef], []⟩ ∧ XW w w.heap.size g c (fun _ => False) sf cu x W ∧ W.heap[w.heap.size + 1]? = some (.cells Tryz.zeroCells67 67 (0, 0)) ∧ W.heap[u]? = some (.cells y 87 (0, 0))) ?_ ?_
  · go_wp2_with (first | (refine wpList_load_mid rfl 87 _ rfl g (sf * 257) rfl y.toList _ hmid Tryz.underlying87 rfl hil ?_; rw [Array.toArray_toList]) | (refine wpList_store_row rfl 87 _ _ rfl W.heap.size y rfl rfl 87 Tryz.zeroCells87 hN hiy hzy hyone ?_))
    exact ⟨_, rfl, hX3.out, hrv3.out, hbox.out⟩
  clear hN hmid x0 x1 x2
  rintro _ W5 ⟨u, rfl, hX, hrv, hbox⟩
  have hbel := hX.but.below (n := w.heap.size) (Nat.le_refl _) (fun _ _ h => h)
  have x0 := hX.x0
  have x1 := hX.x1
  have x2 := hX.x2
  have y0 : W5.cell? ⟨u, 0, none⟩ = some (.int .u64 (ep : Int)) := by rw [cellBox hbox, hy.out]; exact app1_zero _ _
  have y1 : W5.rangeAt u 1 a.toList := fun j v hj => by
    rw [cellBox hbox, hy.out, show 1 + j = j + 1 by omega, app1_succ]
    rw [Array.getElem?_toList] at hj
    exact hj
  have hfin := below_setRow hbel (Nat.le_succ _) k (g := w.heap.size + 1)
  have hkb := setRow_heap _ _ _ k _ _ hrv
  have hfin := Lib.hid hfin
  have hkb := Lib.hid hkb
  clear hX
  go_wp2_with (first | (refine wpList_load_mid rfl 43 _ rfl u 1 rfl a.toList _ y1 Tryz.underlying43 rfl hia ?_; rw [Array.toArray_toList]) | (refine wpList_store_row rfl 67 _ _ rfl (w.heap.size + 1) k rfl rfl 67 Tryz.zeroCells67 hrv hik hzk hkone ?_))
  refine bodyPost_ret (results_cell_row Tryz.results60 _ _ (w.heap.size + 1) 67 k (0, 0) _ rfl hkb.out Tryz.underlying67 rfl hik) rfl ⟨k, rfl, hpk.out, hfin.out⟩
end Go.Proofs.YtgdcnenlelckhaaGreatDoor

namespace Go.Proofs.YtgdcnenlelckhaaGreatDoor
open Go.RowKit Go.Proofs.YtgdcnenlelckhaaGreatDoorW.PrintWords
open SlS SlT
/-- a view and a number are answered -/
def XRes (w : World) (g : Nat) (x : XS) (e : Int) (r : Ending) (w' : World) : Prop :=
  ∃ g' c', r = .returned (.tuple #[.agg #[.int .i64 (x.self : Int), .slice (some ⟨g', 0, none⟩) 64 c', .int .u64 (x.cur : Int)], .int .i64 e]) ∧ XR w' g' x ∧ (g' = g ∨ w.heap.size ≤ g') ∧ Below w.heap.size w w'
theorem two_blk (w : World) (a b : Obj) : ((w.alloc a).alloc b).heap[w.heap.size + 1]? = some b := heap1 w a b
theorem XR.two {w : World} {g : Nat} {x : XS} (h : XR w g x) (a b : Obj) : XR ((w.alloc a).alloc b) g x ∧ Below w.heap.size w ((w.alloc a).alloc b) :=
  ⟨(h.below (below_new' _ _)).below (below_new' _ _), (below_new' w a).trans ((below_new' _ b).mono (by simp))⟩
/-- the cells of the answer's place, behind three stores -/
theorem rv3 {W : World} {rv : Nat} (h : W.heap[rv]? = some (.cells #[.int .i64 0, .slice none 0 0, .int .u64 0] 51 (0, 0))) (a b c : Value) :
    (((W.setCell ⟨rv, 0, none⟩ a).setCell ⟨rv, 1, none⟩ b).setCell ⟨rv, 2, none⟩ c).heap[rv]? = some (.cells #[a, b, c] 51 (0, 0)) ∧ But (fun k => k = rv) W (((W.setCell ⟨rv, 0, none⟩ a).setCell ⟨rv, 1, none⟩ b).setCell ⟨rv, 2, none⟩ c) := rv_fin h a b c
def giveE (s n : Int) : Int := if 0 ≤ s ∧ s < 16384 then (if 0 ≤ n ∧ n < 64 then 0 else 150) else 1
def giveR (x : XS) (s n : Int) : XS := if 0 ≤ s ∧ s < 16384 then (if 0 ≤ n ∧ n < 64 then giveX x s.toNat n.toNat else x) else x
set_option maxHeartbeats 2000000 in
set_option maxRecDepth 100000 in
theorem xGive_calls {g c : Nat} {x : XS} (w : World) (h : XR w g x) (s n : Int) : Calls Tryz.prog 40 #[.agg #[.int .i64 (x.self : Int), .slice (some ⟨g, 0, none⟩) 64 c, .int .u64 (x.cur : Int)], .int .i64 s, .int .i64 n] w (XRes w g (giveR x s n) (giveE s n)) := by
  have hgl := h.lt
  have idle : ∀ e, giveR x s n = x → giveE s n = e → XRes w g (giveR x s n) (giveE s n) (.returned (.tuple #[.agg #[.int .i64 (x.self : Int), .slice (some ⟨g, 0, none⟩) 64 c, .int .u64 (x.cur : Int)], .int .i64 e])) ((w.alloc (.cells #[.int .i64 (x.self : Int), .slice (some ⟨g, 0, none⟩) 64 c, .int .u64 (x.cur : Int)] 51)).alloc (.cells #[.int .i64 (x.self : Int), .slice (some ⟨g, 0, none⟩) 64 c, .int .u64 (x.cur : Int)] 51)) := fun e h1 h2 => by
    rw [h1, h2]
    exact ⟨g, c, rfl, (h.two _ _).1, Or.inl rfl, (h.two _ _).2⟩
  by_cases h1 : s < 0
  · have hf := Lib.hid (idle 1 (by unfold giveR; rw [if_neg (by omega)]) (by unfold giveE; rw [if_neg (by omega)]))
    have hd : decide (s < 0) = true := decide_eq_true h1
    clear idle h
    go_enter Tryz.func40, Tryz.ntmps40
    go_wp2_with fail
    refine bodyPost_ret (results_cell_row2 Tryz.results40 _ _ (w.heap.size + 1) 51 _ (0, 0) _ _ rfl rfl (two_blk w _ _) Tryz.underlying51 rfl (info51 _ _ _)) rfl hf.out
  · have hd : decide (s < 0) = false := decide_eq_false h1
    by_cases h2 : 16383 < s
    · have hf := Lib.hid (idle 1 (by unfold giveR; rw [if_neg (by omega)]) (by unfold giveE; rw [if_neg (by omega)]))
      have hd2 : decide (16383 < s) = true := decide_eq_true h2
      clear idle h
      go_enter Tryz.func40, Tryz.ntmps40
      go_wp2_with fail
      refine bodyPost_ret (results_cell_row2 Tryz.results40 _ _ (w.heap.size + 1) 51 _ (0, 0) _ _ rfl rfl (two_blk w _ _) Tryz.underlying51 rfl (info51 _ _ _)) rfl hf.out
    · have hd2 : decide (16383 < s) = false := decide_eq_false h2
      by_cases h3 : n < 0
      · have hf := Lib.hid (idle 150 (by unfold giveR; rw [if_pos (by omega), if_neg (by omega)]) (by unfold giveE; rw [if_pos (by omega), if_neg (by omega)]))
        have hd3 : decide (n < 0) = true := decide_eq_true h3
        clear idle h
        go_enter Tryz.func40, Tryz.ntmps40
        go_wp2_with fail
        refine bodyPost_ret (results_cell_row2 Tryz.results40 _ _ (w.heap.size + 1) 51 _ (0, 0) _ _ rfl rfl (two_blk w _ _) Tryz.underlying51 rfl (info51 _ _ _)) rfl hf.out
      · have hd3 : decide (n < 0) = false := decide_eq_false h3
        by_cases h4 : 63 < n
        · have hf := Lib.hid (idle 150 (by unfold giveR; rw [if_pos (by omega), if_neg (by omega)]) (by unfold giveE; rw [if_pos (by omega), if_neg (by omega)]))
          have hd4 : decide (63 < n) = true := decide_eq_true h4
          clear idle h
          go_enter Tryz.func40, Tryz.ntmps40
          go_wp2_with fail
          refine bodyPost_ret (results_cell_row2 Tryz.results40 _ _ (w.heap.size + 1) 51 _ (0, 0) _ _ rfl rfl (two_blk w _ _) Tryz.underlying51 rfl (info51 _ _ _)) rfl hf.out
        · have hd4 : decide (63 < n) = false := decide_eq_false h4
          clear idle
          obtain ⟨s, rfl⟩ : ∃ q : Nat, s = q := ⟨s.toNat, by omega⟩
          obtain ⟨n, rfl⟩ : ∃ q : Nat, n = q := ⟨n.toNat, by omega⟩
          have hX : giveR x s n = giveX x s n := by unfold giveR; rw [if_pos (by omega), if_pos (by omega)]; rfl
          have hEe : giveE s n = 0 := by unfold giveE; rw [if_pos (by omega), if_pos (by omega)]
          rw [hX, hEe]
          clear hX hEe
          obtain ⟨hR2, hb2⟩ := h.two (.cells #[.int .i64 (x.self : Int), .slice (some ⟨g, 0, none⟩) 64 c, .int .u64 (x.cur : Int)] 51) (.cells #[.int .i64 0, .slice none 0 0, .int .u64 0] 51)
          have hrv := two_blk w (.cells #[.int .i64 (x.self : Int), .slice (some ⟨g, 0, none⟩) 64 c, .int .u64 (x.cur : Int)] 51) (.cells #[.int .i64 0, .slice none 0 0, .int .u64 0] 51)
          have hsz2 : ((w.alloc (.cells #[.int .i64 (x.self : Int), .slice (some ⟨g, 0, none⟩) 64 c, .int .u64 (x.cur : Int)] 51)).alloc (.cells #[.int .i64 0, .slice none 0 0, .int .u64 0] 51)).heap.size = w.heap.size + 1 + 1 := by simp
          have hC := xcopied_calls (c := c) (sf := x.self) (cu := x.cur) _ hR2
          have hrv := Lib.hid hrv
          have hC := Lib.hid hC
          have hb2 := Lib.hid hb2
          clear h hR2
          go_enter Tryz.func40, Tryz.ntmps40
          go_wp2_with fail
          refine hC.out.mono ?_
          rintro r W3 ⟨g', c', rfl, hg', hR3, hb3⟩
          have hO := xowned_calls (c := c') (sf := x.self) (cu := x.cur) W3 hR3 s n (by omega) (by omega)
          have hO := Lib.hid hO
          rw [hsz2] at hg'
          have hrv3 := Lib.hid ((hb3.block _ (by omega)).trans hrv.out)
          have hbw3 := Lib.hid (hb2.out.trans (hb3.mono (by omega)))
          have hsz3 := hb3.size
          clear hC hR3 hb3 hb2 hrv
          go_wp2_with fail
          refine hO.out.mono ?_
          rintro r W4 ⟨rfl, hR4, hb4⟩
          have hrv4 := (hb4.block _ (by omega) (by omega)).trans hrv3.out
          have hbw4 := hbw3.out.trans (hb4.below (n := w.heap.size) (by omega) (fun i hi e => by omega))
          obtain ⟨q0, q1, q2, q3, q4, q5⟩ := rv_cells hrv4
          obtain ⟨f1, f2⟩ := rv_fin hrv4 (.int .i64 (x.self : Int)) (.slice (some ⟨g', 0, none⟩) 64 c') (.int .u64 (x.cur : Int))
          have hfin : XRes w g (giveX x s n) 0 (.returned (.tuple #[.agg #[.int .i64 (x.self : Int), .slice (some ⟨g', 0, none⟩) 64 c', .int .u64 (x.cur : Int)], .int .i64 0])) _ := ⟨g', c', rfl, hR4.keep f2 (by omega), Or.inr (by omega), hbw4.trans (f2.below (n := w.heap.size) (by have := hb4.size; omega) (fun i hi e => by omega))⟩
          have hfin := Lib.hid hfin
          have f1 := Lib.hid f1
          clear hrv4 hR4 hb4 hbw4 f2 hO hrv3 hbw3
          go_wp2_with fail
          refine bodyPost_ret (results_cell_row2 Tryz.results40 _ _ (w.heap.size + 1) 51 _ (0, 0) _ _ rfl rfl f1.out Tryz.underlying51 rfl (info51 _ _ _)) rfl hfin.out
def winX (x : XS) (s least : Nat) : XS := raiseX (maxX (giveX x s x.self) least)
def winE (s : Int) (least : Nat) : Int := if (0 ≤ s ∧ s < 16384) ∧ least ≤ 4611686018427387904 then 0 else 1
def winR (x : XS) (s : Int) (least : Nat) : XS := if (0 ≤ s ∧ s < 16384) ∧ least ≤ 4611686018427387904 then winX x s.toNat least else x
set_option maxHeartbeats 4000000 in
set_option maxRecDepth 100000 in
theorem xWin_calls {g c : Nat} {x : XS} (w : World) (h : XR w g x) (s : Int) (least : Nat) (hs64 : x.self < 64) (hcu : x.cur + 1 < 18446744073709551616) : Calls Tryz.prog 38 #[.agg #[.int .i64 (x.self : Int), .slice (some ⟨g, 0, none⟩) 64 c, .int .u64 (x.cur : Int)], .int .i64 s, .int .u64 least] w (XRes w g (winR x s least) (winE s least)) := by
  have hgl := h.lt
  have idle : ∀ e, winR x s least = x → winE s least = e → XRes w g (winR x s least) (winE s least) (.returned (.tuple #[.agg #[.int .i64 (x.self : Int), .slice (some ⟨g, 0, none⟩) 64 c, .int .u64 (x.cur : Int)], .int .i64 e])) ((w.alloc (.cells #[.int .i64 (x.self : Int), .slice (some ⟨g, 0, none⟩) 64 c, .int .u64 (x.cur : Int)] 51)).alloc (.cells #[.int .i64 (x.self : Int), .slice (some ⟨g, 0, none⟩) 64 c, .int .u64 (x.cur : Int)] 51)) := fun e h1 h2 => by
    rw [h1, h2]
    exact ⟨g, c, rfl, (h.two _ _).1, Or.inl rfl, (h.two _ _).2⟩
  by_cases h1 : s < 0
  · have hf := Lib.hid (idle 1 (by unfold winR; rw [if_neg (by omega)]) (by unfold winE; rw [if_neg (by omega)]))
    have hd : decide (s < 0) = true := decide_eq_true h1
    clear idle h
    go_enter Tryz.func38, Tryz.ntmps38
    go_wp2_with fail
    refine bodyPost_ret (results_cell_row2 Tryz.results38 _ _ (w.heap.size + 1) 51 _ (0, 0) _ _ rfl rfl (two_blk w _ _) Tryz.underlying51 rfl (info51 _ _ _)) rfl hf.out
  · have hd : decide (s < 0) = false := decide_eq_false h1
    by_cases h2 : 16383 < s
    · have hf := Lib.hid (idle 1 (by unfold winR; rw [if_neg (by omega)]) (by unfold winE; rw [if_neg (by omega)]))
      have hd2 : decide (16383 < s) = true := decide_eq_true h2
      clear idle h
      go_enter Tryz.func38, Tryz.ntmps38
      go_wp2_with fail
      refine bodyPost_ret (results_cell_row2 Tryz.results38 _ _ (w.heap.size + 1) 51 _ (0, 0) _ _ rfl rfl (two_blk w _ _) Tryz.underlying51 rfl (info51 _ _ _)) rfl hf.out
    · have hd2 : decide (16383 < s) = false := decide_eq_false h2
      by_cases h3 : 4611686018427387904 < least
      · have hf := Lib.hid (idle 1 (by unfold winR; rw [if_neg (by omega)]) (by unfold winE; rw [if_neg (by omega)]))
        have hd3 : decide ((4611686018427387904 : Int) < (least : Int)) = true := decide_eq_true (by omega)
        have hd4 : (4611686018427387904 : Int) < (least : Int) := by omega
        clear idle h
        go_enter Tryz.func38, Tryz.ntmps38
        go_wp2_with fail
        refine bodyPost_ret (results_cell_row2 Tryz.results38 _ _ (w.heap.size + 1) 51 _ (0, 0) _ _ rfl rfl (two_blk w _ _) Tryz.underlying51 rfl (info51 _ _ _)) rfl hf.out
      · have hd3 : decide ((4611686018427387904 : Int) < (least : Int)) = false := decide_eq_false (by omega)
        have hd4 : ¬ (4611686018427387904 : Int) < (least : Int) := by omega
        clear idle
        obtain ⟨s, rfl⟩ : ∃ q : Nat, s = q := ⟨s.toNat, by omega⟩
        have hX : winR x s least = winX x s least := by unfold winR; rw [if_pos (by omega)]; rfl
        have hEe : winE s least = 0 := by unfold winE; rw [if_pos (by omega)]
        rw [hX, hEe]
        clear hX hEe
        have hX := xv_start (c := c) (sf := x.self) (cu := x.cur) (fun _ => False) h
        have hX := Lib.hid hX
        have hsz2 : ((w.alloc (.cells #[.int .i64 (x.self : Int), .slice (some ⟨g, 0, none⟩) 64 c, .int .u64 (x.cur : Int)] 51)).alloc (.cells #[.int .i64 0, .slice none 0 0, .int .u64 0] 51)).heap.size = w.heap.size + 1 + 1 := by simp
        clear h
        go_enter Tryz.func38, Tryz.ntmps38
        go_wp2_with fail
        have hS := hX.out.drew
        have hsz3 : ((w.alloc (.cells #[.int .i64 (x.self : Int), .slice (some ⟨g, 0, none⟩) 64 c, .int .u64 (x.cur : Int)] 51)).alloc (.cells #[.int .i64 0, .slice none 0 0, .int .u64 0] 51)).drew.heap.size = w.heap.size + 1 + 1 := hsz2
        clear hX hsz2
        refine wp_region_last (S := XV w w.heap.size (w.heap.size + 1) g c (fun _ => False) x.self x.cur x) 6 (by kernel_rfl) ?_
        generalize World.drew _ = W0 at *
        refine wpAnyT_take (i := 0) (oi := ⟨some 19, _, _, _, _, _⟩) (v := .agg #[.int .i64 (x.self : Int), .slice (some ⟨g, 0, none⟩) 64 c, .int .u64 (x.cur : Int)]) rfl (by kernel_rfl) (by kernel_rfl) (by kernel_rfl) (by kernel_rfl) (fun _ _ _ h => h) (Or.inl ⟨by rfl, fun W hW => by have q0 := hW.xw.x0; have q1 := hW.xw.x1; have q2 := hW.xw.x2; go_simp⟩) hS ?_
        try simp only [Act.put, List.setIfInBounds_toArray, List.set_cons_zero, List.set_cons_succ]
        refine wpAnyT_take (i := 2) (oi := ⟨some 21, _, _, _, _, _⟩) (v := .int .i64 s) rfl (by kernel_rfl) (by kernel_rfl) (by kernel_rfl) (by kernel_rfl) (fun _ _ _ h => h) (Or.inl ⟨by rfl, fun W hW => by have q0 := hW.xw.x0; have q1 := hW.xw.x1; have q2 := hW.xw.x2; go_simp⟩) hS ?_
        try simp only [Act.put, List.setIfInBounds_toArray, List.set_cons_zero, List.set_cons_succ]
        refine wpAnyT_take (i := 3) (oi := ⟨some 22, _, _, _, _, _⟩) (v := .pointer (some ⟨w.heap.size, 0, none⟩)) rfl (by kernel_rfl) (by kernel_rfl) (by kernel_rfl) (by kernel_rfl) (fun _ _ _ h => h) (Or.inl ⟨by rfl, fun W hW => by have q0 := hW.xw.x0; have q1 := hW.xw.x1; have q2 := hW.xw.x2; go_simp⟩) hS ?_
        try simp only [Act.put, List.setIfInBounds_toArray, List.set_cons_zero, List.set_cons_succ]
        refine wpAnyT_take (i := 4) (oi := ⟨some 23, _, _, _, _, _⟩) (v := .int .i64 (x.self : Int)) rfl (by kernel_rfl) (by kernel_rfl) (by kernel_rfl) (by kernel_rfl) (fun _ _ _ h => h) (Or.inl ⟨by rfl, fun W hW => by have q0 := hW.xw.x0; have q1 := hW.xw.x1; have q2 := hW.xw.x2; go_simp⟩) hS ?_
        try simp only [Act.put, List.setIfInBounds_toArray, List.set_cons_zero, List.set_cons_succ]
        have hC := xcopied_calls (c := c) (sf := x.self) (cu := x.cur) _ hS.xw.row
        have hC := Lib.hid hC
        refine wpAnyT_one (i := 1) (o := ⟨some 20, _, _, _, _, _⟩) (by kernel_rfl) rfl (fun K hK => ?_)
        go_simp
        refine hC.out.mono ?_
        rintro r W3 ⟨g', c', rfl, hg', hR3, hb3⟩
        have hS3 := hS.below hb3
        have hsz4 := hb3.size
        have hO := xowned_calls (c := c') (sf := x.self) (cu := x.cur) W3 hR3 s x.self (by omega) hs64
        have hO := Lib.hid hO
        have hS3 := Lib.hid hS3
        clear hC hR3 hb3 hS
        go_wp2_with fail
        refine hK.out _ _ (fun _ => hS3.out) ?_
        clear hK K
        try simp only [Act.put, List.setIfInBounds_toArray, List.set_cons_zero, List.set_cons_succ]
        refine wpAnyT_one (i := 5) (o := ⟨some 24, _, _, _, _, _⟩) (by kernel_rfl) rfl (fun K hK => ?_)
        go_simp
        refine hO.out.mono ?_
        rintro r W4 ⟨rfl, hR4, hb4⟩
        have hS4 : XV w w.heap.size (w.heap.size + 1) g c (fun _ => False) x.self x.cur x W4 := hS3.out.keep hb4 (fun k hk e => by omega) (by omega) (by omega) (hS3.out.xw.row.keep hb4 (by omega))
        have hsz5 := hb4.size
        have hS4 := Lib.hid hS4
        clear hS3 hb4 hO
        have hR4 := Lib.hid hR4
        go_wp2_with fail
        refine hK.out _ _ (fun _ => hS4.out) ?_
        clear hK K
        try simp only [Act.put, List.setIfInBounds_toArray, List.set_cons_zero, List.set_cons_succ]
        have hbx := hS4.out.xw.box
        have hX5 : XV w w.heap.size (w.heap.size + 1) g' c' (fun _ => False) x.self x.cur (giveX x s x.self) (W4.setRow w.heap.size #[.int .i64 (x.self : Int), .slice (some ⟨g', 0, none⟩) 64 c', .int .u64 (x.cur : Int)]) := by
          have hb := below_setRow (g := w.heap.size) (hS4.out.xw.but.below (Nat.le_refl w.heap.size) (fun _ _ h => h)) (Nat.le_refl _) #[.int .i64 (x.self : Int), .slice (some ⟨g', 0, none⟩) 64 c', .int .u64 (x.cur : Int)]
          have hb2 : But (fun k => k = w.heap.size) W4 (W4.setRow w.heap.size #[.int .i64 (x.self : Int), .slice (some ⟨g', 0, none⟩) 64 c', .int .u64 (x.cur : Int)]) := by
            have h9 := below_setRow (g := w.heap.size) (Below.refl w.heap.size W4) (Nat.le_refl _) #[.int .i64 (x.self : Int), .slice (some ⟨g', 0, none⟩) 64 c', .int .u64 (x.cur : Int)]
            exact ⟨h9.os, h9.tape, h9.output, h9.size, fun k _ hn => setRow_other _ _ _ _ (fun e => hn e)⟩
          exact ⟨⟨but_below hb _, setRow_heap _ _ _ _ _ _ hbx, hR4.out.keep hb2 (by omega), by omega⟩, (setRow_other _ _ _ _ (by omega)).trans hS4.out.rvb, by omega, by omega⟩
        have hX5 := Lib.hid hX5
        have hbx := Lib.hid hbx
        refine wpAnyT_one (i := 6) (o := ⟨none, _, _, _, _, _⟩) (by kernel_rfl) rfl (fun K hK => ?_)
        refine wp_store_row 51 _ _ rfl w.heap.size #[.int .i64 (x.self : Int), .slice (some ⟨g', 0, none⟩) 64 c', .int .u64 (x.cur : Int)] rfl rfl 51 _ hbx.out (info51 _ _ _) rfl (one51 _ _ _ _) (hK.out _ _ (fun h => absurd rfl h) ?_)
        clear hK K
        try simp only [Act.put, List.setIfInBounds_toArray, List.set_cons_zero, List.set_cons_succ]
        refine wpAnyT_done (by kernel_rfl) ?_ _
        clear hS4 hR4 hbx
        generalize World.setRow _ _ _ = W5 at *
        have hX6 := hX5.out
        have x0 := hX6.xw.x0
        have x1 := hX6.xw.x1
        have x2 := hX6.xw.x2
        have x3 := openBox (i := 2) hX6.xw.box
        have hX7 := hX6.setCu (Nat.le_refl _) (max x.cur least)
        have hmx : ((max x.cur least : Nat) : Int) = max (x.cur : Int) (least : Int) := by omega
        have hRs := xraise_calls (c := c') (sf := x.self) (cu := max x.cur least) _ hX7.xw.row hs64 (by omega)
        rw [hmx] at hRs hX7
        replace hRs := Lib.hid hRs
        replace hX7 := Lib.hid hX7
        clear hX6 hX5
        go_wp2_with fail
        refine hRs.out.mono ?_
        rintro r W8 ⟨rfl, hR8, hb8⟩
        have hbw : Below w.heap.size w W8 := (hX7.out.xw.but.below (n := w.heap.size) (Nat.le_refl _) (fun _ _ h => h)).trans (hb8.below (n := w.heap.size) (hX7.out.xw.but.size) (fun i hi e => by omega))
        have hrv8 := (hb8.block _ (blk_lt hX7.out.rvb) (by omega)).trans hX7.out.rvb
        obtain ⟨q0, q1, q2, q3, q4, q5⟩ := rv_cells hrv8
        obtain ⟨f1, f2⟩ := rv_fin hrv8 (.int .i64 (x.self : Int)) (.slice (some ⟨g', 0, none⟩) 64 c') (.int .u64 ((max x.cur least + 1 : Nat) : Int))
        have hfin : XRes w g (winX x s least) 0 (.returned (.tuple #[.agg #[.int .i64 (x.self : Int), .slice (some ⟨g', 0, none⟩) 64 c', .int .u64 ((max x.cur least + 1 : Nat) : Int)], .int .i64 0])) _ := ⟨g', c', rfl, (hR8.keep f2 (by omega)).congr (fun _ _ => rfl) (fun _ _ _ _ => rfl), Or.inr (by omega), hbw.trans (f2.below (n := w.heap.size) (by have := hbw.size; omega) (fun i hi e => by omega))⟩
        rw [show ((max x.cur least + 1 : Nat) : Int) = max (x.cur : Int) (least : Int) + 1 by omega] at f1 hfin
        have hfin := Lib.hid hfin
        have f1 := Lib.hid f1
        clear hR8 hb8 hbw hrv8 f2 hRs hX7
        go_wp2_with fail
        refine bodyPost_ret (results_cell_row2 Tryz.results38 _ _ (w.heap.size + 1) 51 _ (0, 0) _ _ rfl rfl f1.out Tryz.underlying51 rfl (info51 _ _ _)) rfl hfin.out
end Go.Proofs.YtgdcnenlelckhaaGreatDoor

namespace Go.Proofs.YtgdcnenlelckhaaGreatDoor
open Go.RowKit Go.Proofs.YtgdcnenlelckhaaGreatDoorW.PrintWords
open SlS SlT
inductive TxA (p : Nat) (upd n l o : Value) : Act → Prop
  | mk {u0 u1 u10 u11 u12 u13 u14 u15 u16 u17 u18 u19 u20 u21 u22 u23 u24 u25 u26 u27 u28 u29 u30 u31 u32 u33 u34 u35 u36 u37 u38 u39 u40 u41 u42 u43 u44 u45 u46 u47 u48 u49 u50 u51 u52 u53 u54 u55 u56 u57 u58 u59 u60 u61 u62 u63 u64 u65 u66 u67 u68 u69 u70 u71 u72 u73 u74 u75 u76 u77 u78 u79 u80 u81 u82 u83 u84 u85 u86 u87 u88 u89 u90 u91 u92 u93 u94 u95 u96 u97 u98 u99 u100 u101 u102 u103 u104 u105 u106 u107 u108 u109 u110 u111 u112 u113 u114 u115 u116 u117 u118 u119 u120 u121 u122 u123 u124 u125 : Value} : TxA p upd n l o ⟨#[u0, u1, .pointer (some ⟨p, 0, none⟩), .pointer (some ⟨p + 1, 0, none⟩), .pointer (some ⟨p + 1 + 1, 0, none⟩), .slice none 0 0, upd, n, l, o, u10, u11, u12, u13, u14, u15, u16, u17, u18, u19, u20, u21, u22, u23, u24, u25, u26, u27, u28, u29, u30, u31, u32, u33, u34, u35, u36, u37, u38, u39, u40, u41, u42, u43, u44, u45, u46, u47, u48, u49, u50, u51, u52, u53, u54, u55, u56, u57, u58, u59, u60, u61, u62, u63, u64, u65, u66, u67, u68, u69, u70, u71, u72, u73, u74, u75, u76, u77, u78, u79, u80, u81, u82, u83, u84, u85, u86, u87, u88, u89, u90, u91, u92, u93, u94, u95, u96, u97, u98, u99, u100, u101, u102, u103, u104, u105, u106, u107, u108, u109, u110, u111, u112, u113, u114, u115, u116, u117, u118, u119, u120, u121, u122, u123, u124, u125], []⟩
theorem TxA_mk {p : Nat} {upd n l o u0 u1 u10 u11 u12 u13 u14 u15 u16 u17 u18 u19 u20 u21 u22 u23 u24 u25 u26 u27 u28 u29 u30 u31 u32 u33 u34 u35 u36 u37 u38 u39 u40 u41 u42 u43 u44 u45 u46 u47 u48 u49 u50 u51 u52 u53 u54 u55 u56 u57 u58 u59 u60 u61 u62 u63 u64 u65 u66 u67 u68 u69 u70 u71 u72 u73 u74 u75 u76 u77 u78 u79 u80 u81 u82 u83 u84 u85 u86 u87 u88 u89 u90 u91 u92 u93 u94 u95 u96 u97 u98 u99 u100 u101 u102 u103 u104 u105 u106 u107 u108 u109 u110 u111 u112 u113 u114 u115 u116 u117 u118 u119 u120 u121 u122 u123 u124 u125 : Value} : TxA p upd n l o ⟨#[u0, u1, .pointer (some ⟨p, 0, none⟩), .pointer (some ⟨p + 1, 0, none⟩), .pointer (some ⟨p + 1 + 1, 0, none⟩), .slice none 0 0, upd, n, l, o, u10, u11, u12, u13, u14, u15, u16, u17, u18, u19, u20, u21, u22, u23, u24, u25, u26, u27, u28, u29, u30, u31, u32, u33, u34, u35, u36, u37, u38, u39, u40, u41, u42, u43, u44, u45, u46, u47, u48, u49, u50, u51, u52, u53, u54, u55, u56, u57, u58, u59, u60, u61, u62, u63, u64, u65, u66, u67, u68, u69, u70, u71, u72, u73, u74, u75, u76, u77, u78, u79, u80, u81, u82, u83, u84, u85, u86, u87, u88, u89, u90, u91, u92, u93, u94, u95, u96, u97, u98, u99, u100, u101, u102, u103, u104, u105, u106, u107, u108, u109, u110, u111, u112, u113, u114, u115, u116, u117, u118, u119, u120, u121, u122, u123, u124, u125], []⟩ := TxA.mk
theorem wp_cutX {P : Program} {x y : Code} {Q : Exit → Act → World → Prop} {a : Act} {w : World} (p : Nat) (upd n o : Value) (T : Value → World → Prop) (h1 : x.wp P (Exit.then (fun a W => ∃ l, TxA p upd n l o a ∧ T l W) Q) a w) (h2 : ∀ (u0 u1 u10 u11 u12 u13 u14 u15 u16 u17 u18 u19 u20 u21 u22 u23 u24 u25 u26 u27 u28 u29 u30 u31 u32 u33 u34 u35 u36 u37 u38 u39 u40 u41 u42 u43 u44 u45 u46 u47 u48 u49 u50 u51 u52 u53 u54 u55 u56 u57 u58 u59 u60 u61 u62 u63 u64 u65 u66 u67 u68 u69 u70 u71 u72 u73 u74 u75 u76 u77 u78 u79 u80 u81 u82 u83 u84 u85 u86 u87 u88 u89 u90 u91 u92 u93 u94 u95 u96 u97 u98 u99 u100 u101 u102 u103 u104 u105 u106 u107 u108 u109 u110 u111 u112 u113 u114 u115 u116 u117 u118 u119 u120 u121 u122 u123 u124 u125 l : Value) (W : World), T l W → y.wp P Q ⟨#[u0, u1, .pointer (some ⟨p, 0, none⟩), .pointer (some ⟨p + 1, 0, none⟩), .pointer (some ⟨p + 1 + 1, 0, none⟩), .slice none 0 0, upd, n, l, o, u10, u11, u12, u13, u14, u15, u16, u17, u18, u19, u20, u21, u22, u23, u24, u25, u26, u27, u28, u29, u30, u31, u32, u33, u34, u35, u36, u37, u38, u39, u40, u41, u42, u43, u44, u45, u46, u47, u48, u49, u50, u51, u52, u53, u54, u55, u56, u57, u58, u59, u60, u61, u62, u63, u64, u65, u66, u67, u68, u69, u70, u71, u72, u73, u74, u75, u76, u77, u78, u79, u80, u81, u82, u83, u84, u85, u86, u87, u88, u89, u90, u91, u92, u93, u94, u95, u96, u97, u98, u99, u100, u101, u102, u103, u104, u105, u106, u107, u108, u109, u110, u111, u112, u113, u114, u115, u116, u117, u118, u119, u120, u121, u122, u123, u124, u125], []⟩ W) : (Code.seq x y).wp P Q a w := by
  refine wp_cut _ h1 ?_
  intro a W hx
  obtain ⟨l, hA, h⟩ := hx
  cases hA
  exact h2 _ _ _ _ _ _ _ _ _ _ _ _ _ _ _ _ _ _ _ _ _ _ _ _ _ _ _ _ _ _ _ _ _ _ _ _ _ _ _ _ _ _ _ _ _ _ _ _ _ _ _ _ _ _ _ _ _ _ _ _ _ _ _ _ _ _ _ _ _ _ _ _ _ _ _ _ _ _ _ _ _ _ _ _ _ _ _ _ _ _ _ _ _ _ _ _ _ _ _ _ _ _ _ _ _ _ _ _ _ _ _ _ _ _ _ _ _ _ _ _ h
/-- the box of the view, the packet's, the answer's place, the row -/
structure TX (w : World) (g c : Nat) (ck : Array Value) (x : XS) (W : World) : Prop where
  xv : XV w w.heap.size (w.heap.size + 1 + 1) g c (fun _ => False) x.self x.cur x W
  pb : W.heap[w.heap.size + 1]? = some (.cells ck 67 (0, 0))
theorem TX.below {w : World} {g c : Nat} {ck : Array Value} {x : XS} {W W' : World} (h : TX w g c ck x W) (hb : Below W.heap.size W W') : TX w g c ck x W' :=
  ⟨h.xv.below hb, (hb.block _ (blk_lt h.pb)).trans h.pb⟩
theorem TX.drew {w : World} {g c : Nat} {ck : Array Value} {x : XS} {W : World} (h : TX w g c ck x W) : TX w g c ck x W.drew := h.below (below_drew (Below.refl _ _))
theorem TX.but {w : World} {g c : Nat} {ck : Array Value} {x : XS} {W : World} (h : TX w g c ck x W) : Below w.heap.size w W := h.xv.xw.but.below (Nat.le_refl _) (fun _ _ h => h)
/-- another row, another epoch: behind the box's new cells -/
theorem TX.put {w : World} {g c g' c' : Nat} {ck : Array Value} {x x' : XS} {W W' : World} (h : TX w g c ck x W) (hr : XR W' g' x') (hb : But (fun k => k = g') W W') (hg : w.heap.size + 1 + 1 < g') (hs : x'.self = x.self) (d0 : Value) :
    TX w g' c' ck x' (((W'.setCell ⟨w.heap.size, 0, none⟩ (.int .i64 (x'.self : Int))).setCell ⟨w.heap.size, 1, none⟩ (.slice (some ⟨g', 0, none⟩) 64 c')).setCell ⟨w.heap.size, 2, none⟩ (.int .u64 (x'.cur : Int))) := by
  have hlt := h.xv.xw.but.size
  have hbox := (hb.block w.heap.size (blk_lt h.xv.xw.box) (by omega)).trans h.xv.xw.box
  have hrv := (hb.block (w.heap.size + 1 + 1) (blk_lt h.xv.rvb) (by omega)).trans h.xv.rvb
  have hpb := (hb.block (w.heap.size + 1) (blk_lt h.pb) (by omega)).trans h.pb
  have hbw : Below w.heap.size w W' := h.but.trans (hb.below (n := w.heap.size) (by omega) (fun i hi e => by omega))
  have h1 := heap_setCell_same _ w.heap.size 0 _ _ (.int .i64 (x'.self : Int)) hbox
  have h2 := heap_setCell_same _ w.heap.size 1 _ _ (.slice (some ⟨g', 0, none⟩) 64 c') h1
  have h3 := heap_setCell_same _ w.heap.size 2 _ _ (.int .u64 (x'.cur : Int)) h2
  have hb3 : But (fun k => k = w.heap.size) W' (((W'.setCell ⟨w.heap.size, 0, none⟩ (.int .i64 (x'.self : Int))).setCell ⟨w.heap.size, 1, none⟩ (.slice (some ⟨g', 0, none⟩) 64 c')).setCell ⟨w.heap.size, 2, none⟩ (.int .u64 (x'.cur : Int))) := (((But.refl (fun k => k = w.heap.size) W').set (p := ⟨w.heap.size, 0, none⟩) (fun _ => rfl) _).set (p := ⟨w.heap.size, 1, none⟩) (fun _ => rfl) _).set (p := ⟨w.heap.size, 2, none⟩) (fun _ => rfl) _
  exact ⟨⟨⟨but_below (hbw.trans (hb3.below (n := w.heap.size) hbw.size (fun i hi e => by omega))) _, by simpa using h3, hr.keep hb3 (by omega), by omega⟩, (hb3.block _ (blk_lt hrv) (by omega)).trans hrv, by omega, by omega⟩, (hb3.block _ (blk_lt hpb) (by omega)).trans hpb⟩
theorem tX_start {w : World} {g c : Nat} {x : XS} {ck : Array Value} (h : XR w g x) : TX w g c ck x (((w.alloc (.cells #[.int .i64 (x.self : Int), .slice (some ⟨g, 0, none⟩) 64 c, .int .u64 (x.cur : Int)] 51)).alloc (.cells ck 67)).alloc (.cells #[.int .i64 0, .slice none 0 0, .int .u64 0] 51)) := by
  have hg := h.lt
  have h1 := xw_start (c := c) (sf := x.self) (cu := x.cur) (fun _ => False) h
  have s1 : (w.alloc (.cells #[.int .i64 (x.self : Int), .slice (some ⟨g, 0, none⟩) 64 c, .int .u64 (x.cur : Int)] 51)).heap.size = w.heap.size + 1 := by simp
  generalize w.alloc (.cells #[.int .i64 (x.self : Int), .slice (some ⟨g, 0, none⟩) 64 c, .int .u64 (x.cur : Int)] 51) = w1 at *
  have q2 : (w1.alloc (.cells ck 67)).heap[w.heap.size + 1]? = some (.cells ck 67 (0, 0)) := by rw [← s1]; exact heapN w1 _
  have s2 : (w1.alloc (.cells ck 67)).heap.size = w.heap.size + 1 + 1 := by simp [s1]
  have h2 := h1.below (below_new' w1 (.cells ck 67))
  generalize w1.alloc (.cells ck 67) = w2 at *
  have n3 := below_new' w2 (.cells #[.int .i64 0, .slice none 0 0, .int .u64 0] 51)
  exact ⟨⟨h2.below n3, by rw [← s2]; exact heapN w2 _, by omega, by omega⟩, (n3.block _ (by omega)).trans q2⟩
def trimL (l : List Pkt) : List Pkt := l.map trimP
/-- a view and packets are answered -/
def XTPost (w : World) (g : Nat) (x : XS) (q : Pkt) (r : Ending) (w' : World) : Prop :=
  ∃ g' c' y, r = .returned (.tuple #[.agg #[.int .i64 ((hearX x q (rightP q)).1.self : Int), .slice (some ⟨g', 0, none⟩) 64 c', .int .u64 ((hearX x q (rightP q)).1.cur : Int)], y]) ∧ PksRow w' w.heap.size y (trimL (hearX x q (rightP q)).2) ∧ XR w' g' (hearX x q (rightP q)).1 ∧ (g' = g ∨ w.heap.size ≤ g') ∧ Below w.heap.size w w'
theorem xRight_calls {c : Array Value} {q : Pkt} (hq : PkIs c q) (w : World) : Calls Tryz.prog 69 #[.agg c] w fun r w' => r = .returned (.bool (rightP q)) ∧ Below w.heap.size w w' := by
  obtain ⟨a, h⟩ := hq
  exact refRight_calls c _ _ _ _ _ a _ h w
/-- the answer, behind its three stores -/
theorem TX.fin {w : World} {g g0 c : Nat} {ck : Array Value} {x : XS} {W : World} (h : TX w g c ck x W) (hg : g = g0 ∨ w.heap.size ≤ g) :
    (((W.setCell ⟨w.heap.size + 1 + 1, 0, none⟩ (.int .i64 (x.self : Int))).setCell ⟨w.heap.size + 1 + 1, 1, none⟩ (.slice (some ⟨g, 0, none⟩) 64 c)).setCell ⟨w.heap.size + 1 + 1, 2, none⟩ (.int .u64 (x.cur : Int))).heap[w.heap.size + 1 + 1]? = some (.cells #[.int .i64 (x.self : Int), .slice (some ⟨g, 0, none⟩) 64 c, .int .u64 (x.cur : Int)] 51 (0, 0)) ∧
    XR (((W.setCell ⟨w.heap.size + 1 + 1, 0, none⟩ (.int .i64 (x.self : Int))).setCell ⟨w.heap.size + 1 + 1, 1, none⟩ (.slice (some ⟨g, 0, none⟩) 64 c)).setCell ⟨w.heap.size + 1 + 1, 2, none⟩ (.int .u64 (x.cur : Int))) g x ∧
    But (fun k => k = w.heap.size + 1 + 1) W (((W.setCell ⟨w.heap.size + 1 + 1, 0, none⟩ (.int .i64 (x.self : Int))).setCell ⟨w.heap.size + 1 + 1, 1, none⟩ (.slice (some ⟨g, 0, none⟩) 64 c)).setCell ⟨w.heap.size + 1 + 1, 2, none⟩ (.int .u64 (x.cur : Int))) ∧
    Below w.heap.size w (((W.setCell ⟨w.heap.size + 1 + 1, 0, none⟩ (.int .i64 (x.self : Int))).setCell ⟨w.heap.size + 1 + 1, 1, none⟩ (.slice (some ⟨g, 0, none⟩) 64 c)).setCell ⟨w.heap.size + 1 + 1, 2, none⟩ (.int .u64 (x.cur : Int))) := by
  obtain ⟨f1, f2⟩ := rv_fin h.xv.rvb (.int .i64 (x.self : Int)) (.slice (some ⟨g, 0, none⟩) 64 c) (.int .u64 (x.cur : Int))
  exact ⟨f1, h.xv.xw.row.keep f2 (fun e => h.xv.rne e.symm), f2, h.but.trans (f2.below (n := w.heap.size) h.but.size (fun i hi e => by omega))⟩
theorem hearX_idle {x : XS} {q : Pkt} (h : idleP x.self q (rightP q)) : hearX x q (rightP q) = (x, []) := by
  unfold hearX
  rw [if_pos h]
set_option maxHeartbeats 4000000 in
set_option maxRecDepth 100000 in
theorem xTake_idleA {g c : Nat} {x : XS} (w : World) (h : XR w g x) (ck : Array Value) (q : Pkt) (hq : PkIs ck q) (h1 : rightP q = false) : Calls Tryz.prog 61 #[.agg #[.int .i64 (x.self : Int), .slice (some ⟨g, 0, none⟩) 64 c, .int .u64 (x.cur : Int)], .agg ck] w (XTPost w g x q) := by
  have hidle := hearX_idle (x := x) (q := q) (Or.inl h1)
  unfold XTPost
  rw [hidle]
  clear hidle
  go_enter Tryz.func61, Tryz.ntmps61
  refine wp_cut (fun a W => a = ⟨#[.agg #[.int .i64 (x.self : Int), .slice (some ⟨g, 0, none⟩) 64 c, .int .u64 (x.cur : Int)], .agg ck, .pointer (some ⟨w.heap.size, 0, none⟩), .pointer (some ⟨w.heap.size + 1, 0, none⟩), .pointer (some ⟨w.heap.size + 1 + 1, 0, none⟩), .slice none 0 0, undef, undef, undef, undef, undef, undef, undef, undef, undef, undef, undef, undef, undef, undef, undef, undef, undef, undef, undef, undef, undef, undef, undef, undef, undef, undef, undef, undef, undef, undef, undef, undef, undef, undef, undef, undef, undef, undef, undef, undef, undef, undef, undef, undef, undef, undef, undef, undef, undef, undef, undef, undef, undef, undef, undef, undef, undef, undef, undef, undef, undef, undef, undef, undef, undef, undef, undef, undef, undef, undef, undef, undef, undef, undef, undef, undef, undef, undef, undef, undef, undef, undef, undef, undef, undef, undef, undef, undef, undef, undef, undef, undef, undef, undef, undef, undef, undef, undef, undef, undef, undef, undef, undef, undef, undef, undef, undef, undef, undef, undef, undef, undef, undef, undef, undef, undef, undef, undef, undef, undef], []⟩ ∧ TX w g c ck x W) ?_ ?_
  · have hX := Lib.hid (tX_start (c := c) (ck := ck) h)
    clear h
    go_wp2_with fail
    exact ⟨trivial, hX.out⟩
  rintro _ W ⟨rfl, hX⟩
  have k0 : W.cell? ⟨w.heap.size + 1, 0, none⟩ = some (.int .i64 q.kind) := by rw [cellBox hX.pb]; exact hq.at.1
  have hpb := hX.pb
  have hR := fun W => xRight_calls hq W
  have hi : (Tryz.prog.info? 67).map (·.size) = some ck.size := by rw [hq.size]; exact info26
  replace hX := Lib.hid hX
  clear h
  rw [h1] at hR
  have hat := Lib.hid hq.at
  replace hat := hat.out
  clear hq
  go_wp2_with (refine wpList_load_row rfl 67 _ rfl (w.heap.size + 1) rfl 67 ck (0, 0) _ hpb Tryz.underlying67 rfl hi ?_)
  refine (hR _).mono ?_
  rintro r W2 ⟨rfl, hb⟩
  have hX2 := hX.out.below hb
  have c1 : W2.cell? ⟨w.heap.size + 1, 1, none⟩ = some (.int .i64 q.fr) := by rw [cellBox hX2.pb]; exact hat.2.1
  have c2 : W2.cell? ⟨w.heap.size + 1, 2, none⟩ = some (.int .i64 q.of_) := by rw [cellBox hX2.pb]; exact hat.2.2.1
  have c4 : W2.cell? ⟨w.heap.size + 1, 4, none⟩ = some (.int .u64 (q.cur : Int)) := by rw [cellBox hX2.pb]; exact hat.2.2.2.2.1
  have x0 := hX2.xv.xw.x0
  have x1 := hX2.xv.xw.x1
  have x2 := hX2.xv.xw.x2
  obtain ⟨q0, q1, q2, q3, q4, q5⟩ := rv_cells hX2.xv.rvb
  obtain ⟨f1, f2, f3, f4⟩ := hX2.fin (g0 := g) (Or.inl rfl)
  have f1 := Lib.hid f1
  have f2 := Lib.hid f2
  have f4 := Lib.hid f4
  clear hX2 hX hb hpb k0 hR f3
  go_wp2_with fail
  refine bodyPost_ret (results_cell_row2 Tryz.results61 _ _ (w.heap.size + 1 + 1) 51 _ (0, 0) _ _ rfl rfl f1.out Tryz.underlying51 rfl (info51 _ _ _)) rfl ⟨g, c, _, rfl, ⟨[], .nil, World.ownsRow_nil _ _ _ _⟩, f2.out, Or.inl rfl, f4.out⟩
set_option maxHeartbeats 4000000 in
set_option maxRecDepth 100000 in
theorem xTake_idleB {g c : Nat} {x : XS} (w : World) (h : XR w g x) (ck : Array Value) (q : Pkt) (hq : PkIs ck q) (h1 : rightP q = true) (h2 : 4611686018427387904 < q.cur) : Calls Tryz.prog 61 #[.agg #[.int .i64 (x.self : Int), .slice (some ⟨g, 0, none⟩) 64 c, .int .u64 (x.cur : Int)], .agg ck] w (XTPost w g x q) := by
  have hidle := hearX_idle (x := x) (q := q) (Or.inr (Or.inl h2))
  unfold XTPost
  rw [hidle]
  clear hidle
  go_enter Tryz.func61, Tryz.ntmps61
  refine wp_cut (fun a W => a = ⟨#[.agg #[.int .i64 (x.self : Int), .slice (some ⟨g, 0, none⟩) 64 c, .int .u64 (x.cur : Int)], .agg ck, .pointer (some ⟨w.heap.size, 0, none⟩), .pointer (some ⟨w.heap.size + 1, 0, none⟩), .pointer (some ⟨w.heap.size + 1 + 1, 0, none⟩), .slice none 0 0, undef, undef, undef, undef, undef, undef, undef, undef, undef, undef, undef, undef, undef, undef, undef, undef, undef, undef, undef, undef, undef, undef, undef, undef, undef, undef, undef, undef, undef, undef, undef, undef, undef, undef, undef, undef, undef, undef, undef, undef, undef, undef, undef, undef, undef, undef, undef, undef, undef, undef, undef, undef, undef, undef, undef, undef, undef, undef, undef, undef, undef, undef, undef, undef, undef, undef, undef, undef, undef, undef, undef, undef, undef, undef, undef, undef, undef, undef, undef, undef, undef, undef, undef, undef, undef, undef, undef, undef, undef, undef, undef, undef, undef, undef, undef, undef, undef, undef, undef, undef, undef, undef, undef, undef, undef, undef, undef, undef, undef, undef, undef, undef, undef, undef, undef, undef, undef, undef, undef, undef], []⟩ ∧ TX w g c ck x W) ?_ ?_
  · have hX := Lib.hid (tX_start (c := c) (ck := ck) h)
    clear h
    go_wp2_with fail
    exact ⟨trivial, hX.out⟩
  rintro _ W ⟨rfl, hX⟩
  have k0 : W.cell? ⟨w.heap.size + 1, 0, none⟩ = some (.int .i64 q.kind) := by rw [cellBox hX.pb]; exact hq.at.1
  have hpb := hX.pb
  have hR := fun W => xRight_calls hq W
  have hi : (Tryz.prog.info? 67).map (·.size) = some ck.size := by rw [hq.size]; exact info26
  replace hX := Lib.hid hX
  clear h
  rw [h1] at hR
  have hat := hq.at
  have h2 : (4611686018427387904 : Int) < (q.cur : Int) := by omega
  clear hq
  go_wp2_with (refine wpList_load_row rfl 67 _ rfl (w.heap.size + 1) rfl 67 ck (0, 0) _ hpb Tryz.underlying67 rfl hi ?_)
  refine (hR _).mono ?_
  rintro r W2 ⟨rfl, hb⟩
  have hX2 := hX.out.below hb
  have c1 : W2.cell? ⟨w.heap.size + 1, 1, none⟩ = some (.int .i64 q.fr) := by rw [cellBox hX2.pb]; exact hat.2.1
  have c2 : W2.cell? ⟨w.heap.size + 1, 2, none⟩ = some (.int .i64 q.of_) := by rw [cellBox hX2.pb]; exact hat.2.2.1
  have c4 : W2.cell? ⟨w.heap.size + 1, 4, none⟩ = some (.int .u64 (q.cur : Int)) := by rw [cellBox hX2.pb]; exact hat.2.2.2.2.1
  have x0 := hX2.xv.xw.x0
  have x1 := hX2.xv.xw.x1
  have x2 := hX2.xv.xw.x2
  obtain ⟨q0, q1, q2, q3, q4, q5⟩ := rv_cells hX2.xv.rvb
  obtain ⟨f1, f2, f3, f4⟩ := hX2.fin (g0 := g) (Or.inl rfl)
  have f1 := Lib.hid f1
  have f2 := Lib.hid f2
  have f4 := Lib.hid f4
  clear hX2 hX hb hpb k0 hR f3
  go_wp2_with fail
  refine bodyPost_ret (results_cell_row2 Tryz.results61 _ _ (w.heap.size + 1 + 1) 51 _ (0, 0) _ _ rfl rfl f1.out Tryz.underlying51 rfl (info51 _ _ _)) rfl ⟨g, c, _, rfl, ⟨[], .nil, World.ownsRow_nil _ _ _ _⟩, f2.out, Or.inl rfl, f4.out⟩
set_option maxHeartbeats 4000000 in
set_option maxRecDepth 100000 in
theorem xTake_idleC {g c : Nat} {x : XS} (w : World) (h : XR w g x) (ck : Array Value) (q : Pkt) (hq : PkIs ck q) (h1 : rightP q = true) (h2 : q.cur ≤ 4611686018427387904) (h3 : q.fr = (x.self : Int)) : Calls Tryz.prog 61 #[.agg #[.int .i64 (x.self : Int), .slice (some ⟨g, 0, none⟩) 64 c, .int .u64 (x.cur : Int)], .agg ck] w (XTPost w g x q) := by
  have hidle := hearX_idle (x := x) (q := q) (Or.inr (Or.inr (Or.inl h3)))
  unfold XTPost
  rw [hidle]
  clear hidle
  go_enter Tryz.func61, Tryz.ntmps61
  refine wp_cut (fun a W => a = ⟨#[.agg #[.int .i64 (x.self : Int), .slice (some ⟨g, 0, none⟩) 64 c, .int .u64 (x.cur : Int)], .agg ck, .pointer (some ⟨w.heap.size, 0, none⟩), .pointer (some ⟨w.heap.size + 1, 0, none⟩), .pointer (some ⟨w.heap.size + 1 + 1, 0, none⟩), .slice none 0 0, undef, undef, undef, undef, undef, undef, undef, undef, undef, undef, undef, undef, undef, undef, undef, undef, undef, undef, undef, undef, undef, undef, undef, undef, undef, undef, undef, undef, undef, undef, undef, undef, undef, undef, undef, undef, undef, undef, undef, undef, undef, undef, undef, undef, undef, undef, undef, undef, undef, undef, undef, undef, undef, undef, undef, undef, undef, undef, undef, undef, undef, undef, undef, undef, undef, undef, undef, undef, undef, undef, undef, undef, undef, undef, undef, undef, undef, undef, undef, undef, undef, undef, undef, undef, undef, undef, undef, undef, undef, undef, undef, undef, undef, undef, undef, undef, undef, undef, undef, undef, undef, undef, undef, undef, undef, undef, undef, undef, undef, undef, undef, undef, undef, undef, undef, undef, undef, undef, undef, undef], []⟩ ∧ TX w g c ck x W) ?_ ?_
  · have hX := Lib.hid (tX_start (c := c) (ck := ck) h)
    clear h
    go_wp2_with fail
    exact ⟨trivial, hX.out⟩
  rintro _ W ⟨rfl, hX⟩
  have k0 : W.cell? ⟨w.heap.size + 1, 0, none⟩ = some (.int .i64 q.kind) := by rw [cellBox hX.pb]; exact hq.at.1
  have hpb := hX.pb
  have hR := fun W => xRight_calls hq W
  have hi : (Tryz.prog.info? 67).map (·.size) = some ck.size := by rw [hq.size]; exact info26
  replace hX := Lib.hid hX
  clear h
  rw [h1] at hR
  have hat := hq.at
  have h2 : ¬ (4611686018427387904 : Int) < (q.cur : Int) := by omega
  have h4 : (q.fr == (x.self : Int)) = true := beq_iff_eq.2 h3
  replace h3 := Lib.hid h3
  clear hq
  go_wp2_with (refine wpList_load_row rfl 67 _ rfl (w.heap.size + 1) rfl 67 ck (0, 0) _ hpb Tryz.underlying67 rfl hi ?_)
  refine (hR _).mono ?_
  rintro r W2 ⟨rfl, hb⟩
  have hX2 := hX.out.below hb
  have c1 : W2.cell? ⟨w.heap.size + 1, 1, none⟩ = some (.int .i64 q.fr) := by rw [cellBox hX2.pb]; exact hat.2.1
  have c2 : W2.cell? ⟨w.heap.size + 1, 2, none⟩ = some (.int .i64 q.of_) := by rw [cellBox hX2.pb]; exact hat.2.2.1
  have c4 : W2.cell? ⟨w.heap.size + 1, 4, none⟩ = some (.int .u64 (q.cur : Int)) := by rw [cellBox hX2.pb]; exact hat.2.2.2.2.1
  have x0 := hX2.xv.xw.x0
  have x1 := hX2.xv.xw.x1
  have x2 := hX2.xv.xw.x2
  obtain ⟨q0, q1, q2, q3, q4, q5⟩ := rv_cells hX2.xv.rvb
  obtain ⟨f1, f2, f3, f4⟩ := hX2.fin (g0 := g) (Or.inl rfl)
  have f1 := Lib.hid f1
  have f2 := Lib.hid f2
  have f4 := Lib.hid f4
  clear hX2 hX hb hpb k0 hR f3
  go_wp2_with fail
  refine bodyPost_ret (results_cell_row2 Tryz.results61 _ _ (w.heap.size + 1 + 1) 51 _ (0, 0) _ _ rfl rfl f1.out Tryz.underlying51 rfl (info51 _ _ _)) rfl ⟨g, c, _, rfl, ⟨[], .nil, World.ownsRow_nil _ _ _ _⟩, f2.out, Or.inl rfl, f4.out⟩
set_option maxHeartbeats 4000000 in
set_option maxRecDepth 100000 in
theorem xTake_idleD {g c : Nat} {x : XS} (w : World) (h : XR w g x) (ck : Array Value) (q : Pkt) (hq : PkIs ck q) (h1 : rightP q = true) (h2 : q.cur ≤ 4611686018427387904) (h3 : q.fr ≠ (x.self : Int)) (h5 : q.kind = 3) (h6 : q.of_ = (x.self : Int)) : Calls Tryz.prog 61 #[.agg #[.int .i64 (x.self : Int), .slice (some ⟨g, 0, none⟩) 64 c, .int .u64 (x.cur : Int)], .agg ck] w (XTPost w g x q) := by
  have hidle := hearX_idle (x := x) (q := q) (Or.inr (Or.inr (Or.inr ⟨h5, h6⟩)))
  unfold XTPost
  rw [hidle]
  clear hidle
  go_enter Tryz.func61, Tryz.ntmps61
  refine wp_cut (fun a W => a = ⟨#[.agg #[.int .i64 (x.self : Int), .slice (some ⟨g, 0, none⟩) 64 c, .int .u64 (x.cur : Int)], .agg ck, .pointer (some ⟨w.heap.size, 0, none⟩), .pointer (some ⟨w.heap.size + 1, 0, none⟩), .pointer (some ⟨w.heap.size + 1 + 1, 0, none⟩), .slice none 0 0, undef, undef, undef, undef, undef, undef, undef, undef, undef, undef, undef, undef, undef, undef, undef, undef, undef, undef, undef, undef, undef, undef, undef, undef, undef, undef, undef, undef, undef, undef, undef, undef, undef, undef, undef, undef, undef, undef, undef, undef, undef, undef, undef, undef, undef, undef, undef, undef, undef, undef, undef, undef, undef, undef, undef, undef, undef, undef, undef, undef, undef, undef, undef, undef, undef, undef, undef, undef, undef, undef, undef, undef, undef, undef, undef, undef, undef, undef, undef, undef, undef, undef, undef, undef, undef, undef, undef, undef, undef, undef, undef, undef, undef, undef, undef, undef, undef, undef, undef, undef, undef, undef, undef, undef, undef, undef, undef, undef, undef, undef, undef, undef, undef, undef, undef, undef, undef, undef, undef, undef], []⟩ ∧ TX w g c ck x W) ?_ ?_
  · have hX := Lib.hid (tX_start (c := c) (ck := ck) h)
    clear h
    go_wp2_with fail
    exact ⟨trivial, hX.out⟩
  rintro _ W ⟨rfl, hX⟩
  have k0 : W.cell? ⟨w.heap.size + 1, 0, none⟩ = some (.int .i64 q.kind) := by rw [cellBox hX.pb]; exact hq.at.1
  have hpb := hX.pb
  have hR := fun W => xRight_calls hq W
  have hi : (Tryz.prog.info? 67).map (·.size) = some ck.size := by rw [hq.size]; exact info26
  replace hX := Lib.hid hX
  clear h
  rw [h1] at hR
  have hat := hq.at
  have h2 : ¬ (4611686018427387904 : Int) < (q.cur : Int) := by omega
  have h4 : (q.fr == (x.self : Int)) = false := beq_eq_false_iff_ne.2 h3
  have h7 : (q.of_ == (x.self : Int)) = true := beq_iff_eq.2 h6
  have hk3 : (q.kind == (3 : Int)) = true := beq_iff_eq.2 h5
  replace h3 := Lib.hid h3
  replace h6 := Lib.hid h6
  clear hq
  go_wp2_with (refine wpList_load_row rfl 67 _ rfl (w.heap.size + 1) rfl 67 ck (0, 0) _ hpb Tryz.underlying67 rfl hi ?_)
  refine (hR _).mono ?_
  rintro r W2 ⟨rfl, hb⟩
  have hX2 := hX.out.below hb
  have c1 : W2.cell? ⟨w.heap.size + 1, 1, none⟩ = some (.int .i64 q.fr) := by rw [cellBox hX2.pb]; exact hat.2.1
  have c2 : W2.cell? ⟨w.heap.size + 1, 2, none⟩ = some (.int .i64 q.of_) := by rw [cellBox hX2.pb]; exact hat.2.2.1
  have c4 : W2.cell? ⟨w.heap.size + 1, 4, none⟩ = some (.int .u64 (q.cur : Int)) := by rw [cellBox hX2.pb]; exact hat.2.2.2.2.1
  have x0 := hX2.xv.xw.x0
  have x1 := hX2.xv.xw.x1
  have x2 := hX2.xv.xw.x2
  obtain ⟨q0, q1, q2, q3, q4, q5⟩ := rv_cells hX2.xv.rvb
  obtain ⟨f1, f2, f3, f4⟩ := hX2.fin (g0 := g) (Or.inl rfl)
  have f1 := Lib.hid f1
  have f2 := Lib.hid f2
  have f4 := Lib.hid f4
  clear hX2 hX hb hpb k0 hR f3
  go_wp2_with fail
  refine bodyPost_ret (results_cell_row2 Tryz.results61 _ _ (w.heap.size + 1 + 1) 51 _ (0, 0) _ _ rfl rfl f1.out Tryz.underlying51 rfl (info51 _ _ _)) rfl ⟨g, c, _, rfl, ⟨[], .nil, World.ownsRow_nil _ _ _ _⟩, f2.out, Or.inl rfl, f4.out⟩
end Go.Proofs.YtgdcnenlelckhaaGreatDoor
