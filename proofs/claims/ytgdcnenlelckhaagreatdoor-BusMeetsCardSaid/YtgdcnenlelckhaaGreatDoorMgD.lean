/- What a node knows, as a box in memory; what a call leaves of the rest. The small calls on a view; the slots of a node. A view raises its epoch, wins and gives a slot, and is copied. Every slot of some slots, one behind the other: view.each with each of its three closures. The three closures that go through slots; what they do to a view. A view begins. Claims are taken in; who is beaten. Who is beaten; what a node tells. Conditions: none. -/
import Derived.Test.YtgdcnenlelckhaaGreatDoorMgA
import Derived.Deep.MidRow
import Derived.Test.YtgdcnenlelckhaaGreatDoorMgC
set_option linter.unusedVariables false
set_option linter.unusedSimpArgs false
namespace Go.Proofs.YtgdcnenlelckhaaGreatDoor
open Go.RowKit Go.Proofs.YtgdcnenlelckhaaGreatDoorW.PrintWords
/-- but some blocks all is as it was -/
structure But (S : Nat → Prop) (w w' : World) : Prop where
  os : w'.os = w.os
  tape : w'.tape = w.tape
  output : w'.output = w.output
  size : w.heap.size ≤ w'.heap.size
  block : ∀ k, k < w.heap.size → ¬ S k → w'.heap[k]? = w.heap[k]?
theorem But.refl (S : Nat → Prop) (w : World) : But S w w := ⟨rfl, rfl, rfl, Nat.le_refl _, fun _ _ _ => rfl⟩
theorem But.trans {S S2 : Nat → Prop} {a b c : World} (h : But S a b) (k : But S2 b c) (hs : ∀ i, i < a.heap.size → S2 i → S i) : But S a c :=
  ⟨k.os.trans h.os, k.tape.trans h.tape, k.output.trans h.output, Nat.le_trans h.size k.size, fun i hi hn => (k.block i (Nat.lt_of_lt_of_le hi h.size) fun h2 => hn (hs i hi h2)).trans (h.block i hi hn)⟩
theorem But.weak {S S2 : Nat → Prop} {a b : World} (h : But S a b) (hs : ∀ i, i < a.heap.size → S i → S2 i) : But S2 a b :=
  ⟨h.os, h.tape, h.output, h.size, fun i hi hn => h.block i hi fun h2 => hn (hs i hi h2)⟩
theorem but_below {w w' : World} (h : Below w.heap.size w w') (S : Nat → Prop) : But S w w' := ⟨h.os, h.tape, h.output, h.size, fun k hk _ => h.block k hk⟩
theorem But.next {S : Nat → Prop} {a b c : World} (h : But S a b) (k : Below b.heap.size b c) : But S a c := h.trans (but_below k fun _ => False) fun _ _ h => h.elim
theorem But.below {S : Nat → Prop} {a b : World} {n : Nat} (h : But S a b) (hn : n ≤ a.heap.size) (hs : ∀ i, i < n → ¬ S i) : Below n a b :=
  ⟨h.os, h.tape, h.output, h.size, fun k hk => h.block k (Nat.lt_of_lt_of_le hk hn) (hs k hk)⟩
theorem But.alloc {S : Nat → Prop} {a b : World} (h : But S a b) (o : Obj) : But S a (b.alloc o) := h.next (below_new' b o)
theorem But.drew {S : Nat → Prop} {a b : World} (h : But S a b) : But S a b.drew := h.next (below_drew (Below.refl _ _))
theorem But.set {S : Nat → Prop} {a b : World} (h : But S a b) {p : Addr} (hp : p.block < a.heap.size → S p.block) (u : Value) : But S a (b.setCell p u) :=
  ⟨h.os, h.tape, h.output, by simpa [World.setCell] using h.size, fun k hk hn => (Below.heap_setCell _ _ _ _ (fun e => by subst e; exact hn (hp hk))).trans (h.block k hk hn)⟩
/-- a view, as cells -/
structure VC (c : Array Value) (v : VS) : Prop where
  size : c.size = 16450
  self : c[0]? = some (.int .i64 v.self)
  own : ∀ s, s < 16384 → c[1 + s]? = some (.int .i8 (v.own s))
  ep : ∀ n, n < 64 → c[16385 + n]? = some (.int .u64 (v.ep n))
  cur : c[16449]? = some (.int .u64 v.cur)
  node : ∀ s, s < 16384 → -1 ≤ v.own s ∧ v.own s < 64
  selfLt : v.self < 64
  epLt : ∀ n, n < 64 → v.ep n < 18446744073709551616
  curLt : v.cur < 18446744073709551616
theorem VC.one {c : Array Value} {v : VS} (h : VC c v) : c.all (·.oneCell') = true := by
  rw [Array.all_eq_true]
  intro i hi
  have hs := h.size
  have key : ∀ x, c[i]? = some x → x.oneCell' = true → (c[i]).oneCell' = true := fun x hx h1 => by
    rw [Array.getElem?_eq_getElem hi] at hx
    rw [Option.some.inj hx]; exact h1
  by_cases h0 : i = 0
  · subst h0; exact key _ h.self rfl
  · by_cases h1 : i < 16385
    · have := h.own (i - 1) (by omega)
      rw [show 1 + (i - 1) = i by omega] at this
      exact key _ this rfl
    · by_cases h2 : i < 16449
      · have := h.ep (i - 16385) (by omega)
        rw [show 16385 + (i - 16385) = i by omega] at this
        exact key _ this rfl
      · have := h.cur
        rw [show 16449 = i by omega] at this
        exact key _ this rfl
theorem set_other {c : Array Value} {i j : Nat} {x : Value} (h : i ≠ j) : (c.setIfInBounds i x)[j]? = c[j]? := by
  rw [Array.getElem?_setIfInBounds, if_neg h]
theorem set_this {c : Array Value} {i : Nat} {x : Value} (h : i < c.size) : (c.setIfInBounds i x)[i]? = some x := by
  rw [Array.getElem?_setIfInBounds, if_pos rfl, if_pos h]
def setOwn (v : VS) (s : Nat) (x : Int) : VS := { v with own := fun k => if k = s then x else v.own k }
def setEp (v : VS) (n e : Nat) : VS := { v with ep := upd v.ep n e }
def setCur (v : VS) (e : Nat) : VS := { v with cur := e }
theorem VC.setOwn {c : Array Value} {v : VS} (h : VC c v) (s : Nat) (hs : s < 16384) (x : Int) (hx : -1 ≤ x ∧ x < 64) : VC (c.setIfInBounds (1 + s) (.int .i8 x)) (setOwn v s x) := by
  have hz := h.size
  refine ⟨by simpa using hz, by rw [set_other (by omega)]; exact h.self, fun k hk => ?_, fun n hn => by rw [set_other (by omega)]; exact h.ep n hn, by rw [set_other (by omega)]; exact h.cur, fun k hk => ?_, h.selfLt, h.epLt, h.curLt⟩
  · show _ = some (Value.int .i8 (if k = s then x else v.own k))
    by_cases e : k = s
    · subst e; rw [set_this (by omega), if_pos rfl]
    · rw [set_other (by omega), if_neg e]; exact h.own k hk
  · show -1 ≤ (if k = s then x else v.own k) ∧ (if k = s then x else v.own k) < 64
    split
    · exact hx
    · exact h.node k hk
theorem VC.setEp {c : Array Value} {v : VS} (h : VC c v) (n : Nat) (hn : n < 64) (e : Nat) (he : e < 18446744073709551616) : VC (c.setIfInBounds (16385 + n) (.int .u64 (e : Int))) (setEp v n e) := by
  have hz := h.size
  refine ⟨by simpa using hz, by rw [set_other (by omega)]; exact h.self, fun k hk => by rw [set_other (by omega)]; exact h.own k hk, fun k hk => ?_, by rw [set_other (by omega)]; exact h.cur, h.node, h.selfLt, fun k hk => ?_, h.curLt⟩
  · show _ = some (Value.int .u64 ((if k = n then e else v.ep k : Nat) : Int))
    by_cases e2 : k = n
    · subst e2; rw [set_this (by omega), if_pos rfl]
    · rw [set_other (by omega), if_neg e2]; exact h.ep k hk
  · show (if k = n then e else v.ep k) < _
    split
    · exact he
    · exact h.epLt k hk
theorem VC.setCur {c : Array Value} {v : VS} (h : VC c v) (e : Nat) (he : e < 18446744073709551616) : VC (c.setIfInBounds 16449 (.int .u64 (e : Int))) (setCur v e) := by
  have hz := h.size
  refine ⟨by simpa using hz, by rw [set_other (by omega)]; exact h.self, fun k hk => by rw [set_other (by omega)]; exact h.own k hk, fun k hk => by rw [set_other (by omega)]; exact h.ep k hk, by rw [set_this (by omega)]; rfl, h.node, h.selfLt, h.epLt, he⟩
/-- a view's box -/
def VB (W : World) (g : Nat) (v : VS) : Prop := ∃ c, W.heap[g]? = some (.cells c 107 (0, 0)) ∧ VC c v
theorem cellBox {W : World} {B : Nat} {c : Array Value} {t : TypeId} {fr : Nat × Nat} (h : W.heap[B]? = some (.cells c t fr)) (i : Nat) : W.cell? ⟨B, i, none⟩ = c[i]? := cell_of_row W B i c t fr h
theorem openBox {g i : Nat} {cs : Array Value} {t : TypeId} {W : World} (h : W.heap[g]? = some (.cells cs t (0, 0))) : W.frozen? ⟨g, i, none⟩ = false := by
  simp [World.frozen?, h]
theorem VB.lt {W : World} {g : Nat} {v : VS} (h : VB W g v) : g < W.heap.size := by
  obtain ⟨c, h, -⟩ := h
  exact blk_lt h
theorem VB.keep {S : Nat → Prop} {w w' : World} {g : Nat} {v : VS} (h : VB w g v) (hb : But S w w') (hn : ¬ S g) : VB w' g v := by
  obtain ⟨c, h1, h2⟩ := h
  exact ⟨c, (hb.block g (blk_lt h1) hn).trans h1, h2⟩
theorem VB.below {w w' : World} {g : Nat} {v : VS} (h : VB w g v) (hb : Below w.heap.size w w') : VB w' g v := h.keep (but_below hb fun _ => False) fun h => h
theorem VB.atSelf {W : World} {g : Nat} {v : VS} (h : VB W g v) : W.cell? ⟨g, 0, none⟩ = some (.int .i64 v.self) := by
  obtain ⟨c, h1, h2⟩ := h
  rw [cellBox h1]; exact h2.self
theorem VB.atOwn {W : World} {g : Nat} {v : VS} (h : VB W g v) (s : Nat) (hs : s < 16384) : W.cell? ⟨g, 1 + s, none⟩ = some (.int .i8 (v.own s)) := by
  obtain ⟨c, h1, h2⟩ := h
  rw [cellBox h1]; exact h2.own s hs
theorem VB.atEp {W : World} {g : Nat} {v : VS} (h : VB W g v) (n : Nat) (hn : n < 64) : W.cell? ⟨g, 16385 + n, none⟩ = some (.int .u64 (v.ep n)) := by
  obtain ⟨c, h1, h2⟩ := h
  rw [cellBox h1]; exact h2.ep n hn
theorem VB.atCur {W : World} {g : Nat} {v : VS} (h : VB W g v) : W.cell? ⟨g, 16449, none⟩ = some (.int .u64 v.cur) := by
  obtain ⟨c, h1, h2⟩ := h
  rw [cellBox h1]; exact h2.cur
theorem VB.thaw {W : World} {g : Nat} {v : VS} (h : VB W g v) (i : Nat) : W.frozen? ⟨g, i, none⟩ = false := by
  obtain ⟨c, h1, h2⟩ := h
  exact openBox h1
theorem VB.self64 {W : World} {g : Nat} {v : VS} (h : VB W g v) : v.self < 64 := by
  obtain ⟨c, h1, h2⟩ := h
  exact h2.selfLt
theorem VB.nodes {W : World} {g : Nat} {v : VS} (h : VB W g v) : ∀ s, s < 16384 → -1 ≤ v.own s ∧ v.own s < 64 := by
  obtain ⟨c, h1, h2⟩ := h
  exact h2.node
theorem VB.ep64 {W : World} {g : Nat} {v : VS} (h : VB W g v) : ∀ n, n < 64 → v.ep n < 18446744073709551616 := by
  obtain ⟨c, h1, h2⟩ := h
  exact h2.epLt
theorem VB.cur64 {W : World} {g : Nat} {v : VS} (h : VB W g v) : v.cur < 18446744073709551616 := by
  obtain ⟨c, h1, h2⟩ := h
  exact h2.curLt
theorem VB.ownSet {W : World} {g : Nat} {v : VS} (h : VB W g v) (s : Nat) (hs : s < 16384) (x : Int) (hx : -1 ≤ x ∧ x < 64) : VB (W.setCell ⟨g, 1 + s, none⟩ (.int .i8 x)) g (setOwn v s x) := by
  obtain ⟨c, h1, h2⟩ := h
  exact ⟨_, heap_setCell_same _ g (1 + s) _ _ _ h1, h2.setOwn s hs x hx⟩
theorem VB.epSet {W : World} {g : Nat} {v : VS} (h : VB W g v) (n : Nat) (hn : n < 64) (e : Nat) (he : e < 18446744073709551616) : VB (W.setCell ⟨g, 16385 + n, none⟩ (.int .u64 (e : Int))) g (setEp v n e) := by
  obtain ⟨c, h1, h2⟩ := h
  exact ⟨_, heap_setCell_same _ g (16385 + n) _ _ _ h1, h2.setEp n hn e he⟩
theorem VB.curSet {W : World} {g : Nat} {v : VS} (h : VB W g v) (e : Nat) (he : e < 18446744073709551616) : VB (W.setCell ⟨g, 16449, none⟩ (.int .u64 (e : Int))) g (setCur v e) := by
  obtain ⟨c, h1, h2⟩ := h
  exact ⟨_, heap_setCell_same _ g 16449 _ _ _ h1, h2.setCur e he⟩
end Go.Proofs.YtgdcnenlelckhaaGreatDoor

namespace Go.Proofs.YtgdcnenlelckhaaGreatDoor
open Go.RowKit Go.Proofs.YtgdcnenlelckhaaGreatDoorW.PrintWords
open SlS SlT
theorem vnode_calls (n : Int) (w : World) : Calls Tryz.prog 46 #[.int .i64 n] w fun e w' => e = .returned (.bool (decide (0 ≤ n) && decide (n < 64))) ∧ w = w' := by
  by_cases h : 0 ≤ n
  · rw [decide_eq_true h, Bool.true_and]
    go_enter Tryz.func46, Tryz.ntmps46
    go_wp2
    go_ret
    exact ⟨rfl, rfl⟩
  · rw [decide_eq_false h, Bool.false_and]
    go_enter Tryz.func46, Tryz.ntmps46
    go_wp2
    go_ret
    exact ⟨rfl, rfl⟩
theorem vthere_calls (n : Int) (w : World) : Calls Tryz.prog 48 #[.int .i64 n] w fun e w' => e = .returned (.bool (decide (0 ≤ n) && decide (n < 16384))) ∧ w = w' := by
  by_cases h : 0 ≤ n
  · rw [decide_eq_true h, Bool.true_and]
    go_enter Tryz.func48, Tryz.ntmps48
    go_wp2
    go_ret
    exact ⟨rfl, rfl⟩
  · rw [decide_eq_false h, Bool.false_and]
    go_enter Tryz.func48, Tryz.ntmps48
    go_wp2
    go_ret
    exact ⟨rfl, rfl⟩
theorem vSelf_calls {g : Nat} {v : VS} (w : World) (h : VB w g v) : Calls Tryz.prog 28 #[.pointer (some ⟨g, 0, none⟩)] w fun e w' => e = .returned (.int .i64 v.self) ∧ w = w' := by
  have h0 := h.atSelf
  clear h
  go_enter Tryz.func28, Tryz.ntmps28
  go_wp2
  go_ret
  exact ⟨rfl, rfl⟩
theorem vCurrent_calls {g : Nat} {v : VS} (w : World) (h : VB w g v) : Calls Tryz.prog 21 #[.pointer (some ⟨g, 0, none⟩)] w fun e w' => e = .returned (.int .u64 v.cur) ∧ w = w' := by
  have h0 := h.atCur
  clear h
  go_enter Tryz.func21, Tryz.ntmps21
  go_wp2
  go_ret
  exact ⟨rfl, rfl⟩
theorem vEpoch_calls {g : Nat} {v : VS} (w : World) (h : VB w g v) (n : Nat) (hn : n < 64) : Calls Tryz.prog 22 #[.pointer (some ⟨g, 0, none⟩), .int .i64 n] w fun e w' => e = .returned (.int .u64 (v.ep n)) ∧ w = w' := by
  have h0 := h.atEp n hn
  clear h
  have ht := vnode_calls (n : Int)
  rw [decide_eq_true (show (0 : Int) ≤ n by omega), decide_eq_true (show (n : Int) < 64 by omega)] at ht
  go_enter Tryz.func22, Tryz.ntmps22
  go_wp2_with (go_at_call 46; refine (ht _).mono ?_; rintro e w2 ⟨rfl, rfl⟩)
  go_ret
  exact ⟨rfl, rfl⟩
theorem vOwner_calls {g : Nat} {v : VS} (w : World) (h : VB w g v) (s : Nat) (hs : s < 16384) : Calls Tryz.prog 25 #[.pointer (some ⟨g, 0, none⟩), .int .i64 s] w fun e w' => e = .returned (.int .i64 (v.own s)) ∧ w = w' := by
  have h0 := h.atOwn s hs
  have hnd := h.nodes s hs
  clear h
  have ht := vthere_calls (s : Int)
  rw [decide_eq_true (show (0 : Int) ≤ s by omega), decide_eq_true (show (s : Int) < 16384 by omega)] at ht
  generalize v.own s = x at *
  go_enter Tryz.func25, Tryz.ntmps25
  go_wp2_with (go_at_call 48; refine (ht _).mono ?_; rintro e w2 ⟨rfl, rfl⟩)
  go_ret
  exact ⟨rfl, rfl⟩
/-- the owners, as a row by value -/
theorem VB.row {W : World} {g : Nat} {v : VS} (h : VB W g v) : ∃ A : Array Value, A.size = 16384 ∧ (∀ s, s < 16384 → A[s]? = some (.int .i8 (v.own s))) ∧ W.rangeAt g 1 A.toList := by
  have hA : ∀ s, s < 16384 → (Array.ofFn fun (i : Fin 16384) => Value.int .i8 (v.own i))[s]? = some (.int .i8 (v.own s)) := fun s hs => by
    rw [Array.getElem?_ofFn, dif_pos hs]
  refine ⟨_, Array.size_ofFn, hA, fun j u hj => ?_⟩
  rw [Array.getElem?_toList] at hj
  rcases Nat.lt_or_ge j 16384 with hlt | hge
  · rw [hA j hlt] at hj
    rw [← hj]
    exact h.atOwn j hlt
  · rw [Array.getElem?_eq_none (by rw [Array.size_ofFn]; exact hge)] at hj
    cases hj
theorem info104 : (Tryz.prog.info? 104).map (·.size) = some 16384 := by kernel_rfl
theorem idxOwn {A : Array Value} (hs : A.size = 16384) {x : Int} (k : Nat) (hk : k < 16384) (hg : A[k]? = some (.int .i8 x)) (W : World) : (Instr.index 104 (.agg A) (.int .i64 (k : Int))).run Tryz.prog W = .ok (.int .i8 x) W := by
  have h1 : (k : Int) < 16384 := by omega
  simp [Instr.index, run_underlying Tryz.underlying104, asIntOf, go_sem, h1, hg]
  intro h; omega
set_option maxHeartbeats 1000000 in
set_option maxRecDepth 100000 in
theorem vClaims_calls {g : Nat} {v : VS} (w : World) (h : VB w g v) (n : Nat) (hn : n < 64) : Calls Tryz.prog 23 #[.pointer (some ⟨g, 0, none⟩), .int .i64 n] w fun e w' => ∃ a, e = .returned (.agg a) ∧ Words a (wordV v n) ∧ Below w.heap.size w w' := by
  obtain ⟨A, hAs, hAg, hAr⟩ := h.row
  have hnd := h.nodes
  have hlt := h.lt
  clear h
  have hAr2 : ((w.alloc (.cells Tryz.zeroCells43 43)).alloc (.cells Tryz.zeroCells43 43)).rangeAt g 1 A.toList := fun j u hj => (World.cell?_of_block (((below_new' _ _).block g (by simp; omega)).trans ((below_new' _ _).block g hlt))).trans (hAr j u hj)
  have hsz : (Tryz.prog.info? 104).map (·.size) = some A.toList.length := by rw [Array.length_toList, hAs]; exact info104
  clear hAr
  go_enter Tryz.func23, Tryz.ntmps23
  go_wp2_with (refine wpList_load_mid rfl 104 _ rfl g 1 rfl A.toList _ hAr2 Tryz.underlying104 rfl hsz ?_)
  rw [Array.toArray_toList]
  go_loopw [6, 7, 12] (fun _ _ i wr => ∃ (k : Nat) (a : Array Value) (f : Nat → Nat), k ≤ 16384 ∧ i = .int .i64 k ∧ Words a f ∧ (∀ s, s < 16384 → hasN f s = (decide (s < k) && decide (v.own s = (n : Int)))) ∧ Below w.heap.size w wr ∧
    wr.heap[w.heap.size]? = some (.cells Tryz.zeroCells43 43 (0, 0)) ∧ wr.heap[w.heap.size + 1]? = some (.cells a 43 (0, 0))) (fun _ _ i _ => 16384 - (intOf i).toNat)
  case atStart => exact ⟨0, _, fun _ => 0, by omega, rfl, zero_words, fun s hs => by simp [hasN], by repeat (first | exact Below.refl _ _ | apply below_alloc), heap0 w _ _, heap1 w _ _⟩
  case round =>
    obtain ⟨k, a, f, hk, rfl, ha, hf, hb, h0, h1⟩ := hrel
    by_cases hk6 : k < 16384
    · have hix := idxOwn hAs k hk6 (hAg k hk6)
      have hndk := hnd k hk6
      have hgo : decide ((k : Int) < 16384) = true := decide_eq_true (by omega)
      have c4 : wr.cell? ⟨w.heap.size + 1, k / 64, none⟩ = some (.int .u64 (f (k / 64))) := by
        rw [cell_of_row wr _ (k / 64) a 43 (0, 0) h1]; exact ha.get (k / 64) (by omega)
      have c5 : wr.frozen? ⟨w.heap.size + 1, k / 64, none⟩ = false := by simp [World.frozen?, h1]
      have hw := words_or ha (k := k) (by omega)
      have hO : bits .or .u64 (f (k / 64) : Int) (2 ^ (k % 64)) = ((f (k / 64) ||| 2 ^ (k % 64) : Nat) : Int) := by
        have := or64 (f (k / 64)) (2 ^ (k % 64)) (ha.lt _) (pow_lt64 (by omega))
        rw [Int.natCast_pow] at this
        exact this
      have hwp := wrap_pow (k := k % 64) (by omega)
      have hh := Lib.hid (fun n => hasN_orW f k n)
      have hf := Lib.hid hf
      have hnd := Lib.hid hnd
      have hAg := Lib.hid hAg
      have hxo := Lib.hid (rfl : v.own k = v.own k)
      have hho : ∀ x, v.own k = x → x = v.own k := fun x h => h.symm
      generalize hF : orW f k = F at *
      generalize f (k / 64) ||| 2 ^ (k % 64) = D at *
      by_cases he : v.own k = (n : Int)
      · have e1 : (v.own k == (n : Int)) = true := beq_iff_eq.2 he
        have e2 : (v.own k == (-1 : Int)) = false := beq_eq_false_iff_ne.2 (by omega)
        have he := Lib.hid he
        generalize hx : v.own k = x at *
        have hx := Lib.hid hx
        clear hho hxo
        go_wp2_with fail
        go_region
        go_wp2_with fail
        have G1 := heap_setCell_same wr (w.heap.size + 1) (k / 64) a 43 (.int .u64 (D : Int)) h1
        have G0 := (heap_setCell_other wr ⟨w.heap.size + 1, k / 64, none⟩ w.heap.size (.int .u64 (D : Int)) (by simp)).trans h0
        refine ⟨⟨k + 1, _, F, by omega, by go_num, hw, fun s hs => ?_, below_drew (below_set hb (Nat.le_succ _)), G0, G1⟩, by simp [intOf]; omega⟩
        rw [hh.out s, hf.out s hs]
        by_cases hsk : s = k
        · subst hsk
          rw [hx.out, he.out]
          simp
        · rw [Bool.eq_iff_iff]
          simp only [Bool.or_eq_true, Bool.and_eq_true, decide_eq_true_eq]
          omega
      · have e1 : (v.own k == (n : Int)) = false := beq_eq_false_iff_ne.2 he
        have he := Lib.hid he
        generalize hx : v.own k = x at *
        have hx := Lib.hid hx
        clear hho hxo
        go_wp2_with fail
        refine ⟨⟨k + 1, a, f, by omega, by go_num, ha, fun s hs => ?_, hb, h0, h1⟩, by simp [intOf]; omega⟩
        rw [hf.out s hs]
        by_cases hsk : s = k
        · subst hsk
          rw [hx.out, decide_eq_false he.out]
          simp
        · rw [Bool.eq_iff_iff]
          simp only [Bool.and_eq_true, decide_eq_true_eq]
          omega
    · obtain rfl : k = 16384 := by omega
      have hw : ∀ i, i < 256 → f i = wordV v n i := fun i hi => by
        refine Nat.eq_of_testBit_eq fun j => ?_
        rcases Nat.lt_or_ge j 64 with hj | hj
        · rw [wordV_bit v n i j hj]
          have h1 := hf (i * 64 + j) (by omega)
          unfold hasN at h1
          rw [show (i * 64 + j) / 64 = i by omega, show (i * 64 + j) % 64 = j by omega] at h1
          rw [h1, decide_eq_true (show i * 64 + j < 16384 by omega), Bool.true_and]
        · have h1 := Nat.testBit_lt_two_pow (i := j) (Nat.lt_of_lt_of_le (wordV_lt v n i) (show 18446744073709551616 ≤ 2 ^ j from (Nat.pow_le_pow_right (by omega) hj : 2 ^ 64 ≤ 2 ^ j)))
          have h2 := Nat.testBit_lt_two_pow (i := j) (Nat.lt_of_lt_of_le (ha.lt i) (show 18446744073709551616 ≤ 2 ^ j from (Nat.pow_le_pow_right (by omega) hj : 2 ^ 64 ≤ 2 ^ j)))
          rw [h1, h2]
      have hW : Words a (wordV v n) := ⟨ha.size, fun i hi => by rw [← hw i hi]; exact ha.get i hi, fun i => wordV_lt v n i⟩
      have hi : (Tryz.prog.info? 43).map (·.size) = some a.size := by rw [ha.size]; exact info30
      have hZ : Tryz.zeroCells43.size = a.size := by rw [ha.size]; exact zero_size
      have hone := ha.one
      clear hw hf hAg hnd hAr2
      go_wp2_with (first | (refine wpList_load_row rfl 43 _ rfl (w.heap.size + 1) rfl 43 a (0, 0) _ h1 Tryz.underlying43 rfl hi ?_) | (refine wpList_store_row rfl 43 _ _ rfl (w.heap.size) a rfl rfl 43 Tryz.zeroCells43 h0 hi hZ hone ?_))
      refine bodyPost_ret (v := .agg a) (results_cell_row rfl _ _ (w.heap.size) 43 a (0, 0) _ rfl (setRow_heap _ _ _ a _ _ h0) Tryz.underlying43 rfl hi) rfl ⟨a, rfl, hW, below_setRow hb (Nat.le_refl _) _⟩
end Go.Proofs.YtgdcnenlelckhaaGreatDoor

namespace Go.Proofs.YtgdcnenlelckhaaGreatDoor
open Go.RowKit Go.Proofs.YtgdcnenlelckhaaGreatDoorW.PrintWords
open SlS SlT
theorem VB.drew {W : World} {g : Nat} {v : VS} (h : VB W g v) : VB W.drew g v := h.below (below_drew (Below.refl _ _))
set_option maxRecDepth 100000 in
theorem vraise_calls {g : Nat} {v : VS} (w : World) (h : VB w g v) (hc : v.cur + 1 < 18446744073709551616) : Calls Tryz.prog 55 #[.pointer (some ⟨g, 0, none⟩)] w fun e w' => ∃ r, e = .returned r ∧ VB w' g (raiseV v) ∧ But (fun k => k = g) w w' := by
  have h0 := h.atCur
  have hz := h.thaw 16449
  have h1 := h.curSet (v.cur + 1) hc
  have hs := h.self64
  have hB1 : VB ((w.setCell ⟨g, 16449, none⟩ (.int .u64 ((v.cur : Int) + 1))).setCell ⟨g, 16385 + v.self, none⟩ (.int .u64 ((v.cur : Int) + 1))) g (raiseV v) := h1.epSet v.self hs (v.cur + 1) hc
  have hbut : But (fun k => k = g) w ((w.setCell ⟨g, 16449, none⟩ (.int .u64 ((v.cur : Int) + 1))).setCell ⟨g, 16385 + v.self, none⟩ (.int .u64 ((v.cur : Int) + 1))) := ((But.refl (fun k => k = g) w).set (p := ⟨g, 16449, none⟩) (fun _ => rfl) _).set (p := ⟨g, 16385 + v.self, none⟩) (fun _ => rfl) _
  rw [Int.natCast_add] at h1
  have g0 := h.atSelf
  have g2 := h.thaw (16385 + v.self)
  have g3 := h.atEp v.self hs
  have hB1 := Lib.hid hB1
  have hbut := Lib.hid hbut
  clear h h1
  generalize v.self = s at *
  generalize v.cur = c at *
  generalize v.ep s = x at *
  go_enter Tryz.func55, Tryz.ntmps55
  go_wp2_with fail
  go_region
  go_wp2_with fail
  refine bodyPost_end (results_none rfl _ _ _) rfl ?_
  exact ⟨_, rfl, hB1.out.drew, hbut.out.drew⟩
set_option maxRecDepth 100000 in
theorem vGive_calls {g : Nat} {v : VS} (w : World) (h : VB w g v) (s n : Int) : Calls Tryz.prog 66 #[.pointer (some ⟨g, 0, none⟩), .int .i64 s, .int .i64 n] w fun e w' =>
    But (fun k => k = g) w w' ∧ if 0 ≤ s ∧ s < 16384 then (if 0 ≤ n ∧ n < 64 then e = .returned (.int .i64 0) ∧ VB w' g (giveV v s.toNat n.toNat) else e = .returned (.int .i64 150) ∧ VB w' g v) else e = .returned (.int .i64 1) ∧ VB w' g v := by
  have ht := vthere_calls s
  have hn := vnode_calls n
  by_cases h1 : 0 ≤ s ∧ s < 16384
  · rw [decide_eq_true h1.1, decide_eq_true h1.2] at ht
    obtain ⟨s, rfl⟩ : ∃ q : Nat, s = q := ⟨s.toNat, by omega⟩
    simp only [if_pos h1, Int.toNat_natCast]
    have hs : s < 16384 := by omega
    by_cases h2 : 0 ≤ n ∧ n < 64
    · rw [decide_eq_true h2.1, decide_eq_true h2.2] at hn
      obtain ⟨n, rfl⟩ : ∃ q : Nat, n = q := ⟨n.toNat, by omega⟩
      simp only [if_pos h2, Int.toNat_natCast]
      have hn64 : n < 64 := by omega
      have hz := h.thaw (1 + s)
      have hcl := h.atOwn s hs
      have hB1 := Lib.hid (h.ownSet s hs (n : Int) (by omega))
      have hbut := Lib.hid ((But.refl (fun k => k = g) w).set (p := ⟨g, 1 + s, none⟩) (fun _ => rfl) (.int .i8 (n : Int)))
      clear h
      go_enter Tryz.func66, Tryz.ntmps66
      go_wp2_with (first | (go_at_call 48; refine (ht _).mono ?_; rintro e w2 ⟨rfl, rfl⟩) | (go_at_call 46; refine (hn _).mono ?_; rintro e w2 ⟨rfl, rfl⟩))
      go_ret
      exact ⟨hbut.out, rfl, hB1.out⟩
    · have e1 : (decide (0 ≤ n) && decide (n < 64)) = false := by rw [Bool.and_eq_false_iff, decide_eq_false_iff_not, decide_eq_false_iff_not]; omega
      rw [e1] at hn
      simp only [if_neg h2]
      have h := Lib.hid h
      go_enter Tryz.func66, Tryz.ntmps66
      go_wp2_with (first | (go_at_call 48; refine (ht _).mono ?_; rintro e w2 ⟨rfl, rfl⟩) | (go_at_call 46; refine (hn _).mono ?_; rintro e w2 ⟨rfl, rfl⟩))
      go_ret
      exact ⟨But.refl _ _, rfl, h.out⟩
  · have e1 : (decide (0 ≤ s) && decide (s < 16384)) = false := by rw [Bool.and_eq_false_iff, decide_eq_false_iff_not, decide_eq_false_iff_not]; omega
    rw [e1] at ht
    simp only [if_neg h1]
    have h := Lib.hid h
    go_enter Tryz.func66, Tryz.ntmps66
    go_wp2_with (first | (go_at_call 48; refine (ht _).mono ?_; rintro e w2 ⟨rfl, rfl⟩) | (go_at_call 46; refine (hn _).mono ?_; rintro e w2 ⟨rfl, rfl⟩))
    go_ret
    exact ⟨But.refl _ _, rfl, h.out⟩
/-- a slot becomes its own -/
def winV (v : VS) (s least : Nat) : VS := raiseV (maxV (giveV v s v.self) least)
set_option maxRecDepth 100000 in
theorem vWin_calls {g : Nat} {v : VS} (w : World) (h : VB w g v) (s : Int) (least : Nat) (hc : v.cur + 1 < 18446744073709551616) : Calls Tryz.prog 65 #[.pointer (some ⟨g, 0, none⟩), .int .i64 s, .int .u64 least] w fun e w' =>
    But (fun k => k = g) w w' ∧ if (0 ≤ s ∧ s < 16384) ∧ least ≤ 4611686018427387904 then e = .returned (.int .i64 0) ∧ VB w' g (winV v s.toNat least) else e = .returned (.int .i64 1) ∧ VB w' g v := by
  have ht := vthere_calls s
  by_cases h1 : 0 ≤ s ∧ s < 16384
  · rw [decide_eq_true h1.1, decide_eq_true h1.2] at ht
    obtain ⟨s, rfl⟩ : ∃ q : Nat, s = q := ⟨s.toNat, by omega⟩
    have hs : s < 16384 := by omega
    by_cases h2 : least ≤ 4611686018427387904
    · simp only [Int.toNat_natCast, if_pos (show ((0 : Int) ≤ (s : Int) ∧ (s : Int) < 16384) ∧ least ≤ 4611686018427387904 from ⟨h1, h2⟩)]
      have hs64 := h.self64
      have hz := h.thaw (1 + s)
      have hcl := h.atOwn s hs
      have hsf := h.atSelf
      have hB1 := h.ownSet s hs (v.self : Int) (by omega)
      have hcu := hB1.atCur
      have hz2 := hB1.thaw 16449
      have hB2 := hB1.curSet (max v.cur least) (by have := h.cur64; omega)
      change VB _ g (maxV (giveV v s v.self) least) at hB2
      have hbut := (((But.refl (fun k => k = g) w).set (p := ⟨g, 1 + s, none⟩) (fun _ => rfl) (.int .i8 (v.self : Int))).set (p := ⟨g, 16449, none⟩) (fun _ => rfl) (.int .u64 ((max v.cur least : Nat) : Int)))
      have hR := fun W (hW : VB W g (maxV (giveV v s v.self) least)) => vraise_calls W hW (by show max v.cur least + 1 < _; omega)
      change _ = some (Value.int .u64 (v.cur : Int)) at hcu
      have hle : ¬ (4611686018427387904 : Int) < (least : Int) := by omega
      change Calls _ _ _ _ fun e w' => But (fun k => k = g) w w' ∧ e = .returned (.int .i64 0) ∧ VB w' g (raiseV (maxV (giveV v s v.self) least))
      clear h hB1
      generalize maxV (giveV v s v.self) least = V at *
      have hmx : ((max v.cur least : Nat) : Int) = max (v.cur : Int) (least : Int) := by omega
      rw [hmx] at hB2 hbut
      generalize v.self = f at *
      generalize v.cur = c at *
      have hB2 := Lib.hid hB2
      have hbut := Lib.hid hbut
      go_enter Tryz.func65, Tryz.ntmps65
      go_wp2_with (first | (go_at_call 48; refine (ht _).mono ?_; rintro e w2 ⟨rfl, rfl⟩))
      go_region
      go_wp2_with fail
      refine (hR _ hB2.out.drew).mono ?_
      rintro e w2 ⟨r, rfl, hB3, hbut2⟩
      have hbut3 := Lib.hid (hbut.out.drew.trans hbut2 (fun _ _ h => h))
      have hB3 := Lib.hid hB3
      clear hbut2
      go_wp2_with fail
      go_ret
      exact ⟨hbut3.out, rfl, hB3.out⟩
    · simp only [if_neg (show ¬ (((0 : Int) ≤ (s : Int) ∧ (s : Int) < 16384) ∧ least ≤ 4611686018427387904) from fun h => h2 h.2)]
      have h := Lib.hid h
      have hle : (4611686018427387904 : Int) < (least : Int) := by omega
      go_enter Tryz.func65, Tryz.ntmps65
      go_wp2_with (first | (go_at_call 48; refine (ht _).mono ?_; rintro e w2 ⟨rfl, rfl⟩))
      go_ret
      exact ⟨But.refl _ _, rfl, h.out⟩
  · have e1 : (decide (0 ≤ s) && decide (s < 16384)) = false := by rw [Bool.and_eq_false_iff, decide_eq_false_iff_not, decide_eq_false_iff_not]; omega
    rw [e1] at ht
    simp only [if_neg (show ¬ (((0 : Int) ≤ s ∧ s < 16384) ∧ least ≤ 4611686018427387904) from fun h => h1 h.1)]
    have h := Lib.hid h
    go_enter Tryz.func65, Tryz.ntmps65
    go_wp2_with (first | (go_at_call 48; refine (ht _).mono ?_; rintro e w2 ⟨rfl, rfl⟩))
    go_ret
    exact ⟨But.refl _ _, rfl, h.out⟩
theorem info107 : (Tryz.prog.info? 107).map (·.size) = some 16450 := by kernel_rfl
theorem zsize107 : Tryz.zeroCells107.size = 16450 := by kernel_rfl
set_option maxRecDepth 100000 in
theorem vClone_calls {g : Nat} {v : VS} (w : World) (h : VB w g v) : Calls Tryz.prog 42 #[.pointer (some ⟨g, 0, none⟩)] w fun e w' => ∃ g', e = .returned (.pointer (some ⟨g', 0, none⟩)) ∧ w.heap.size ≤ g' ∧ VB w' g' v ∧ Below w.heap.size w w' := by
  obtain ⟨c, hc, hv⟩ := h
  have hi : (Tryz.prog.info? 107).map (·.size) = some c.size := by rw [hv.size]; exact info107
  have hZ : Tryz.zeroCells107.size = c.size := by rw [hv.size]; exact zsize107
  have hone := hv.one
  have hv := Lib.hid hv
  go_enter Tryz.func42, Tryz.ntmps42
  go_wp2_with (first | (refine wpList_load_row rfl 107 _ rfl g rfl 107 c (0, 0) _ hc Tryz.underlying107 rfl hi ?_) | (refine wpList_store_row rfl 107 _ _ rfl (w.heap.size) c rfl rfl 107 Tryz.zeroCells107 (heapN w _) hi hZ hone ?_))
  go_ret
  exact ⟨_, rfl, Nat.le_refl _, ⟨c, setRow_heap _ _ _ c _ _ (heapN w _), hv.out⟩, below_setRow (below_new' w _) (Nat.le_refl _) _⟩
end Go.Proofs.YtgdcnenlelckhaaGreatDoor

namespace Go.Proofs.YtgdcnenlelckhaaGreatDoor
open Go.RowKit Go.Proofs.YtgdcnenlelckhaaGreatDoorW.PrintWords
open SlS SlT
/-- the slots of some ranges -/
def slotsOf (rs : List (Nat × Nat)) : List Nat := rs.flatMap fun p => List.range' p.1 (p.2 + 1 - p.1)
theorem slotsOf_app (a b : List (Nat × Nat)) : slotsOf (a ++ b) = slotsOf a ++ slotsOf b := List.flatMap_append
theorem range'_more {a n : Nat} (h : a ≤ n) : List.range' a (n + 1 - a) = List.range' a (n - a) ++ [n] := by
  rw [show n + 1 - a = (n - a) + 1 by omega, List.range'_concat]
  congr 2
  omega
theorem slots_rngs (h : Nat → Bool) : ∀ m, slotsOf (rangesV ((List.range m).filter h)) = (List.range m).filter h
  | 0 => rfl
  | m + 1 => by
    have ih := slots_rngs h m
    have ho := fun r hr => ordered h m (r := r) hr
    rw [List.range_succ, List.filter_append]
    cases hm : h m with
    | false =>
      have : [m].filter h = [] := by simp [hm]
      rw [this, List.append_nil]; exact ih
    | true =>
      have : [m].filter h = [m] := by simp [hm]
      rw [this]
      generalize (List.range m).filter h = l at *
      have one : slotsOf [(m, m)] = [m] := by
        simp [slotsOf]
      rcases rangesV_snoc l m with ⟨q0, q1⟩ | ⟨q, a, b, q0, q1⟩
      · rw [q0] at ih
        rw [q1, one, ← ih]
        rfl
      · have hab := (ho (a, b) (by rw [q0]; simp)).1
        rw [q0, slotsOf_app] at ih
        rw [q1]
        split
        · rename_i hb
          rw [slotsOf_app, ← ih, List.append_assoc]
          congr 1
          simp only [slotsOf, List.flatMap_cons, List.flatMap_nil, List.append_nil]
          have := range'_more (a := a) (n := m) (by simp only at hab; omega)
          rw [this, hb]
        · rw [slotsOf_app, one, slotsOf_app, ih]
theorem own_but {S : Nat → Prop} {w w1 : World} {base : Nat} {e : TypeId} {size n : Nat} {v : Value} {xs : List Value} (h : w.ownsRow base e size v n xs) (hb : But S w w1) (hS : ∀ k, S k → k < base) : w1.ownsRow base e size v n xs := by
  refine ⟨h.1, ?_⟩
  rcases h.2 with hn | ⟨g, cap, cur, rfl, hb1, hgg, rest⟩
  · exact .inl hn
  · refine .inr ⟨g, cap, cur, rfl, hb1, ?_, rest⟩
    rw [hb.block g (blk_lt hgg) (fun h => by have := hS g h; omega)]
    exact hgg
theorem But.cell {S : Nat → Prop} {w w' : World} (h : But S w w') {p : Addr} (hp : p.block < w.heap.size) (hn : ¬ S p.block) : w'.cell? p = w.cell? p := World.cell?_of_block (w := w) (h.block p.block hp hn)
theorem upto_filter (f : Nat → Nat) (m : Nat) : upto f m = (List.range m).filter (hasN f) := rfl
/-- the first ranges' slots, and the next slot, stand at the beginning -/
theorem slots_pre {f : Nat → Nat} {rs : List (Nat × Nat)} (hrs : rs = rangesV (upto f 16384)) {k p1 p2 : Nat} (hp : rs[k]? = some (p1, p2)) {x : Nat} (h1 : p1 ≤ x) (h2 : x ≤ p2) :
    slotsOf (rs.take k) ++ List.range' p1 (x - p1) ++ [x] <+: upto f 16384 := by
  have e0 : slotsOf rs = upto f 16384 := by rw [hrs, upto_filter]; exact slots_rngs _ _
  have e1 : rs = rs.take k ++ (p1, p2) :: rs.drop (k + 1) := by
    have := (List.getElem?_eq_some_iff.1 hp)
    obtain ⟨hk, hk2⟩ := this
    conv => lhs; rw [← List.take_append_drop k rs]
    rw [List.drop_eq_getElem_cons hk, hk2]
  have e2 : slotsOf rs = slotsOf (rs.take k) ++ (List.range' p1 (p2 + 1 - p1) ++ slotsOf (rs.drop (k + 1))) := by
    conv => lhs; rw [e1]
    rw [slotsOf_app]
    rfl
  have e3 : List.range' p1 (p2 + 1 - p1) = List.range' p1 (x - p1) ++ [x] ++ List.range' (x + 1) (p2 - x) := by
    rw [← range'_more h1, show p2 + 1 - p1 = (x + 1 - p1) + (p2 - x) by omega, ← List.range'_append_1]
    congr 2
    omega
  rw [← e0, e2, e3]
  exact ⟨List.range' (x + 1) (p2 - x) ++ slotsOf (rs.drop (k + 1)), by simp only [List.append_assoc]⟩
theorem slots_next {rs : List (Nat × Nat)} {k p1 p2 : Nat} (hp : rs[k]? = some (p1, p2)) : slotsOf (rs.take (k + 1)) = slotsOf (rs.take k) ++ List.range' p1 (p2 + 1 - p1) := by
  rw [List.take_add_one, hp, slotsOf_app]
  simp [slotsOf]
/-- what a closure does with each slot -/
structure EachStep (F : FuncId) (cs : List Value) (I : List Nat → World → Prop) (S : Nat → Prop) (n : Nat) (l : List Nat) : Prop where
  keep : ∀ pre W W', I pre W → Below W.heap.size W W' → I pre W'
  low : ∀ k, S k → k < n
  step : ∀ pre s W, pre ++ [s] <+: l → I pre W → n ≤ W.heap.size → Calls Tryz.prog F (#[.int .i64 s] ++ cs.toArray) W fun e W' => ∃ r, e = .returned r ∧ I (pre ++ [s]) W' ∧ But S W W'
theorem flatR_two {rs : List (Nat × Nat)} {k p1 p2 : Nat} (hp : rs[k]? = some (p1, p2)) : (flatR rs)[k * 2]? = some (.int .i64 (p1 : Int)) ∧ (flatR rs)[k * 2 + 1]? = some (.int .i64 (p2 : Int)) := by
  obtain ⟨hk, hk2⟩ := List.getElem?_eq_some_iff.1 hp
  have e1 : rs = rs.take k ++ (p1, p2) :: rs.drop (k + 1) := by
    conv => lhs; rw [← List.take_append_drop k rs]
    rw [List.drop_eq_getElem_cons hk, hk2]
  have e2 : flatR rs = flatR (rs.take k) ++ (.int .i64 (p1 : Int) :: .int .i64 (p2 : Int) :: flatR (rs.drop (k + 1))) := by
    conv => lhs; rw [e1]
    rw [flatR_append]
    rfl
  have e3 : (flatR (rs.take k)).length = k * 2 := by rw [flatR_len, List.length_take]; omega
  rw [e2]
  constructor
  · rw [List.getElem?_append_right (by omega), e3, Nat.sub_self]; rfl
  · rw [List.getElem?_append_right (by omega), e3, show k * 2 + 1 - k * 2 = 1 by omega]; rfl
set_option maxHeartbeats 4000000 in
set_option maxRecDepth 100000 in
theorem each_new_calls (a : Array Value) (f : Nat → Nat) (ha : Words a f) (x1 x2 : Value) (I : List Nat → World → Prop) (S : Nat → Prop) (w : World) (h0 : I [] w) (hs : EachStep 58 [x1, x2] I S w.heap.size (upto f 16384)) :
    Calls Tryz.prog 57 #[.agg a, .func (.func 58) #[] #[x1, x2]] w fun e w' => ∃ r, e = .returned r ∧ I (upto f 16384) w' ∧ But S w w' := by
  obtain ⟨hkeep, hlow, hstep⟩ := hs
  have hsz := ha.size
  have hs1 : (Tryz.prog.info? 43).map (·.size) = some a.size := by rw [ha.size]; exact info30
  have hR := fun W => Ranges_calls a f ha W
  obtain ⟨rs, hrs⟩ : ∃ rs, rs = rangesV (upto f 16384) := ⟨_, rfl⟩
  rw [← hrs] at hR
  have hord : ∀ k p1 p2, rs[k]? = some (p1, p2) → p1 ≤ p2 ∧ p2 < 16384 := fun k p1 p2 h => by
    rw [hrs, upto_filter] at h
    exact ordered _ _ (List.mem_of_getElem? h)
  have hlen : rs.length ≤ 16384 := by
    rw [hrs]
    exact Nat.le_trans (rangesV_le _) (upto_le f 16384)
  have hlast : slotsOf rs = upto f 16384 := by rw [hrs, upto_filter]; exact slots_rngs _ _
  have hpre : ∀ k p1 p2, rs[k]? = some (p1, p2) → ∀ x, p1 ≤ x → x ≤ p2 → slotsOf (rs.take k) ++ List.range' p1 (x - p1) ++ [x] <+: upto f 16384 := fun k p1 p2 h x h1 h2 => slots_pre hrs h h1 h2
  clear hrs
  rw [← hlast] at hpre hstep ⊢
  clear hlast ha
  have hb1 := below_new' w (.cells a 43)
  have hh1 := heapN w (.cells a 43)
  have hI1 := hkeep _ _ _ h0 hb1
  go_enter Tryz.func57, Tryz.ntmps57
  go_wp2_with (refine wpList_load_row rfl 43 _ rfl w.heap.size rfl 43 a (0, 0) _ (heapN w _) Tryz.underlying43 rfl hs1 ?_)
  refine (hR _).mono ?_
  rintro e w2 ⟨v, rfl, hown, hb2⟩
  have hI2 := hkeep _ _ _ hI1 hb2
  have hbut2 : But S w w2 := ((but_below hb1 S).next hb2)
  have hown : w2.ownsRow w.heap.size 117 2 v rs.length (flatR rs) := own_weaken hown (by simp)
  obtain ⟨A, c, rfl⟩ := own_slice hown
  clear hb1 hh1 hI1 hb2 hR h0
  go_wp2_with fail
  go_loopw [5, 6, 10] (fun _ _ i wr => ∃ k : Nat, k ≤ rs.length ∧ i = .int .i64 k ∧ I (slotsOf (rs.take k)) wr ∧ wr.ownsRow w.heap.size 117 2 (.slice A rs.length c) rs.length (flatR rs) ∧ But S w wr) (fun _ _ i _ => rs.length - (intOf i).toNat)
  case atStart => exact ⟨0, by omega, rfl, hI2, hown, hbut2⟩
  case round =>
    clear hown hI2 hbut2
    obtain ⟨k, hk, rfl, hI, hown, hbut⟩ := hrel
    by_cases hkl : k < rs.length
    · obtain ⟨⟨p1, p2⟩, hp⟩ : ∃ p, rs[k]? = some p := ⟨rs[k], List.getElem?_eq_getElem hkl⟩
      obtain ⟨ho1, ho2⟩ := hord k p1 p2 hp
      obtain ⟨g, cap, hgA, -, -⟩ := hown.form (by omega)
      obtain rfl : A = some ⟨g, 0, none⟩ := by injection hgA
      clear hgA
      have hfl := flatR_two hp
      have c1 : wr.cell? ⟨g, k * 2, none⟩ = some (.int .i64 (p1 : Int)) := by rw [hown.cellAt _ (by omega)]; exact hfl.1
      have c2 : wr.cell? ⟨g, k * 2 + 1, none⟩ = some (.int .i64 (p2 : Int)) := by rw [hown.cellAt _ (by omega)]; exact hfl.2
      clear hfl
      have hgo : decide ((k : Int) < (rs.length : Int)) = true := decide_eq_true (by omega)
      have hnx := slots_next hp
      have hpr := hpre k p1 p2 hp
      have hIb := hkeep _ _ _ hI (below_new' wr (.cells #[.int .i64 (p1 : Int), .int .i64 (p2 : Int)] 117))
      have hownb := pw_own_below hown (below_new' wr (.cells #[.int .i64 (p1 : Int), .int .i64 (p2 : Int)] 117))
      have hbutb := hbut.alloc (.cells #[.int .i64 (p1 : Int), .int .i64 (p2 : Int)] 117)
      have d1 : (wr.alloc (.cells #[.int .i64 (p1 : Int), .int .i64 (p2 : Int)] 117)).cell? ⟨wr.heap.size, 0, none⟩ = some (.int .i64 (p1 : Int)) := by simp [go_sem]
      have d2 : (wr.alloc (.cells #[.int .i64 (p1 : Int), .int .i64 (p2 : Int)] 117)).cell? ⟨wr.heap.size, 1, none⟩ = some (.int .i64 (p2 : Int)) := by simp [go_sem]
      have hsw := hbut.size
      have d3 : wr.heap.size < (wr.alloc (.cells #[.int .i64 (p1 : Int), .int .i64 (p2 : Int)] 117)).heap.size := by simp
      obtain ⟨B, hB⟩ : ∃ B, B = wr.heap.size := ⟨_, rfl⟩
      rw [← hB] at d1 d2 d3 hsw
      have hB := Lib.hid hB
      clear hI hown hbut hpre hord
      obtain ⟨wo, rfl⟩ : ∃ wo : World, wo = wr := ⟨_, rfl⟩
      go_wp2_with fail
      go_loopw [6] (fun s6 wr => ∃ x : Nat, p1 ≤ x ∧ x ≤ p2 + 1 ∧ s6 = .int .i64 x ∧ I (slotsOf (rs.take k) ++ List.range' p1 (x - p1)) wr ∧ wr.ownsRow w.heap.size 117 2 (.slice (some ⟨g, 0, none⟩) rs.length c) rs.length (flatR rs) ∧ But S w wr ∧ wr.cell? ⟨wo.heap.size, 1, none⟩ = some (.int .i64 (p2 : Int)) ∧ wo.heap.size < wr.heap.size) (fun s6 _ => 16385 - (intOf s6).toNat)
      case atStart => exact ⟨p1, by omega, by omega, rfl, by rw [Nat.sub_self]; show I (_ ++ []) _; rw [List.append_nil]; exact hIb, hownb, hbutb, by rw [← hB.out]; exact d2, by rw [← hB.out]; exact d3⟩
      case round =>
        clear hIb hownb hbutb d1 d2 d3 c1 c2
        obtain ⟨x, hx1, hx2, rfl, hI, hown, hbut, d2, d3⟩ := hrel
        by_cases hxp : x ≤ p2
        · have hgo2 : decide ((x : Int) ≤ (p2 : Int)) = true := decide_eq_true (by omega)
          have hst := hstep _ x wr (hpr x hx1 hxp) hI hbut.size
          have hmore := range'_more hx1
          have hst := Lib.hid hst
          clear hpr hstep hkeep
          go_wp2_with fail
          refine (hst.out).mono ?_
          rintro e w3 ⟨r, rfl, hI3, hbut3⟩
          have hown3 := own_but hown hbut3 hlow
          have d23 : w3.cell? ⟨wo.heap.size, 1, none⟩ = some (.int .i64 (p2 : Int)) := (hbut3.cell (p := ⟨wo.heap.size, 1, none⟩) d3 (fun h => by have h9 : wo.heap.size < w.heap.size := hlow _ h; have := hB.out; omega)).trans d2
          have d33 := Nat.lt_of_lt_of_le d3 hbut3.size
          have hbutw := hbut.trans hbut3 (fun _ _ h => h)
          rw [List.append_assoc, ← hmore] at hI3
          have hI3 := Lib.hid hI3
          clear hmore hbut3 hst hI hown hbut d2
          go_wp2_with fail
          exact ⟨⟨x + 1, by omega, by omega, by go_num, hI3.out, hown3, hbutw, d23, d33⟩, by simp [intOf]; omega⟩
        · obtain rfl : x = p2 + 1 := by omega
          have hgo2 : decide (((p2 + 1 : Nat) : Int) ≤ (p2 : Int)) = false := decide_eq_false (by omega)
          rw [← hnx] at hI
          have hI := Lib.hid hI
          clear hnx hpr hstep hkeep
          go_wp2_with fail
          exact ⟨⟨k + 1, by omega, by go_num, hI.out, hown, hbut⟩, by simp [intOf]; omega⟩
    · obtain rfl : k = rs.length := by omega
      have hgo : decide ((rs.length : Int) < (rs.length : Int)) = false := decide_eq_false (by omega)
      rw [List.take_length] at hI
      clear hpre hord hstep hkeep
      have hI := Lib.hid hI
      go_wp2_with fail
      refine bodyPost_end (results_none rfl _ _ _) rfl ?_
      exact ⟨_, rfl, hI.out, hbut⟩
set_option maxHeartbeats 4000000 in
set_option maxRecDepth 100000 in
theorem each_claim_calls (a : Array Value) (f : Nat → Nat) (ha : Words a f) (x1 x2 x3 : Value) (I : List Nat → World → Prop) (S : Nat → Prop) (w : World) (h0 : I [] w) (hs : EachStep 82 [x1, x2, x3] I S w.heap.size (upto f 16384)) :
    Calls Tryz.prog 57 #[.agg a, .func (.func 82) #[] #[x1, x2, x3]] w fun e w' => ∃ r, e = .returned r ∧ I (upto f 16384) w' ∧ But S w w' := by
  obtain ⟨hkeep, hlow, hstep⟩ := hs
  have hsz := ha.size
  have hs1 : (Tryz.prog.info? 43).map (·.size) = some a.size := by rw [ha.size]; exact info30
  have hR := fun W => Ranges_calls a f ha W
  obtain ⟨rs, hrs⟩ : ∃ rs, rs = rangesV (upto f 16384) := ⟨_, rfl⟩
  rw [← hrs] at hR
  have hord : ∀ k p1 p2, rs[k]? = some (p1, p2) → p1 ≤ p2 ∧ p2 < 16384 := fun k p1 p2 h => by
    rw [hrs, upto_filter] at h
    exact ordered _ _ (List.mem_of_getElem? h)
  have hlen : rs.length ≤ 16384 := by
    rw [hrs]
    exact Nat.le_trans (rangesV_le _) (upto_le f 16384)
  have hlast : slotsOf rs = upto f 16384 := by rw [hrs, upto_filter]; exact slots_rngs _ _
  have hpre : ∀ k p1 p2, rs[k]? = some (p1, p2) → ∀ x, p1 ≤ x → x ≤ p2 → slotsOf (rs.take k) ++ List.range' p1 (x - p1) ++ [x] <+: upto f 16384 := fun k p1 p2 h x h1 h2 => slots_pre hrs h h1 h2
  clear hrs
  rw [← hlast] at hpre hstep ⊢
  clear hlast ha
  have hb1 := below_new' w (.cells a 43)
  have hh1 := heapN w (.cells a 43)
  have hI1 := hkeep _ _ _ h0 hb1
  go_enter Tryz.func57, Tryz.ntmps57
  go_wp2_with (refine wpList_load_row rfl 43 _ rfl w.heap.size rfl 43 a (0, 0) _ (heapN w _) Tryz.underlying43 rfl hs1 ?_)
  refine (hR _).mono ?_
  rintro e w2 ⟨v, rfl, hown, hb2⟩
  have hI2 := hkeep _ _ _ hI1 hb2
  have hbut2 : But S w w2 := ((but_below hb1 S).next hb2)
  have hown : w2.ownsRow w.heap.size 117 2 v rs.length (flatR rs) := own_weaken hown (by simp)
  obtain ⟨A, c, rfl⟩ := own_slice hown
  clear hb1 hh1 hI1 hb2 hR h0
  go_wp2_with fail
  go_loopw [5, 6, 10] (fun _ _ i wr => ∃ k : Nat, k ≤ rs.length ∧ i = .int .i64 k ∧ I (slotsOf (rs.take k)) wr ∧ wr.ownsRow w.heap.size 117 2 (.slice A rs.length c) rs.length (flatR rs) ∧ But S w wr) (fun _ _ i _ => rs.length - (intOf i).toNat)
  case atStart => exact ⟨0, by omega, rfl, hI2, hown, hbut2⟩
  case round =>
    clear hown hI2 hbut2
    obtain ⟨k, hk, rfl, hI, hown, hbut⟩ := hrel
    by_cases hkl : k < rs.length
    · obtain ⟨⟨p1, p2⟩, hp⟩ : ∃ p, rs[k]? = some p := ⟨rs[k], List.getElem?_eq_getElem hkl⟩
      obtain ⟨ho1, ho2⟩ := hord k p1 p2 hp
      obtain ⟨g, cap, hgA, -, -⟩ := hown.form (by omega)
      obtain rfl : A = some ⟨g, 0, none⟩ := by injection hgA
      clear hgA
      have hfl := flatR_two hp
      have c1 : wr.cell? ⟨g, k * 2, none⟩ = some (.int .i64 (p1 : Int)) := by rw [hown.cellAt _ (by omega)]; exact hfl.1
      have c2 : wr.cell? ⟨g, k * 2 + 1, none⟩ = some (.int .i64 (p2 : Int)) := by rw [hown.cellAt _ (by omega)]; exact hfl.2
      clear hfl
      have hgo : decide ((k : Int) < (rs.length : Int)) = true := decide_eq_true (by omega)
      have hnx := slots_next hp
      have hpr := hpre k p1 p2 hp
      have hIb := hkeep _ _ _ hI (below_new' wr (.cells #[.int .i64 (p1 : Int), .int .i64 (p2 : Int)] 117))
      have hownb := pw_own_below hown (below_new' wr (.cells #[.int .i64 (p1 : Int), .int .i64 (p2 : Int)] 117))
      have hbutb := hbut.alloc (.cells #[.int .i64 (p1 : Int), .int .i64 (p2 : Int)] 117)
      have d1 : (wr.alloc (.cells #[.int .i64 (p1 : Int), .int .i64 (p2 : Int)] 117)).cell? ⟨wr.heap.size, 0, none⟩ = some (.int .i64 (p1 : Int)) := by simp [go_sem]
      have d2 : (wr.alloc (.cells #[.int .i64 (p1 : Int), .int .i64 (p2 : Int)] 117)).cell? ⟨wr.heap.size, 1, none⟩ = some (.int .i64 (p2 : Int)) := by simp [go_sem]
      have hsw := hbut.size
      have d3 : wr.heap.size < (wr.alloc (.cells #[.int .i64 (p1 : Int), .int .i64 (p2 : Int)] 117)).heap.size := by simp
      obtain ⟨B, hB⟩ : ∃ B, B = wr.heap.size := ⟨_, rfl⟩
      rw [← hB] at d1 d2 d3 hsw
      have hB := Lib.hid hB
      clear hI hown hbut hpre hord
      obtain ⟨wo, rfl⟩ : ∃ wo : World, wo = wr := ⟨_, rfl⟩
      go_wp2_with fail
      go_loopw [6] (fun s6 wr => ∃ x : Nat, p1 ≤ x ∧ x ≤ p2 + 1 ∧ s6 = .int .i64 x ∧ I (slotsOf (rs.take k) ++ List.range' p1 (x - p1)) wr ∧ wr.ownsRow w.heap.size 117 2 (.slice (some ⟨g, 0, none⟩) rs.length c) rs.length (flatR rs) ∧ But S w wr ∧ wr.cell? ⟨wo.heap.size, 1, none⟩ = some (.int .i64 (p2 : Int)) ∧ wo.heap.size < wr.heap.size) (fun s6 _ => 16385 - (intOf s6).toNat)
      case atStart => exact ⟨p1, by omega, by omega, rfl, by rw [Nat.sub_self]; show I (_ ++ []) _; rw [List.append_nil]; exact hIb, hownb, hbutb, by rw [← hB.out]; exact d2, by rw [← hB.out]; exact d3⟩
      case round =>
        clear hIb hownb hbutb d1 d2 d3 c1 c2
        obtain ⟨x, hx1, hx2, rfl, hI, hown, hbut, d2, d3⟩ := hrel
        by_cases hxp : x ≤ p2
        · have hgo2 : decide ((x : Int) ≤ (p2 : Int)) = true := decide_eq_true (by omega)
          have hst := hstep _ x wr (hpr x hx1 hxp) hI hbut.size
          have hmore := range'_more hx1
          have hst := Lib.hid hst
          clear hpr hstep hkeep
          go_wp2_with fail
          refine (hst.out).mono ?_
          rintro e w3 ⟨r, rfl, hI3, hbut3⟩
          have hown3 := own_but hown hbut3 hlow
          have d23 : w3.cell? ⟨wo.heap.size, 1, none⟩ = some (.int .i64 (p2 : Int)) := (hbut3.cell (p := ⟨wo.heap.size, 1, none⟩) d3 (fun h => by have h9 : wo.heap.size < w.heap.size := hlow _ h; have := hB.out; omega)).trans d2
          have d33 := Nat.lt_of_lt_of_le d3 hbut3.size
          have hbutw := hbut.trans hbut3 (fun _ _ h => h)
          rw [List.append_assoc, ← hmore] at hI3
          have hI3 := Lib.hid hI3
          clear hmore hbut3 hst hI hown hbut d2
          go_wp2_with fail
          exact ⟨⟨x + 1, by omega, by omega, by go_num, hI3.out, hown3, hbutw, d23, d33⟩, by simp [intOf]; omega⟩
        · obtain rfl : x = p2 + 1 := by omega
          have hgo2 : decide (((p2 + 1 : Nat) : Int) ≤ (p2 : Int)) = false := decide_eq_false (by omega)
          rw [← hnx] at hI
          have hI := Lib.hid hI
          clear hnx hpr hstep hkeep
          go_wp2_with fail
          exact ⟨⟨k + 1, by omega, by go_num, hI.out, hown, hbut⟩, by simp [intOf]; omega⟩
    · obtain rfl : k = rs.length := by omega
      have hgo : decide ((rs.length : Int) < (rs.length : Int)) = false := decide_eq_false (by omega)
      rw [List.take_length] at hI
      clear hpre hord hstep hkeep
      have hI := Lib.hid hI
      go_wp2_with fail
      refine bodyPost_end (results_none rfl _ _ _) rfl ?_
      exact ⟨_, rfl, hI.out, hbut⟩
set_option maxHeartbeats 4000000 in
set_option maxRecDepth 100000 in
theorem each_beaten_calls (a : Array Value) (f : Nat → Nat) (ha : Words a f) (x1 x2 x3 : Value) (I : List Nat → World → Prop) (S : Nat → Prop) (w : World) (h0 : I [] w) (hs : EachStep 83 [x1, x2, x3] I S w.heap.size (upto f 16384)) :
    Calls Tryz.prog 57 #[.agg a, .func (.func 83) #[] #[x1, x2, x3]] w fun e w' => ∃ r, e = .returned r ∧ I (upto f 16384) w' ∧ But S w w' := by
  obtain ⟨hkeep, hlow, hstep⟩ := hs
  have hsz := ha.size
  have hs1 : (Tryz.prog.info? 43).map (·.size) = some a.size := by rw [ha.size]; exact info30
  have hR := fun W => Ranges_calls a f ha W
  obtain ⟨rs, hrs⟩ : ∃ rs, rs = rangesV (upto f 16384) := ⟨_, rfl⟩
  rw [← hrs] at hR
  have hord : ∀ k p1 p2, rs[k]? = some (p1, p2) → p1 ≤ p2 ∧ p2 < 16384 := fun k p1 p2 h => by
    rw [hrs, upto_filter] at h
    exact ordered _ _ (List.mem_of_getElem? h)
  have hlen : rs.length ≤ 16384 := by
    rw [hrs]
    exact Nat.le_trans (rangesV_le _) (upto_le f 16384)
  have hlast : slotsOf rs = upto f 16384 := by rw [hrs, upto_filter]; exact slots_rngs _ _
  have hpre : ∀ k p1 p2, rs[k]? = some (p1, p2) → ∀ x, p1 ≤ x → x ≤ p2 → slotsOf (rs.take k) ++ List.range' p1 (x - p1) ++ [x] <+: upto f 16384 := fun k p1 p2 h x h1 h2 => slots_pre hrs h h1 h2
  clear hrs
  rw [← hlast] at hpre hstep ⊢
  clear hlast ha
  have hb1 := below_new' w (.cells a 43)
  have hh1 := heapN w (.cells a 43)
  have hI1 := hkeep _ _ _ h0 hb1
  go_enter Tryz.func57, Tryz.ntmps57
  go_wp2_with (refine wpList_load_row rfl 43 _ rfl w.heap.size rfl 43 a (0, 0) _ (heapN w _) Tryz.underlying43 rfl hs1 ?_)
  refine (hR _).mono ?_
  rintro e w2 ⟨v, rfl, hown, hb2⟩
  have hI2 := hkeep _ _ _ hI1 hb2
  have hbut2 : But S w w2 := ((but_below hb1 S).next hb2)
  have hown : w2.ownsRow w.heap.size 117 2 v rs.length (flatR rs) := own_weaken hown (by simp)
  obtain ⟨A, c, rfl⟩ := own_slice hown
  clear hb1 hh1 hI1 hb2 hR h0
  go_wp2_with fail
  go_loopw [5, 6, 10] (fun _ _ i wr => ∃ k : Nat, k ≤ rs.length ∧ i = .int .i64 k ∧ I (slotsOf (rs.take k)) wr ∧ wr.ownsRow w.heap.size 117 2 (.slice A rs.length c) rs.length (flatR rs) ∧ But S w wr) (fun _ _ i _ => rs.length - (intOf i).toNat)
  case atStart => exact ⟨0, by omega, rfl, hI2, hown, hbut2⟩
  case round =>
    clear hown hI2 hbut2
    obtain ⟨k, hk, rfl, hI, hown, hbut⟩ := hrel
    by_cases hkl : k < rs.length
    · obtain ⟨⟨p1, p2⟩, hp⟩ : ∃ p, rs[k]? = some p := ⟨rs[k], List.getElem?_eq_getElem hkl⟩
      obtain ⟨ho1, ho2⟩ := hord k p1 p2 hp
      obtain ⟨g, cap, hgA, -, -⟩ := hown.form (by omega)
      obtain rfl : A = some ⟨g, 0, none⟩ := by injection hgA
      clear hgA
      have hfl := flatR_two hp
      have c1 : wr.cell? ⟨g, k * 2, none⟩ = some (.int .i64 (p1 : Int)) := by rw [hown.cellAt _ (by omega)]; exact hfl.1
      have c2 : wr.cell? ⟨g, k * 2 + 1, none⟩ = some (.int .i64 (p2 : Int)) := by rw [hown.cellAt _ (by omega)]; exact hfl.2
      clear hfl
      have hgo : decide ((k : Int) < (rs.length : Int)) = true := decide_eq_true (by omega)
      have hnx := slots_next hp
      have hpr := hpre k p1 p2 hp
      have hIb := hkeep _ _ _ hI (below_new' wr (.cells #[.int .i64 (p1 : Int), .int .i64 (p2 : Int)] 117))
      have hownb := pw_own_below hown (below_new' wr (.cells #[.int .i64 (p1 : Int), .int .i64 (p2 : Int)] 117))
      have hbutb := hbut.alloc (.cells #[.int .i64 (p1 : Int), .int .i64 (p2 : Int)] 117)
      have d1 : (wr.alloc (.cells #[.int .i64 (p1 : Int), .int .i64 (p2 : Int)] 117)).cell? ⟨wr.heap.size, 0, none⟩ = some (.int .i64 (p1 : Int)) := by simp [go_sem]
      have d2 : (wr.alloc (.cells #[.int .i64 (p1 : Int), .int .i64 (p2 : Int)] 117)).cell? ⟨wr.heap.size, 1, none⟩ = some (.int .i64 (p2 : Int)) := by simp [go_sem]
      have hsw := hbut.size
      have d3 : wr.heap.size < (wr.alloc (.cells #[.int .i64 (p1 : Int), .int .i64 (p2 : Int)] 117)).heap.size := by simp
      obtain ⟨B, hB⟩ : ∃ B, B = wr.heap.size := ⟨_, rfl⟩
      rw [← hB] at d1 d2 d3 hsw
      have hB := Lib.hid hB
      clear hI hown hbut hpre hord
      obtain ⟨wo, rfl⟩ : ∃ wo : World, wo = wr := ⟨_, rfl⟩
      go_wp2_with fail
      go_loopw [6] (fun s6 wr => ∃ x : Nat, p1 ≤ x ∧ x ≤ p2 + 1 ∧ s6 = .int .i64 x ∧ I (slotsOf (rs.take k) ++ List.range' p1 (x - p1)) wr ∧ wr.ownsRow w.heap.size 117 2 (.slice (some ⟨g, 0, none⟩) rs.length c) rs.length (flatR rs) ∧ But S w wr ∧ wr.cell? ⟨wo.heap.size, 1, none⟩ = some (.int .i64 (p2 : Int)) ∧ wo.heap.size < wr.heap.size) (fun s6 _ => 16385 - (intOf s6).toNat)
      case atStart => exact ⟨p1, by omega, by omega, rfl, by rw [Nat.sub_self]; show I (_ ++ []) _; rw [List.append_nil]; exact hIb, hownb, hbutb, by rw [← hB.out]; exact d2, by rw [← hB.out]; exact d3⟩
      case round =>
        clear hIb hownb hbutb d1 d2 d3 c1 c2
        obtain ⟨x, hx1, hx2, rfl, hI, hown, hbut, d2, d3⟩ := hrel
        by_cases hxp : x ≤ p2
        · have hgo2 : decide ((x : Int) ≤ (p2 : Int)) = true := decide_eq_true (by omega)
          have hst := hstep _ x wr (hpr x hx1 hxp) hI hbut.size
          have hmore := range'_more hx1
          have hst := Lib.hid hst
          clear hpr hstep hkeep
          go_wp2_with fail
          refine (hst.out).mono ?_
          rintro e w3 ⟨r, rfl, hI3, hbut3⟩
          have hown3 := own_but hown hbut3 hlow
          have d23 : w3.cell? ⟨wo.heap.size, 1, none⟩ = some (.int .i64 (p2 : Int)) := (hbut3.cell (p := ⟨wo.heap.size, 1, none⟩) d3 (fun h => by have h9 : wo.heap.size < w.heap.size := hlow _ h; have := hB.out; omega)).trans d2
          have d33 := Nat.lt_of_lt_of_le d3 hbut3.size
          have hbutw := hbut.trans hbut3 (fun _ _ h => h)
          rw [List.append_assoc, ← hmore] at hI3
          have hI3 := Lib.hid hI3
          clear hmore hbut3 hst hI hown hbut d2
          go_wp2_with fail
          exact ⟨⟨x + 1, by omega, by omega, by go_num, hI3.out, hown3, hbutw, d23, d33⟩, by simp [intOf]; omega⟩
        · obtain rfl : x = p2 + 1 := by omega
          have hgo2 : decide (((p2 + 1 : Nat) : Int) ≤ (p2 : Int)) = false := decide_eq_false (by omega)
          rw [← hnx] at hI
          have hI := Lib.hid hI
          clear hnx hpr hstep hkeep
          go_wp2_with fail
          exact ⟨⟨k + 1, by omega, by go_num, hI.out, hown, hbut⟩, by simp [intOf]; omega⟩
    · obtain rfl : k = rs.length := by omega
      have hgo : decide ((rs.length : Int) < (rs.length : Int)) = false := decide_eq_false (by omega)
      rw [List.take_length] at hI
      clear hpre hord hstep hkeep
      have hI := Lib.hid hI
      go_wp2_with fail
      refine bodyPost_end (results_none rfl _ _ _) rfl ?_
      exact ⟨_, rfl, hI.out, hbut⟩
end Go.Proofs.YtgdcnenlelckhaaGreatDoor

namespace Go.Proofs.YtgdcnenlelckhaaGreatDoor
open Go.RowKit Go.Proofs.YtgdcnenlelckhaaGreatDoorW.PrintWords
open SlS SlT
theorem VB.congr {W : World} {g : Nat} {v v' : VS} (h : VB W g v) (h1 : v.self = v'.self) (h2 : ∀ s, s < 16384 → v.own s = v'.own s) (h3 : ∀ n, n < 64 → v.ep n = v'.ep n) (h4 : v.cur = v'.cur) : VB W g v' := by
  obtain ⟨c, hc, hv⟩ := h
  exact ⟨c, hc, ⟨hv.size, by rw [← h1]; exact hv.self, fun s hs => by rw [← h2 s hs]; exact hv.own s hs, fun n hn => by rw [← h3 n hn]; exact hv.ep n hn, by rw [← h4]; exact hv.cur,
    fun s hs => by rw [← h2 s hs]; exact hv.node s hs, by rw [← h1]; exact hv.selfLt, fun n hn => by rw [← h3 n hn]; exact hv.epLt n hn, by rw [← h4]; exact hv.curLt⟩⟩
theorem rev_ind {α : Type} {P : List α → Prop} (h0 : P []) (h1 : ∀ l a, P l → P (l ++ [a])) (l : List α) : P l := by
  have : ∀ m : List α, P m.reverse := by
    intro m
    induction m with
    | nil => exact h0
    | cons a m ih => rw [List.reverse_cons]; exact h1 _ _ ih
  have := this l.reverse
  rwa [List.reverse_reverse] at this
set_option maxRecDepth 100000 in
theorem newStep_calls {g bs bv : Nat} {v : VS} (W : World) (h : VB W g v) (hs : W.cell? ⟨bs, 0, none⟩ = some (.int .i64 (v.self : Int))) (hv : W.cell? ⟨bv, 0, none⟩ = some (.pointer (some ⟨g, 0, none⟩))) (k : Nat) (hk : k < 16384) :
    Calls Tryz.prog 58 #[.int .i64 k, .pointer (some ⟨bs, 0, none⟩), .pointer (some ⟨bv, 0, none⟩)] W fun e W' => ∃ r, e = .returned r ∧ VB W' g (setOwn v k v.self) ∧ But (fun i => i = g) W W' := by
  have h0 := h.atOwn k hk
  have hz := h.thaw (1 + k)
  have hs64 := h.self64
  have hB1 := Lib.hid (h.ownSet k hk (v.self : Int) (by omega))
  have hbut := Lib.hid ((But.refl (fun i => i = g) W).set (p := ⟨g, 1 + k, none⟩) (fun _ => rfl) (.int .i8 (v.self : Int)))
  generalize v.self = q at *
  clear h
  go_enter Tryz.func58, Tryz.ntmps58
  go_wp2_with fail
  go_region
  go_wp2_with fail
  refine bodyPost_end (results_none rfl _ _ _) rfl ?_
  exact ⟨_, rfl, hB1.out.drew, hbut.out.drew⟩
/-- one slot is claimed -/
def stepB (n e : Nat) (v : VS) (k : Nat) : VS := if v.own k = -1 ∨ v.ep (v.own k).toNat < e then setOwn v k (n : Int) else v
theorem stepB_self (n e : Nat) (v : VS) (k : Nat) : (stepB n e v k).self = v.self ∧ (stepB n e v k).ep = v.ep ∧ (stepB n e v k).cur = v.cur := by
  unfold stepB
  split <;> exact ⟨rfl, rfl, rfl⟩
theorem fold_step (n e : Nat) (v : VS) (hn : v.ep n = e) : ∀ l : List Nat, (l.foldl (stepB n e) v).self = v.self ∧ (l.foldl (stepB n e) v).ep = v.ep ∧ (l.foldl (stepB n e) v).cur = v.cur ∧
    ∀ s, (l.foldl (stepB n e) v).own s = if s ∈ l then (if v.own s = -1 ∨ v.ep (v.own s).toNat < e then (n : Int) else v.own s) else v.own s := by
  intro l
  induction l using rev_ind with
  | h0 => exact ⟨rfl, rfl, rfl, fun s => by rw [if_neg (by simp)]; rfl⟩
  | h1 l k ih =>
    obtain ⟨i1, i2, i3, i4⟩ := ih
    rw [List.foldl_append, List.foldl_cons, List.foldl_nil]
    generalize l.foldl (stepB n e) v = u at *
    obtain ⟨j1, j2, j3⟩ := stepB_self n e u k
    refine ⟨j1.trans i1, j2.trans i2, j3.trans i3, fun s => ?_⟩
    by_cases hsk : s = k
    · subst hsk
      rw [if_pos (by simp)]
      have i4 := i4 s
      unfold stepB
      rw [i2]
      by_cases hin : s ∈ l
      · rw [if_pos hin] at i4
        by_cases hc : v.own s = -1 ∨ v.ep (v.own s).toNat < e
        · rw [if_pos hc] at i4 ⊢
          rw [if_neg (by rw [i4]; rintro (h | h); omega; rw [Int.toNat_natCast, hn] at h; omega), i4]
        · rw [if_neg hc] at i4 ⊢
          rw [i4, if_neg hc, i4]
      · rw [if_neg hin] at i4
        rw [i4]
        split
        · show (if s = s then (n : Int) else u.own s) = _
          rw [if_pos rfl]
        · exact i4
    · have e1 : (stepB n e u k).own s = u.own s := by
        unfold stepB
        split
        · show (if s = k then (n : Int) else u.own s) = _
          rw [if_neg hsk]
        · rfl
      rw [e1, i4 s]
      simp only [List.mem_append, List.mem_singleton, hsk, or_false]
set_option maxRecDepth 100000 in
theorem claimStep_calls {g bv bp bn : Nat} {v : VS} (W : World) (h : VB W g v) (n e : Nat) (hn : n < 64) (hv : W.cell? ⟨bv, 0, none⟩ = some (.pointer (some ⟨g, 0, none⟩))) (hp : W.cell? ⟨bp, 3, none⟩ = some (.int .u64 (e : Int))) (hq : W.cell? ⟨bn, 0, none⟩ = some (.int .i64 (n : Int))) (k : Nat) (hk : k < 16384) :
    Calls Tryz.prog 82 #[.int .i64 k, .pointer (some ⟨bv, 0, none⟩), .pointer (some ⟨bp, 0, none⟩), .pointer (some ⟨bn, 0, none⟩)] W fun r W' => ∃ x, r = .returned x ∧ VB W' g (stepB n e v k) ∧ But (fun i => i = g) W W' := by
  have h0 := h.atOwn k hk
  have hz := h.thaw (1 + k)
  have hnd := h.nodes k hk
  have hB1 := Lib.hid (h.ownSet k hk (n : Int) (by omega))
  have hbut := Lib.hid ((But.refl (fun i => i = g) W).set (p := ⟨g, 1 + k, none⟩) (fun _ => rfl) (.int .i8 (n : Int)))
  by_cases h1 : v.own k = -1
  · have e1 : (v.own k == (-1 : Int)) = true := beq_iff_eq.2 h1
    have e2 : stepB n e v k = setOwn v k (n : Int) := by unfold stepB; rw [if_pos (Or.inl h1)]
    rw [e2]
    clear h e2
    rw [h1] at h0
    clear h1 e1 hnd
    go_enter Tryz.func82, Tryz.ntmps82
    go_wp2_with fail
    go_region
    go_wp2_with fail
    go_region
    go_wp2_with fail
    refine bodyPost_end (results_none rfl _ _ _) rfl ?_
    exact ⟨_, rfl, by first | exact hB1.out.drew | exact hB1.out.drew.drew, by first | exact hbut.out.drew | exact hbut.out.drew.drew⟩
  · obtain ⟨o, ho⟩ : ∃ o : Nat, v.own k = o := ⟨(v.own k).toNat, by omega⟩
    have ho64 : o < 64 := by omega
    have hm1 : ((o : Int) == (-1 : Int)) = false := beq_eq_false_iff_ne.2 (by omega)
    have h2 := h.atEp o ho64
    rw [ho] at h0
    by_cases h3 : v.ep o < e
    · have e1 : decide (((v.ep o : Nat) : Int) < (e : Int)) = true := decide_eq_true (by omega)
      have e2 : stepB n e v k = setOwn v k (n : Int) := by unfold stepB; rw [if_pos (Or.inr (by rw [ho, Int.toNat_natCast]; exact h3))]
      rw [e2]
      clear h e2 h1 ho hnd
      generalize v.ep o = x at *
      go_enter Tryz.func82, Tryz.ntmps82
      go_wp2_with fail
      go_region
      go_wp2_with fail
      go_region
      go_wp2_with fail
      refine bodyPost_end (results_none rfl _ _ _) rfl ?_
      exact ⟨_, rfl, by first | exact hB1.out.drew | exact hB1.out.drew.drew, by first | exact hbut.out.drew | exact hbut.out.drew.drew⟩
    · have e1 : decide (((v.ep o : Nat) : Int) < (e : Int)) = false := decide_eq_false (by omega)
      have e2 : stepB n e v k = v := by unfold stepB; rw [if_neg (by rw [ho, Int.toNat_natCast]; rintro (h | h); omega; exact h3 h)]
      rw [e2]
      have h := Lib.hid h
      clear e2 h1 ho hnd hB1 hbut
      generalize hx : v.ep o = x at *
      clear hx
      go_enter Tryz.func82, Tryz.ntmps82
      go_wp2_with fail
      go_region
      go_wp2_with fail
      refine bodyPost_end (results_none rfl _ _ _) rfl ?_
      exact ⟨_, rfl, h.out.drew, (But.refl _ _).drew⟩
/-- the first that is beaten -/
def nextB (v : VS) (fr : Int) (e : Nat) (first : Int) (k : Nat) : Int := if first = -1 ∧ v.own k ≠ -1 ∧ v.own k ≠ fr ∧ e < v.ep (v.own k).toNat then v.own k else first
theorem fold_next (v : VS) (fr : Int) (e : Nat) : ∀ l : List Nat, l.foldl (nextB v fr e) (-1) = match l.find? (fun s => decide (v.own s ≠ -1 ∧ v.own s ≠ fr ∧ e < v.ep (v.own s).toNat)) with
    | some s => v.own s
    | none => -1 := by
  intro l
  induction l using rev_ind with
  | h0 => rfl
  | h1 l k ih =>
    rw [List.foldl_append, List.foldl_cons, List.foldl_nil, ih, List.find?_append]
    cases hf : l.find? (fun s => decide (v.own s ≠ -1 ∧ v.own s ≠ fr ∧ e < v.ep (v.own s).toNat)) with
    | some s =>
      have h1 : v.own s ≠ -1 ∧ v.own s ≠ fr ∧ e < v.ep (v.own s).toNat := of_decide_eq_true (by simpa using List.find?_some hf)
      show nextB v fr e (v.own s) k = v.own s
      unfold nextB
      rw [if_neg (fun h => h1.1 h.1)]
    | none =>
      show nextB v fr e (-1) k = _
      unfold nextB
      by_cases hc : v.own k ≠ -1 ∧ v.own k ≠ fr ∧ e < v.ep (v.own k).toNat
      · rw [if_pos ⟨rfl, hc⟩]
        simp [hc]
      · rw [if_neg (fun h => hc h.2)]
        have : List.find? (fun s => decide (v.own s ≠ -1 ∧ v.own s ≠ fr ∧ e < v.ep (v.own s).toNat)) [k] = none := by
          rw [List.find?_cons, decide_eq_false hc]; rfl
        rw [this]
        rfl
set_option maxHeartbeats 2000000 in
set_option maxRecDepth 100000 in
theorem beatStep_calls {g bv bf bp : Nat} {v : VS} (W : World) (h : VB W g v) (fr first : Int) (e : Nat) (hv : W.cell? ⟨bv, 0, none⟩ = some (.pointer (some ⟨g, 0, none⟩))) (hp : W.cell? ⟨bp, 3, none⟩ = some (.int .u64 (e : Int))) (hq : W.cell? ⟨bp, 1, none⟩ = some (.int .i64 fr))
    (hf : W.heap[bf]? = some (.cells #[.int .i64 first] 3 (0, 0))) (k : Nat) (hk : k < 16384) :
    Calls Tryz.prog 83 #[.int .i64 k, .pointer (some ⟨bv, 0, none⟩), .pointer (some ⟨bf, 0, none⟩), .pointer (some ⟨bp, 0, none⟩)] W fun r W' => ∃ x, r = .returned x ∧ W'.heap[bf]? = some (.cells #[.int .i64 (nextB v fr e first k)] 3 (0, 0)) ∧ But (fun i => i = bf) W W' := by
  have h0 := h.atOwn k hk
  have hnd := h.nodes k hk
  have f0 : W.cell? ⟨bf, 0, none⟩ = some (.int .i64 first) := by rw [cellBox hf]; rfl
  have fz : W.frozen? ⟨bf, 0, none⟩ = false := openBox hf
  by_cases h1 : first = -1
  · subst h1
    by_cases h2 : v.own k = -1
    · have e2 : nextB v fr e (-1) k = -1 := by unfold nextB; rw [if_neg (fun h => h.2.1 h2)]
      rw [e2]
      rw [h2] at h0
      have hf := Lib.hid hf
      clear h h2 hnd e2
      go_enter Tryz.func83, Tryz.ntmps83
      go_wp2_with fail
      go_region
      go_wp2_with fail
      refine bodyPost_end (results_none rfl _ _ _) rfl ?_
      exact ⟨_, rfl, hf.out, (But.refl _ _).drew⟩
    · obtain ⟨o, ho⟩ : ∃ o : Nat, v.own k = o := ⟨(v.own k).toNat, by omega⟩
      have ho64 : o < 64 := by omega
      have hm1 : ((o : Int) != (-1 : Int)) = true := bne_iff_ne.2 (by omega)
      have h3 := h.atEp o ho64
      rw [ho] at h0
      by_cases h4 : (o : Int) = fr
      · have e2 : nextB v fr e (-1) k = -1 := by unfold nextB; rw [if_neg (fun h => h.2.2.1 (by rw [ho]; exact h4))]
        rw [e2]
        have hf := Lib.hid hf
        subst h4
        clear h h2 hnd e2 ho h3
        go_enter Tryz.func83, Tryz.ntmps83
        go_wp2_with fail
        go_region
        go_wp2_with fail
        refine bodyPost_end (results_none rfl _ _ _) rfl ?_
        exact ⟨_, rfl, hf.out, (But.refl _ _).drew⟩
      · have hne : ((o : Int) != fr) = true := bne_iff_ne.2 h4
        by_cases h5 : e < v.ep o
        · have e2 : nextB v fr e (-1) k = o := by unfold nextB; rw [if_pos ⟨rfl, by rw [ho]; omega, by rw [ho]; exact h4, by rw [ho, Int.toNat_natCast]; exact h5⟩, ho]
          rw [e2]
          have e3 : decide ((e : Int) < ((v.ep o : Nat) : Int)) = true := decide_eq_true (by omega)
          have G := Lib.hid (heap_setCell_same W bf 0 _ _ (.int .i64 (o : Int)) hf)
          have hbut := Lib.hid ((But.refl (fun i => i = bf) W).set (p := ⟨bf, 0, none⟩) (fun _ => rfl) (.int .i64 (o : Int)))
          clear h h2 hnd e2 ho hf
          have h4 := Lib.hid h4
          generalize v.ep o = x at *
          go_enter Tryz.func83, Tryz.ntmps83
          go_wp2_with fail
          go_region
          go_wp2_with fail
          refine bodyPost_end (results_none rfl _ _ _) rfl ?_
          exact ⟨_, rfl, G.out, hbut.out.drew⟩
        · have e2 : nextB v fr e (-1) k = -1 := by unfold nextB; rw [if_neg (fun h => h5 (by have := h.2.2.2; rw [ho, Int.toNat_natCast] at this; exact this))]
          rw [e2]
          have e3 : decide ((e : Int) < ((v.ep o : Nat) : Int)) = false := decide_eq_false (by omega)
          have hf := Lib.hid hf
          clear h h2 hnd e2 ho
          have h4 := Lib.hid h4
          generalize v.ep o = x at *
          go_enter Tryz.func83, Tryz.ntmps83
          go_wp2_with fail
          go_region
          go_wp2_with fail
          refine bodyPost_end (results_none rfl _ _ _) rfl ?_
          exact ⟨_, rfl, hf.out, (But.refl _ _).drew⟩
  · have e2 : nextB v fr e first k = first := by unfold nextB; rw [if_neg (fun h => h1 h.1)]
    rw [e2]
    have e3 : (first == (-1 : Int)) = false := beq_eq_false_iff_ne.2 h1
    have hf := Lib.hid hf
    have h1 := Lib.hid h1
    clear h e2
    generalize v.own k = o at *
    go_enter Tryz.func83, Tryz.ntmps83
    go_wp2_with fail
    go_region
    go_wp2_with fail
    refine bodyPost_end (results_none rfl _ _ _) rfl ?_
    exact ⟨_, rfl, hf.out, (But.refl _ _).drew⟩
end Go.Proofs.YtgdcnenlelckhaaGreatDoor

namespace Go.Proofs.YtgdcnenlelckhaaGreatDoor
open Go.RowKit Go.Proofs.YtgdcnenlelckhaaGreatDoorW.PrintWords
open SlS SlT
def chk8 : List Value → Nat → Bool
  | _, 0 => true
  | .int .i8 0 :: l, n + 1 => chk8 l n
  | _, _ => false
theorem chk8_at : ∀ (n : Nat) (l : List Value), chk8 l n = true → ∀ i, i < n → l[i]? = some (.int .i8 0)
  | 0, _, _, i, hi => by omega
  | n + 1, l, h, i, hi => by
    match l, h with
    | .int .i8 0 :: l, h =>
      cases i with
      | zero => rfl
      | succ i =>
        rw [List.getElem?_cons_succ]
        exact chk8_at n l h i (by omega)
theorem zown107 : chk8 (Tryz.zeroCells107.toList.drop 1) 16384 = true := by kernel_rfl
theorem zep107 : Tryz.zeroCells107.toList.drop 16385 = List.replicate 65 (.int .u64 0) := by kernel_rfl
/-- a new view's cells, all slots its own zero -/
theorem zero_view (self e : Nat) (hs : self < 64) (he : e < 18446744073709551616) : VC ((Tryz.zeroCells107.setIfInBounds 0 (.int .i64 (self : Int))).setIfInBounds 16449 (.int .u64 (e : Int))) ⟨self, fun _ => 0, fun _ => 0, e⟩ := by
  have hz : Tryz.zeroCells107.size = 16450 := zsize107
  have z0 : ∀ s, s < 16384 → Tryz.zeroCells107[1 + s]? = some (.int .i8 0) := fun s h => by
    have := chk8_at _ _ zown107 s h
    rw [List.getElem?_drop, Array.getElem?_toList] at this
    exact this
  have z1 : ∀ n, n < 64 → Tryz.zeroCells107[16385 + n]? = some (.int .u64 0) := fun n h => by
    have h1 : (Tryz.zeroCells107.toList.drop 16385)[n]? = some (.int .u64 0) := by
      rw [zep107, List.getElem?_replicate, if_pos (by omega)]
    rw [List.getElem?_drop, Array.getElem?_toList] at h1
    exact h1
  refine ⟨by simp [hz], ?_, fun s h => ?_, fun n h => ?_, ?_, fun s h => ⟨by show (-1 : Int) ≤ 0; omega, by show (0 : Int) < 64; omega⟩, hs, fun n h => by show (0 : Nat) < _; omega, he⟩
  · rw [set_other (by omega), set_this (by omega)]
  · rw [set_other (by omega), set_other (by omega)]
    exact z0 s h
  · rw [set_other (by omega), set_other (by omega)]
    exact z1 n h
  · rw [set_this (by simp [hz])]
/-- the slots of a view, those that stand in a row its own -/
def ownL (v : VS) (l : List Nat) : VS := { v with own := fun s => if s ∈ l then (v.self : Int) else v.own s }
def NewPost (self : Int) (f : Nat → Nat) (e : Nat) (w : World) (r : Ending) (w' : World) : Prop :=
  Below w.heap.size w w' ∧ if 0 ≤ self ∧ self < 64 then (if e ≤ 4611686018427387904 then ∃ g, r = .returned (.tuple #[.pointer (some ⟨g, 0, none⟩), .int .i64 0]) ∧ w.heap.size ≤ g ∧ VB w' g (newV self.toNat e f)
    else r = .returned (.tuple #[.pointer none, .int .i64 1])) else r = .returned (.tuple #[.pointer none, .int .i64 150])
/-- a view that begins, and what stands beside it -/
structure NewW (w : World) (sf : Nat) (a : Array Value) (v : VS) (W : World) : Prop where
  bel : Below w.heap.size w W
  b0 : W.heap[w.heap.size]? = some (.cells #[.int .i64 (sf : Int)] 3 (0, 0))
  b1 : W.heap[w.heap.size + 1]? = some (.cells a 43 (0, 0))
  view : VB W (w.heap.size + 1 + 1) v
  b3 : W.heap[w.heap.size + 1 + 1 + 1]? = some (.cells #[.pointer (some ⟨w.heap.size + 1 + 1, 0, none⟩)] 64 (0, 0))
theorem NewW.keep {w : World} {self : Nat} {a : Array Value} {v : VS} {W W' : World} (h : NewW w self a v W) {S : Nat → Prop} (hb : But S W W') (hS : ∀ k, S k → k = w.heap.size + 1 + 1) {v' : VS} (hv : VB W' (w.heap.size + 1 + 1) v') : NewW w self a v' W' := by
  have k0 : ∀ k, ¬ k = w.heap.size + 1 + 1 → ¬ S k := fun k h1 h2 => h1 (hS k h2)
  exact ⟨h.bel.trans (hb.below h.bel.size fun i hi hs => by have := hS i hs; omega), (hb.block _ (blk_lt h.b0) (k0 _ (by omega))).trans h.b0, (hb.block _ (blk_lt h.b1) (k0 _ (by omega))).trans h.b1, hv, (hb.block _ (blk_lt h.b3) (k0 _ (by omega))).trans h.b3⟩
theorem newW_start (w : World) (self : Nat) (a C : Array Value) (v : VS) (hC : VC C v) : NewW w self a v ((((w.alloc (.cells #[.int .i64 (self : Int)] 3)).alloc (.cells a 43)).alloc (.cells C 107)).alloc (.cells #[.pointer (some ⟨w.heap.size + 1 + 1, 0, none⟩)] 64)) := by
  have s1 : (w.alloc (.cells #[.int .i64 (self : Int)] 3)).heap.size = w.heap.size + 1 := by simp
  generalize hw1 : w.alloc (.cells #[.int .i64 (self : Int)] 3) = w1 at *
  have s2 : (w1.alloc (.cells a 43)).heap.size = w.heap.size + 1 + 1 := by simp [s1]
  have q1 : w1.heap[w.heap.size]? = some (.cells #[.int .i64 (self : Int)] 3 (0, 0)) := by rw [← hw1]; exact heapN w _
  have p1 : Below w.heap.size w w1 := by rw [← hw1]; exact below_new' _ _
  have q2 : (w1.alloc (.cells a 43)).heap[w.heap.size + 1]? = some (.cells a 43 (0, 0)) := by rw [← s1]; exact heapN w1 _
  have p2 := below_new' w1 (.cells a 43)
  generalize w1.alloc (.cells a 43) = w2 at *
  have s3 : (w2.alloc (.cells C 107)).heap.size = w.heap.size + 1 + 1 + 1 := by simp [s2]
  have q3 : (w2.alloc (.cells C 107)).heap[w.heap.size + 1 + 1]? = some (.cells C 107 (0, 0)) := by rw [← s2]; exact heapN w2 _
  have p3 := below_new' w2 (.cells C 107)
  generalize w2.alloc (.cells C 107) = w3 at *
  have q4 : (w3.alloc (.cells #[.pointer (some ⟨w.heap.size + 1 + 1, 0, none⟩)] 64)).heap[w.heap.size + 1 + 1 + 1]? = some (.cells #[.pointer (some ⟨w.heap.size + 1 + 1, 0, none⟩)] 64 (0, 0)) := by rw [← s3]; exact heapN w3 _
  have p4 := below_new' w3 (.cells #[.pointer (some ⟨w.heap.size + 1 + 1, 0, none⟩)] 64)
  generalize w3.alloc (.cells #[.pointer (some ⟨w.heap.size + 1 + 1, 0, none⟩)] 64) = w4 at *
  refine ⟨p1.trans ((p2.mono (by omega)).trans ((p3.mono (by omega)).trans (p4.mono (by omega)))), ?_, ?_, ⟨C, ?_, hC⟩, q4⟩
  · rw [p4.block _ (by omega), p3.block _ (by omega), p2.block _ (by omega)]; exact q1
  · rw [p4.block _ (by omega), p3.block _ (by omega)]; exact q2
  · rw [p4.block _ (by omega)]; exact q3
set_option maxHeartbeats 2000000 in
set_option maxRecDepth 100000 in
theorem vNew_calls (self : Int) (a : Array Value) (f : Nat → Nat) (ha : Words a f) (e : Nat) (he : e < 18446744073709551616) (w : World) : Calls Tryz.prog 32 #[.int .i64 self, .agg a, .int .u64 e] w (NewPost self f e w) := by
  have hn := vnode_calls self
  have hs1 : (Tryz.prog.info? 43).map (·.size) = some a.size := by rw [ha.size]; exact info30
  by_cases h1 : 0 ≤ self ∧ self < 64
  · rw [decide_eq_true h1.1, decide_eq_true h1.2] at hn
    obtain ⟨self, rfl⟩ : ∃ q : Nat, self = q := ⟨self.toNat, by omega⟩
    have hs64 : self < 64 := by omega
    by_cases h2 : e ≤ 4611686018427387904
    · have h3 : decide ((4611686018427387904 : Int) < (e : Int)) = false := decide_eq_false (by omega)
      have h3' : ¬ (4611686018427387904 : Int) < (e : Int) := by omega
      have hZ := Lib.hid (zero_view self e hs64 he)
      unfold NewPost
      simp only [if_pos h1, if_pos h2, Int.toNat_natCast]
      have hE := fun (x1 x2 : Value) I S W h0 hs => each_new_calls a f ha x1 x2 I S W h0 hs
      have hsz := ha.size
      generalize hC : (Tryz.zeroCells107.setIfInBounds 0 (.int .i64 (self : Int))).setIfInBounds 16449 (.int .u64 (e : Int)) = C at *
      go_enter Tryz.func32, Tryz.ntmps32
      go_wp2_with (first | (go_at_call 46; refine (hn _).mono ?_; rintro e w2 ⟨rfl, rfl⟩))
      have hW := newW_start w self a C _ hZ.out
      clear hZ hC h3 h3' h2 hn
      generalize World.alloc _ (.cells #[.pointer (some ⟨w.heap.size + 1 + 1, 0, none⟩)] 64) = W at *
      have c0 : W.cell? ⟨w.heap.size, 0, none⟩ = some (.int .i64 (self : Int)) := by rw [cellBox hW.b0]; rfl
      have c3 : W.cell? ⟨w.heap.size + 1 + 1 + 1, 0, none⟩ = some (.pointer (some ⟨w.heap.size + 1 + 1, 0, none⟩)) := by rw [cellBox hW.b3]; rfl
      have c4 := hW.view.atEp self hs64
      have c5 := hW.view.thaw (16385 + self)
      change _ = some (Value.int .u64 ((0 : Nat) : Int)) at c4
      have hW2 := hW.keep ((But.refl (fun k => k = w.heap.size + 1 + 1) W).set (p := ⟨w.heap.size + 1 + 1, 16385 + self, none⟩) (fun _ => rfl) (.int .u64 (e : Int))) (fun _ h => h) (hW.view.epSet self hs64 e he)
      clear hW
      go_region
      go_wp2_with fail
      have hW3 := hW2.keep (but_below (below_drew (Below.refl _ _)) fun _ => False) (fun _ h => h.elim) hW2.view.drew
      clear hW2 c0 c3 c4 c5
      go_loopw [9, 27] (fun _ i wr => ∃ k : Nat, k ≤ 16384 ∧ i = .int .i64 k ∧ NewW w self a { (setEp ⟨self, fun _ => 0, fun _ => 0, e⟩ self e) with own := fun s => if s < k then -1 else 0 } wr) (fun _ i _ => 16384 - (intOf i).toNat)
      case atStart => exact ⟨0, by omega, rfl, hW3.keep (But.refl (fun _ => False) _) (fun _ h => h.elim) (hW3.view.congr rfl (fun s _ => by show (0 : Int) = if s < 0 then -1 else 0; rw [if_neg (by omega)]) (fun _ _ => rfl) rfl)⟩
      case round =>
        clear hW3
        obtain ⟨k, hk, rfl, hW⟩ := hrel
        by_cases hk6 : k < 16384
        · have hgo : decide ((k : Int) < 16384) = true := decide_eq_true (by omega)
          have c3 : wr.cell? ⟨w.heap.size + 1 + 1 + 1, 0, none⟩ = some (.pointer (some ⟨w.heap.size + 1 + 1, 0, none⟩)) := by rw [cellBox hW.b3]; rfl
          have c4 := hW.view.atOwn k hk6
          have c5 := hW.view.thaw (1 + k)
          change _ = some (Value.int .i8 (if k < k then -1 else 0)) at c4
          have hW2 := Lib.hid (hW.keep ((But.refl (fun k => k = w.heap.size + 1 + 1) wr).set (p := ⟨w.heap.size + 1 + 1, 1 + k, none⟩) (fun _ => rfl) (.int .i8 (-1))) (fun _ h => h) (hW.view.ownSet k hk6 (-1) (by omega)))
          clear hW hE
          go_wp2_with fail
          exact ⟨⟨k + 1, by omega, by go_num, hW2.out.keep (But.refl (fun _ => False) _) (fun _ h => h.elim) (hW2.out.view.congr rfl (fun s _ => by
            show (if s = k then (-1 : Int) else if s < k then -1 else 0) = if s < k + 1 then -1 else 0
            split
            · rw [if_pos (by omega)]
            · by_cases h : s < k
              · rw [if_pos h, if_pos (by omega)]
              · rw [if_neg h, if_neg (by omega)]) (fun _ _ => rfl) rfl)⟩, by simp [intOf]; omega⟩
        · obtain rfl : k = 16384 := by omega
          have hb1 := hW.b1
          go_wp2_with (refine wpList_load_row rfl 43 _ rfl (w.heap.size + 1) rfl 43 a (0, 0) _ hb1 Tryz.underlying43 rfl hs1 ?_)
          have hW0 : NewW w self a (newV self e (fun _ => 0)) wr := hW.keep (But.refl (fun _ => False) _) (fun _ h => h.elim) (hW.view.congr rfl (fun s hs => by
            show (if s < 16384 then (-1 : Int) else 0) = if hasN (fun _ => 0) s = true then (self : Int) else -1
            rw [if_pos hs, if_neg (by simp [hasN])]) (fun n _ => by
            show (if n = self then e else 0) = if n = self then e else 0
            rfl) rfl)
          clear hW
          refine (hE _ _ (fun pre W => NewW w self a (ownL (newV self e (fun _ => 0)) pre) W) (fun k => k = w.heap.size + 1 + 1) _ ?_ ⟨?_, ?_, ?_⟩).mono ?_
          · exact hW0.keep (But.refl (fun _ => False) _) (fun _ h => h.elim) (hW0.view.congr rfl (fun s _ => by simp [ownL]) (fun _ _ => rfl) rfl)
          · intro pre W W' hI hb
            exact hI.keep (but_below hb fun _ => False) (fun _ h => h.elim) (hI.view.below hb)
          · intro k hk
            have := hW0.view.lt
            omega
          · intro pre s W hpre hI hle
            have hs16 : s < 16384 := by
              have : s ∈ upto f 16384 := hpre.subset (by simp)
              rw [upto_filter, List.mem_filter, List.mem_range] at this
              exact this.1
            refine (newStep_calls W hI.view (bs := w.heap.size) (bv := w.heap.size + 1 + 1 + 1) (by rw [cellBox hI.b0]; rfl) (by rw [cellBox hI.b3]; rfl) s hs16).mono ?_
            rintro r W' ⟨x, rfl, hv, hb⟩
            refine ⟨x, rfl, hI.keep hb (fun _ h => h) (hv.congr rfl (fun k _ => ?_) (fun _ _ => rfl) rfl), hb⟩
            show (if k = s then (self : Int) else if k ∈ pre then (self : Int) else _) = if k ∈ pre ++ [s] then (self : Int) else _
            simp only [List.mem_append, List.mem_singleton]
            by_cases e1 : k = s
            · rw [if_pos e1, if_pos (Or.inr e1)]
            · rw [if_neg e1]
              by_cases e2 : k ∈ pre
              · rw [if_pos e2, if_pos (Or.inl e2)]
              · rw [if_neg e2, if_neg (by rintro (h | h); exact e2 h; exact e1 h)]
          · rintro r W' ⟨x, rfl, hI, -⟩
            have c3 : W'.cell? ⟨w.heap.size + 1 + 1 + 1, 0, none⟩ = some (.pointer (some ⟨w.heap.size + 1 + 1, 0, none⟩)) := by rw [cellBox hI.b3]; rfl
            have hI := Lib.hid hI
            clear hW0 hE
            go_wp2_with fail
            refine bodyPost_ret (v := .tuple #[.pointer (some ⟨w.heap.size + 1 + 1, 0, none⟩), .int .i64 0]) (by simp [results, Tryz.results32, go_sem]) rfl ?_
            refine ⟨hI.out.bel, _, rfl, by omega, hI.out.view.congr rfl (fun s hs => ?_) (fun _ _ => rfl) rfl⟩
            show (if s ∈ upto f 16384 then (self : Int) else if hasN (fun _ => 0) s = true then (self : Int) else -1) = if hasN f s = true then (self : Int) else -1
            have e0 : ¬ hasN (fun _ => 0) s = true := by simp [hasN]
            rw [if_neg e0]
            by_cases e1 : hasN f s = true
            · rw [if_pos e1, if_pos (by rw [upto_filter, List.mem_filter, List.mem_range]; exact ⟨hs, e1⟩)]
            · rw [if_neg e1, if_neg (by rw [upto_filter, List.mem_filter, List.mem_range]; exact fun h => e1 h.2)]
    · have h3 : (4611686018427387904 : Int) < (e : Int) := by omega
      unfold NewPost
      simp only [if_pos h1, if_neg h2, Int.toNat_natCast]
      have hb := Lib.hid ((below_new' w (.cells #[.int .i64 (self : Int)] 3)).trans ((below_new' _ (.cells a 43)).mono (by simp)))
      clear ha hs1
      go_enter Tryz.func32, Tryz.ntmps32
      go_wp2_with (first | (go_at_call 46; refine (hn _).mono ?_; rintro e w2 ⟨rfl, rfl⟩))
      refine bodyPost_ret (v := .tuple #[.pointer none, .int .i64 1]) (by simp [results, Tryz.results32, go_sem]) rfl ?_
      exact ⟨hb.out, rfl⟩
  · have e1 : (decide (0 ≤ self) && decide (self < 64)) = false := by rw [Bool.and_eq_false_iff, decide_eq_false_iff_not, decide_eq_false_iff_not]; omega
    rw [e1] at hn
    unfold NewPost
    simp only [if_neg h1]
    have hb := Lib.hid ((below_new' w (.cells #[.int .i64 self] 3)).trans ((below_new' _ (.cells a 43)).mono (by simp)))
    clear ha hs1
    go_enter Tryz.func32, Tryz.ntmps32
    go_wp2_with (first | (go_at_call 46; refine (hn _).mono ?_; rintro e w2 ⟨rfl, rfl⟩))
    refine bodyPost_ret (v := .tuple #[.pointer none, .int .i64 150]) (by simp [results, Tryz.results32, go_sem]) rfl ?_
    exact ⟨hb.out, rfl⟩
end Go.Proofs.YtgdcnenlelckhaaGreatDoor

namespace Go.Proofs.YtgdcnenlelckhaaGreatDoor
open Go.RowKit Go.Proofs.YtgdcnenlelckhaaGreatDoorW.PrintWords
open SlS SlT
/-- a packet's cells -/
def PkIs (c : Array Value) (q : Pkt) : Prop := ∃ a, Pk c q.kind q.fr q.of_ q.ep q.cur a q.cl
theorem PkIs.size {c : Array Value} {q : Pkt} (h : PkIs c q) : c.size = 261 := by
  obtain ⟨a, h⟩ := h
  rw [h.cells, Array.size_append, h.words.size]; rfl
theorem PkIs.lts {c : Array Value} {q : Pkt} (h : PkIs c q) : q.ep < 18446744073709551616 ∧ q.cur < 18446744073709551616 ∧ ∀ i, q.cl i < 18446744073709551616 := by
  obtain ⟨a, h⟩ := h
  exact ⟨h.he, h.hcu, h.words.lt⟩
theorem PkIs.at {c : Array Value} {q : Pkt} (h : PkIs c q) : c[0]? = some (.int .i64 q.kind) ∧ c[1]? = some (.int .i64 q.fr) ∧ c[2]? = some (.int .i64 q.of_) ∧ c[3]? = some (.int .u64 (q.ep : Int)) ∧ c[4]? = some (.int .u64 (q.cur : Int)) ∧ ∀ i, i < 256 → c[5 + i]? = some (.int .u64 (q.cl i : Int)) := by
  obtain ⟨a, h⟩ := h
  rw [h.cells]
  refine ⟨by simp [Array.getElem?_append], by simp [Array.getElem?_append], by simp [Array.getElem?_append], by simp [Array.getElem?_append], by simp [Array.getElem?_append], fun i hi => ?_⟩
  rw [Array.getElem?_append_right (by simp)]
  have : 5 + i - (#[Value.int .i64 q.kind, .int .i64 q.fr, .int .i64 q.of_, .int .u64 (q.ep : Int), .int .u64 (q.cur : Int)] : Array Value).size = i := by simp
  rw [this]
  exact h.words.get i hi
theorem PkIs.one {c : Array Value} {q : Pkt} (h : PkIs c q) : c.all (·.oneCell') = true := by
  obtain ⟨a, h⟩ := h
  rw [h.cells, Array.all_append, h.words.one]
  simp [Value.oneCell']
/-- the packet's claims, by value -/
theorem PkIs.row {c : Array Value} {q : Pkt} (h : PkIs c q) {W : World} {b : Nat} (hb : W.heap[b]? = some (.cells c 67 (0, 0))) : ∃ a, Words a q.cl ∧ W.rangeAt b 5 a.toList := by
  obtain ⟨a, h⟩ := h
  refine ⟨a, h.words, fun j u hj => ?_⟩
  rw [cellBox hb, h.cells, Array.getElem?_append_right (by simp)]
  have : 5 + j - (#[Value.int .i64 q.kind, .int .i64 q.fr, .int .i64 q.of_, .int .u64 (q.ep : Int), .int .u64 (q.cur : Int)] : Array Value).size = j := by simp
  rw [this]
  rw [Array.getElem?_toList] at hj
  exact hj
theorem info43l {a : Array Value} {f : Nat → Nat} (h : Words a f) : (Tryz.prog.info? 43).map (·.size) = some a.toList.length := by rw [Array.length_toList, h.size]; exact info30
/-- a call on a view with a packet: what stands -/
structure ClW (w : World) (g : Nat) (nc c : Array Value) (S : Nat → Prop) (v : VS) (W : World) : Prop where
  but : But S w W
  b0 : W.heap[w.heap.size]? = some (.cells #[.pointer (some ⟨g, 0, none⟩)] 64 (0, 0))
  b1 : W.heap[w.heap.size + 1]? = some (.cells nc 3 (0, 0))
  b2 : W.heap[w.heap.size + 1 + 1]? = some (.cells c 67 (0, 0))
  view : VB W g v
theorem ClW.keep {w : World} {g : Nat} {nc c : Array Value} {S : Nat → Prop} {v v' : VS} {W W' : World} (h : ClW w g nc c S v W) {S2 : Nat → Prop} (hb : But S2 W W') (hS : ∀ k, S2 k → k < w.heap.size ∧ S k) (hv : VB W' g v') : ClW w g nc c S v' W' :=
  ⟨h.but.trans hb (fun i hi h2 => (hS i h2).2), (hb.block _ (blk_lt h.b0) (fun h2 => by have := (hS _ h2).1; omega)).trans h.b0, (hb.block _ (blk_lt h.b1) (fun h2 => by have := (hS _ h2).1; omega)).trans h.b1, (hb.block _ (blk_lt h.b2) (fun h2 => by have := (hS _ h2).1; omega)).trans h.b2, hv⟩
theorem clW_start (w : World) (g : Nat) (nc c : Array Value) (S : Nat → Prop) (v : VS) (hv : VB w g v) : ClW w g nc c S v (((w.alloc (.cells #[.pointer (some ⟨g, 0, none⟩)] 64)).alloc (.cells nc 3)).alloc (.cells c 67)) := by
  have s1 : (w.alloc (.cells #[.pointer (some ⟨g, 0, none⟩)] 64)).heap.size = w.heap.size + 1 := by simp
  have q1 := heapN w (.cells #[.pointer (some ⟨g, 0, none⟩)] 64)
  have p1 := below_new' w (.cells #[.pointer (some ⟨g, 0, none⟩)] 64)
  generalize w.alloc (.cells #[.pointer (some ⟨g, 0, none⟩)] 64) = w1 at *
  have s2 : (w1.alloc (.cells nc 3)).heap.size = w.heap.size + 1 + 1 := by simp [s1]
  have q2 : (w1.alloc (.cells nc 3)).heap[w.heap.size + 1]? = some (.cells nc 3 (0, 0)) := by rw [← s1]; exact heapN w1 _
  have p2 := below_new' w1 (.cells nc 3)
  generalize w1.alloc (.cells nc 3) = w2 at *
  have q3 : (w2.alloc (.cells c 67)).heap[w.heap.size + 1 + 1]? = some (.cells c 67 (0, 0)) := by rw [← s2]; exact heapN w2 _
  have p3 := below_new' w2 (.cells c 67)
  generalize w2.alloc (.cells c 67) = w3 at *
  refine ⟨((but_below p1 S).next p2).next p3, ?_, ?_, q3, ((hv.below p1).below p2).below p3⟩
  · rw [p3.block _ (by omega), p2.block _ (by omega)]; exact q1
  · rw [p3.block _ (by omega)]; exact q2
/-- the node's slots that are not claimed become nobody's, those below k -/
def dropV (v : VS) (n : Nat) (p : Nat → Nat) (k : Nat) : VS := { v with own := fun s => if s < k ∧ v.own s = (n : Int) ∧ hasN p s = false then -1 else v.own s }
theorem claim_is (v : VS) (n e : Nat) (p : Nat → Nat) (hn : n < 64) : ∀ s, s < 16384 → ((upto p 16384).foldl (stepB n e) (dropV (setEp v n e) n p 16384)).own s = (claimV v n e p).own s := by
  intro s hs
  have hep : (dropV (setEp v n e) n p 16384).ep n = e := by show (if n = n then e else v.ep n) = e; rw [if_pos rfl]
  rw [(fold_step n e _ hep (upto p 16384)).2.2.2 s]
  have hV : (claimV v n e p).own s = if hasN p s = true then (if v.own s = -1 ∨ v.own s = (n : Int) ∨ upd v.ep n e (v.own s).toNat < e then (n : Int) else v.own s) else (if v.own s = (n : Int) then -1 else v.own s) := rfl
  have hD : (dropV (setEp v n e) n p 16384).own s = if s < 16384 ∧ v.own s = (n : Int) ∧ hasN p s = false then -1 else v.own s := rfl
  have hE : (dropV (setEp v n e) n p 16384).ep = upd v.ep n e := rfl
  rw [hV, hD, hE]
  by_cases hp : hasN p s = true
  · have e0 : ¬ (s < 16384 ∧ v.own s = (n : Int) ∧ hasN p s = false) := fun h => by rw [hp] at h; exact absurd h.2.2 (by decide)
    rw [if_pos (by rw [upto_filter, List.mem_filter, List.mem_range]; exact ⟨hs, hp⟩), if_pos hp, if_neg e0]
    by_cases h1 : v.own s = -1
    · rw [if_pos (Or.inl h1), if_pos (Or.inl h1)]
    · by_cases h2 : v.own s = (n : Int)
      · rw [if_pos (Or.inr (Or.inl h2)), h2]
        split <;> rfl
      · by_cases h3 : upd v.ep n e (v.own s).toNat < e
        · rw [if_pos (Or.inr h3), if_pos (Or.inr (Or.inr h3))]
        · rw [if_neg (by rintro (h | h); exact h1 h; exact h3 h), if_neg (by rintro (h | h | h); exact h1 h; exact h2 h; exact h3 h)]
  · have hp' : hasN p s = false := by simpa using hp
    rw [if_neg (by rw [upto_filter, List.mem_filter, List.mem_range]; exact fun h => hp h.2), if_neg hp]
    by_cases h2 : v.own s = (n : Int)
    · rw [if_pos ⟨hs, h2, hp'⟩, if_pos h2]
    · rw [if_neg (fun h => h2 h.2.1), if_neg h2]
theorem bit_of (f : Nat → Nat) (hf : ∀ i, f i < 18446744073709551616) (k : Nat) : bits .and .u64 ((f (k / 64) : Int) / 2 ^ (k % 64)) 1 = if hasN f k = true then 1 else 0 := by
  have hv := and1 (f (k / 64) / 2 ^ (k % 64)) (Nat.lt_of_le_of_lt (Nat.div_le_self _ _) (hf _))
  rw [bit_val] at hv
  have hc : ((f (k / 64) / 2 ^ (k % 64) : Nat) : Int) = (f (k / 64) : Int) / 2 ^ (k % 64) := by simp
  rw [hc] at hv
  exact hv
set_option maxHeartbeats 2000000 in
set_option maxRecDepth 100000 in
theorem vclaim_calls {g : Nat} {v : VS} (w : World) (h : VB w g v) (n : Nat) (hn : n < 64) (c : Array Value) (q : Pkt) (hq : PkIs c q) : Calls Tryz.prog 54 #[.pointer (some ⟨g, 0, none⟩), .int .i64 n, .agg c] w fun r w' => ∃ x, r = .returned x ∧ VB w' g (claimV v n q.ep q.cl) ∧ But (fun k => k = g) w w' := by
  have hcs := hq.size
  have hC := clW_start w g #[.int .i64 (n : Int)] c (fun k => k = g) v h
  have hgl := h.lt
  obtain ⟨r0, r1, r2, r3, r4, r5⟩ := hq.at
  obtain ⟨l1, l2, l3⟩ := hq.lts
  have hE := fun (a : Array Value) (ha : Words a q.cl) (x1 x2 x3 : Value) I S W h0 hs => each_claim_calls a q.cl ha x1 x2 x3 I S W h0 hs
  have hfin := claim_is v n q.ep q.cl hn
  go_enter Tryz.func54, Tryz.ntmps54
  go_wp2_with fail
  clear h
  generalize World.alloc _ (.cells c 67) = W at *
  have c0 : W.cell? ⟨w.heap.size, 0, none⟩ = some (.pointer (some ⟨g, 0, none⟩)) := by rw [cellBox hC.b0]; rfl
  have c1 : W.cell? ⟨w.heap.size + 1, 0, none⟩ = some (.int .i64 (n : Int)) := by rw [cellBox hC.b1]; rfl
  have c2 : W.cell? ⟨w.heap.size + 1 + 1, 3, none⟩ = some (.int .u64 (q.ep : Int)) := by rw [cellBox hC.b2]; exact r3
  have c4 := hC.view.atEp n hn
  have c5 := hC.view.thaw (16385 + n)
  have hC2 := hC.keep ((But.refl (fun k => k = g) W).set (p := ⟨g, 16385 + n, none⟩) (fun _ => rfl) (.int .u64 (q.ep : Int))) (fun k hk => ⟨by omega, hk⟩) (hC.view.epSet n hn q.ep l1)
  clear hC
  generalize v.ep n = x at *
  go_region
  clear c0 c1 c2 c4 c5
  have hC3 := hC2.keep (but_below (below_drew (Below.refl _ _)) fun _ => False) (fun _ h => h.elim) hC2.view.drew
  clear hC2
  generalize World.drew _ = W2 at *
  obtain ⟨A, hAs, hAg, hAr⟩ := hC3.view.row
  have hsz : (Tryz.prog.info? 104).map (·.size) = some A.toList.length := by rw [Array.length_toList, hAs]; exact info104
  have c0 : W2.cell? ⟨w.heap.size, 0, none⟩ = some (.pointer (some ⟨g, 0, none⟩)) := by rw [cellBox hC3.b0]; rfl
  go_wp2_with (refine wpList_load_mid rfl 104 _ rfl g 1 rfl A.toList _ hAr Tryz.underlying104 rfl hsz ?_)
  rw [Array.toArray_toList]
  have hnd := hC3.view.nodes
  go_loopw [6, 7, 19] (fun _ _ i wr => ∃ k : Nat, k ≤ 16384 ∧ i = .int .i64 k ∧ ClW w g #[.int .i64 (n : Int)] c (fun k => k = g) (dropV (setEp v n q.ep) n q.cl k) wr) (fun _ _ i _ => 16384 - (intOf i).toNat)
  case atStart => exact ⟨0, by omega, rfl, hC3.keep (But.refl (fun _ => False) _) (fun _ h => h.elim) (hC3.view.congr rfl (fun s _ => by simp [dropV, setEp]) (fun _ _ => rfl) rfl)⟩
  case round =>
    clear hC3 c0 hAr
    obtain ⟨k, hk, rfl, hC⟩ := hrel
    have b1 : wr.cell? ⟨w.heap.size + 1, 0, none⟩ = some (.int .i64 (n : Int)) := by rw [cellBox hC.b1]; rfl
    have b0 : wr.cell? ⟨w.heap.size, 0, none⟩ = some (.pointer (some ⟨g, 0, none⟩)) := by rw [cellBox hC.b0]; rfl
    by_cases hk6 : k < 16384
    · have hix := idxOwn hAs k hk6 (hAg k hk6)
      have hndk := hnd k hk6
      change ∀ W, (Instr.index 104 (.agg A) (.int .i64 (k : Int))).run Tryz.prog W = .ok (.int .i8 (v.own k)) W at hix
      change -1 ≤ v.own k ∧ v.own k < 64 at hndk
      have hgo : decide ((k : Int) < 16384) = true := decide_eq_true (by omega)
      have hcl : wr.cell? ⟨w.heap.size + 1 + 1, 5 + k / 64, none⟩ = some (.int .u64 (q.cl (k / 64) : Int)) := by rw [cellBox hC.b2]; exact r5 _ (by omega)
      have hbt := bit_of q.cl l3 k
      have stay : ¬ (v.own k = (n : Int) ∧ hasN q.cl k = false) → ClW w g #[.int .i64 (n : Int)] c (fun k => k = g) (dropV (setEp v n q.ep) n q.cl (k + 1)) wr := fun hx => hC.keep (But.refl (fun _ => False) _) (fun _ h => h.elim) (hC.view.congr rfl (fun s _ => by
        show (if s < k ∧ v.own s = (n : Int) ∧ hasN q.cl s = false then -1 else v.own s) = if s < k + 1 ∧ v.own s = (n : Int) ∧ hasN q.cl s = false then -1 else v.own s
        by_cases hsk : s = k
        · subst hsk
          rw [if_neg (fun h => by omega), if_neg (fun h => hx h.2)]
        · by_cases h1 : s < k ∧ v.own s = (n : Int) ∧ hasN q.cl s = false
          · rw [if_pos h1, if_pos ⟨by omega, h1.2⟩]
          · rw [if_neg h1, if_neg (fun h => h1 ⟨by omega, h.2⟩)]) (fun _ _ => rfl) rfl)
      clear hE hfin hAg hnd r0 r1 r2 r3 r4 r5 l1 l2 l3
      by_cases h1 : v.own k = (n : Int)
      · cases h2 : hasN q.cl k with
        | true =>
          have hs := Lib.hid (stay (fun h => by rw [h2] at h; exact absurd h.2 (by decide)))
          rw [if_pos h2] at hbt
          clear stay hC h2
          generalize q.cl (k / 64) = y at *
          rw [h1] at hix hndk
          clear h1
          go_wp2_with fail
          exact ⟨⟨k + 1, by omega, by go_num, hs.out⟩, by simp [intOf]; omega⟩
        | false =>
          have c4 := hC.view.atOwn k hk6
          have c5 := hC.view.thaw (1 + k)
          have hC2 := Lib.hid (hC.keep ((But.refl (fun k => k = g) wr).set (p := ⟨g, 1 + k, none⟩) (fun _ => rfl) (.int .i8 (-1))) (fun i hi => ⟨by omega, hi⟩) ((hC.view.ownSet k hk6 (-1) (by omega)).congr (v' := dropV (setEp v n q.ep) n q.cl (k + 1)) rfl (fun s _ => by
            show (if s = k then -1 else if s < k ∧ v.own s = (n : Int) ∧ hasN q.cl s = false then -1 else v.own s) = if s < k + 1 ∧ v.own s = (n : Int) ∧ hasN q.cl s = false then -1 else v.own s
            by_cases hsk : s = k
            · subst hsk
              rw [if_pos rfl, if_pos ⟨by omega, h1, h2⟩]
            · rw [if_neg hsk]
              by_cases h1 : s < k ∧ v.own s = (n : Int) ∧ hasN q.cl s = false
              · rw [if_pos h1, if_pos ⟨by omega, h1.2⟩]
              · rw [if_neg h1, if_neg (fun h => h1 ⟨by omega, h.2⟩)]) (fun _ _ => rfl) rfl))
          rw [if_neg (by rw [h2]; decide)] at hbt
          change _ = some (Value.int .i8 (if k < k ∧ _ then -1 else v.own k)) at c4
          rw [if_neg (fun h => by omega)] at c4
          clear stay hC h2
          generalize q.cl (k / 64) = y at *
          rw [h1] at hix hndk c4
          clear h1
          go_wp2_with fail
          exact ⟨⟨k + 1, by omega, by go_num, hC2.out⟩, by simp [intOf]; omega⟩
      · have e1 : (v.own k == (n : Int)) = false := beq_eq_false_iff_ne.2 h1
        have hs := Lib.hid (stay (fun h => h1 h.1))
        clear stay hC h1
        generalize q.cl (k / 64) = y at *
        generalize v.own k = o at *
        go_wp2_with fail
        exact ⟨⟨k + 1, by omega, by go_num, hs.out⟩, by simp [intOf]; omega⟩
    · obtain rfl : k = 16384 := by omega
      obtain ⟨a, ha, har⟩ := hq.row hC.b2
      have hla := info43l ha
      clear hAg hAs
      go_wp2_with (refine wpList_load_mid rfl 43 _ rfl (w.heap.size + 1 + 1) 5 rfl a.toList _ har Tryz.underlying43 rfl hla ?_; rw [Array.toArray_toList])
      have hep : (dropV (setEp v n q.ep) n q.cl 16384).ep n = q.ep := by show (if n = n then q.ep else v.ep n) = q.ep; rw [if_pos rfl]
      have hF := fold_step n q.ep _ hep
      refine (hE a ha _ _ _ (fun pre W => ClW w g #[.int .i64 (n : Int)] c (fun k => k = g) (pre.foldl (stepB n q.ep) (dropV (setEp v n q.ep) n q.cl 16384)) W) (fun k => k = g) _ hC ⟨?_, ?_, ?_⟩).mono ?_
      · intro pre W W' hI hb
        exact hI.keep (but_below hb fun _ => False) (fun _ h => h.elim) (hI.view.below hb)
      · intro k hk
        have := hC.view.lt
        omega
      · intro pre s W hpre hI hle
        have hs16 : s < 16384 := by
          have : s ∈ upto q.cl 16384 := hpre.subset (by simp)
          rw [upto_filter, List.mem_filter, List.mem_range] at this
          exact this.1
        refine (claimStep_calls W hI.view n q.ep hn (bv := w.heap.size) (bp := w.heap.size + 1 + 1) (bn := w.heap.size + 1) (by rw [cellBox hI.b0]; rfl) (by rw [cellBox hI.b2]; exact r3) (by rw [cellBox hI.b1]; rfl) s hs16).mono ?_
        rintro r W' ⟨x, rfl, hv, hb⟩
        refine ⟨x, rfl, ?_, hb⟩
        show ClW w g _ c _ ((pre ++ [s]).foldl _ _) W'
        rw [List.foldl_append]
        exact hI.keep hb (fun k hk => ⟨by omega, hk⟩) hv
      · rintro r W' ⟨x, rfl, hI, -⟩
        have hI := Lib.hid hI
        clear hE hC
        go_wp2_with fail
        refine bodyPost_end (results_none rfl _ _ _) rfl ?_
        obtain ⟨f1, f2, f3, -⟩ := hF (upto q.cl 16384)
        exact ⟨_, rfl, hI.out.view.congr f1 hfin (fun k _ => by rw [f2]; rfl) f3, hI.out.but⟩
end Go.Proofs.YtgdcnenlelckhaaGreatDoor

namespace Go.Proofs.YtgdcnenlelckhaaGreatDoor
open Go.RowKit Go.Proofs.YtgdcnenlelckhaaGreatDoorW.PrintWords
open SlS SlT
structure BtW (w : World) (g : Nat) (c : Array Value) (x : Int) (v : VS) (W : World) : Prop where
  bel : Below w.heap.size w W
  b0 : W.heap[w.heap.size]? = some (.cells #[.pointer (some ⟨g, 0, none⟩)] 64 (0, 0))
  b1 : W.heap[w.heap.size + 1]? = some (.cells c 67 (0, 0))
  b2 : W.heap[w.heap.size + 1 + 1]? = some (.cells #[.int .i64 x] 3 (0, 0))
  view : VB W g v
  glt : g < w.heap.size
theorem BtW.keep {w : World} {g : Nat} {c : Array Value} {x : Int} {v : VS} {W W' : World} (h : BtW w g c x v W) (hb : Below W.heap.size W W') : BtW w g c x v W' :=
  ⟨h.bel.trans (hb.mono h.bel.size), (hb.block _ (blk_lt h.b0)).trans h.b0, (hb.block _ (blk_lt h.b1)).trans h.b1, (hb.block _ (blk_lt h.b2)).trans h.b2, h.view.below hb, h.glt⟩
theorem BtW.put {w : World} {g : Nat} {c : Array Value} {x y : Int} {v : VS} {W W' : World} (h : BtW w g c x v W) (hb : But (fun k => k = w.heap.size + 1 + 1) W W') (hy : W'.heap[w.heap.size + 1 + 1]? = some (.cells #[.int .i64 y] 3 (0, 0))) : BtW w g c y v W' :=
  ⟨h.bel.trans (hb.below h.bel.size fun i hi e => by omega), (hb.block _ (blk_lt h.b0) (by omega)).trans h.b0, (hb.block _ (blk_lt h.b1) (by omega)).trans h.b1, hy, h.view.keep hb (by have := h.glt; omega), h.glt⟩
theorem btW_start (w : World) (g : Nat) (c : Array Value) (x : Int) (v : VS) (hv : VB w g v) : BtW w g c x v (((w.alloc (.cells #[.pointer (some ⟨g, 0, none⟩)] 64)).alloc (.cells c 67)).alloc (.cells #[.int .i64 x] 3)) := by
  have s1 : (w.alloc (.cells #[.pointer (some ⟨g, 0, none⟩)] 64)).heap.size = w.heap.size + 1 := by simp
  have q1 := heapN w (.cells #[.pointer (some ⟨g, 0, none⟩)] 64)
  have p1 := below_new' w (.cells #[.pointer (some ⟨g, 0, none⟩)] 64)
  generalize w.alloc (.cells #[.pointer (some ⟨g, 0, none⟩)] 64) = w1 at *
  have s2 : (w1.alloc (.cells c 67)).heap.size = w.heap.size + 1 + 1 := by simp [s1]
  have q2 : (w1.alloc (.cells c 67)).heap[w.heap.size + 1]? = some (.cells c 67 (0, 0)) := by rw [← s1]; exact heapN w1 _
  have p2 := below_new' w1 (.cells c 67)
  generalize w1.alloc (.cells c 67) = w2 at *
  have q3 : (w2.alloc (.cells #[.int .i64 x] 3)).heap[w.heap.size + 1 + 1]? = some (.cells #[.int .i64 x] 3 (0, 0)) := by rw [← s2]; exact heapN w2 _
  have p3 := below_new' w2 (.cells #[.int .i64 x] 3)
  generalize w2.alloc (.cells #[.int .i64 x] 3) = w3 at *
  refine ⟨p1.trans ((p2.mono (by omega)).trans (p3.mono (by omega))), ?_, ?_, q3, ((hv.below p1).below p2).below p3, hv.lt⟩
  · rw [p3.block _ (by omega), p2.block _ (by omega)]; exact q1
  · rw [p3.block _ (by omega)]; exact q2
theorem beat_is (v : VS) (fr : Int) (e : Nat) (p : Nat → Nat) : (upto p 16384).foldl (nextB v fr e) (-1) = beatV v fr e p := by
  unfold beatV
  rw [fold_next, upto_filter]
  generalize List.find? _ _ = r
  cases r <;> rfl
set_option maxHeartbeats 2000000 in
set_option maxRecDepth 100000 in
theorem vbeaten_calls {g : Nat} {v : VS} (w : World) (h : VB w g v) (c : Array Value) (q : Pkt) (hq : PkIs c q) : Calls Tryz.prog 56 #[.pointer (some ⟨g, 0, none⟩), .agg c] w fun r w' => r = .returned (.int .i64 (beatV v q.fr q.ep q.cl)) ∧ Below w.heap.size w w' := by
  have hB := btW_start w g c (-1) v h
  obtain ⟨r0, r1, r2, r3, r4, r5⟩ := hq.at
  have hE := fun (a : Array Value) (ha : Words a q.cl) (x1 x2 x3 : Value) I S W h0 hs => each_beaten_calls a q.cl ha x1 x2 x3 I S W h0 hs
  have hfin := beat_is v q.fr q.ep q.cl
  obtain ⟨a, ha, har⟩ := hq.row hB.b1
  have hla := info43l ha
  clear h
  go_enter Tryz.func56, Tryz.ntmps56
  go_wp2_with (refine wpList_load_mid rfl 43 _ rfl (w.heap.size + 1) 5 rfl a.toList _ har Tryz.underlying43 rfl hla ?_; rw [Array.toArray_toList])
  generalize World.alloc _ (.cells #[.int .i64 (-1)] 3) = W at *
  refine (hE a ha _ _ _ (fun pre W => BtW w g c (pre.foldl (nextB v q.fr q.ep) (-1)) v W) (fun k => k = w.heap.size + 1 + 1) _ hB ⟨?_, ?_, ?_⟩).mono ?_
  · intro pre W W' hI hb
    exact hI.keep hb
  · intro k hk
    have := blk_lt hB.b2
    omega
  · intro pre s W hpre hI hle
    have hs16 : s < 16384 := by
      have : s ∈ upto q.cl 16384 := hpre.subset (by simp)
      rw [upto_filter, List.mem_filter, List.mem_range] at this
      exact this.1
    refine (beatStep_calls W hI.view q.fr _ q.ep (bv := w.heap.size) (bf := w.heap.size + 1 + 1) (bp := w.heap.size + 1) (by rw [cellBox hI.b0]; rfl) (by rw [cellBox hI.b1]; exact r3) (by rw [cellBox hI.b1]; exact r1) hI.b2 s hs16).mono ?_
    rintro r W' ⟨x, rfl, hv, hb⟩
    refine ⟨x, rfl, ?_, hb⟩
    show BtW w g c ((pre ++ [s]).foldl _ _) v W'
    rw [List.foldl_append]
    exact hI.put hb hv
  · rintro r W' ⟨x, rfl, hI, -⟩
    simp only [hfin] at hI
    have c0 : W'.cell? ⟨w.heap.size + 1 + 1, 0, none⟩ = some (.int .i64 (beatV v q.fr q.ep q.cl)) := by rw [cellBox hI.b2]; rfl
    have hI := Lib.hid hI.bel
    clear hE hB hfin
    go_wp2_with fail
    go_ret
    exact ⟨rfl, hI.out⟩
theorem build_pk4 {a : Array Value} (ha : a.size = 256) (x0 x1 x3 x4 : Value) :
    Array.foldl (fun cs x => cs.setIfInBounds (5 + x.2) x.1) ((((Tryz.zeroCells67.setIfInBounds 0 x0).setIfInBounds 1 x1).setIfInBounds 3 x3).setIfInBounds 4 x4) a.zipIdx 0 a.size = #[x0, x1, .int .i64 0, x3, x4] ++ a := by
  rw [zero26]
  have : (((((#[.int .i64 0, .int .i64 0, .int .i64 0, .int .u64 0, .int .u64 0] : Array Value) ++ Tryz.zeroCells43).setIfInBounds 0 x0).setIfInBounds 1 x1).setIfInBounds 3 x3).setIfInBounds 4 x4 = #[x0, x1, .int .i64 0, x3, x4] ++ Tryz.zeroCells43 := by
    generalize Tryz.zeroCells43 = z
    simp [Array.setIfInBounds_append]
  rw [this]
  exact put_tail a #[x0, x1, .int .i64 0, x3, x4] _ 5 rfl (by rw [ha]; exact zero_size)
/-- a packet is told: what stands -/
structure TlW (w : World) (g : Nat) (v : VS) (W : World) : Prop where
  bel : Below w.heap.size w W
  b0 : W.heap[w.heap.size]? = some (.cells Tryz.zeroCells67 67 (0, 0))
  view : VB W g v
theorem TlW.keep {w : World} {g : Nat} {v : VS} {W W' : World} (h : TlW w g v W) (hb : Below W.heap.size W W') : TlW w g v W' :=
  ⟨h.bel.trans (hb.mono h.bel.size), (hb.block _ (blk_lt h.b0)).trans h.b0, h.view.below hb⟩
theorem tell_pk (v : VS) (kind : Int) (a : Array Value) (ha : Words a (wordV v v.self)) (hep : v.ep v.self < 18446744073709551616) (hcu : v.cur < 18446744073709551616) : PkIs (#[.int .i64 kind, .int .i64 (v.self : Int), .int .i64 0, .int .u64 (v.ep v.self : Int), .int .u64 (v.cur : Int)] ++ a) (tellV v kind) := ⟨a, rfl, ha, hep, hcu⟩
set_option maxHeartbeats 4000000 in
set_option maxRecDepth 100000 in
theorem vTell_calls {g : Nat} {v : VS} (w : World) (h : VB w g v) (kind : Int) : Calls Tryz.prog 49 #[.pointer (some ⟨g, 0, none⟩), .int .i64 kind] w fun r w' => ∃ c, r = .returned (.agg c) ∧ PkIs c (tellV v kind) ∧ Below w.heap.size w w' := by
  have hs64 := h.self64
  have hep := h.ep64 _ hs64
  have hcu := h.cur64
  have hC := fun W (hW : VB W g v) => vClaims_calls W hW v.self hs64
  have hp := fun (a : Array Value) (ha : Words a (wordV v v.self)) => tell_pk v kind a ha hep hcu
  have hS : TlW w g v ((w.alloc (.cells Tryz.zeroCells67 67)).drew) := (TlW.mk (below_new' w _) (heapN w _) (h.below (below_new' w _))).keep (below_drew (Below.refl _ _))
  clear h
  go_enter Tryz.func49, Tryz.ntmps49
  go_wp2_with fail
  refine wp_region_last (S := TlW w g v) 25 (by kernel_rfl) ?_
  generalize World.drew _ = W at *
  refine wpAnyT_take (i := 0) (oi := ⟨some 5, _, _, _, _, _⟩) (v := .int .i64 kind) rfl (by kernel_rfl) (by kernel_rfl) (by kernel_rfl) (by kernel_rfl) (fun _ _ _ h => h) (Or.inl ⟨by rfl, fun W hW => by have q0 := hW.view.atSelf; have q1 := hW.view.atEp _ hs64; have q2 := hW.view.atCur; go_simp; try (intro h; omega)⟩) hS ?_
  try simp only [Act.put, List.setIfInBounds_toArray, List.set_cons_zero, List.set_cons_succ]
  refine wpAnyT_take (i := 1) (oi := ⟨some 6, _, _, _, _, _⟩) (v := .pointer (some ⟨g, 0, none⟩)) rfl (by kernel_rfl) (by kernel_rfl) (by kernel_rfl) (by kernel_rfl) (fun _ _ _ h => h) (Or.inl ⟨by rfl, fun W hW => by have q0 := hW.view.atSelf; have q1 := hW.view.atEp _ hs64; have q2 := hW.view.atCur; go_simp; try (intro h; omega)⟩) hS ?_
  try simp only [Act.put, List.setIfInBounds_toArray, List.set_cons_zero, List.set_cons_succ]
  refine wpAnyT_take (i := 2) (oi := ⟨some 7, _, _, _, _, _⟩) (v := .pointer (some ⟨g, 0, none⟩)) rfl (by kernel_rfl) (by kernel_rfl) (by kernel_rfl) (by kernel_rfl) (fun _ _ _ h => h) (Or.inl ⟨by rfl, fun W hW => by have q0 := hW.view.atSelf; have q1 := hW.view.atEp _ hs64; have q2 := hW.view.atCur; go_simp; try (intro h; omega)⟩) hS ?_
  try simp only [Act.put, List.setIfInBounds_toArray, List.set_cons_zero, List.set_cons_succ]
  refine wpAnyT_take (i := 3) (oi := ⟨some 8, _, _, _, _, _⟩) (v := .pointer (some ⟨g, 0, none⟩)) rfl (by kernel_rfl) (by kernel_rfl) (by kernel_rfl) (by kernel_rfl) (fun _ _ _ h => h) (Or.inl ⟨by rfl, fun W hW => by have q0 := hW.view.atSelf; have q1 := hW.view.atEp _ hs64; have q2 := hW.view.atCur; go_simp; try (intro h; omega)⟩) hS ?_
  try simp only [Act.put, List.setIfInBounds_toArray, List.set_cons_zero, List.set_cons_succ]
  refine wpAnyT_take (i := 4) (oi := ⟨some 9, _, _, _, _, _⟩) (v := .int .i64 (v.self : Int)) rfl (by kernel_rfl) (by kernel_rfl) (by kernel_rfl) (by kernel_rfl) (fun _ _ _ h => h) (Or.inl ⟨by rfl, fun W hW => by have q0 := hW.view.atSelf; have q1 := hW.view.atEp _ hs64; have q2 := hW.view.atCur; go_simp; try (intro h; omega)⟩) hS ?_
  try simp only [Act.put, List.setIfInBounds_toArray, List.set_cons_zero, List.set_cons_succ]
  refine wpAnyT_take (i := 5) (oi := ⟨some 10, _, _, _, _, _⟩) (v := .pointer (some ⟨g, 0, none⟩)) rfl (by kernel_rfl) (by kernel_rfl) (by kernel_rfl) (by kernel_rfl) (fun _ _ _ h => h) (Or.inl ⟨by rfl, fun W hW => by have q0 := hW.view.atSelf; have q1 := hW.view.atEp _ hs64; have q2 := hW.view.atCur; go_simp; try (intro h; omega)⟩) hS ?_
  try simp only [Act.put, List.setIfInBounds_toArray, List.set_cons_zero, List.set_cons_succ]
  refine wpAnyT_take (i := 6) (oi := ⟨some 11, _, _, _, _, _⟩) (v := .pointer (some ⟨g, 0, none⟩)) rfl (by kernel_rfl) (by kernel_rfl) (by kernel_rfl) (by kernel_rfl) (fun _ _ _ h => h) (Or.inl ⟨by rfl, fun W hW => by have q0 := hW.view.atSelf; have q1 := hW.view.atEp _ hs64; have q2 := hW.view.atCur; go_simp; try (intro h; omega)⟩) hS ?_
  try simp only [Act.put, List.setIfInBounds_toArray, List.set_cons_zero, List.set_cons_succ]
  refine wpAnyT_take (i := 7) (oi := ⟨some 12, _, _, _, _, _⟩) (v := .pointer (some ⟨g, 0, none⟩)) rfl (by kernel_rfl) (by kernel_rfl) (by kernel_rfl) (by kernel_rfl) (fun _ _ _ h => h) (Or.inl ⟨by rfl, fun W hW => by have q0 := hW.view.atSelf; have q1 := hW.view.atEp _ hs64; have q2 := hW.view.atCur; go_simp; try (intro h; omega)⟩) hS ?_
  try simp only [Act.put, List.setIfInBounds_toArray, List.set_cons_zero, List.set_cons_succ]
  refine wpAnyT_take (i := 8) (oi := ⟨some 13, _, _, _, _, _⟩) (v := .pointer (some ⟨g, 0, none⟩)) rfl (by kernel_rfl) (by kernel_rfl) (by kernel_rfl) (by kernel_rfl) (fun _ _ _ h => h) (Or.inl ⟨by rfl, fun W hW => by have q0 := hW.view.atSelf; have q1 := hW.view.atEp _ hs64; have q2 := hW.view.atCur; go_simp; try (intro h; omega)⟩) hS ?_
  try simp only [Act.put, List.setIfInBounds_toArray, List.set_cons_zero, List.set_cons_succ]
  refine wpAnyT_take (i := 9) (oi := ⟨some 14, _, _, _, _, _⟩) (v := .int .i64 (v.self : Int)) rfl (by kernel_rfl) (by kernel_rfl) (by kernel_rfl) (by kernel_rfl) (fun _ _ _ h => h) (Or.inl ⟨by rfl, fun W hW => by have q0 := hW.view.atSelf; have q1 := hW.view.atEp _ hs64; have q2 := hW.view.atCur; go_simp; try (intro h; omega)⟩) hS ?_
  try simp only [Act.put, List.setIfInBounds_toArray, List.set_cons_zero, List.set_cons_succ]
  refine wpAnyT_take (i := 10) (oi := ⟨some 15, _, _, _, _, _⟩) (v := .pointer (some ⟨g, 0, none⟩)) rfl (by kernel_rfl) (by kernel_rfl) (by kernel_rfl) (by kernel_rfl) (fun _ _ _ h => h) (Or.inl ⟨by rfl, fun W hW => by have q0 := hW.view.atSelf; have q1 := hW.view.atEp _ hs64; have q2 := hW.view.atCur; go_simp; try (intro h; omega)⟩) hS ?_
  try simp only [Act.put, List.setIfInBounds_toArray, List.set_cons_zero, List.set_cons_succ]
  refine wpAnyT_take (i := 11) (oi := ⟨some 16, _, _, _, _, _⟩) (v := .pointer (some ⟨g, 16385, none⟩)) rfl (by kernel_rfl) (by kernel_rfl) (by kernel_rfl) (by kernel_rfl) (fun _ _ _ h => h) (Or.inl ⟨by rfl, fun W hW => by have q0 := hW.view.atSelf; have q1 := hW.view.atEp _ hs64; have q2 := hW.view.atCur; go_simp; try (intro h; omega)⟩) hS ?_
  try simp only [Act.put, List.setIfInBounds_toArray, List.set_cons_zero, List.set_cons_succ]
  refine wpAnyT_take (i := 12) (oi := ⟨some 17, _, _, _, _, _⟩) (v := .pointer (some ⟨g, 16385 + v.self, none⟩)) rfl (by kernel_rfl) (by kernel_rfl) (by kernel_rfl) (by kernel_rfl) (fun _ _ _ h => h) (Or.inl ⟨by rfl, fun W hW => by have q0 := hW.view.atSelf; have q1 := hW.view.atEp _ hs64; have q2 := hW.view.atCur; go_simp; try (intro h; omega)⟩) hS ?_
  try simp only [Act.put, List.setIfInBounds_toArray, List.set_cons_zero, List.set_cons_succ]
  refine wpAnyT_take (i := 13) (oi := ⟨some 18, _, _, _, _, _⟩) (v := .int .u64 (v.ep v.self : Int)) rfl (by kernel_rfl) (by kernel_rfl) (by kernel_rfl) (by kernel_rfl) (fun _ _ _ h => h) (Or.inl ⟨by rfl, fun W hW => by have q0 := hW.view.atSelf; have q1 := hW.view.atEp _ hs64; have q2 := hW.view.atCur; go_simp; try (intro h; omega)⟩) hS ?_
  try simp only [Act.put, List.setIfInBounds_toArray, List.set_cons_zero, List.set_cons_succ]
  refine wpAnyT_take (i := 14) (oi := ⟨some 19, _, _, _, _, _⟩) (v := .pointer (some ⟨g, 0, none⟩)) rfl (by kernel_rfl) (by kernel_rfl) (by kernel_rfl) (by kernel_rfl) (fun _ _ _ h => h) (Or.inl ⟨by rfl, fun W hW => by have q0 := hW.view.atSelf; have q1 := hW.view.atEp _ hs64; have q2 := hW.view.atCur; go_simp; try (intro h; omega)⟩) hS ?_
  try simp only [Act.put, List.setIfInBounds_toArray, List.set_cons_zero, List.set_cons_succ]
  refine wpAnyT_take (i := 15) (oi := ⟨some 20, _, _, _, _, _⟩) (v := .pointer (some ⟨g, 0, none⟩)) rfl (by kernel_rfl) (by kernel_rfl) (by kernel_rfl) (by kernel_rfl) (fun _ _ _ h => h) (Or.inl ⟨by rfl, fun W hW => by have q0 := hW.view.atSelf; have q1 := hW.view.atEp _ hs64; have q2 := hW.view.atCur; go_simp; try (intro h; omega)⟩) hS ?_
  try simp only [Act.put, List.setIfInBounds_toArray, List.set_cons_zero, List.set_cons_succ]
  refine wpAnyT_take (i := 16) (oi := ⟨some 21, _, _, _, _, _⟩) (v := .pointer (some ⟨g, 16449, none⟩)) rfl (by kernel_rfl) (by kernel_rfl) (by kernel_rfl) (by kernel_rfl) (fun _ _ _ h => h) (Or.inl ⟨by rfl, fun W hW => by have q0 := hW.view.atSelf; have q1 := hW.view.atEp _ hs64; have q2 := hW.view.atCur; go_simp; try (intro h; omega)⟩) hS ?_
  try simp only [Act.put, List.setIfInBounds_toArray, List.set_cons_zero, List.set_cons_succ]
  refine wpAnyT_take (i := 17) (oi := ⟨some 22, _, _, _, _, _⟩) (v := .int .u64 (v.cur : Int)) rfl (by kernel_rfl) (by kernel_rfl) (by kernel_rfl) (by kernel_rfl) (fun _ _ _ h => h) (Or.inl ⟨by rfl, fun W hW => by have q0 := hW.view.atSelf; have q1 := hW.view.atEp _ hs64; have q2 := hW.view.atCur; go_simp; try (intro h; omega)⟩) hS ?_
  try simp only [Act.put, List.setIfInBounds_toArray, List.set_cons_zero, List.set_cons_succ]
  refine wpAnyT_take (i := 18) (oi := ⟨some 23, _, _, _, _, _⟩) (v := .pointer (some ⟨g, 0, none⟩)) rfl (by kernel_rfl) (by kernel_rfl) (by kernel_rfl) (by kernel_rfl) (fun _ _ _ h => h) (Or.inl ⟨by rfl, fun W hW => by have q0 := hW.view.atSelf; have q1 := hW.view.atEp _ hs64; have q2 := hW.view.atCur; go_simp; try (intro h; omega)⟩) hS ?_
  try simp only [Act.put, List.setIfInBounds_toArray, List.set_cons_zero, List.set_cons_succ]
  refine wpAnyT_take (i := 19) (oi := ⟨some 24, _, _, _, _, _⟩) (v := .pointer (some ⟨g, 0, none⟩)) rfl (by kernel_rfl) (by kernel_rfl) (by kernel_rfl) (by kernel_rfl) (fun _ _ _ h => h) (Or.inl ⟨by rfl, fun W hW => by have q0 := hW.view.atSelf; have q1 := hW.view.atEp _ hs64; have q2 := hW.view.atCur; go_simp; try (intro h; omega)⟩) hS ?_
  try simp only [Act.put, List.setIfInBounds_toArray, List.set_cons_zero, List.set_cons_succ]
  refine wpAnyT_take (i := 20) (oi := ⟨some 25, _, _, _, _, _⟩) (v := .pointer (some ⟨g, 0, none⟩)) rfl (by kernel_rfl) (by kernel_rfl) (by kernel_rfl) (by kernel_rfl) (fun _ _ _ h => h) (Or.inl ⟨by rfl, fun W hW => by have q0 := hW.view.atSelf; have q1 := hW.view.atEp _ hs64; have q2 := hW.view.atCur; go_simp; try (intro h; omega)⟩) hS ?_
  try simp only [Act.put, List.setIfInBounds_toArray, List.set_cons_zero, List.set_cons_succ]
  refine wpAnyT_take (i := 21) (oi := ⟨some 26, _, _, _, _, _⟩) (v := .pointer (some ⟨g, 0, none⟩)) rfl (by kernel_rfl) (by kernel_rfl) (by kernel_rfl) (by kernel_rfl) (fun _ _ _ h => h) (Or.inl ⟨by rfl, fun W hW => by have q0 := hW.view.atSelf; have q1 := hW.view.atEp _ hs64; have q2 := hW.view.atCur; go_simp; try (intro h; omega)⟩) hS ?_
  try simp only [Act.put, List.setIfInBounds_toArray, List.set_cons_zero, List.set_cons_succ]
  refine wpAnyT_take (i := 22) (oi := ⟨some 27, _, _, _, _, _⟩) (v := .int .i64 (v.self : Int)) rfl (by kernel_rfl) (by kernel_rfl) (by kernel_rfl) (by kernel_rfl) (fun _ _ _ h => h) (Or.inl ⟨by rfl, fun W hW => by have q0 := hW.view.atSelf; have q1 := hW.view.atEp _ hs64; have q2 := hW.view.atCur; go_simp; try (intro h; omega)⟩) hS ?_
  try simp only [Act.put, List.setIfInBounds_toArray, List.set_cons_zero, List.set_cons_succ]
  have hep := Lib.hid hep
  have hcu := Lib.hid hcu
  refine wpAnyT_one (i := 23) (o := ⟨some 28, _, _, _, _, _⟩) (by kernel_rfl) rfl (fun K hK => ?_)
  go_simp
  refine (hC _ hS.view).mono ?_
  rintro e W2 ⟨a, rfl, ha, hb⟩
  have hS2 := hS.keep hb
  have hS2 := Lib.hid hS2
  have hb := Lib.hid hb
  have hS := Lib.hid hS
  go_wp2_with fail
  refine hK.out _ _ (fun _ => hS2.out) ?_
  clear hK K hb hS
  try simp only [Act.put, List.setIfInBounds_toArray, List.set_cons_zero, List.set_cons_succ]
  have hbd := build_pk4 ha.size (.int .i64 kind) (.int .i64 (v.self : Int)) (.int .u64 (v.ep v.self : Int)) (.int .u64 (v.cur : Int))
  have hpk := hp a ha
  have has := ha.size
  rw [has] at hbd
  generalize hc : #[Value.int .i64 kind, .int .i64 (v.self : Int), .int .i64 0, .int .u64 (v.ep v.self : Int), .int .u64 (v.cur : Int)] ++ a = c at *
  have hc := Lib.hid hc
  have hpk := Lib.hid hpk
  refine wpAnyT_one (i := 24) (o := ⟨some 29, _, _, _, _, _⟩) (by kernel_rfl) rfl (fun K hK => ?_)
  go_simp
  go_wp2_with fail
  refine hK.out _ _ (fun _ => hS2.out) ?_
  clear hK K hbd
  try simp only [Act.put, List.setIfInBounds_toArray, List.set_cons_zero, List.set_cons_succ]
  have hsz := hpk.out.size
  have hone := hpk.out.one
  have hi : (Tryz.prog.info? 67).map (·.size) = some c.size := by rw [hsz]; exact info26
  have hZ : Tryz.zeroCells67.size = c.size := by rw [hsz]; exact zero_pk.size
  refine wpAnyT_one (i := 25) (o := ⟨none, _, _, _, _, _⟩) (by kernel_rfl) rfl (fun K hK => ?_)
  refine wp_store_row 67 _ _ rfl w.heap.size c rfl rfl 67 _ hS2.out.b0 hi hZ hone (hK.out _ _ (fun h => absurd rfl h) ?_)
  clear hK K
  try simp only [Act.put, List.setIfInBounds_toArray, List.set_cons_zero, List.set_cons_succ]
  refine wpAnyT_done (by kernel_rfl) ?_ _
  go_wp2_with fail
  refine bodyPost_ret (results_cell_row Tryz.results49 _ _ w.heap.size 67 c (0, 0) _ rfl (setRow_heap _ _ _ _ _ _ hS2.out.b0) Tryz.underlying67 rfl hi) rfl ⟨c, rfl, hpk.out, below_setRow hS2.out.bel (Nat.le_refl _) _⟩
end Go.Proofs.YtgdcnenlelckhaaGreatDoor
