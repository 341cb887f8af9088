/- A call on a bus and on the document's leaves the same known, and the same goes out; plain. The document's view begins. Does a view tell what the document says? Every call of any script is answered as the document says: the walk. BusAll, for every input of moderate bulk: the walk. Conditions: the listed variables as laid; texts within the form's reach; the listed variables as laid. -/
import Derived.Test.YtgdcnenlelckhaaGreatDoorMgH
import Derived.Test.YtgdcnenlelckhaaGreatDoorMgI
set_option linter.unusedVariables false
set_option linter.unusedSimpArgs false
namespace Go.Proofs.YtgdcnenlelckhaaGreatDoor
theorem layL_agree (t : Int) {a b : List Pkt} (h : AllEq a b) : layL t a = layL t b := by
  induction h with
  | nil => rfl
  | @cons p q l m h _ ih =>
    show (t, encT p) :: layL t l = (t, encT q) :: layL t m
    rw [encT_congr h, ih]
theorem tellL_agree {v : VS} {x : XS} (h : Agree v x) (hs : v.self < 64) (l : List (Int × ByteArray)) (kind tgt : Int) : tellL v l kind tgt = tellR x l kind tgt := by
  unfold tellL tellR
  rw [h.self]
  split
  · rw [layL_agree tgt (AllEq.cons (tell_agree h hs kind) AllEq.nil)]
  · rfl
theorem node_lt {q : Pkt} (hr : rightP q = true) : nodeOf q < 64 := by
  obtain ⟨K, F, O, e1, e2, e3, b1, b2, b3⟩ := right_nat hr
  unfold nodeOf
  split
  · rw [e3]; exact b3
  · rw [e2]; exact b2
theorem take_agree {v : VS} {x : XS} (h : Agree v x) (hs : v.self < 64) (s : List UInt8) : Agree (takeB v s).1 (takeR x s).1 ∧ (takeB v s).2 = (takeR x s).2 := by
  unfold takeB takeR
  cases hd : decP s with
  | none => exact ⟨h, rfl⟩
  | some q =>
    have hq := decP_some hd
    rw [← h.self]
    by_cases hf : q.fr = (v.self : Int)
    · simp only [if_pos hf]; exact ⟨h, trivial⟩
    · simp only [if_neg hf]
      obtain ⟨h1, h2⟩ := hear_agree h hs q true (fun _ => node_lt hq.right) (fun i _ => hq.cl i)
      exact ⟨h1, by rw [layL_agree q.fr h2]⟩
/-- both go the same way -/
theorem do_agree {v : VS} {x : XS} (h : Agree v x) (hs : v.self < 64) (l : List (Int × ByteArray)) (O : OpV) : Agree (doV v l O).1 (doX x l O).1 ∧ (doV v l O).2 = (doX x l O).2 := by
  unfold doV doX
  by_cases k0 : O.kind = 0
  · rw [if_pos k0, if_pos k0]; exact ⟨h, tellL_agree h hs l 1 O.n⟩
  rw [if_neg k0, if_neg k0]
  by_cases k1 : O.kind = 1
  · rw [if_pos k1, if_pos k1]; exact ⟨h, tellL_agree h hs l 4 O.n⟩
  rw [if_neg k1, if_neg k1]
  by_cases k2 : O.kind = 2
  · rw [if_pos k2, if_pos k2]
    obtain ⟨h1, h2⟩ := take_agree h hs O.s.data.toList
    exact ⟨h1, by show l ++ _ = l ++ _; rw [h2]⟩
  rw [if_neg k2, if_neg k2]
  by_cases k3 : O.kind = 3
  · rw [if_pos k3, if_pos k3]
    refine ⟨?_, rfl⟩
    show Agree (winVR v O.slot O.least) (winR x O.slot O.least)
    unfold winVR winR
    by_cases hw : (0 ≤ O.slot ∧ O.slot < 16384) ∧ O.least ≤ 4611686018427387904
    · rw [if_pos hw, if_pos hw]
      unfold winV winX
      rw [← h.self]
      exact raise_agree (max_agree (give_agree h _ _ (by omega) hs) _)
    · rw [if_neg hw, if_neg hw]; exact h
  rw [if_neg k3, if_neg k3]
  by_cases k4 : O.kind = 4
  · rw [if_pos k4, if_pos k4]
    refine ⟨?_, rfl⟩
    show Agree (giveVR v O.slot O.n) (giveR x O.slot O.n)
    unfold giveVR giveR
    by_cases h1 : 0 ≤ O.slot ∧ O.slot < 16384
    · rw [if_pos h1, if_pos h1]
      by_cases h2 : 0 ≤ O.n ∧ O.n < 64
      · rw [if_pos h2, if_pos h2]; exact give_agree h _ _ (by omega) (by omega)
      · rw [if_neg h2, if_neg h2]; exact h
    · rw [if_neg h1, if_neg h1]; exact h
  rw [if_neg k4, if_neg k4]
  by_cases k5 : O.kind = 5
  · rw [if_pos k5, if_pos k5]; exact ⟨h, rfl⟩
  rw [if_neg k5, if_neg k5]
  exact ⟨h, rfl⟩
end Go.Proofs.YtgdcnenlelckhaaGreatDoor

namespace Go.Proofs.YtgdcnenlelckhaaGreatDoor
open Go.RowKit Go.Proofs.YtgdcnenlelckhaaGreatDoorW.PrintWords
open SlS SlT
set_option maxRecDepth 100000 in
theorem setCells_cl {g n : Nat} {f : Nat → Nat} (hn : n < 64) (hf : ∀ i, f i < 18446744073709551616) : ∀ (vs : List Value) (i : Nat) (W : World) (x : XS), XR W g x → (∀ j, j < vs.length → vs[j]? = some (.int .u64 (f (i + j) : Int))) → i + vs.length ≤ 256 →
    XR (W.setCells g (n * 257 + 1 + i) vs) g { x with cl := fun m k => if m = n ∧ i ≤ k ∧ k < i + vs.length then f k else x.cl m k } ∧ But (fun k => k = g) W (W.setCells g (n * 257 + 1 + i) vs)
  | [], i, W, x, h, _, _ => ⟨h.congr (fun _ _ => rfl) (fun m k _ _ => by
      show x.cl m k = if m = n ∧ i ≤ k ∧ k < i + 0 then f k else x.cl m k
      rw [if_neg (by omega)]), But.refl _ _⟩
  | v :: r, i, W, x, h, hv, hl => by
    have h0 := hv 0 (by simp)
    obtain rfl : v = .int .u64 (f i : Int) := by simpa using h0
    have hl' : i + 1 + r.length ≤ 256 := by simp at hl; omega
    have h1 := h.clSet n i hn (by omega) (f i) (hf i)
    obtain ⟨h2, h3⟩ := setCells_cl hn hf r (i + 1) _ _ h1 (fun j hj => by
      have := hv (j + 1) (by simp; omega)
      rw [show i + 1 + j = i + (j + 1) by omega]
      simpa using this) hl'
    refine ⟨?_, ((But.refl (fun k => k = g) W).set (p := ⟨g, n * 257 + 1 + i, none⟩) (fun _ => rfl) _).trans h3 fun _ _ h => h⟩
    refine h2.congr (fun _ _ => rfl) fun m k _ _ => ?_
    show (if m = n ∧ i + 1 ≤ k ∧ k < i + 1 + r.length then f k else if m = n ∧ k = i then f i else x.cl m k) = if m = n ∧ i ≤ k ∧ k < i + (r.length + 1) then f k else x.cl m k
    by_cases hk : m = n ∧ k = i
    · rw [if_neg (by omega), if_pos hk, if_pos (by omega), hk.2]
    · rw [if_neg hk]
      by_cases h5 : m = n ∧ i + 1 ≤ k ∧ k < i + 1 + r.length
      · rw [if_pos h5, if_pos (by omega)]
      · rw [if_neg h5, if_neg (by omega)]
set_option maxRecDepth 100000 in
/-- a node's row is laid in -/
theorem setCells_node {g n e : Nat} {a : Array Value} {f : Nat → Nat} {W : World} {x : XS} (h : XR W g x) (hn : n < 64) (he : e < 18446744073709551616) (ha : Words a f) :
    XR (W.setCells g (n * 257) (#[Value.int .u64 (e : Int)] ++ a).toList) g { x with ep := upd x.ep n e, cl := fun m k => if m = n then f k else x.cl m k } ∧ But (fun k => k = g) W (W.setCells g (n * 257) (#[Value.int .u64 (e : Int)] ++ a).toList) := by
  have hl : a.toList.length = 256 := by rw [Array.length_toList, ha.size]
  have h1 := h.epSet n hn e he
  obtain ⟨h2, h3⟩ := setCells_cl hn ha.lt a.toList 0 _ _ h1 (fun j hj => by
    rw [Nat.zero_add, Array.getElem?_toList]; exact ha.get j (by omega)) (by omega)
  have e1 : (#[Value.int .u64 (e : Int)] ++ a).toList = Value.int .u64 (e : Int) :: a.toList := by simp
  rw [e1]
  refine ⟨?_, ((But.refl (fun k => k = g) W).set (p := ⟨g, n * 257, none⟩) (fun _ => rfl) _).trans h3 fun _ _ h => h⟩
  refine h2.congr (fun m _ => rfl) fun m k _ hk => ?_
  show (if m = n ∧ 0 ≤ k ∧ k < 0 + a.toList.length then f k else x.cl m k) = if m = n then f k else x.cl m k
  by_cases hm : m = n
  · rw [if_pos ⟨hm, Nat.zero_le _, by omega⟩, if_pos hm]
  · rw [if_neg (fun h => hm h.1), if_neg hm]
set_option maxRecDepth 100000 in
theorem XR.there {W : World} {g : Nat} {x : XS} (h : XR W g x) (n : Nat) (hn : n < 64) : W.there g (n * 257) 257 := fun j hj => by
  refine ⟨?_, h.thaw _⟩
  by_cases h0 : j = 0
  · subst h0
    rw [show n * 257 + 0 = n * 257 from rfl, h.atEp n hn]; rfl
  · obtain ⟨i, rfl⟩ : ∃ i, j = i + 1 := ⟨j - 1, by omega⟩
    rw [show n * 257 + (i + 1) = n * 257 + 1 + i by omega, h.atCl n i hn (by omega)]; rfl
theorem build_node {a : Array Value} (ha : a.size = 256) (x0 : Value) :
    Array.foldl (fun cs x => cs.setIfInBounds (1 + x.2) x.1) (Tryz.zeroCells87.setIfInBounds 0 x0) a.zipIdx 0 a.size = #[x0] ++ a := by
  rw [node_zero]
  have : ((#[.int .u64 0] : Array Value) ++ Tryz.zeroCells43).setIfInBounds 0 x0 = #[x0] ++ Tryz.zeroCells43 := by
    generalize Tryz.zeroCells43 = z
    simp [Array.setIfInBounds_append]
  rw [this]
  exact put_tail a #[x0] _ 1 rfl (by rw [ha]; exact zero_size)
theorem info_node2 : (Tryz.prog.info? 87).map (·.size) = some 257 := by kernel_rfl
theorem wpList_make {ops : Array Oper} {rest : List Oper} {o : Oper} {a : Act} {w : World} {Q : Exit → Act → World → Prop} (hgd : o.guard = none) (ho : o.op = .makeSlice 49 (.const (.int .i64 64)) (.const (.int .i64 64)))
    (h : ∀ w', XR w' w.heap.size X0 → Below w.heap.size w w' → wpList Tryz.prog ops Q rest (a.put o.dst (.slice (some ⟨w.heap.size, 0, none⟩) 64 64)) w') : wpList Tryz.prog ops Q (o :: rest) a w := by
  obtain ⟨w', h1, h2, h3⟩ := make_nodes w
  exact wpList_plain hgd fun _ hK => wp_make ho h1 (hK _ _ (h w' h2 h3))
theorem hold {p : Prop} (h : Hid p) : p := h.out
def XNewPost (self : Int) (f : Nat → Nat) (e : Nat) (w : World) (r : Ending) (w' : World) : Prop :=
  Below w.heap.size w w' ∧ if 0 ≤ self ∧ self < 64 then (if e ≤ 4611686018427387904 then ∃ g, r = .returned (.tuple #[.agg #[.int .i64 self, .slice (some ⟨g, 0, none⟩) 64 64, .int .u64 e], .int .i64 0]) ∧ XR w' g (newX self.toNat e f)
    else r = .returned (.tuple #[.agg #[.int .i64 0, .slice none 0 0, .int .u64 0], .int .i64 1])) else r = .returned (.tuple #[.agg #[.int .i64 0, .slice none 0 0, .int .u64 0], .int .i64 150])
inductive NwA (self e : Value) (p : Nat) (t8 : Value) : Act → Prop
  | mk {t1 t3 t5 t7 t9 t10 t11 t12 t13 t14 t15 t16 t17 t18 t19 t20 t21 t22 t23 t24 t25 t26 t27 t28 t29 t30 : Value} : NwA self e p t8 ⟨#[self, t1, e, t3, .pointer (some ⟨p, 0, none⟩), t5, .pointer (some ⟨p + 1, 0, none⟩), t7, t8, t9, t10, t11, t12, t13, t14, t15, t16, t17, t18, t19, t20, t21, t22, t23, t24, t25, t26, t27, t28, t29, t30], []⟩
structure NwW (w : World) (a : Array Value) (V : Array Value) (W : World) : Prop where
  bel : Below w.heap.size w W
  box : W.heap[w.heap.size]? = some (.cells a 43 (0, 0))
  out : W.heap[w.heap.size + 1]? = some (.cells V 51 (0, 0))
theorem NwW.below {w : World} {a V : Array Value} {W W' : World} (h : NwW w a V W) (hb : Below W.heap.size W W') : NwW w a V W' :=
  ⟨h.bel.trans (hb.mono h.bel.size), (hb.block _ (blk_lt h.box)).trans h.box, (hb.block _ (blk_lt h.out)).trans h.out⟩
theorem box3 {W : World} {p : Nat} {a b c : Value} (h : W.heap[p]? = some (.cells #[a, b, c] 51 (0, 0))) : W.cell? ⟨p, 0, none⟩ = some a ∧ W.cell? ⟨p, 1, none⟩ = some b ∧ W.cell? ⟨p, 2, none⟩ = some c :=
  ⟨by rw [cellBox h]; rfl, by rw [cellBox h]; rfl, by rw [cellBox h]; rfl⟩
theorem box3setV {W : World} {p : Nat} {a0 b0 c0 : Value} (h : W.heap[p]? = some (.cells #[a0, b0, c0] 51 (0, 0))) (a b c : Value) :
    (((W.setCell ⟨p, 0, none⟩ a).setCell ⟨p, 1, none⟩ b).setCell ⟨p, 2, none⟩ c).heap[p]? = some (.cells #[a, b, c] 51 (0, 0)) ∧ But (fun k => k = p) W (((W.setCell ⟨p, 0, none⟩ a).setCell ⟨p, 1, none⟩ b).setCell ⟨p, 2, none⟩ c) := by
  have h1 := heap_setCell_same _ p 0 _ _ a h
  have h2 := heap_setCell_same _ p 1 _ _ b h1
  have h3 := heap_setCell_same _ p 2 _ _ c h2
  exact ⟨by simpa using h3, (((But.refl (fun k => k = p) W).set (p := ⟨p, 0, none⟩) (fun _ => rfl) a).set (p := ⟨p, 1, none⟩) (fun _ => rfl) b).set (p := ⟨p, 2, none⟩) (fun _ => rfl) c⟩
set_option maxHeartbeats 4000000 in
set_option maxRecDepth 100000 in
theorem xNew_calls (self : Int) (a : Array Value) (f : Nat → Nat) (ha : Words a f) (e : Nat) (he : e < 18446744073709551616) (w : World) : Calls Tryz.prog 14 #[.int .i64 self, .agg a, .int .u64 e] w (XNewPost self f e w) := by
  have hsa := ha.size
  have hs1 : (Tryz.prog.info? 43).map (·.size) = some a.size := by rw [hsa]; exact info30
  have hbd := build_node hsa (.int .u64 (e : Int))
  rw [hsa] at hbd
  have hone : (#[Value.int .u64 (e : Int)] ++ a).all (·.oneCell') = true := by
    rw [Array.all_append]
    simp only [Bool.and_eq_true]
    refine ⟨by simp [Value.oneCell'], ?_⟩
    rw [Array.all_eq_true_iff_forall_mem]
    intro v hv
    obtain ⟨i, hi, rfl⟩ := Array.getElem_of_mem hv
    have := ha.get i (by omega)
    rw [Array.getElem?_eq_getElem hi] at this
    injection this with this
    rw [this]; rfl
  have hW0 : NwW w a #[.int .i64 0, .slice none 0 0, .int .u64 0] ((w.alloc (.cells a 43)).alloc (.cells #[.int .i64 0, .slice none 0 0, .int .u64 0] 51)) := by
    have n1 := below_new' w (.cells a 43)
    have s1 : (w.alloc (.cells a 43)).heap.size = w.heap.size + 1 := by simp
    have k1 := heapN w (.cells a 43)
    generalize w.alloc (.cells a 43) = w1 at *
    have n2 := below_new' w1 (.cells #[.int .i64 0, .slice none 0 0, .int .u64 0] 51)
    refine ⟨n1.trans (n2.mono n1.size), (n2.block _ (blk_lt k1)).trans k1, ?_⟩
    rw [← s1]; exact heapN w1 _
  by_cases h1 : 0 ≤ self ∧ self < 64
  · obtain ⟨n, rfl⟩ : ∃ n : Nat, self = (n : Int) := ⟨self.toNat, by omega⟩
    have hn : n < 64 := by omega
    have hn0 : (0 : Int) ≤ (n : Int) := by omega
    have hn1 : (n : Int) < 64 := by omega
    have d1 : decide ((n : Int) < 0) = false := decide_eq_false (by omega)
    have d2 : decide ((63 : Int) < (n : Int)) = false := decide_eq_false (by omega)
    by_cases h2 : e ≤ 4611686018427387904
    · have d3 : decide ((4611686018427387904 : Int) < (e : Int)) = false := decide_eq_false (by omega)
      have hP : ∀ g W', Below w.heap.size w W' → XR W' g (newX n e f) → XNewPost (n : Int) f e w (.returned (.tuple #[.agg #[.int .i64 (n : Int), .slice (some ⟨g, 0, none⟩) 64 64, .int .u64 (e : Int)], .int .i64 0])) W' := fun g W' hb hX => by
        unfold XNewPost
        rw [if_pos h1, if_pos h2]
        exact ⟨hb, g, rfl, hX⟩
      replace hP := Lib.hid hP
      go_enter Tryz.func14, Tryz.ntmps14
      refine wp_cut (fun A W => (∃ t8, NwA (.int .i64 (n : Int)) (.int .u64 (e : Int)) w.heap.size t8 A) ∧ NwW w a #[.int .i64 0, .slice none 0 0, .int .u64 0] W) ?_ ?_
      · replace hW0 := Lib.hid hW0
        go_wp2_with fail
        exact ⟨⟨_, NwA.mk⟩, hW0.out⟩
      clear hW0
      rintro _ W ⟨⟨t8, hA⟩, hW⟩
      cases hA
      refine wp_cut (fun A W => (∃ t8, NwA (.int .i64 (n : Int)) (.int .u64 (e : Int)) w.heap.size t8 A) ∧ NwW w a #[.int .i64 0, .slice none 0 0, .int .u64 0] W) ?_ ?_
      · replace hW := Lib.hid hW
        go_wp2_with fail
        exact ⟨⟨_, NwA.mk⟩, hW.out⟩
      clear hW
      rintro _ W ⟨⟨t8, hA⟩, hW⟩
      cases hA
      refine wp_cut (fun A W => (∃ t8, NwA (.int .i64 (n : Int)) (.int .u64 (e : Int)) w.heap.size t8 A) ∧ NwW w a #[.int .i64 0, .slice none 0 0, .int .u64 0] W) ?_ ?_
      · replace hW := Lib.hid hW
        go_wp2_with fail
        exact ⟨⟨_, NwA.mk⟩, hW.out⟩
      clear hW d1 d2 d3
      rintro _ W ⟨⟨t8, hA⟩, hW⟩
      cases hA
      refine wp_cut (fun A W => ∃ g p8, NwA (.int .i64 (n : Int)) (.int .u64 (e : Int)) w.heap.size (.pointer (some ⟨p8, 0, none⟩)) A ∧ NwW w a #[.int .i64 0, .slice none 0 0, .int .u64 0] W ∧ XR W g X0 ∧ w.heap.size ≤ g ∧ W.heap[p8]? = some (.cells #[.int .i64 (n : Int), .slice (some ⟨g, 0, none⟩) 64 64, .int .u64 (e : Int)] 51 (0, 0))) ?_ ?_
      · replace hW := Lib.hid hW
        go_wp2_with (at_make; refine hold ?_)
        refine Lib.hid ?_
        refine wpList_make rfl rfl ?_
        intro w5 hX5 hb5
        have hW5 := hW.out.below hb5
        have n1 := below_new' w5 (.cells #[.int .i64 (n : Int), .slice (some ⟨W.heap.size, 0, none⟩) 64 64, .int .u64 (e : Int)] 51)
        have hN := heapN w5 (.cells #[.int .i64 (n : Int), .slice (some ⟨W.heap.size, 0, none⟩) 64 64, .int .u64 (e : Int)] 51)
        have hW6 := Lib.hid (hW5.below n1)
        have hX6 := Lib.hid (hX5.below n1)
        have hsz := hW.out.bel.size
        replace hN := Lib.hid hN
        clear hW5 hX5 hb5 n1 hW
        go_wp2_with fail
        exact ⟨_, _, NwA.mk, hW6.out, hX6.out, hsz, hN.out⟩
      clear hW
      rintro _ W ⟨g, p8, hA, hW, hX, hg, h8⟩
      cases hA
      refine wp_cut (fun A W => NwA (.int .i64 (n : Int)) (.int .u64 (e : Int)) w.heap.size (.pointer (some ⟨p8, 0, none⟩)) A ∧ NwW w a #[.int .i64 0, .slice none 0 0, .int .u64 0] W ∧ XR W g (newX n e f) ∧ W.heap[p8]? = some (.cells #[.int .i64 (n : Int), .slice (some ⟨g, 0, none⟩) 64 64, .int .u64 (e : Int)] 51 (0, 0))) ?_ ?_
      · obtain ⟨q0, q1, q2⟩ := box3 h8
        have hbx := hW.box
        have hsz : (#[Value.int .u64 (e : Int)] ++ a).size = 257 := by rw [Array.size_append, hsa]; rfl
        have hth : W.there g (n * 257) (#[Value.int .u64 (e : Int)] ++ a).size := by rw [hsz]; exact hX.there n hn
        have hi : (Tryz.prog.info? 87).map (·.size) = some (#[Value.int .u64 (e : Int)] ++ a).size := by rw [hsz]; exact info_node2
        obtain ⟨hX2, hb2⟩ := setCells_node hX hn he ha
        obtain ⟨cg, hcg, -⟩ := hX
        have hX3 : XR (W.setCells g (n * 257) (#[Value.int .u64 (e : Int)] ++ a).toList) g (newX n e f) := hX2.congr (fun m _ => rfl) (fun m k _ _ => rfl)
        have hW3 : NwW w a #[.int .i64 0, .slice none 0 0, .int .u64 0] (W.setCells g (n * 257) (#[Value.int .u64 (e : Int)] ++ a).toList) :=
          ⟨hW.bel.trans (hb2.below hW.bel.size fun i hi e => by omega), (hb2.block _ (blk_lt hW.box) (blk_type hW.box hcg (by decide))).trans hW.box, (hb2.block _ (blk_lt hW.out) (blk_type hW.out hcg (by decide))).trans hW.out⟩
        have h83 := (hb2.block _ (blk_lt h8) (blk_type h8 hcg (by decide))).trans h8
        replace hX3 := Lib.hid hX3
        replace hW3 := Lib.hid hW3
        replace h83 := Lib.hid h83
        clear hX2 hb2 hcg hW h8 hP hg
        go_wp2_with (first | (refine wpList_load_row rfl 43 (.tmp 4) rfl w.heap.size rfl 43 a (0, 0) _ hbx Tryz.underlying43 rfl hs1 ?_) | (refine wpList_store_mid rfl 87 (.tmp 29) (.tmp 28) rfl g (n * 257) (#[Value.int .u64 (e : Int)] ++ a) rfl rfl hth hi hone ?_))
        exact ⟨NwA.mk, hW3.out, hX3.out, h83.out⟩
      clear hW hX h8 hbd hone hs1
      rintro _ W ⟨hA, hW, hX, h8⟩
      cases hA
      obtain ⟨q0, q1, q2⟩ := box3 h8
      obtain ⟨r0, r1, r2⟩ := box3 hW.out
      have z0 : ∀ i, W.frozen? ⟨w.heap.size + 1, i, none⟩ = false := fun i => openBox hW.out
      have z00 := z0 0
      have z01 := z0 1
      have z02 := z0 2
      obtain ⟨hfin, hb3⟩ := box3setV hW.out (.int .i64 (n : Int)) (.slice (some ⟨g, 0, none⟩) 64 64) (.int .u64 (e : Int))
      have hX3 := Lib.hid (hX.keep hb3 (fun e => by obtain ⟨cg, hcg, -⟩ := hX; exact blk_type hcg hW.out (by decide) e))
      have hb4 := Lib.hid (hW.bel.trans (hb3.below (n := w.heap.size) hW.bel.size fun i hi e => by omega))
      replace hfin := Lib.hid hfin
      clear hb3 hX hW h8 z0
      go_wp2_with fail
      refine bodyPost_ret (results_cell_row2 Tryz.results14 _ _ (w.heap.size + 1) 51 _ (0, 0) _ _ rfl rfl hfin.out Tryz.underlying51 rfl (info51 _ _ _)) rfl (hP.out _ _ hb4.out hX3.out)
    · have d3 : decide ((4611686018427387904 : Int) < (e : Int)) = true := decide_eq_true (by omega)
      have hP : ∀ W', Below w.heap.size w W' → XNewPost (n : Int) f e w (.returned (.tuple #[.agg #[.int .i64 0, .slice none 0 0, .int .u64 0], .int .i64 1])) W' := fun W' hb => by
        unfold XNewPost
        rw [if_pos h1, if_neg h2]
        exact ⟨hb, rfl⟩
      replace hP := Lib.hid hP
      replace hW0 := Lib.hid hW0
      clear hbd hone
      go_enter Tryz.func14, Tryz.ntmps14
      go_wp2_with fail
      refine bodyPost_ret (results_cell_row2 Tryz.results14 _ _ (w.heap.size + 1) 51 _ (0, 0) _ _ rfl rfl hW0.out.out Tryz.underlying51 rfl (info51 _ _ _)) rfl (hP.out _ hW0.out.bel)
  · have hP : ∀ W', Below w.heap.size w W' → XNewPost self f e w (.returned (.tuple #[.agg #[.int .i64 0, .slice none 0 0, .int .u64 0], .int .i64 150])) W' := fun W' hb => by
      unfold XNewPost
      rw [if_neg h1]
      exact ⟨hb, rfl⟩
    replace hP := Lib.hid hP
    replace hW0 := Lib.hid hW0
    clear hbd hone
    by_cases h0 : self < 0
    · have d1 : decide (self < 0) = true := decide_eq_true h0
      clear h1
      go_enter Tryz.func14, Tryz.ntmps14
      go_wp2_with fail
      refine bodyPost_ret (results_cell_row2 Tryz.results14 _ _ (w.heap.size + 1) 51 _ (0, 0) _ _ rfl rfl hW0.out.out Tryz.underlying51 rfl (info51 _ _ _)) rfl (hP.out _ hW0.out.bel)
    · have d1 : decide (self < 0) = false := decide_eq_false h0
      have d2 : decide ((63 : Int) < self) = true := decide_eq_true (by omega)
      clear h1
      go_enter Tryz.func14, Tryz.ntmps14
      go_wp2_with fail
      refine bodyPost_ret (results_cell_row2 Tryz.results14 _ _ (w.heap.size + 1) 51 _ (0, 0) _ _ rfl rfl hW0.out.out Tryz.underlying51 rfl (info51 _ _ _)) rfl (hP.out _ hW0.out.bel)
end Go.Proofs.YtgdcnenlelckhaaGreatDoor

namespace Go.Proofs.YtgdcnenlelckhaaGreatDoor
open Go.RowKit Go.Proofs.YtgdcnenlelckhaaGreatDoorW.PrintWords
open SlS SlT
set_option maxHeartbeats 4000000 in
set_option maxRecDepth 100000 in
theorem alike_calls {g gx c : Nat} {v : VS} {X : XS} (w : World) (hV : VB w g v) (hX : XR w gx X) (h : Agree v X) : Calls Tryz.prog 18 #[.pointer (some ⟨g, 0, none⟩), .agg #[.int .i64 (X.self : Int), .slice (some ⟨gx, 0, none⟩) 64 c, .int .u64 (X.cur : Int)]] w fun e w' => e = .returned (.bool true) ∧ Below w.heap.size w w' := by
  rw [← h.self, ← h.cur]
  have n1 := below_new' w (.cells #[.int .i64 (v.self : Int), .slice (some ⟨gx, 0, none⟩) 64 c, .int .u64 (v.cur : Int)] 51)
  have hbx := heapN w (.cells #[.int .i64 (v.self : Int), .slice (some ⟨gx, 0, none⟩) 64 c, .int .u64 (v.cur : Int)] 51)
  replace hV := (hV.below n1).below (below_drew (Below.refl _ _))
  replace hX := (hX.below n1).drew
  have hS : (World.drew (w.alloc (.cells #[.int .i64 (v.self : Int), .slice (some ⟨gx, 0, none⟩) 64 c, .int .u64 (v.cur : Int)] 51))).heap[w.heap.size]? = _ := hbx
  have hb1 : Below w.heap.size w (World.drew (w.alloc (.cells #[.int .i64 (v.self : Int), .slice (some ⟨gx, 0, none⟩) 64 c, .int .u64 (v.cur : Int)] 51))) := n1.trans ((below_drew (Below.refl _ _)).mono n1.size)
  replace hV := Lib.hid hV
  replace hX := Lib.hid hX
  replace hS := Lib.hid hS
  replace hb1 := Lib.hid hb1
  clear n1 hbx
  go_enter Tryz.func18, Tryz.ntmps18
  go_wp2_with fail
  refine wp_region_held_drew (S := fun W => W.heap[w.heap.size]? = some (.cells #[.int .i64 (v.self : Int), .slice (some ⟨gx, 0, none⟩) 64 c, .int .u64 (v.cur : Int)] 51 (0, 0))) (by kernel_rfl) hS.out (fun hHeld => ?_)
  clear hHeld
  replace hV := hV.out
  replace hX := hX.out
  replace hS := hS.out
  replace hb1 := hb1.out
  generalize World.drew _ = W1 at *
  refine wpAnyH_take (i := 0) (oi := ⟨some 6, _, _, _, _, _⟩) (v := .pointer (some ⟨g, 0, none⟩)) rfl (by kernel_rfl) (by kernel_rfl) (by kernel_rfl) (fun _ _ _ h => h) (Or.inl ⟨by rfl, fun W hW => by go_simp⟩) hS ?_
  try simp only [Act.put, List.setIfInBounds_toArray, List.set_cons_zero, List.set_cons_succ]
  refine wpAnyH_take (i := 1) (oi := ⟨some 7, _, _, _, _, _⟩) (v := .bool false) rfl (by kernel_rfl) (by kernel_rfl) (by kernel_rfl) (fun _ _ _ h => h) (Or.inl ⟨by rfl, fun W hW => by go_simp⟩) hS ?_
  try simp only [Act.put, List.setIfInBounds_toArray, List.set_cons_zero, List.set_cons_succ]
  refine wpAnyH_take (i := 2) (oi := ⟨some 8, _, _, _, _, _⟩) (v := .bool false) rfl (by kernel_rfl) (by kernel_rfl) (by kernel_rfl) (fun _ _ _ h => h) (Or.inl ⟨by rfl, fun W hW => by go_simp⟩) hS ?_
  try simp only [Act.put, List.setIfInBounds_toArray, List.set_cons_zero, List.set_cons_succ]
  refine wpAnyH_take (i := 3) (oi := ⟨some 9, _, _, _, _, _⟩) (v := .pointer (some ⟨g, 0, none⟩)) rfl (by kernel_rfl) (by kernel_rfl) (by kernel_rfl) (fun _ _ _ h => h) (Or.inl ⟨by rfl, fun W hW => by go_simp⟩) hS ?_
  try simp only [Act.put, List.setIfInBounds_toArray, List.set_cons_zero, List.set_cons_succ]
  refine wpAnyH_take (i := 5) (oi := ⟨some 11, _, _, _, _, _⟩) (v := .pointer (some ⟨w.heap.size, 2, none⟩)) rfl (by kernel_rfl) (by kernel_rfl) (by kernel_rfl) (fun _ _ _ h => h) (Or.inl ⟨by rfl, fun W hW => by go_simp⟩) hS ?_
  try simp only [Act.put, List.setIfInBounds_toArray, List.set_cons_zero, List.set_cons_succ]
  refine wpAnyH_take (i := 6) (oi := ⟨some 12, _, _, _, _, _⟩) (v := .int .u64 (v.cur : Int)) rfl (by kernel_rfl) (by kernel_rfl) (by kernel_rfl) (fun _ _ _ h => h) (Or.inl ⟨by rfl, fun W hW => by obtain ⟨p0, p1, p2⟩ := box3 hW; go_simp⟩) hS ?_
  try simp only [Act.put, List.setIfInBounds_toArray, List.set_cons_zero, List.set_cons_succ]
  refine wpAnyH_ready (rs := [4]) (by kernel_rfl) (by simp) ?_
  refine AllReadyH.cons (o := ⟨some 10, _, _, _, _, _⟩) rfl (fun K hK => ?_) AllReadyH.nil
  rw [if_pos (by rfl)]
  go_simp
  refine (vCurrent_calls _ hV).mono ?_
  rintro e w94 ⟨rfl, rfl⟩
  go_wp2_with fail
  refine hK.out _ _ hS (fun hHeld => ?_)
  clear hK K hHeld
  try simp only [Act.put, List.setIfInBounds_toArray, List.set_cons_zero, List.set_cons_succ]
  refine wpAnyH_take (i := 7) (oi := ⟨some 13, _, _, _, _, _⟩) (v := .bool false) rfl (by kernel_rfl) (by kernel_rfl) (by kernel_rfl) (fun _ _ _ h => h) (Or.inl ⟨by rfl, fun W hW => by go_simp⟩) hS ?_
  try simp only [Act.put, List.setIfInBounds_toArray, List.set_cons_zero, List.set_cons_succ]
  refine wpAnyH_take (i := 8) (oi := ⟨some 14, _, _, _, _, _⟩) (v := .bool false) rfl (by kernel_rfl) (by kernel_rfl) (by kernel_rfl) (fun _ _ _ h => h) (Or.inl ⟨by rfl, fun W hW => by go_simp⟩) hS ?_
  try simp only [Act.put, List.setIfInBounds_toArray, List.set_cons_zero, List.set_cons_succ]
  refine wpAnyH_take (i := 9) (oi := ⟨some 15, _, _, _, _, _⟩) (v := .bool false) rfl (by kernel_rfl) (by kernel_rfl) (by kernel_rfl) (fun _ _ _ h => h) (Or.inl ⟨by rfl, fun W hW => by go_simp⟩) hS ?_
  try simp only [Act.put, List.setIfInBounds_toArray, List.set_cons_zero, List.set_cons_succ]
  refine wpAnyH_take (i := 10) (oi := ⟨some 16, _, _, _, _, _⟩) (v := .pointer (some ⟨g, 0, none⟩)) rfl (by kernel_rfl) (by kernel_rfl) (by kernel_rfl) (fun _ _ _ h => h) (Or.inl ⟨by rfl, fun W hW => by go_simp⟩) hS ?_
  try simp only [Act.put, List.setIfInBounds_toArray, List.set_cons_zero, List.set_cons_succ]
  refine wpAnyH_take (i := 12) (oi := ⟨some 18, _, _, _, _, _⟩) (v := .pointer (some ⟨w.heap.size, 0, none⟩)) rfl (by kernel_rfl) (by kernel_rfl) (by kernel_rfl) (fun _ _ _ h => h) (Or.inl ⟨by rfl, fun W hW => by go_simp⟩) hS ?_
  try simp only [Act.put, List.setIfInBounds_toArray, List.set_cons_zero, List.set_cons_succ]
  refine wpAnyH_take (i := 13) (oi := ⟨some 19, _, _, _, _, _⟩) (v := .int .i64 (v.self : Int)) rfl (by kernel_rfl) (by kernel_rfl) (by kernel_rfl) (fun _ _ _ h => h) (Or.inl ⟨by rfl, fun W hW => by obtain ⟨p0, p1, p2⟩ := box3 hW; go_simp⟩) hS ?_
  try simp only [Act.put, List.setIfInBounds_toArray, List.set_cons_zero, List.set_cons_succ]
  refine wpAnyH_ready (rs := [11]) (by kernel_rfl) (by simp) ?_
  refine AllReadyH.cons (o := ⟨some 17, _, _, _, _, _⟩) rfl (fun K hK => ?_) AllReadyH.nil
  rw [if_pos (by rfl)]
  go_simp
  refine (vSelf_calls _ hV).mono ?_
  rintro e w101 ⟨rfl, rfl⟩
  go_wp2_with fail
  refine hK.out _ _ hS (fun hHeld => ?_)
  clear hK K hHeld
  try simp only [Act.put, List.setIfInBounds_toArray, List.set_cons_zero, List.set_cons_succ]
  refine wpAnyH_take (i := 14) (oi := ⟨some 20, _, _, _, _, _⟩) (v := .bool false) rfl (by kernel_rfl) (by kernel_rfl) (by kernel_rfl) (fun _ _ _ h => h) (Or.inl ⟨by rfl, fun W hW => by go_simp⟩) hS ?_
  try simp only [Act.put, List.setIfInBounds_toArray, List.set_cons_zero, List.set_cons_succ]
  refine wpAnyH_take (i := 15) (oi := ⟨some 21, _, _, _, _, _⟩) (v := .bool false) rfl (by kernel_rfl) (by kernel_rfl) (by kernel_rfl) (fun _ _ _ h => h) (Or.inl ⟨by rfl, fun W hW => by go_simp⟩) hS ?_
  try simp only [Act.put, List.setIfInBounds_toArray, List.set_cons_zero, List.set_cons_succ]
  refine wpAnyH_done (by kernel_rfl) ?_ _
  replace hV := Lib.hid hV
  replace hX := Lib.hid hX
  replace hS := Lib.hid hS
  replace hb1 := Lib.hid hb1
  go_wp2_with fail
  go_loopw [22] (fun s22 wr => ∃ i : Nat, i ≤ 64 ∧ s22 = .int .i64 i ∧ Below W1.heap.size W1 wr) (fun s22 _ => 64 - (intOf s22).toNat)
  case atStart => exact ⟨0, by omega, rfl, Below.refl _ _⟩
  case round =>
    obtain ⟨i, hi, rfl, hb⟩ := hrel
    by_cases hi64 : i < 64
    · have hgo3 : decide ((i : Int) < 64) = true := decide_eq_true (by omega)
      have hi0 : (0 : Int) ≤ (i : Int) := by omega
      have hi64' : (i : Int) < 64 := by omega
      have hep : X.ep i = v.ep i := (h.ep i hi64).symm
      have hV2 := Lib.hid ((hV.out.below hb).below (below_drew (Below.refl _ _)))
      have hX2 := (hX.out.below hb).drew
      obtain ⟨a, ha, hra, -⟩ := hX2.words i hi64
      have haw : Words a (wordV v i) := ⟨ha.size, fun k hk => by rw [ha.get k hk]; simp only [if_pos hk]; rw [word_agree h i k hi64 hk], wordV_lt v i⟩
      have hS2 : (World.drew wr).heap[w.heap.size]? = some (.cells #[.int .i64 (v.self : Int), .slice (some ⟨gx, 0, none⟩) 64 c, .int .u64 (v.cur : Int)] 51 (0, 0)) := (hb.block _ (blk_lt hS.out)).trans hS.out
      have hS3 := Lib.hid (And.intro hS2 (And.intro hX2 hra))
      have hb2 : Below w.heap.size w (World.drew wr) := (hb1.out.trans (hb.mono hb1.out.size)).trans ((below_drew (Below.refl wr.heap.size wr)).mono (Nat.le_trans hb1.out.size hb.size))
      have hb2' : Below W1.heap.size W1 (World.drew wr) := hb.trans ((below_drew (Below.refl wr.heap.size wr)).mono hb.size)
      replace hb2' := Lib.hid hb2'
      have hia := info43l haw
      clear hX2 hra hS2 hb hV hX hS ha hb2
      go_wp2_with fail
      refine wp_region_held_drew (S := fun W => W.heap[w.heap.size]? = some (.cells #[.int .i64 (v.self : Int), .slice (some ⟨gx, 0, none⟩) 64 c, .int .u64 (v.cur : Int)] 51 (0, 0)) ∧ XR W gx X ∧ W.rangeAt gx (i * 257 + 1) a.toList) (by kernel_rfl) hS3.out (fun hHeld => ?_)
      clear hHeld
      have hV := hV2.out
      have hS := hS3.out
      have hb2 := hb2'
      clear hV2 hS3 hb2'
      generalize World.drew _ = W2 at *
      refine wpAnyH_take (i := 0) (oi := ⟨some 25, _, _, _, _, _⟩) (v := .pointer (some ⟨g, 0, none⟩)) rfl (by kernel_rfl) (by kernel_rfl) (by kernel_rfl) (fun _ _ _ h => h) (Or.inl ⟨by rfl, fun W hW => by go_simp⟩) hS ?_
      try simp only [Act.put, List.setIfInBounds_toArray, List.set_cons_zero, List.set_cons_succ]
      refine wpAnyH_take (i := 1) (oi := ⟨some 26, _, _, _, _, _⟩) (v := .int .i64 (i : Int)) rfl (by kernel_rfl) (by kernel_rfl) (by kernel_rfl) (fun _ _ _ h => h) (Or.inl ⟨by rfl, fun W hW => by go_simp⟩) hS ?_
      try simp only [Act.put, List.setIfInBounds_toArray, List.set_cons_zero, List.set_cons_succ]
      refine wpAnyH_take (i := 3) (oi := ⟨some 28, _, _, _, _, _⟩) (v := .pointer (some ⟨w.heap.size, 1, none⟩)) rfl (by kernel_rfl) (by kernel_rfl) (by kernel_rfl) (fun _ _ _ h => h) (Or.inl ⟨by rfl, fun W hW => by go_simp⟩) hS ?_
      try simp only [Act.put, List.setIfInBounds_toArray, List.set_cons_zero, List.set_cons_succ]
      refine wpAnyH_take (i := 4) (oi := ⟨some 29, _, _, _, _, _⟩) (v := .slice (some ⟨gx, 0, none⟩) 64 c) rfl (by kernel_rfl) (by kernel_rfl) (by kernel_rfl) (fun _ _ _ h => h) (Or.inl ⟨by rfl, fun W hW => by obtain ⟨p0, p1, p2⟩ := box3 hW.1; have q1 := hW.2.1.atEp i hi64; rw [hep] at q1; go_simp⟩) hS ?_
      try simp only [Act.put, List.setIfInBounds_toArray, List.set_cons_zero, List.set_cons_succ]
      refine wpAnyH_take (i := 5) (oi := ⟨some 30, _, _, _, _, _⟩) (v := .int .i64 (i : Int)) rfl (by kernel_rfl) (by kernel_rfl) (by kernel_rfl) (fun _ _ _ h => h) (Or.inl ⟨by rfl, fun W hW => by go_simp⟩) hS ?_
      try simp only [Act.put, List.setIfInBounds_toArray, List.set_cons_zero, List.set_cons_succ]
      refine wpAnyH_take (i := 6) (oi := ⟨some 31, _, _, _, _, _⟩) (v := .pointer (some ⟨gx, i * 257, none⟩)) rfl (by kernel_rfl) (by kernel_rfl) (by kernel_rfl) (fun _ _ _ h => h) (Or.inl ⟨by rfl, fun W hW => by go_simp⟩) hS ?_
      try simp only [Act.put, List.setIfInBounds_toArray, List.set_cons_zero, List.set_cons_succ]
      refine wpAnyH_take (i := 7) (oi := ⟨some 32, _, _, _, _, _⟩) (v := .pointer (some ⟨gx, i * 257, none⟩)) rfl (by kernel_rfl) (by kernel_rfl) (by kernel_rfl) (fun _ _ _ h => h) (Or.inl ⟨by rfl, fun W hW => by go_simp⟩) hS ?_
      try simp only [Act.put, List.setIfInBounds_toArray, List.set_cons_zero, List.set_cons_succ]
      refine wpAnyH_take (i := 8) (oi := ⟨some 33, _, _, _, _, _⟩) (v := .int .u64 (v.ep i : Int)) rfl (by kernel_rfl) (by kernel_rfl) (by kernel_rfl) (fun _ _ _ h => h) (Or.inl ⟨by rfl, fun W hW => by obtain ⟨p0, p1, p2⟩ := box3 hW.1; have q1 := hW.2.1.atEp i hi64; rw [hep] at q1; go_simp⟩) hS ?_
      try simp only [Act.put, List.setIfInBounds_toArray, List.set_cons_zero, List.set_cons_succ]
      refine wpAnyH_ready (rs := [2]) (by kernel_rfl) (by simp) ?_
      refine AllReadyH.cons (o := ⟨some 27, _, _, _, _, _⟩) rfl (fun K hK => ?_) AllReadyH.nil
      rw [if_pos (by rfl)]
      go_simp
      refine (vEpoch_calls _ hV i hi64).mono ?_
      rintro e w92 ⟨rfl, rfl⟩
      go_wp2_with fail
      refine hK.out _ _ hS (fun hHeld => ?_)
      clear hK K hHeld
      try simp only [Act.put, List.setIfInBounds_toArray, List.set_cons_zero, List.set_cons_succ]
      refine wpAnyH_take (i := 9) (oi := ⟨some 34, _, _, _, _, _⟩) (v := .bool false) rfl (by kernel_rfl) (by kernel_rfl) (by kernel_rfl) (fun _ _ _ h => h) (Or.inl ⟨by rfl, fun W hW => by go_simp⟩) hS ?_
      try simp only [Act.put, List.setIfInBounds_toArray, List.set_cons_zero, List.set_cons_succ]
      refine wpAnyH_take (i := 10) (oi := ⟨some 35, _, _, _, _, _⟩) (v := .bool false) rfl (by kernel_rfl) (by kernel_rfl) (by kernel_rfl) (fun _ _ _ h => h) (Or.inl ⟨by rfl, fun W hW => by go_simp⟩) hS ?_
      try simp only [Act.put, List.setIfInBounds_toArray, List.set_cons_zero, List.set_cons_succ]
      refine wpAnyH_take (i := 11) (oi := ⟨some 36, _, _, _, _, _⟩) (v := .pointer (some ⟨g, 0, none⟩)) rfl (by kernel_rfl) (by kernel_rfl) (by kernel_rfl) (fun _ _ _ h => h) (Or.inl ⟨by rfl, fun W hW => by go_simp⟩) hS ?_
      try simp only [Act.put, List.setIfInBounds_toArray, List.set_cons_zero, List.set_cons_succ]
      refine wpAnyH_take (i := 12) (oi := ⟨some 37, _, _, _, _, _⟩) (v := .int .i64 (i : Int)) rfl (by kernel_rfl) (by kernel_rfl) (by kernel_rfl) (fun _ _ _ h => h) (Or.inl ⟨by rfl, fun W hW => by go_simp⟩) hS ?_
      try simp only [Act.put, List.setIfInBounds_toArray, List.set_cons_zero, List.set_cons_succ]
      refine wpAnyH_take (i := 14) (oi := ⟨some 39, _, _, _, _, _⟩) (v := .pointer (some ⟨w.heap.size, 1, none⟩)) rfl (by kernel_rfl) (by kernel_rfl) (by kernel_rfl) (fun _ _ _ h => h) (Or.inl ⟨by rfl, fun W hW => by go_simp⟩) hS ?_
      try simp only [Act.put, List.setIfInBounds_toArray, List.set_cons_zero, List.set_cons_succ]
      refine wpAnyH_take (i := 15) (oi := ⟨some 40, _, _, _, _, _⟩) (v := .slice (some ⟨gx, 0, none⟩) 64 c) rfl (by kernel_rfl) (by kernel_rfl) (by kernel_rfl) (fun _ _ _ h => h) (Or.inl ⟨by rfl, fun W hW => by obtain ⟨p0, p1, p2⟩ := box3 hW.1; have q1 := hW.2.1.atEp i hi64; rw [hep] at q1; go_simp⟩) hS ?_
      try simp only [Act.put, List.setIfInBounds_toArray, List.set_cons_zero, List.set_cons_succ]
      refine wpAnyH_take (i := 16) (oi := ⟨some 41, _, _, _, _, _⟩) (v := .int .i64 (i : Int)) rfl (by kernel_rfl) (by kernel_rfl) (by kernel_rfl) (fun _ _ _ h => h) (Or.inl ⟨by rfl, fun W hW => by go_simp⟩) hS ?_
      try simp only [Act.put, List.setIfInBounds_toArray, List.set_cons_zero, List.set_cons_succ]
      refine wpAnyH_take (i := 17) (oi := ⟨some 42, _, _, _, _, _⟩) (v := .pointer (some ⟨gx, i * 257, none⟩)) rfl (by kernel_rfl) (by kernel_rfl) (by kernel_rfl) (fun _ _ _ h => h) (Or.inl ⟨by rfl, fun W hW => by go_simp⟩) hS ?_
      try simp only [Act.put, List.setIfInBounds_toArray, List.set_cons_zero, List.set_cons_succ]
      refine wpAnyH_take (i := 18) (oi := ⟨some 43, _, _, _, _, _⟩) (v := .pointer (some ⟨gx, i * 257 + 1, none⟩)) rfl (by kernel_rfl) (by kernel_rfl) (by kernel_rfl) (fun _ _ _ h => h) (Or.inl ⟨by rfl, fun W hW => by go_simp⟩) hS ?_
      try simp only [Act.put, List.setIfInBounds_toArray, List.set_cons_zero, List.set_cons_succ]
      refine wpAnyH_take (i := 19) (oi := ⟨some 44, _, _, _, _, _⟩) (v := .agg a) rfl (by kernel_rfl) (by kernel_rfl) (by kernel_rfl) (fun _ _ _ h => h) (yields_mid (by rfl) 43 (.tmp 43) rfl gx (i * 257 + 1) rfl a _ (fun W h => h.2.2) Tryz.underlying43 rfl hia) hS ?_
      try simp only [Act.put, List.setIfInBounds_toArray, List.set_cons_zero, List.set_cons_succ]
      refine wpAnyH_ready (rs := [13]) (by kernel_rfl) (by simp) ?_
      refine AllReadyH.cons (o := ⟨some 38, _, _, _, _, _⟩) rfl (fun K hK => ?_) AllReadyH.nil
      rw [if_pos (by rfl)]
      go_simp
      refine (vClaims_calls _ hV i hi64).mono ?_
      rintro e w103 ⟨a1, rfl, ha1, hb9⟩
      obtain rfl : a1 = a := words_same ha1 haw
      have hS9 : _ ∧ _ ∧ _ := ⟨(hb9.block _ (blk_lt hS.1)).trans hS.1, hS.2.1.below hb9, fun j u hj => (hb9.cell (p := ⟨gx, i * 257 + 1 + j, none⟩) hS.2.1.lt).trans (hS.2.2 j u hj)⟩
      have hb3 := Lib.hid (hb2.out.trans (hb9.mono hb2.out.size))
      clear hS hV hb2 hb9
      have hq := fun W => words_neq haw haw W
      go_wp2_with fail
      refine hK.out _ _ hS9 (fun hHeld => ?_)
      clear hK K hHeld
      have hS := hS9
      clear hS9
      try simp only [Act.put, List.setIfInBounds_toArray, List.set_cons_zero, List.set_cons_succ]
      refine wpAnyH_take (i := 20) (oi := ⟨some 45, _, _, _, _, _⟩) (v := .bool false) rfl (by kernel_rfl) (by kernel_rfl) (by kernel_rfl) (fun _ _ _ h => h) (Or.inl ⟨by rfl, fun W hW => by go_simp; try (rw [hq]; rfl)⟩) hS ?_
      try simp only [Act.put, List.setIfInBounds_toArray, List.set_cons_zero, List.set_cons_succ]
      refine wpAnyH_take (i := 21) (oi := ⟨some 46, _, _, _, _, _⟩) (v := .bool false) rfl (by kernel_rfl) (by kernel_rfl) (by kernel_rfl) (fun _ _ _ h => h) (Or.inl ⟨by rfl, fun W hW => by go_simp⟩) hS ?_
      try simp only [Act.put, List.setIfInBounds_toArray, List.set_cons_zero, List.set_cons_succ]
      refine wpAnyH_done (by kernel_rfl) ?_ _
      go_wp2_with fail
      exact ⟨⟨i + 1, by omega, by go_num, hb3.out⟩, by simp [intOf]; omega⟩
    · obtain rfl : i = 64 := by omega
      have hb2 := Lib.hid (hb1.out.trans (hb.mono hb1.out.size))
      clear hb
      go_wp2_with fail
      go_ret
      exact ⟨rfl, hb2.out⟩
end Go.Proofs.YtgdcnenlelckhaaGreatDoor

namespace Go.Proofs.YtgdcnenlelckhaaGreatDoor
open Go.RowKit Go.Proofs.YtgdcnenlelckhaaGreatDoorW.PrintWords
open SlS SlT
inductive AlA (t1 t2 t5 t6 t7 t8 t9 t13 : Value) : Act → Prop
  | mk {u0 u3 u4 u10 u11 u12 u14 u15 u16 u17 u18 u19 u20 u21 u22 u23 u24 u25 u26 u27 u28 u29 u30 u31 u32 u33 u34 u35 u36 u37 u38 u39 u40 u41 u42 u43 u44 u45 u46 u47 u48 u49 u50 u51 u52 u53 u54 u55 u56 u57 u58 u59 u60 u61 u62 u63 u64 u65 u66 u67 u68 u69 u70 u71 u72 u73 u74 u75 u76 u77 u78 u79 u80 u81 u82 u83 u84 u85 u86 : Value} : AlA t1 t2 t5 t6 t7 t8 t9 t13 ⟨#[u0, t1, t2, u3, u4, t5, t6, t7, t8, t9, u10, u11, u12, t13, u14, u15, u16, u17, u18, u19, u20, u21, u22, u23, u24, u25, u26, u27, u28, u29, u30, u31, u32, u33, u34, u35, u36, u37, u38, u39, u40, u41, u42, u43, u44, u45, u46, u47, u48, u49, u50, u51, u52, u53, u54, u55, u56, u57, u58, u59, u60, u61, u62, u63, u64, u65, u66, u67, u68, u69, u70, u71, u72, u73, u74, u75, u76, u77, u78, u79, u80, u81, u82, u83, u84, u85, u86], []⟩
theorem AllB.other {w0 W W' : World} {L : List BX} {S : Nat → Prop} (h : AllB w0 W L) (hb : But S W W') (h0 : ∀ k, S k → w0.heap.size ≤ k) (hS : ∀ (i : Nat) (β : BX), L[i]? = some β → ∀ k, β.ft k → ¬ S k) : AllB w0 W' L :=
  ⟨h.env, h.bel.trans (hb.below h.bel.size fun k hk hs => by have := h0 k hs; omega), fun i β hi => (h.all i β hi).keep hb (hS i β hi), h.low, h.sep⟩
theorem box4set {W : World} {p : Nat} {a0 b0 c0 d0 : Value} (h : W.heap[p]? = some (.cells #[a0, b0, c0, d0] 57 (0, 0))) (a b c d : Value) :
    ((((W.setCell ⟨p, 0, none⟩ a).setCell ⟨p, 1, none⟩ b).setCell ⟨p, 2, none⟩ c).setCell ⟨p, 3, none⟩ d).heap[p]? = some (.cells #[a, b, c, d] 57 (0, 0)) ∧ But (fun k => k = p) W ((((W.setCell ⟨p, 0, none⟩ a).setCell ⟨p, 1, none⟩ b).setCell ⟨p, 2, none⟩ c).setCell ⟨p, 3, none⟩ d) := by
  obtain ⟨h1, h2⟩ := box3set h a b c
  have h3 := heap_setCell_same _ p 3 _ _ d h1
  exact ⟨by simpa using h3, h2.set (p := ⟨p, 3, none⟩) (fun _ => rfl) d⟩
/-- what stands between two calls of a script -/
structure AlI (w1 : World) (b g p9 sf n : Nat) (i : Nat) (x : Value) (v : VS) (L : List (Int × ByteArray)) (X : XS) (gx cx : Nat) (y : Value) (W : World) : Prop where
  all : AllB w1 W [⟨b, g, x, v, L⟩]
  num : Num sf i v
  len : L.length ≤ 2 * i
  agr : Agree v X
  bus : XBus W gx y X L
  box : W.heap[p9]? = some (.cells #[.int .i64 (X.self : Int), .slice (some ⟨gx, 0, none⟩) 64 cx, .int .u64 (X.cur : Int), y] 57 (0, 0))
set_option maxHeartbeats 8000000 in
set_option maxRecDepth 100000 in
theorem all_calls (w : World) (hE : Env w) (cB : Array Value) (sf : Int) (ep : Nat) (a : Array Value) (f : Nat → Nat) (hB : BegIs cB sf ep a f) (A : Option Addr) (c : Nat) (l : List OpV) (hl : Ops w A l) (hc : l.length ≤ c) (hcm : c ≤ 9223372036854775807)
    (hsz : ∀ (i : Nat) (O : OpV), l[i]? = some O → O.s.size ≤ 4294967296) :
    Calls Tryz.prog 4 #[.agg cB, .slice A l.length c] w fun e w' => e = .returned (.bool true) ∧ Below w.heap.size w w' := by
  have hb1 := below_new' w (.cells cB 45)
  have hE1 := hE.below hb1
  have hl1 := hl.below hb1
  have hs1 : (w.alloc (.cells cB 45)).heap.size = w.heap.size + 1 := by simp
  have hbx := heapN w (.cells cB 45)
  obtain ⟨e0, e257, hr1⟩ := hB.at hbx
  have hia := info43l hB.words
  have hiB : (Tryz.prog.info? 45).map (·.size) = some cB.size := by rw [hB.size]; exact info_beg
  have hN := Lib.hid (fun W => bNew_calls sf a f hB.words ep hB.he W)
  have hXN := Lib.hid (fun W => xNew_calls sf a f hB.words ep hB.he W)
  have hF := Lib.hid (fun (W : World) hE hl => few_calls W hE cB sf ep a f hB A c l hl hc hcm hsz)
  have hBat := hB
  have hlt := hB.words.lt
  clear hB
  go_enter Tryz.func4, Tryz.ntmps4
  refine wp_cut (fun a W => (∃ t5 t6 t7 t8 t9 t13, AlA (.slice A l.length c) (.pointer (some ⟨w.heap.size, 0, none⟩)) t5 t6 t7 t8 t9 t13 a) ∧ W = (w.alloc (.cells cB 45))) ?_ ?_
  · go_wp2_with fail
    exact ⟨⟨_, _, _, _, _, _, AlA.mk⟩, trivial⟩
  rintro _ _ ⟨⟨t5, t6, t7, t8, t9, t13, hA⟩, rfl⟩
  cases hA
  generalize hw1 : (w.alloc (.cells cB 45)) = w1 at *
  refine wp_cut (fun a W => ∃ t5 x, (∃ t7 t8 t9 t13, AlA (.slice A l.length c) (.pointer (some ⟨w.heap.size, 0, none⟩)) t5 (.int .i64 x) t7 t8 t9 t13 a) ∧ Below w1.heap.size w1 W ∧ (((x = 150 ∧ ¬ (0 ≤ sf ∧ sf < 64)) ∨ x = 1 ∧ (0 ≤ sf ∧ sf < 64) ∧ ¬ ep ≤ 4611686018427387904) ∧ t5 = .pointer none ∨ x = 0 ∧ ∃ b g, t5 = .pointer (some ⟨b, 0, none⟩) ∧ (0 ≤ sf ∧ sf < 64) ∧ ep ≤ 4611686018427387904 ∧ AllB w1 W [⟨b, g, .slice none 0 0, newV sf.toNat ep f, []⟩])) ?_ ?_
  · go_wp2_with (refine wpList_load_mid_g (by first | rfl | simp [Region.wanted, yielded]) 43 _ rfl w.heap.size 1 rfl a.toList _ hr1 Tryz.underlying43 rfl hia ?_; rw [Array.toArray_toList])
    refine (hN.out _).mono ?_
    intro e w2 hn
    unfold BNewPost at hn
    obtain ⟨hb2, hn⟩ := hn
    clear hN hXN hF e0 e257 hr1 hbx
    by_cases h1 : 0 ≤ sf ∧ sf < 64
    · rw [if_pos h1] at hn
      by_cases h2 : ep ≤ 4611686018427387904
      · rw [if_pos h2] at hn
        obtain ⟨b, g, rfl, h3, h4, h5⟩ := hn
        have hAll := Lib.hid ((AllB.nil hE1).add hb2 h3 h4 h5)
        replace hb2 := Lib.hid hb2
        clear h3 h4 h5 hE1 hb1
        go_wp2_with fail
        exact ⟨_, _, ⟨_, _, _, _, AlA.mk⟩, hb2.out, Or.inr ⟨rfl, b, g, rfl, h1, h2, hAll.out⟩⟩
      · rw [if_neg h2] at hn
        subst hn
        replace hb2 := Lib.hid hb2
        clear hE1 hb1
        go_wp2_with fail
        exact ⟨_, _, ⟨_, _, _, _, AlA.mk⟩, hb2.out, Or.inl ⟨Or.inr ⟨rfl, h1, h2⟩, rfl⟩⟩
    · rw [if_neg h1] at hn
      subst hn
      replace hb2 := Lib.hid hb2
      clear hE1 hb1
      go_wp2_with fail
      exact ⟨_, _, ⟨_, _, _, _, AlA.mk⟩, hb2.out, Or.inl ⟨Or.inl ⟨rfl, h1⟩, rfl⟩⟩
  clear hN e0 e257 hr1
  rintro _ w2 ⟨t5, x, ⟨t7, t8, t9, t13, hA⟩, hb2, hx⟩
  cases hA
  have hbx2 := (hb2.block _ (blk_lt hbx)).trans hbx
  obtain ⟨e0, e257, hr1⟩ := hBat.at hbx2
  refine wp_cut (fun a W => ∃ t5 t7 x, (∃ t9 t13, AlA (.slice A l.length c) (.pointer (some ⟨w.heap.size, 0, none⟩)) t5 (.int .i64 x) t7 (.int .i64 x) t9 t13 a) ∧ Below w1.heap.size w1 W ∧ ((x = 1 ∨ x = 150) ∧ t5 = .pointer none ∨ x = 0 ∧ ∃ b g gx p7, t5 = .pointer (some ⟨b, 0, none⟩) ∧ t7 = .pointer (some ⟨p7, 0, none⟩) ∧ (0 ≤ sf ∧ sf < 64) ∧ ep ≤ 4611686018427387904 ∧ AllB w1 W [⟨b, g, .slice none 0 0, newV sf.toNat ep f, []⟩] ∧ XR W gx (newX sf.toNat ep f) ∧ W.heap[p7]? = some (.cells #[.int .i64 sf, .slice (some ⟨gx, 0, none⟩) 64 64, .int .u64 (ep : Int)] 51 (0, 0)))) ?_ ?_
  · replace hbx2 := Lib.hid hbx2
    replace hb2 := Lib.hid hb2
    replace hx := Lib.hid hx
    clear hF hbx hb1 hE1 hBat
    go_wp2_with (refine wpList_load_mid_g (by first | rfl | simp [Region.wanted, yielded]) 43 _ rfl w.heap.size 1 rfl a.toList _ hr1 Tryz.underlying43 rfl hia ?_; rw [Array.toArray_toList])
    refine (hXN.out _).mono ?_
    intro e w3 hn
    unfold XNewPost at hn
    obtain ⟨hb3, hn⟩ := hn
    clear hXN e0 e257 hr1
    rcases hx.out with ⟨⟨rfl, h1⟩ | ⟨rfl, h1, h2⟩, rfl⟩ | ⟨rfl, b, g, rfl, h1, h2, hAll⟩
    · rw [if_neg h1] at hn
      subst hn
      have n4 := below_new' w3 (.cells #[.int .i64 0, .slice none 0 0, .int .u64 0] 51)
      have hb4 := hb2.out.trans ((hb3.trans (n4.mono hb3.size)).mono hb2.out.size)
      replace hb4 := Lib.hid hb4
      clear hb2 hb3 n4 hx
      go_wp2_with fail
      exact ⟨_, _, _, ⟨_, _, AlA.mk⟩, hb4.out, Or.inl ⟨Or.inr rfl, rfl⟩⟩
    · rw [if_pos h1, if_neg h2] at hn
      subst hn
      have n4 := below_new' w3 (.cells #[.int .i64 0, .slice none 0 0, .int .u64 0] 51)
      have hb4 := hb2.out.trans ((hb3.trans (n4.mono hb3.size)).mono hb2.out.size)
      replace hb4 := Lib.hid hb4
      clear hb2 hb3 n4 hx
      go_wp2_with fail
      exact ⟨_, _, _, ⟨_, _, AlA.mk⟩, hb4.out, Or.inl ⟨Or.inl rfl, rfl⟩⟩
    · rw [if_pos h1, if_pos h2] at hn
      obtain ⟨gx, rfl, hX⟩ := hn
      have n4 := below_new' w3 (.cells #[.int .i64 (sf : Int), .slice (some ⟨gx, 0, none⟩) 64 64, .int .u64 (ep : Int)] 51)
      have hN4 := heapN w3 (.cells #[.int .i64 (sf : Int), .slice (some ⟨gx, 0, none⟩) 64 64, .int .u64 (ep : Int)] 51)
      have hb4 := hb2.out.trans ((hb3.trans (n4.mono hb3.size)).mono hb2.out.size)
      replace hAll := Lib.hid ((hAll.below hb3).below n4)
      replace hX := Lib.hid (hX.below n4)
      replace hb4 := Lib.hid hb4
      replace hN4 := Lib.hid hN4
      clear hb2 hb3 n4 hx
      go_wp2_with fail
      exact ⟨_, _, _, ⟨_, _, AlA.mk⟩, hb4.out, Or.inr ⟨rfl, b, g, gx, _, rfl, rfl, h1, h2, hAll.out, hX.out, hN4.out⟩⟩
  clear hXN hx hb2 hbx2 e0 e257 hr1 hBat t5 x
  rintro _ w3 ⟨t5, t7, x, ⟨t9, t13, hA⟩, hb3, hx⟩
  cases hA
  refine wp_cut (fun a W => ∃ t5 t7 x, (∃ t9 t13, AlA (.slice A l.length c) (.pointer (some ⟨w.heap.size, 0, none⟩)) t5 (.int .i64 x) t7 (.int .i64 x) t9 t13 a) ∧ Below w1.heap.size w1 W ∧ ((x = 1 ∨ x = 150) ∧ t5 = .pointer none ∨ x = 0 ∧ ∃ b g gx p7, t5 = .pointer (some ⟨b, 0, none⟩) ∧ t7 = .pointer (some ⟨p7, 0, none⟩) ∧ (0 ≤ sf ∧ sf < 64) ∧ ep ≤ 4611686018427387904 ∧ AllB w1 W [⟨b, g, .slice none 0 0, newV sf.toNat ep f, []⟩] ∧ XR W gx (newX sf.toNat ep f) ∧ W.heap[p7]? = some (.cells #[.int .i64 sf, .slice (some ⟨gx, 0, none⟩) 64 64, .int .u64 (ep : Int)] 51 (0, 0)))) ?_ ?_
  · replace hb3 := Lib.hid hb3
    clear hF hbx hb1 hE1
    rcases hx with ⟨rfl | rfl, rfl⟩ | ⟨rfl, b, g, gx, p7, rfl, rfl, hx⟩
    · go_wp2_with fail
      exact ⟨_, _, _, ⟨_, _, AlA.mk⟩, hb3.out, Or.inl ⟨Or.inl rfl, rfl⟩⟩
    · go_wp2_with fail
      exact ⟨_, _, _, ⟨_, _, AlA.mk⟩, hb3.out, Or.inl ⟨Or.inr rfl, rfl⟩⟩
    · replace hx := Lib.hid hx
      go_wp2_with fail
      exact ⟨_, _, _, ⟨_, _, AlA.mk⟩, hb3.out, Or.inr ⟨rfl, b, g, gx, p7, rfl, rfl, hx.out⟩⟩
  clear hx hb3
  rintro _ w3 ⟨t5, t7, x, ⟨t9, t13, hA⟩, hb3, hx⟩
  cases hA
  have hbw3 := hb1.trans (hb3.mono hb1.size)
  have hE3 := hE1.below hb3
  refine wp_cut (fun a W => ∃ t5 t7, (∃ t6 t8 t9 t13, AlA (.slice A l.length c) (.pointer (some ⟨w.heap.size, 0, none⟩)) t5 t6 t7 t8 t9 t13 a) ∧ Few l ∧ ∃ b g gx p7, t5 = .pointer (some ⟨b, 0, none⟩) ∧ t7 = .pointer (some ⟨p7, 0, none⟩) ∧ (0 ≤ sf ∧ sf < 64) ∧ ep ≤ 4611686018427387904 ∧ AllB w1 W [⟨b, g, .slice none 0 0, newV sf.toNat ep f, []⟩] ∧ XR W gx (newX sf.toNat ep f) ∧ W.heap[p7]? = some (.cells #[.int .i64 sf, .slice (some ⟨gx, 0, none⟩) 64 64, .int .u64 (ep : Int)] 51 (0, 0))) ?_ ?_
  · rcases hx with ⟨hx, rfl⟩ | ⟨rfl, b, g, gx, p7, rfl, rfl, h1, h2, hAll, hX, h7⟩
    · have hal := Lib.hid (alive_calls w3 hE3)
      have hbw := Lib.hid hbw3
      clear hF hbx hE3 hE1 hb1 hb3 hl1 hbw3 hx
      go_wp2_with fail
      refine hal.out.mono ?_
      rintro e wz ⟨rfl, hbz⟩
      have hbwz := Lib.hid (hbw.out.trans (hbz.mono hbw.out.size))
      clear hbz
      go_wp2_with fail
      go_ret
      exact ⟨rfl, hbwz.out⟩
    · have hf2 := Lib.hid (hF.out w3 hE3 (hl1.below hb3))
      have hbx2 := (hb3.block _ (blk_lt hbx)).trans hbx
      replace hAll := Lib.hid hAll
      replace hbw3 := Lib.hid hbw3
      replace hX := Lib.hid hX
      replace h7 := Lib.hid h7
      clear hF hbx hE3 hE1 hb1 hb3 hl1
      go_wp2_with (refine wpList_load_row_g (by first | rfl | simp [Region.wanted, yielded]) 45 (.tmp 2) rfl w.heap.size rfl 45 cB (0, 0) _ hbx2 Tryz.underlying45 rfl hiB ?_)
      refine hf2.out.mono ?_
      rintro e w4 ⟨r, rfl, hr, hb4⟩
      have hAll4 := Lib.hid (hAll.out.below hb4)
      have hX4 := Lib.hid (hX.out.below hb4)
      have h74 := Lib.hid ((hb4.block _ (blk_lt h7.out)).trans h7.out)
      have hbw := Lib.hid (hbw3.out.trans (hb4.mono hbw3.out.size))
      have hal := Lib.hid (alive_calls w4 hAll4.out.envW)
      clear hb4 hf2 hbx2 hAll hX h7 hbw3
      by_cases hrt : r = true
      · have hfew := Lib.hid (hr hrt)
        subst hrt
        go_wp2_with fail
        exact ⟨_, _, ⟨_, _, _, _, AlA.mk⟩, hfew.out, b, g, gx, p7, rfl, rfl, h1, h2, hAll4.out, hX4.out, h74.out⟩
      · obtain rfl : r = false := by simpa using hrt
        go_wp2_with fail
        refine hal.out.mono ?_
        rintro e wz ⟨rfl, hbz⟩
        have hbwz := Lib.hid (hbw.out.trans (hbz.mono hbw.out.size))
        clear hbz
        go_wp2_with fail
        go_ret
        exact ⟨rfl, hbwz.out⟩
  clear hF hx hb3 hE3 hbw3 hbx t5 t7 x
  rintro _ w4 ⟨t5, t7, ⟨t6, t8, t9, t13, hA⟩, hfew, b, g, gx, p7, rfl, rfl, h1, h2, hAll, hX, h7⟩
  cases hA
  obtain ⟨n, rfl⟩ : ∃ n : Nat, sf = (n : Int) := ⟨sf.toNat, by omega⟩
  rw [Int.toNat_natCast] at hAll hX
  have hn64 : n < 64 := by omega
  have hagr : Agree (newV n ep f) (newX n ep f) := new_agree n ep hn64 f (fun i _ => hlt i)
  refine wp_cut (fun a W => ∃ p9, (∃ t6 t7 t8 t13, AlA (.slice A l.length c) (.pointer (some ⟨w.heap.size, 0, none⟩)) (.pointer (some ⟨b, 0, none⟩)) t6 t7 t8 (.pointer (some ⟨p9, 0, none⟩)) t13 a) ∧ w1.heap.size ≤ p9 ∧ ∃ x v L X gx cx y, AlI w1 b g p9 n n 0 x v L X gx cx y W) ?_ ?_
  · obtain ⟨q0, q1, q2⟩ := box3 h7
    have n5 := below_new' w4 (.cells #[.int .i64 (n : Int), .slice (some ⟨gx, 0, none⟩) 64 64, .int .u64 (ep : Int), .slice none 0 0] 57)
    have hN5 := heapN w4 (.cells #[.int .i64 (n : Int), .slice (some ⟨gx, 0, none⟩) 64 64, .int .u64 (ep : Int), .slice none 0 0] 57)
    have hI : AlI w1 b g w4.heap.size n n 0 (.slice none 0 0) (newV n ep f) [] (newX n ep f) gx 64 (.slice none 0 0) (w4.alloc (.cells #[.int .i64 (n : Int), .slice (some ⟨gx, 0, none⟩) 64 64, .int .u64 (ep : Int), .slice none 0 0] 57)) :=
      ⟨hAll.below n5, new_num _ _ _ h2, Nat.le_refl _, hagr, ⟨hX.below n5, own_nil _ _ _ _⟩, hN5⟩
    have hsz4 := hAll.bel.size
    replace hI := Lib.hid hI
    clear hAll hX h7 hagr n5 hN5
    go_wp2_with fail
    exact ⟨_, ⟨_, _, _, _, AlA.mk⟩, hsz4, _, _, _, _, _, _, _, hI.out⟩
  clear hAll hX h7 hagr hsz
  rintro _ w5 ⟨p9, ⟨t6, t7, t8, t13, hA⟩, hp9, x, v, L, X, gx, cx, y, hI⟩
  cases hA
  refine wp_cut (fun a W => (∃ t6 t7 t8 t13, AlA (.slice A l.length c) (.pointer (some ⟨w.heap.size, 0, none⟩)) (.pointer (some ⟨b, 0, none⟩)) t6 t7 t8 (.pointer (some ⟨p9, 0, none⟩)) t13 a) ∧ ∃ x v L X gx cx y, AlI w1 b g p9 n n l.length x v L X gx cx y W) ?_ ?_
  · replace hI := Lib.hid hI
    clear hb1 hE1
    go_wp2_with fail
    go_loopw [57] (fun sC wr => ∃ i : Nat, i ≤ l.length ∧ sC = .int .i64 i ∧ ∃ x v L X gx cx y, AlI w1 b g p9 n n i x v L X gx cx y wr) (fun sC _ => l.length - (intOf sC).toNat)
    case atStart => exact ⟨0, by omega, rfl, _, _, _, _, _, _, _, hI.out⟩
    case round =>
      clear hI x v L X gx cx y
      obtain ⟨i, hi, rfl, x, v, L, X, gx, cx, y, hI⟩ := hrel
      by_cases hil : i < l.length
      · have hgo3 : decide ((i : Int) < (l.length : Int)) = true := decide_eq_true (by omega)
        have hi0 : (0 : Int) ≤ (i : Int) := by omega
        obtain ⟨O, hO⟩ : ∃ O, l[i]? = some O := ⟨l[i], List.getElem?_eq_getElem hil⟩
        have hlr := hl1.below hI.all.bel
        have hle := (hlr i O hO).1
        have hos := hfew.2 i O hO
        have hlf := hfew.1
        obtain ⟨bo, o, rfl, hbl, u0, u1, u2, u3, u4⟩ := hlr.at hO
        obtain ⟨Y, yc, hy⟩ := own_slice hI.bus.outs
        subst hy
        have n1 := below_new' wr (.cells #[.int .i64 O.kind, .int .i64 O.n, .int .i64 O.slot, .int .u64 (O.least : Int), .string O.s] 59)
        have hNo := heapN wr (.cells #[.int .i64 O.kind, .int .i64 O.n, .int .i64 O.slot, .int .u64 (O.least : Int), .string O.s] 59)
        obtain ⟨o0, o1, o2, o3, o4⟩ := opBox hNo
        obtain ⟨q0, q1, q2, q3⟩ := box4 ((n1.block _ (blk_lt hI.box)).trans hI.box)
        have hp9r := blk_lt hI.box
        have hself : v.self = X.self := hI.agr.self
        have hcur := hI.num.cur
        have hlen := hI.len
        have hv64 : v.self < 64 := by rw [hI.num.self]; exact hn64
        have hXcur : X.cur = v.cur := hI.agr.cur.symm
        have hAl := hI.all.below n1
        have hD : Calls Tryz.prog 16 #[.pointer (some ⟨b, 0, none⟩), .agg #[.int .i64 (X.self : Int), .slice (some ⟨gx, 0, none⟩) 64 cx, .int .u64 (X.cur : Int), .slice Y L.length yc], .agg #[.int .i64 O.kind, .int .i64 O.n, .int .i64 O.slot, .int .u64 (O.least : Int), .string O.s]] (wr.alloc (.cells #[.int .i64 O.kind, .int .i64 O.n, .int .i64 O.slot, .int .u64 (O.least : Int), .string O.s] 59)) (DoesPost (wr.alloc (.cells #[.int .i64 O.kind, .int .i64 O.n, .int .i64 O.slot, .int .u64 (O.least : Int), .string O.s] 59)) b g x (doV v L O) (doX X L O) (v.self = X.self ∧ (takeB v O.s.data.toList).2.2 = (takeR X O.s.data.toList).2.2 ∧ L = L)) :=
          does_calls _ hAl.envW (hAl.all 0 ⟨b, g, x, v, L⟩ rfl) (hAl.envs (i := 0) (β := ⟨b, g, x, v, L⟩) rfl) (hI.bus.below n1) (by omega) (by show v.cur + 1 < _; omega) (by omega) (by show L.length ≤ _; omega) (by show L.length ≤ _; omega) O hle hos
        have hgood := take_agree hI.agr hv64 O.s.data.toList
        have hdo := Lib.hid (do_agree hI.agr hv64 L O)
        have hdn := Lib.hid (do_num (O := O) hI.num hlen)
        have hbx9 := (n1.block _ hp9r).trans hI.box
        replace hAl := Lib.hid hAl
        replace hD := Lib.hid hD
        replace hbx9 := Lib.hid hbx9
        have hgd : v.self = X.self ∧ (takeB v O.s.data.toList).2.2 = (takeR X O.s.data.toList).2.2 ∧ L = L := ⟨hself, by rw [hgood.2], rfl⟩
        replace hgd := Lib.hid hgd
        clear hlr hO hfew hl1 hI hNo n1 hself hcur hXcur hgood
        go_wp2_with fail
        refine hD.out.mono ?_
        rintro e W6 ⟨g6, c6, y6, ok, rfl, hX6, hP6, hok6⟩
        obtain rfl : ok = true := hok6 hgd.out
        obtain ⟨x6, hA6, hbut6, -⟩ := hAl.out.post (i := 0) (β := ⟨b, g, x, v, L⟩) rfl hP6
        have hA6 : AllB w1 W6 [⟨b, g, x6, (doV v L O).1, (doV v L O).2⟩] := hA6
        have hbx6 := (hbut6.block _ (blk_lt hbx9.out) (foot_type (hAl.out.all 0 ⟨b, g, x, v, L⟩ rfl) hbx9.out (by decide) (by decide) (by decide))).trans hbx9.out
        have hdo1 := hdo.out.1
        have hdo2 := hdo.out.2
        generalize doX X L O = xl at *
        obtain ⟨X6, L6⟩ := xl
        generalize doV v L O = vl at *
        obtain ⟨v6, l6⟩ := vl
        have hdo1 : Agree v6 X6 := hdo1
        have hdo2 : l6 = L6 := hdo2
        subst hdo2
        have hX6 : XBus W6 g6 y6 X6 l6 := hX6
        have hdn : Hid (Num n (i + 1) v6 ∧ l6.length ≤ 2 * (i + 1)) := hdn
        obtain ⟨Y6, yc6, hy6⟩ := own_slice hX6.outs
        subst hy6
        obtain ⟨hbx7, hbut7⟩ := box4set hbx6 (.int .i64 (X6.self : Int)) (.slice (some ⟨g6, 0, none⟩) 64 c6) (.int .u64 (X6.cur : Int)) (.slice Y6 l6.length yc6)
        have n7 := below_new' ((((W6.setCell ⟨p9, 0, none⟩ (.int .i64 (X6.self : Int))).setCell ⟨p9, 1, none⟩ (.slice (some ⟨g6, 0, none⟩) 64 c6)).setCell ⟨p9, 2, none⟩ (.int .u64 (X6.cur : Int))).setCell ⟨p9, 3, none⟩ (.slice Y6 l6.length yc6)) (.cells #[.int .i64 (X6.self : Int), .slice (some ⟨g6, 0, none⟩) 64 c6, .int .u64 (X6.cur : Int), .slice Y6 l6.length yc6] 57)
        have hA7 := (hA6.other hbut7 (fun k e => by rw [e]; exact hp9) (fun j β hj k hk e => by
          obtain ⟨rfl, rfl⟩ : j = 0 ∧ β = ⟨b, g, x6, v6, l6⟩ := by
            rcases Nat.eq_zero_or_pos j with h0 | h0
            · subst h0; injection hj with hj; exact ⟨rfl, hj.symm⟩
            · rw [List.getElem?_eq_none (by show 1 ≤ j; exact h0)] at hj; cases hj
          exact foot_type (hA6.all 0 _ rfl) hbx6 (by decide) (by decide) (by decide) (by rw [← e]; exact hk))).below n7
        have hX7 := (hX6.rv hbx6 hbut7).below n7
        have hI7 : AlI w1 b g p9 n n (i + 1) x6 v6 l6 X6 g6 c6 (.slice Y6 l6.length yc6) _ := ⟨hA7, hdn.out.1, hdn.out.2, hdo1, hX7, (n7.block _ (blk_lt hbx7)).trans hbx7⟩
        replace hI7 := Lib.hid hI7
        have z0 : ∀ k, W6.frozen? ⟨p9, k, none⟩ = false := fun k => openBox hbx6
        have z00 := z0 0
        have z01 := z0 1
        have z02 := z0 2
        have z03 := z0 3
        obtain ⟨k0, k1, k2, k3⟩ := box4 hbx6
        have hp96 := blk_lt hbx6
        clear hD hP6 hAl hA6 hbut6 hX6 hbx6 hbx9 n7 hbx7 hbut7 hA7 hX7 hdn hdo hdo1 hgd hok6 z0 o0 o1 o2 o3 o4 q0 q1 q2 q3 u0 u1 u2 u3 u4
        go_wp2_with fail
        exact ⟨⟨i + 1, by omega, by go_num, x6, v6, l6, X6, g6, c6, .slice Y6 l6.length yc6, hI7.out⟩, by simp [intOf]; omega⟩
      · obtain rfl : i = l.length := by omega
        have hgo3 : decide ((l.length : Int) < (l.length : Int)) = false := decide_eq_false (by omega)
        replace hI := Lib.hid hI
        go_wp2_with fail
        exact ⟨⟨_, _, _, _, AlA.mk⟩, x, v, L, X, gx, cx, y, hI.out⟩
  clear hI x v L X gx cx y
  rintro _ w6 ⟨⟨t6, t7, t8, t13, hA⟩, x, v, L, X, gx, cx, y, hI⟩
  cases hA
  have hlen : L.length ≤ 1000000000 := by have := hI.len; have := hfew.1; omega
  have hagr := hI.agr
  obtain ⟨Y, yc, hy⟩ := own_slice hI.bus.outs
  subst hy
  have hA6 := hI.all.below (below_drew (Below.refl _ _))
  have hX6 := hI.bus.below (below_drew (Below.refl _ _))
  have hbx6 : (World.drew w6).heap[p9]? = _ := hI.box
  obtain ⟨A2, ca, hx⟩ := own_slice (hA6.all 0 _ rfl).outs
  have hx : x = .slice A2 L.length ca := hx
  subst hx
  have hlow : w1.heap.size ≤ b := hA6.low 0 ⟨b, g, .slice A2 L.length ca, v, L⟩ rfl b (Or.inl rfl)
  replace hA6 := Lib.hid hA6
  replace hX6 := Lib.hid hX6
  replace hbx6 := Lib.hid hbx6
  clear hI
  go_wp2_with fail
  refine wp_region_held_drew (S := fun W => W.heap[p9]? = some (.cells #[.int .i64 (X.self : Int), .slice (some ⟨gx, 0, none⟩) 64 cx, .int .u64 (X.cur : Int), .slice Y L.length yc] 57 (0, 0))) (by kernel_rfl) hbx6.out (fun hHeld => ?_)
  clear hHeld
  have hA := hA6.out
  have hX := hX6.out
  have hS := hbx6.out
  clear hA6 hX6 hbx6
  generalize World.drew _ = W1 at *
  refine wpAnyH_ready (rs := [0]) (by kernel_rfl) (by simp) ?_
  refine AllReadyH.cons (o := ⟨some 72, _, _, _, _, _⟩) rfl (fun K hK => ?_) AllReadyH.nil
  rw [if_pos (by rfl)]
  go_simp
  refine (alive_calls W1 hA.envW).mono ?_
  rintro e W90 ⟨rfl, hb9⟩
  have hS2 := (hb9.block _ (blk_lt hS)).trans hS
  replace hA := hA.below hb9
  replace hX := hX.below hb9
  clear hb9 hS
  go_wp2_with fail
  refine hK.out _ _ hS2 (fun hHeld => ?_)
  clear hK K hHeld
  have hS := hS2
  clear hS2
  try simp only [Act.put, List.setIfInBounds_toArray, List.set_cons_zero, List.set_cons_succ]
  refine wpAnyH_take (i := 1) (oi := ⟨some 73, _, _, _, _, _⟩) (v := .bool true) rfl (by kernel_rfl) (by kernel_rfl) (by kernel_rfl) (fun _ _ _ h => h) (Or.inl ⟨by rfl, fun W hW => by go_simp⟩) hS ?_
  try simp only [Act.put, List.setIfInBounds_toArray, List.set_cons_zero, List.set_cons_succ]
  refine wpAnyH_take (i := 2) (oi := ⟨some 74, _, _, _, _, _⟩) (v := .pointer (some ⟨b, 0, none⟩)) rfl (by kernel_rfl) (by kernel_rfl) (by kernel_rfl) (fun _ _ _ h => h) (Or.inl ⟨by rfl, fun W hW => by go_simp⟩) hS ?_
  try simp only [Act.put, List.setIfInBounds_toArray, List.set_cons_zero, List.set_cons_succ]
  refine wpAnyH_take (i := 4) (oi := ⟨some 76, _, _, _, _, _⟩) (v := .pointer (some ⟨p9, 3, none⟩)) rfl (by kernel_rfl) (by kernel_rfl) (by kernel_rfl) (fun _ _ _ h => h) (Or.inl ⟨by rfl, fun W hW => by go_simp⟩) hS ?_
  try simp only [Act.put, List.setIfInBounds_toArray, List.set_cons_zero, List.set_cons_succ]
  refine wpAnyH_take (i := 5) (oi := ⟨some 77, _, _, _, _, _⟩) (v := .slice Y L.length yc) rfl (by kernel_rfl) (by kernel_rfl) (by kernel_rfl) (fun _ _ _ h => h) (Or.inl ⟨by rfl, fun W hW => by obtain ⟨p0, p1, p2, p3⟩ := box4 hW; go_simp⟩) hS ?_
  try simp only [Act.put, List.setIfInBounds_toArray, List.set_cons_zero, List.set_cons_succ]
  refine wpAnyH_ready (rs := [3]) (by kernel_rfl) (by simp) ?_
  refine AllReadyH.cons (o := ⟨some 75, _, _, _, _, _⟩) rfl (fun K hK => ?_) AllReadyH.nil
  rw [if_pos (by rfl)]
  go_simp
  refine (bOuts_calls W90 (hA.all 0 ⟨b, g, .slice A2 L.length ca, v, L⟩ rfl)).mono ?_
  rintro e W93 ⟨rfl, hBB, hown, hbut⟩
  have hBB0 := hA.all 0 ⟨b, g, .slice A2 L.length ca, v, L⟩ rfl
  have hf5 : But (foot b g (.slice A2 L.length ca)) W90 W93 := hbut.weak fun k _ e => Or.inl e
  have hS2 := (hbut.block _ (blk_lt hS) (fun e => foot_type hBB0 hS (by decide) (by decide) (by decide) (Or.inl e))).trans hS
  have hX2 := hX.foot hBB0 hf5
  have hbel := hA.bel.trans (hbut.below hA.bel.size fun i hi e => by have e : i = b := e; omega)
  clear hf5 hbut hBB0 hA hX hS
  go_wp2_with fail
  refine hK.out _ _ hS2 (fun hHeld => ?_)
  clear hK K hHeld
  have hS := hS2
  clear hS2
  try simp only [Act.put, List.setIfInBounds_toArray, List.set_cons_zero, List.set_cons_succ]
  refine wpAnyH_ready (rs := [6]) (by kernel_rfl) (by simp) ?_
  refine AllReadyH.cons (o := ⟨some 78, _, _, _, _, _⟩) rfl (fun K hK => ?_) AllReadyH.nil
  rw [if_pos (by rfl)]
  go_simp
  refine (same_calls W93 hown hlen hX2.outs).mono ?_
  rintro e W96 ⟨r, rfl, hr, hb9⟩
  obtain rfl := hr rfl
  have hS2 := (hb9.block _ (blk_lt hS)).trans hS
  replace hBB := hBB.below hb9
  replace hX2 := hX2.below hb9
  replace hbel := hbel.trans (hb9.mono hbel.size)
  clear hb9 hS hown hr
  go_wp2_with fail
  refine hK.out _ _ hS2 (fun hHeld => ?_)
  clear hK K hHeld
  have hS := hS2
  clear hS2
  try simp only [Act.put, List.setIfInBounds_toArray, List.set_cons_zero, List.set_cons_succ]
  refine wpAnyH_take (i := 7) (oi := ⟨some 79, _, _, _, _, _⟩) (v := .bool true) rfl (by kernel_rfl) (by kernel_rfl) (by kernel_rfl) (fun _ _ _ h => h) (Or.inl ⟨by rfl, fun W hW => by go_simp⟩) hS ?_
  try simp only [Act.put, List.setIfInBounds_toArray, List.set_cons_zero, List.set_cons_succ]
  refine wpAnyH_take (i := 8) (oi := ⟨some 80, _, _, _, _, _⟩) (v := .bool true) rfl (by kernel_rfl) (by kernel_rfl) (by kernel_rfl) (fun _ _ _ h => h) (Or.inl ⟨by rfl, fun W hW => by go_simp⟩) hS ?_
  try simp only [Act.put, List.setIfInBounds_toArray, List.set_cons_zero, List.set_cons_succ]
  refine wpAnyH_take (i := 9) (oi := ⟨some 81, _, _, _, _, _⟩) (v := .pointer (some ⟨b, 0, none⟩)) rfl (by kernel_rfl) (by kernel_rfl) (by kernel_rfl) (fun _ _ _ h => h) (Or.inl ⟨by rfl, fun W hW => by go_simp⟩) hS ?_
  try simp only [Act.put, List.setIfInBounds_toArray, List.set_cons_zero, List.set_cons_succ]
  refine wpAnyH_take (i := 11) (oi := ⟨some 83, _, _, _, _, _⟩) (v := .pointer (some ⟨p9, 0, none⟩)) rfl (by kernel_rfl) (by kernel_rfl) (by kernel_rfl) (fun _ _ _ h => h) (Or.inl ⟨by rfl, fun W hW => by go_simp⟩) hS ?_
  try simp only [Act.put, List.setIfInBounds_toArray, List.set_cons_zero, List.set_cons_succ]
  refine wpAnyH_take (i := 12) (oi := ⟨some 84, _, _, _, _, _⟩) (v := .agg #[.int .i64 (X.self : Int), .slice (some ⟨gx, 0, none⟩) 64 cx, .int .u64 (X.cur : Int)]) rfl (by kernel_rfl) (by kernel_rfl) (by kernel_rfl) (fun _ _ _ h => h) (Or.inl ⟨by rfl, fun W hW => by obtain ⟨p0, p1, p2, p3⟩ := box4 hW; go_simp⟩) hS ?_
  try simp only [Act.put, List.setIfInBounds_toArray, List.set_cons_zero, List.set_cons_succ]
  refine wpAnyH_ready (rs := [10]) (by kernel_rfl) (by simp) ?_
  refine AllReadyH.cons (o := ⟨some 82, _, _, _, _, _⟩) rfl (fun K hK => ?_) AllReadyH.nil
  rw [if_pos (by rfl)]
  go_simp
  refine (bView_calls W96 hBB).mono ?_
  rintro e W100 ⟨g9, rfl, -, hV, hb9⟩
  have hS2 := (hb9.block _ (blk_lt hS)).trans hS
  replace hX2 := hX2.below hb9
  replace hbel := hbel.trans (hb9.mono hbel.size)
  clear hb9 hS hBB
  go_wp2_with fail
  refine hK.out _ _ hS2 (fun hHeld => ?_)
  clear hK K hHeld
  have hS := hS2
  clear hS2
  try simp only [Act.put, List.setIfInBounds_toArray, List.set_cons_zero, List.set_cons_succ]
  refine wpAnyH_ready (rs := [13]) (by kernel_rfl) (by simp) ?_
  refine AllReadyH.cons (o := ⟨some 85, _, _, _, _, _⟩) rfl (fun K hK => ?_) AllReadyH.nil
  rw [if_pos (by rfl)]
  go_simp
  refine (alike_calls W100 hV hX2.row hagr).mono ?_
  rintro e W103 ⟨rfl, hb9⟩
  have hS2 := (hb9.block _ (blk_lt hS)).trans hS
  replace hbel := hbel.trans (hb9.mono hbel.size)
  clear hb9 hS hV hX2
  go_wp2_with fail
  refine hK.out _ _ hS2 (fun hHeld => ?_)
  clear hK K hHeld
  have hS := hS2
  clear hS2
  try simp only [Act.put, List.setIfInBounds_toArray, List.set_cons_zero, List.set_cons_succ]
  refine wpAnyH_take (i := 14) (oi := ⟨some 86, _, _, _, _, _⟩) (v := .bool true) rfl (by kernel_rfl) (by kernel_rfl) (by kernel_rfl) (fun _ _ _ h => h) (Or.inl ⟨by rfl, fun W hW => by go_simp⟩) hS ?_
  try simp only [Act.put, List.setIfInBounds_toArray, List.set_cons_zero, List.set_cons_succ]
  refine wpAnyH_take (i := 15) (oi := ⟨some 4, _, _, _, _, _⟩) (v := .bool true) rfl (by kernel_rfl) (by kernel_rfl) (by kernel_rfl) (fun _ _ _ h => h) (Or.inl ⟨by rfl, fun W hW => by go_simp⟩) hS ?_
  try simp only [Act.put, List.setIfInBounds_toArray, List.set_cons_zero, List.set_cons_succ]
  refine wpAnyH_done (by kernel_rfl) ?_ _
  go_wp2_with fail
  go_ret
  exact ⟨rfl, hb1.trans (hbel.mono hb1.size)⟩
end Go.Proofs.YtgdcnenlelckhaaGreatDoor

namespace Go.Proofs.YtgdcnenlelckhaaGreatDoor
open Go.RowKit
theorem BusAll_walk (cB : Array Value) (sf : Int) (ep : Nat) (a : Array Value) (f : Nat → Nat) (A : Option Addr) (c : Nat) (l : List OpV) (W : World) (hE : Env W) (hB : BegIs cB sf ep a f) (hl : Ops W A l) (hc : l.length ≤ c) (hcm : c ≤ 9223372036854775807)
    (hsz : ∀ (i : Nat) (O : OpV), l[i]? = some O → O.s.size ≤ 4294967296) : Calls Tryz.prog 4 #[.agg cB, .slice A l.length c] W fun e w' => e = .returned (.bool true) ∧ Below W.heap.size W w' :=
  all_calls W hE cB sf ep a f hB A c l hl hc hcm hsz
end Go.Proofs.YtgdcnenlelckhaaGreatDoor
