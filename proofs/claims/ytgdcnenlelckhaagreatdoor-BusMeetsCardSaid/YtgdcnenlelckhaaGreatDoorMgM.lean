/- A net's owners. What a net's node claims. The buses of a net. Does a node see nobody but whom claimed a slot as its owner? Letters on their way: a row that is cut and grows. The buses of a net at work: what a ping, a taken letter, a look at what goes out leave. Nodes meet: the walk. A net and a row of numbers, as they come in; BusMeets, for every input: the walk. Conditions: the listed variables as laid. -/
import Derived.Test.YtgdcnenlelckhaaGreatDoorMgH
import Derived.ArgAppend
import Derived.Test.YtgdcnenlelckhaaGreatDoorRows
import Derived.ProofKit
import Derived.OpenShut
import Derived.Carry
import Derived.Deep.Slices
import Derived.SliceStrings
set_option linter.unusedVariables false
set_option linter.unusedSimpArgs false
namespace Go.Proofs.YtgdcnenlelckhaaGreatDoor
open Go.RowKit Go.Proofs.YtgdcnenlelckhaaGreatDoorW.PrintWords
open SlS SlT
theorem holdN {p : Prop} (h : Hid p) : p := h.out
/-- numbers, as a row -/
def Ints (W : World) (A : Option Addr) (cs : List Int) : Prop := ∀ (i : Nat) (x : Int), cs[i]? = some x → ∃ g o, A = some ⟨g, o, none⟩ ∧ g < W.heap.size ∧ W.cell? ⟨g, o + i, none⟩ = some (.int .i64 x)
theorem Ints.below {w w' : World} {A : Option Addr} {cs : List Int} (h : Ints w A cs) (hb : Below w.heap.size w w') : Ints w' A cs := fun i x hx => by
  obtain ⟨g, o, hA, hg, hc⟩ := h i x hx
  exact ⟨g, o, hA, Nat.lt_of_lt_of_le hg hb.size, (hb.cell (p := ⟨g, o + i, none⟩) hg).trans hc⟩
/-- who claims a slot, among the first nodes of a net -/
def ownU (cs : List Int) (s : Int) : Nat → Int
  | 0 => -1
  | k + 1 => if (cs[k]?).getD 0 ≤ s then (k : Int) else ownU cs s k
theorem ownU_lt (cs : List Int) (s : Int) : ∀ k, -1 ≤ ownU cs s k ∧ ownU cs s k < k
  | 0 => by unfold ownU; decide
  | k + 1 => by
    have := ownU_lt cs s k
    unfold ownU
    split <;> omega
set_option maxHeartbeats 2000000 in
set_option maxRecDepth 100000 in
theorem owner_calls (w : World) {A : Option Addr} {cc : Nat} {cs : List Int} (hcs : Ints w A cs) (hc : cs.length ≤ cc) (hcm : cc ≤ 9223372036854775807) (s : Int) :
    Calls Tryz.prog 31 #[.agg #[.slice A cs.length cc], .int .i64 s] w fun e w' => e = .returned (.int .i64 (ownU cs s cs.length)) ∧ Below w.heap.size w w' := by
  have hb1 := below_new' w (.cells #[.slice A cs.length cc] 24)
  replace hb1 := Lib.hid hb1
  go_enter Tryz.func31, Tryz.ntmps31
  go_wp2_with fail
  go_loopw [5, 11] (fun s5 s11 wr => ∃ i : Nat, i ≤ cs.length ∧ s11 = .int .i64 i ∧ s5 = .int .i64 (ownU cs s i) ∧ Below w.heap.size w wr) (fun _ s11 _ => cs.length - (intOf s11).toNat)
  case atStart => exact ⟨0, by omega, rfl, rfl, hb1.out⟩
  case round =>
    obtain ⟨i, hi, rfl, rfl, hb⟩ := hrel
    by_cases hil : i < cs.length
    · have hgo3 : decide ((i : Int) < (cs.length : Int)) = true := decide_eq_true (by omega)
      have hi0 : (0 : Int) ≤ (i : Int) := by omega
      obtain ⟨x, hx⟩ : ∃ x, cs[i]? = some x := ⟨cs[i], List.getElem?_eq_getElem hil⟩
      obtain ⟨g, o, rfl, hg, u0⟩ := hcs.below hb i x hx
      have hU : ownU cs s (i + 1) = if x ≤ s then (i : Int) else ownU cs s i := by
        show (if (cs[i]?).getD 0 ≤ s then (i : Int) else ownU cs s i) = _
        rw [hx]; rfl
      replace hb := Lib.hid hb
      clear hx
      by_cases hxs : x ≤ s
      · have hd : decide (x ≤ s) = true := decide_eq_true hxs
        rw [if_pos hxs] at hU
        replace hU := Lib.hid hU
        replace hxs := Lib.hid hxs
        go_wp2_with fail
        exact ⟨⟨i + 1, by omega, by go_num, by rw [hU.out], hb.out⟩, by simp [intOf]; omega⟩
      · have hd : decide (x ≤ s) = false := decide_eq_false hxs
        rw [if_neg hxs] at hU
        replace hU := Lib.hid hU
        replace hxs := Lib.hid hxs
        go_wp2_with fail
        exact ⟨⟨i + 1, by omega, by go_num, by rw [hU.out], hb.out⟩, by simp [intOf]; omega⟩
    · obtain rfl : i = cs.length := by omega
      have hgo3 : decide ((cs.length : Int) < (cs.length : Int)) = false := decide_eq_false (by omega)
      replace hb := Lib.hid hb
      go_wp2_with fail
      go_ret
      exact ⟨rfl, hb.out⟩
end Go.Proofs.YtgdcnenlelckhaaGreatDoor

namespace Go.Proofs.YtgdcnenlelckhaaGreatDoor
open Go.RowKit Go.Proofs.YtgdcnenlelckhaaGreatDoorW.PrintWords
open SlS SlT
/-- who claims what in a net -/
def claimC (cs : List Int) (j s : Nat) : Bool := decide (s < 64) && (ownU cs (s : Int) cs.length == (j : Int))
theorem claimC_one (cs : List Int) : ∀ s j k : Nat, claimC cs j s = true → claimC cs k s = true → j = k := by
  intro s j k h1 h2
  unfold claimC at h1 h2
  simp only [Bool.and_eq_true, decide_eq_true_eq, beq_iff_eq] at h1 h2
  omega
set_option maxHeartbeats 4000000 in
set_option maxRecDepth 100000 in
theorem claims_calls (w : World) {A : Option Addr} {cc : Nat} {cs : List Int} (hcs : Ints w A cs) (hc : cs.length ≤ cc) (hcm : cc ≤ 9223372036854775807) (j : Nat) :
    Calls Tryz.prog 24 #[.agg #[.slice A cs.length cc], .int .i64 j] w fun e w' => ∃ a f, e = .returned (.agg a) ∧ Words a f ∧ (∀ s, s < 16384 → hasN f s = claimC cs j s) ∧ Below w.heap.size w w' := by
  have n1 := below_new' w (.cells #[.slice A cs.length cc] 24)
  have s1 : (w.alloc (.cells #[.slice A cs.length cc] 24)).heap.size = w.heap.size + 1 := by simp
  have k1 := heapN w (.cells #[.slice A cs.length cc] 24)
  have hx : ∃ w1, w1 = w.alloc (.cells #[.slice A cs.length cc] 24) := ⟨_, rfl⟩
  obtain ⟨w1, hw1⟩ := hx
  rw [← hw1] at n1 s1 k1
  have n2 := below_new' w1 (.cells Tryz.zeroCells43 43)
  have s2 : (w1.alloc (.cells Tryz.zeroCells43 43)).heap.size = w.heap.size + 1 + 1 := by simp [s1]
  have k2 := heapN w1 (.cells Tryz.zeroCells43 43)
  rw [s1] at k2
  have n3 := below_new' (w1.alloc (.cells Tryz.zeroCells43 43)) (.cells Tryz.zeroCells43 43)
  have k3 := heapN (w1.alloc (.cells Tryz.zeroCells43 43)) (.cells Tryz.zeroCells43 43)
  rw [s2] at k3
  have b3 := n1.trans ((n2.trans (n3.mono n2.size)).mono n1.size)
  have z1 := ((n2.trans (n3.mono n2.size)).block w.heap.size (by omega)).trans k1
  have z2 := (n3.block (w.heap.size + 1) (by omega)).trans k2
  clear n1 n2 n3 k1 k2 s1 s2
  rw [hw1] at b3 z1 z2 k3
  have hiZ : (Tryz.prog.info? 43).map (·.size) = some Tryz.zeroCells43.size := by rw [zero_size]; exact info30
  have hf0 : ∀ s, s < 16384 → hasN (fun _ => 0) s = (claimC cs j s && decide (s < 0)) := fun s _ => by unfold hasN; simp
  replace b3 := Lib.hid b3
  replace z1 := Lib.hid z1
  replace z2 := Lib.hid z2
  replace k3 := Lib.hid k3
  clear hw1 w1
  go_enter Tryz.func24, Tryz.ntmps24
  go_wp2_with fail
  go_loopw [7] (fun s7 wr => ∃ (i : Nat) (a : Array Value) (f : Nat → Nat), i ≤ 64 ∧ s7 = .int .i64 i ∧ Words a f ∧ (∀ s, s < 16384 → hasN f s = (claimC cs j s && decide (s < i))) ∧ Below w.heap.size w wr ∧
    wr.heap[w.heap.size]? = some (.cells #[.slice A cs.length cc] 24 (0, 0)) ∧ wr.heap[w.heap.size + 1]? = some (.cells Tryz.zeroCells43 43 (0, 0)) ∧ wr.heap[w.heap.size + 1 + 1]? = some (.cells a 43 (0, 0))) (fun s7 _ => 64 - (intOf s7).toNat)
  case atStart => exact ⟨0, _, _, by omega, rfl, zero_words, hf0, b3.out, z1.out, z2.out, k3.out⟩
  case round =>
    clear b3 z1 z2 k3 hf0
    obtain ⟨i, a, f, hi, rfl, ha, hf, hb, h0, h1, h2⟩ := hrel
    by_cases hi64 : i < 64
    · have hgo3 : decide ((i : Int) < 64) = true := decide_eq_true (by omega)
      have u0 : wr.cell? ⟨w.heap.size, 0, none⟩ = some (.slice A cs.length cc) := by rw [cellBox h0]; rfl
      have hO := Lib.hid (owner_calls wr (hcs.below hb) hc hcm (i : Int))
      have hiA : (Tryz.prog.info? 43).map (·.size) = some a.size := by rw [ha.size]; exact info30
      replace hb := Lib.hid hb
      replace h0 := Lib.hid h0
      replace h1 := Lib.hid h1
      replace h2 := Lib.hid h2
      replace hf := Lib.hid hf
      go_wp2_with fail
      refine hO.out.mono ?_
      rintro e w2 ⟨rfl, hb2⟩
      have hlt2 := blk_lt h2.out
      have g0 := Lib.hid ((hb2.block _ (blk_lt h0.out)).trans h0.out)
      have g1 := Lib.hid ((hb2.block _ (blk_lt h1.out)).trans h1.out)
      have g2 := (hb2.block _ (blk_lt h2.out)).trans h2.out
      have hbw2 := Lib.hid (hb.out.trans (hb2.mono hb.out.size))
      clear hb hb2 h0 h1 h2 hO u0
      have hcc : claimC cs j i = (ownU cs (i : Int) cs.length == (j : Int)) := by unfold claimC; rw [decide_eq_true hi64, Bool.true_and]
      by_cases hown : ownU cs (i : Int) cs.length = (j : Int)
      · have hd : (ownU cs (i : Int) cs.length == (j : Int)) = true := beq_iff_eq.2 hown
        rw [hd] at hcc
        have hW := fun W => refWith_calls a f ha i true W
        simp only [show (0 : Int) ≤ (i : Int) ∧ (i : Int) < 16384 from by omega, and_self, if_true, Int.toNat_natCast] at hW
        have hh := Lib.hid (fun n => hasN_withW ha.lt i n)
        generalize hF : withW f i true = F at *
        replace hW := Lib.hid hW
        generalize ownU cs (i : Int) cs.length = U at *
        replace hown := Lib.hid hown
        replace hcc := Lib.hid hcc
        go_wp2_with (refine wpList_load_row rfl 43 _ rfl (w.heap.size + 1 + 1) rfl 43 a (0, 0) _ g2 Tryz.underlying43 rfl hiA ?_)
        refine (hW.out _).mono ?_
        rintro e w3 ⟨a3, rfl, ha3, hb3⟩
        have q0 := (hb3.block _ (blk_lt g0.out)).trans g0.out
        have q1 := (hb3.block _ (blk_lt g1.out)).trans g1.out
        have q2 := (hb3.block _ (blk_lt g2)).trans g2
        have hbw3 := hbw2.out.trans (hb3.mono hbw2.out.size)
        have hi3 : (Tryz.prog.info? 43).map (·.size) = some a3.size := by rw [ha3.size]; exact info30
        have hZ3 : a.size = a3.size := by rw [ha3.size]; exact ha.size
        have ho3 := ha3.one
        replace q0 := Lib.hid q0
        replace q1 := Lib.hid q1
        replace hbw3 := Lib.hid hbw3
        clear hb3 g0 g1 g2 hbw2 hW
        go_wp2_with (refine wpList_store_row rfl 43 _ _ rfl (w.heap.size + 1 + 1) a3 rfl rfl 43 a q2 hi3 hZ3 ho3 ?_)
        have G2 := setRow_heap _ _ _ a3 _ _ q2
        have G1 := (setRow_other w3 (w.heap.size + 1 + 1) (w.heap.size + 1) a3 (by omega)).trans q1.out
        have G0 := (setRow_other w3 (w.heap.size + 1 + 1) w.heap.size a3 (by omega)).trans q0.out
        refine ⟨⟨i + 1, a3, F, by omega, by go_num, ha3, fun s hs => ?_, below_setRow hbw3.out (by omega) _, G0, G1, G2⟩, by simp [intOf]; omega⟩
        rw [hh.out s, hf.out s hs]
        by_cases hsi : s = i
        · subst hsi; rw [hcc.out]; simp
        · rw [decide_eq_false hsi, Bool.or_false, show decide (s < i + 1) = decide (s < i) from by rw [Bool.eq_iff_iff, decide_eq_true_eq, decide_eq_true_eq]; omega]
      · have hd : (ownU cs (i : Int) cs.length == (j : Int)) = false := beq_eq_false_iff_ne.2 hown
        rw [hd] at hcc
        generalize ownU cs (i : Int) cs.length = U at *
        replace hown := Lib.hid hown
        replace hcc := Lib.hid hcc
        replace g2 := Lib.hid g2
        go_wp2_with fail
        refine ⟨⟨i + 1, a, f, by omega, by go_num, ha, fun s hs => ?_, hbw2.out, g0.out, g1.out, g2.out⟩, by simp [intOf]; omega⟩
        rw [hf.out s hs]
        by_cases hsi : s = i
        · subst hsi; rw [hcc.out]; simp
        · rw [show decide (s < i + 1) = decide (s < i) from by rw [Bool.eq_iff_iff, decide_eq_true_eq, decide_eq_true_eq]; omega]
    · obtain rfl : i = 64 := by omega
      have hiA : (Tryz.prog.info? 43).map (·.size) = some a.size := by rw [ha.size]; exact info30
      have hZ : Tryz.zeroCells43.size = a.size := by rw [ha.size]; exact zero_size
      have ho := ha.one
      have hff : ∀ s, s < 16384 → hasN f s = claimC cs j s := fun s hs => by
        rw [hf s hs]
        by_cases h : s < 64
        · rw [decide_eq_true (by omega : s < 64), Bool.and_true]
        · unfold claimC; rw [decide_eq_false h]; simp
      have hb9 := below_setRow (g := w.heap.size + 1) hb (by omega) a
      replace hb9 := Lib.hid hb9
      replace hff := Lib.hid hff
      clear hf hb h0
      go_wp2_with (first | (refine wpList_load_row rfl 43 _ rfl (w.heap.size + 1 + 1) rfl 43 a (0, 0) _ h2 Tryz.underlying43 rfl hiA ?_) | (refine wpList_store_row rfl 43 _ _ rfl (w.heap.size + 1) a rfl rfl 43 Tryz.zeroCells43 h1 hiA hZ ho ?_))
      refine bodyPost_ret (results_cell_row Tryz.results24 _ _ (w.heap.size + 1) 43 a (0, 0) _ rfl (setRow_heap _ _ _ _ _ _ h1) Tryz.underlying43 rfl hiA) rfl ⟨a, f, rfl, ha, hff.out, hb9.out⟩
end Go.Proofs.YtgdcnenlelckhaaGreatDoor

namespace Go.Proofs.YtgdcnenlelckhaaGreatDoor
open Go.RowKit Go.Proofs.YtgdcnenlelckhaaGreatDoorW.PrintWords
open SlS SlT
def Ptrs (L : List BX) : List Value := L.map fun β => .pointer (some ⟨β.b, 0, none⟩)
theorem AllB.base {w0 w1 W : World} {L : List BX} (h : AllB w1 W L) (hE : Env w0) (hb : Below w0.heap.size w0 w1) : AllB w0 W L :=
  ⟨hE, hb.trans (h.bel.mono hb.size), h.all, fun i β hi k hk => Nat.le_trans hb.size (h.low i β hi k hk), h.sep⟩
theorem AllB.away {w0 W W' : World} {L : List BX} {S : Nat → Prop} (h : AllB w0 W L) (hb : But S W W') (h0 : ∀ k, S k → w0.heap.size ≤ k) (hS : ∀ (i : Nat) (β : BX), L[i]? = some β → ∀ k, β.ft k → ¬ S k) : AllB w0 W' L :=
  ⟨h.env, h.bel.trans (hb.below h.bel.size fun k hk hs => by have := h0 k hs; omega), fun i β hi => (h.all i β hi).keep hb (hS i β hi), h.low, h.sep⟩
/-- a row of other things lies apart from all buses -/
theorem AllB.row {w0 W : World} {L : List BX} {base : Nat} {e : TypeId} {size n : Nat} {x : Value} {xs : List Value} (h : AllB w0 W L) (hx : W.ownsRow base e size x n xs) (n1 : e ≠ 78) (n2 : e ≠ 107) (n3 : e ≠ 35) :
    ∀ k, x.ownBlock = some k → ∀ (i : Nat) (β : BX), L[i]? = some β → ¬ β.ft k := by
  intro k hk i β hi
  rcases hx.2 with ⟨e0, -⟩ | ⟨g, cap, cur, e0, -, hg, -⟩
  · rw [e0] at hk; simp [Value.ownBlock] at hk
  · rw [e0] at hk
    simp [Value.ownBlock] at hk
    rw [← hk]
    exact foot_type (h.all i β hi) hg n1 n2 n3
theorem AllB.grow {w0 W W' : World} {L : List BX} {base : Nat} {e : TypeId} {size n : Nat} {x : Value} {xs : List Value} (h : AllB w0 W L) (hx : W.ownsRow base e size x n xs) (n1 : e ≠ 78) (n2 : e ≠ 107) (n3 : e ≠ 35) (h0 : w0.heap.size ≤ base) (hg : W.grownBy W' x.ownBlock) : AllB w0 W' L :=
  h.away (grow_but hg (fun k => x.ownBlock = some k) fun k hk => hk) (fun k hk => Nat.le_trans h0 (hx.lt k hk).1) (fun i β hi k hk hk2 => h.row hx n1 n2 n3 k hk2 i β hi hk)
theorem info_ptr' : ∃ i0, Tryz.prog.info? 30 = some i0 ∧ i0.zero = some (.pointer none) ∧ i0.size = 1 ∧ i0.bytes = 8 := info_parts (by kernel_rfl)
/-- the buses of a net stand so -/
structure Net (w0 W : World) (cs : List Int) (L : List BX) : Prop where
  all : AllB w0 W L
  hon : ∀ (i : Nat) (β : BX), L[i]? = some β → HN (claimC cs) i β.v ∧ β.l = []
set_option maxHeartbeats 4000000 in
set_option maxRecDepth 100000 in
theorem nodes_calls (w : World) (hE : Env w) {A : Option Addr} {cc : Nat} {cs : List Int} (hcs : Ints w A cs) (hc : cs.length ≤ cc) (hcm : cc ≤ 9223372036854775807) :
    Calls Tryz.prog 7 #[.agg #[.slice A cs.length cc]] w fun e w' => ∃ x, e = .returned x ∧ Below w.heap.size w w' ∧ ((x = .slice none 0 0 ∧ ¬ (1 ≤ cs.length ∧ cs.length ≤ 6)) ∨
      (1 ≤ cs.length ∧ cs.length ≤ 6 ∧ ∃ L, L.length = cs.length ∧ Net w w' cs L ∧ w'.ownsRow w.heap.size 30 1 x cs.length (Ptrs L))) := by
  obtain ⟨i0, hi0, hz0, hz1, hz2⟩ := info_ptr'
  have n1 := below_new' w (.cells #[.slice A cs.length cc] 24)
  have k1 := heapN w (.cells #[.slice A cs.length cc] 24)
  by_cases hn1 : cs.length < 1
  · have d1 : decide ((cs.length : Int) < 1) = true := decide_eq_true (by omega)
    replace n1 := Lib.hid n1
    clear k1
    go_enter Tryz.func7, Tryz.ntmps7
    go_wp2_with fail
    go_ret
    exact ⟨_, rfl, n1.out, Or.inl ⟨rfl, by omega⟩⟩
  · have d1 : decide ((cs.length : Int) < 1) = false := decide_eq_false (by omega)
    by_cases hn6 : 6 < cs.length
    · have d2 : decide ((6 : Int) < (cs.length : Int)) = true := decide_eq_true (by omega)
      replace n1 := Lib.hid n1
      clear k1
      go_enter Tryz.func7, Tryz.ntmps7
      go_wp2_with fail
      go_ret
      exact ⟨_, rfl, n1.out, Or.inl ⟨rfl, by omega⟩⟩
    · have d2 : decide ((6 : Int) < (cs.length : Int)) = false := decide_eq_false (by omega)
      have hst : ∃ L : List BX, L.length = 0 ∧ Net w (w.alloc (.cells #[.slice A cs.length cc] 24)) cs L ∧ (w.alloc (.cells #[.slice A cs.length cc] 24)).ownsRow w.heap.size 30 1 (.slice none 0 0) 0 (Ptrs L) :=
        ⟨[], rfl, ⟨(AllB.nil hE).below n1, fun i β h => by simp at h⟩, own_nil _ _ _ _⟩
      replace hst := Lib.hid hst
      replace k1 := Lib.hid k1
      clear n1
      go_enter Tryz.func7, Tryz.ntmps7
      go_wp2_with fail
      go_loopw [3, 20] (fun s3 s20 wr => ∃ i : Nat, i ≤ cs.length ∧ s20 = .int .i64 i ∧ wr.heap[w.heap.size]? = some (.cells #[.slice A cs.length cc] 24 (0, 0)) ∧ ∃ L : List BX, L.length = i ∧ Net w wr cs L ∧ wr.ownsRow w.heap.size 30 1 s3 i (Ptrs L)) (fun _ s20 _ => cs.length - (intOf s20).toNat)
      case atStart => exact ⟨0, by omega, rfl, k1.out, hst.out⟩
      case round =>
        clear hst k1
        obtain ⟨i, hi, rfl, hbx, L, hLi, hN, hown⟩ := hrel
        by_cases hil : i < cs.length
        · have hgo3 : decide ((i : Int) < (cs.length : Int)) = true := decide_eq_true (by omega)
          have u0 : wr.cell? ⟨w.heap.size, 0, none⟩ = some (.slice A cs.length cc) := by rw [cellBox hbx]; rfl
          have hC := Lib.hid (claims_calls wr (hcs.below hN.all.bel) hc hcm i)
          have hi64 : i < 64 := by omega
          replace hN := Lib.hid hN
          replace hown := Lib.hid hown
          replace hbx := Lib.hid hbx
          go_wp2_with fail
          refine hC.out.mono ?_
          rintro e w2 ⟨a, f, rfl, ha, hf, hb2⟩
          have hA2 := hN.out.all.below hb2
          have hbx2 := (hb2.block _ (blk_lt hbx.out)).trans hbx.out
          have hown2 := pw_own_below hown.out hb2
          have hNew := bNew_calls (i : Int) a f ha (i + 1) (by omega) w2
          unfold BNewPost at hNew
          simp only [show (0 : Int) ≤ (i : Int) ∧ (i : Int) < 64 from by omega, show i + 1 ≤ 4611686018427387904 from by omega, and_self, if_true, Int.toNat_natCast] at hNew
          have hhn := Lib.hid (new_honest i hi64 f hf)
          have hho := hN.out.hon
          have hwr : IntKind.u64.wrap ((i : Int) + 1) = ((i + 1 : Nat) : Int) := by simp [IntKind.wrap, IntKind.bits, IntKind.signed]; omega
          replace hA2 := Lib.hid hA2
          replace hown2 := Lib.hid hown2
          replace hNew := Lib.hid hNew
          replace hho := Lib.hid hho
          clear hC hb2 hN hown hbx u0 ha hf
          go_wp2_with fail
          refine hNew.out.mono ?_
          rintro e w3 ⟨hb3, b, g, rfl, hlb, hlg, hBB⟩
          have hA3 := hA2.out.add hb3 hlb hlg hBB
          have hbx3 := (hb3.block _ (blk_lt hbx2)).trans hbx2
          have hown3 := pw_own_below hown2.out hb3
          have n4 := below_new' w3 (.cells #[.pointer (some ⟨b, 0, none⟩)] 30)
          have hA4 := Lib.hid (hA3.below n4)
          have hbx4 := (n4.block _ (blk_lt hbx3)).trans hbx3
          have hown4 := pw_own_below hown3 n4
          have hnews := World.news_of_block (heapN w3 (.cells #[.pointer (some ⟨b, 0, none⟩)] 30))
          have hsz : w.heap.size ≤ (w3.alloc (.cells #[.pointer (some ⟨b, 0, none⟩)] 30)).heap.size := hA4.out.bel.size
          replace hbx4 := Lib.hid hbx4
          clear hNew hb3 hBB hA2 hA3 hbx2 hbx3 hown2 hown3 n4 hlb hlg
          go_wp2_with (at_builtin; refine wpList_append_own_at _ rfl _ _ 25 rfl w.heap.size 30 i0 (.pointer none) 1 8 Tryz.underlying25 hi0 hz0 hz1 hz2 rfl (by decide) _ i (Ptrs L) rfl hown4 ⟨w3.heap.size, 0, none⟩ 1 1 [.pointer (some ⟨b, 0, none⟩)] rfl rfl hnews (by simp [Value.oneCell']) (by simp only [maxLen]; omega) (by omega) hsz ?_; refine holdN ?_)
          refine Lib.hid ?_
          intro x5 w5 hown5 hgr hh1 hh2
          clear hh1 hh2
          have hA5 := hA4.out.grow hown4 (by decide) (by decide) (by decide) (Nat.le_refl _) hgr
          have hbx5 : w5.heap[w.heap.size]? = some (.cells #[.slice A cs.length cc] 24 (0, 0)) := (hgr.block _ (blk_lt hbx4.out) (fun e => own_type hbx4.out hown4 (by decide) e.symm)).trans hbx4.out
          have hown6 : w5.ownsRow w.heap.size 30 1 x5 (i + 1) (Ptrs (L ++ [⟨b, g, .slice none 0 0, newV i (i + 1) f, []⟩])) := by
            have e : Ptrs (L ++ [⟨b, g, .slice none 0 0, newV i (i + 1) f, []⟩]) = Ptrs L ++ [.pointer (some ⟨b, 0, none⟩)] := by simp [Ptrs]
            rw [e]; exact hown5
          replace hA5 := Lib.hid hA5
          replace hbx5 := Lib.hid hbx5
          replace hown6 := Lib.hid hown6
          clear hown4 hown5 hgr hA4 hbx4 hnews
          go_wp2_with fail
          refine ⟨⟨i + 1, by omega, by go_num, hbx5.out, _, by simp [hLi], ⟨hA5.out, fun j β hj => ?_⟩, hown6.out⟩, by simp [intOf]; omega⟩
          rcases Nat.lt_or_ge j L.length with hl | hl
          · rw [List.getElem?_append_left hl] at hj; exact hho.out j β hj
          · rw [List.getElem?_append_right hl] at hj
            rcases Nat.eq_zero_or_pos (j - L.length) with h0 | h0
            · rw [h0] at hj
              obtain rfl : _ = β := by simpa using hj
              obtain rfl : j = i := by omega
              exact ⟨hhn.out, rfl⟩
            · rw [List.getElem?_eq_none (by show 1 ≤ j - L.length; exact h0)] at hj; cases hj
        · obtain rfl : i = cs.length := by omega
          have hgo3 : decide ((cs.length : Int) < (cs.length : Int)) = false := decide_eq_false (by omega)
          have hfin := Lib.hid (And.intro hN hown)
          clear hown hbx hN
          go_wp2_with fail
          go_ret
          exact ⟨_, rfl, hfin.out.1.all.bel, Or.inr ⟨by omega, by omega, L, hLi, hfin.out.1, hfin.out.2⟩⟩
end Go.Proofs.YtgdcnenlelckhaaGreatDoor

namespace Go.Proofs.YtgdcnenlelckhaaGreatDoor
open Go.RowKit Go.Proofs.YtgdcnenlelckhaaGreatDoorW.PrintWords
open SlS SlT
set_option maxHeartbeats 4000000 in
set_option maxRecDepth 100000 in
theorem agree_calls (w : World) {b g : Nat} {x : Value} {v : VS} {l : List (Int × ByteArray)} (hB : BB w b g x v l) {A : Option Addr} {cc : Nat} {cs : List Int} (hcs : Ints w A cs) (hc : cs.length ≤ cc) (hcm : cc ≤ 9223372036854775807) (all : Bool)
    (hok : ∀ s : Nat, s < 64 → v.own s = ownU cs (s : Int) cs.length ∨ (all = false ∧ v.own s = -1)) :
    Calls Tryz.prog 12 #[.pointer (some ⟨b, 0, none⟩), .agg #[.slice A cs.length cc], .bool all] w fun e w' => e = .returned (.bool true) ∧ Below w.heap.size w w' := by
  have n1 := below_new' w (.cells #[.slice A cs.length cc] 24)
  have k1 := heapN w (.cells #[.slice A cs.length cc] 24)
  have hV := Lib.hid (bView_calls _ (hB.below n1))
  replace n1 := Lib.hid n1
  replace k1 := Lib.hid k1
  clear hB
  go_enter Tryz.func12, Tryz.ntmps12
  go_wp2_with fail
  refine hV.out.mono ?_
  rintro e w1 ⟨g1, rfl, -, hv1, hb1⟩
  have hbw1 := Lib.hid (n1.out.trans (hb1.mono n1.out.size))
  have hbx1 := Lib.hid ((hb1.block _ (blk_lt k1.out)).trans k1.out)
  replace hv1 := Lib.hid hv1
  clear hV hb1 n1 k1
  go_wp2_with fail
  go_loopw [14] (fun s14 wr => ∃ i : Nat, i ≤ 64 ∧ s14 = .int .i64 i ∧ Below w1.heap.size w1 wr) (fun s14 _ => 64 - (intOf s14).toNat)
  case atStart => exact ⟨0, by omega, rfl, Below.refl _ _⟩
  case round =>
    obtain ⟨i, hi, rfl, hb⟩ := hrel
    by_cases hi64 : i < 64
    · have hgo3 : decide ((i : Int) < 64) = true := decide_eq_true (by omega)
      have hO := Lib.hid (vOwner_calls wr (hv1.out.below hb) i (by omega))
      have hbx := (hb.block _ (blk_lt hbx1.out)).trans hbx1.out
      have u0 : wr.cell? ⟨w.heap.size, 0, none⟩ = some (.slice A cs.length cc) := by rw [cellBox hbx]; rfl
      have hU := Lib.hid (owner_calls wr (hcs.below (hbw1.out.trans (hb.mono hbw1.out.size))) hc hcm (i : Int))
      have hk := hok i hi64
      replace hb := Lib.hid hb
      clear hbx hok
      generalize v.own i = o at *
      generalize ownU cs (i : Int) cs.length = U at *
      replace hk := Lib.hid hk
      go_wp2_with fail
      refine hO.out.mono ?_
      rintro e _ ⟨rfl, rfl⟩
      clear hO
      go_wp2_with fail
      refine hU.out.mono ?_
      rintro e w2 ⟨rfl, hb2⟩
      have hb3 := Lib.hid (hb.out.trans (hb2.mono hb.out.size))
      clear hU hb2 hb u0
      by_cases he : o = U
      · subst he
        have hbe : (o != o) = false := by simp
        clear hk
        go_wp2_with fail
        exact ⟨⟨i + 1, by omega, by go_num, hb3.out⟩, by simp [intOf]; omega⟩
      · rcases hk.out with h | ⟨h1, h2⟩
        · exact absurd h he
        · subst h1 h2
          have hbe : ((-1 : Int) != U) = true := by simp [he]
          replace he := Lib.hid he
          clear hk
          go_wp2_with fail
          exact ⟨⟨i + 1, by omega, by go_num, hb3.out⟩, by simp [intOf]; omega⟩
    · obtain rfl : i = 64 := by omega
      have hfin := Lib.hid (hbw1.out.trans (hb.mono hbw1.out.size))
      clear hb
      go_wp2_with fail
      go_ret
      exact ⟨rfl, hfin.out⟩
end Go.Proofs.YtgdcnenlelckhaaGreatDoor

namespace Go.Proofs.YtgdcnenlelckhaaGreatDoor
open Go.RowKit Go.Proofs.YtgdcnenlelckhaaGreatDoorW.PrintWords
open SlS SlT
theorem take_set (l : List Value) (o : Nat) (v : Value) (ho : o < l.length) : (l.set o v).take (o + 1) = l.take o ++ [v] := by
  rw [List.take_add_one, List.getElem?_set_self ho]
  congr 1
  apply List.ext_getElem?
  intro i
  simp only [List.getElem?_take]
  by_cases h : i < o
  · rw [if_pos h, if_pos h, List.getElem?_set_ne (by omega)]
  · rw [if_neg h, if_neg h]
theorem heap_setCells {t : TypeId} {g : Nat} : ∀ (vs : List Value) (o : Nat) (W : World) (cur : Array Value), W.heap[g]? = some (.cells cur t (0, 0)) → o + vs.length ≤ cur.size →
    ∃ cur', (W.setCells g o vs).heap[g]? = some (.cells cur' t (0, 0)) ∧ cur'.size = cur.size ∧ cur'.toList.take (o + vs.length) = cur.toList.take o ++ vs ∧ But (fun k => k = g) W (W.setCells g o vs)
  | [], o, W, cur, h, hl => ⟨cur, h, rfl, by simp, But.refl _ _⟩
  | v :: r, o, W, cur, h, hl => by
    have h1 := heap_setCell_same W g o cur t v h
    obtain ⟨c2, h2, h3, h4, h5⟩ := heap_setCells r (o + 1) (W.setCell ⟨g, o, none⟩ v) _ h1 (by simp at hl ⊢; omega)
    refine ⟨c2, h2, by rw [h3]; simp, ?_, ((But.refl (fun k => k = g) W).set (p := ⟨g, o, none⟩) (fun _ => rfl) v).trans h5 fun _ _ h => h⟩
    rw [show o + (v :: r).length = o + 1 + r.length by simp; omega, h4, Array.toList_setIfInBounds, take_set _ _ _ (by rw [Array.length_toList]; simp at hl; omega)]
    simp
/-- a letter: from, to, what is said -/
structure LT where
  f : Nat
  t : Nat
  q : Pkt
def ltC (x : LT) : List Value := [.int .i64 (x.f : Int), .int .i64 (x.t : Int), .string (encT x.q)]
def ltR (ls : List LT) : List Value := ls.flatMap ltC
theorem ltR_len : ∀ ls : List LT, (ltR ls).length = ls.length * 3
  | [] => rfl
  | x :: ls => by
    have : (ltR (x :: ls)).length = 3 + (ltR ls).length := by simp [ltR, ltC]; omega
    rw [this, ltR_len ls, List.length_cons]; omega
theorem ltR_app (a b : List LT) : ltR (a ++ b) = ltR a ++ ltR b := by simp [ltR]
/-- a row of letters lies so -/
def Lies (W : World) (base : Nat) (x : Value) (n : Nat) (rows : List Value) : Prop :=
  rows.length = n * 3 ∧ ((x = .slice none 0 0 ∧ n = 0) ∨ ∃ g cap cur, x = .slice (some ⟨g, 0, none⟩) n cap ∧ base ≤ g ∧ W.heap[g]? = some (.cells cur 37 (0, 0)) ∧ n ≤ cap ∧ cap ≤ maxLen ∧ cap * 3 ≤ cur.size ∧ cur.toList.take (n * 3) = rows)
theorem Lies.nil (W : World) (base : Nat) : Lies W base (.slice none 0 0) 0 [] := ⟨rfl, Or.inl ⟨rfl, rfl⟩⟩
theorem Lies.of {W : World} {base : Nat} {x : Value} {n : Nat} {rows : List Value} (h : W.ownsRow base 37 3 x n rows) : Lies W base x n rows := by
  refine ⟨h.1, ?_⟩
  rcases h.2 with h | ⟨g, cap, cur, h1, h2, h3, h4, h5, h6, h7⟩
  · exact Or.inl h
  · exact Or.inr ⟨g, cap, cur, h1, h2, h3, h4, h5, by omega, h7⟩
theorem Lies.base {W : World} {b1 b2 : Nat} {x : Value} {n : Nat} {rows : List Value} (h : Lies W b1 x n rows) (hb : b2 ≤ b1) : Lies W b2 x n rows := by
  refine ⟨h.1, ?_⟩
  rcases h.2 with h | ⟨g, cap, cur, h1, h2, h3⟩
  · exact Or.inl h
  · exact Or.inr ⟨g, cap, cur, h1, Nat.le_trans hb h2, h3⟩
theorem Lies.keep {S : Nat → Prop} {W W' : World} {base : Nat} {x : Value} {n : Nat} {rows : List Value} (h : Lies W base x n rows) (hb : But S W W') (hS : ∀ k, x.ownBlock = some k → ¬ S k) : Lies W' base x n rows := by
  refine ⟨h.1, ?_⟩
  rcases h.2 with h | ⟨g, cap, cur, rfl, h2, h3, h4⟩
  · exact Or.inl h
  · exact Or.inr ⟨g, cap, cur, rfl, h2, (hb.block g (blk_lt h3) (hS g rfl)).trans h3, h4⟩
theorem Lies.below {W W' : World} {base : Nat} {x : Value} {n : Nat} {rows : List Value} (h : Lies W base x n rows) (hb : Below W.heap.size W W') : Lies W' base x n rows := h.keep (but_below hb fun _ => False) fun _ _ h => h
theorem Lies.slice {W : World} {base : Nat} {x : Value} {n : Nat} {rows : List Value} (h : Lies W base x n rows) : ∃ A c, x = .slice A n c := by
  rcases h.2 with ⟨h1, h2⟩ | ⟨g, cap, cur, h1, -⟩
  · exact ⟨none, 0, by rw [h1, h2]⟩
  · exact ⟨_, _, h1⟩
theorem Lies.low {W : World} {base : Nat} {x : Value} {n : Nat} {rows : List Value} (h : Lies W base x n rows) : ∀ k, x.ownBlock = some k → base ≤ k ∧ k < W.heap.size := fun k hk => by
  rcases h.2 with ⟨h1, -⟩ | ⟨g, cap, cur, h1, h2, h3, -⟩
  · rw [h1] at hk; simp [Value.ownBlock] at hk
  · rw [h1] at hk; simp [Value.ownBlock] at hk; rw [← hk]; exact ⟨h2, blk_lt h3⟩
theorem Lies.away {w0 W : World} {L : List BX} {base : Nat} {x : Value} {n : Nat} {rows : List Value} (h : Lies W base x n rows) (hA : AllB w0 W L) : ∀ k, x.ownBlock = some k → ∀ (i : Nat) (β : BX), L[i]? = some β → ¬ β.ft k := by
  intro k hk i β hi
  rcases h.2 with ⟨h1, -⟩ | ⟨g, cap, cur, h1, h2, h3, -⟩
  · rw [h1] at hk; simp [Value.ownBlock] at hk
  · rw [h1] at hk; simp [Value.ownBlock] at hk; rw [← hk]
    exact foot_type (hA.all i β hi) h3 (by decide) (by decide) (by decide)
theorem Lies.ne_type {W : World} {base : Nat} {x : Value} {n : Nat} {rows : List Value} (h : Lies W base x n rows) {p : Nat} {c : Array Value} {t : TypeId} (hp : W.heap[p]? = some (.cells c t (0, 0))) (ht : t ≠ 37) : x.ownBlock ≠ some p := fun hk => by
  rcases h.2 with ⟨h1, -⟩ | ⟨g, cap, cur, h1, h2, h3, -⟩
  · rw [h1] at hk; simp [Value.ownBlock] at hk
  · rw [h1] at hk; simp [Value.ownBlock] at hk
    rw [hk, hp] at h3
    injection h3 with h3
    injection h3 with _ h3
    exact ht h3
theorem info_lt' : ∃ i0, Tryz.prog.info? 37 = some i0 ∧ i0.zero = some (.agg #[.int .i64 0, .int .i64 0, .string ⟨#[]⟩]) ∧ i0.size = 3 ∧ i0.bytes = 32 := info_parts (by kernel_rfl)
theorem run_lies (W : World) (base : Nat) (hbase : base ≤ W.heap.size) {v : Value} {n : Nat} {rows : List Value} (hL : Lies W base v n rows) (ty : TypeId) (ad : Addr) (m c : Nat) (news : List Value) (hl : news.length = m * 3) (hnews : ∀ j u, news[j]? = some u → W.cell? (ad.add j) = some u) (h1 : ∀ u ∈ news, u.oneCell' = true)
    (hsz : n + m ≤ 1000000) : ∃ v' w', (Builtin.append_ #[28, 28] ty #[v, .slice (some ad) m c]).run Tryz.prog W = .ok v' w' ∧ Lies w' base v' (n + m) (rows ++ news) ∧ But (fun k => v.ownBlock = some k) W w' ∧ (∀ k, v'.ownBlock = some k → v.ownBlock = some k ∨ W.heap.size ≤ k) := by
  obtain ⟨i0, hi0, hz0, hz1, hz2⟩ := info_lt'
  rcases hL.2 with ⟨rfl, rfl⟩ | ⟨g, cap, cur, rfl, hg, hh, hnc, hcm, hcs, ht⟩
  · obtain rfl : rows = [] := List.length_eq_zero_iff.1 (by have := hL.1; omega)
    obtain ⟨v', w', hr, hown, hgr, -, hat⟩ := run_append_own_at (P := Tryz.prog) W base 28 ty 37 i0 _ 3 32 Tryz.underlying28 hi0 hz0 hz1 hz2 rfl (by decide) (.slice none 0 0) 0 [] (own_nil _ _ _ _) ad m c news hl hnews h1 (by simp only [maxLen]; omega) (by omega) hbase
    refine ⟨v', w', hr, Lies.of hown, grow_but hgr _ (fun k hk => hk), fun k hk => ?_⟩
    rcases hat with h | h
    · exact Or.inl (h ▸ hk)
    · rw [h] at hk; injection hk with hk; exact Or.inr (Nat.le_of_eq hk)
  · by_cases hroom : n + m ≤ cap
    · have hlen : (0 + n * i0.size) + news.length ≤ cur.size := by rw [hz1, hl]; omega
      have hr := run_append_room_cells (P := Tryz.prog) W 28 ty 37 i0 Tryz.underlying28 hi0 g 0 n cap ad m c news (by rw [hz1]; exact hl) hnews h1 hroom
        (fun j hj => by rw [cellBox hh, Array.getElem?_eq_getElem (by omega)]; rfl) (fun j hj => openBox hh)
      obtain ⟨cur', k1, k2, k3, k4⟩ := heap_setCells news (0 + n * i0.size) W cur hh hlen
      refine ⟨_, _, hr, ⟨by rw [List.length_append, hL.1, hl]; omega, Or.inr ⟨g, cap, cur', rfl, hg, k1, hroom, hcm, by omega, ?_⟩⟩, k4.weak fun k _ e => by rw [show k = g from e]; rfl, fun k hk => Or.inl hk⟩
      have e : (n + m) * 3 = (0 + n * i0.size) + news.length := by rw [hz1, hl]; omega
      rw [e, k3, hz1, Nat.zero_add, ht]
    · have holds : ∀ j u, rows[j]? = some u → W.cell? ((⟨g, 0, none⟩ : Addr).add j) = some u := fun j u hj => by
        rw [Addr.add_mid, Nat.zero_add, cellBox hh, ← hj, ← ht, ← Array.getElem?_toList]
        have hjl : j < n * 3 := by rw [← hL.1]; exact (List.getElem?_eq_some_iff.1 hj).1
        rw [List.getElem?_take_of_lt hjl]
      obtain ⟨v', w', hr, hown, hgr⟩ := run_append_arg_grows (P := Tryz.prog) W 28 ty 37 i0 _ 3 32 Tryz.underlying28 hi0 hz0 hz1 hz2 rfl (by decide) ⟨g, 0, none⟩ n cap rows hL.1 holds ad m c news hl hnews (by omega) (by simp only [maxLen]; omega) (by omega)
      exact ⟨v', w', hr, (Lies.of hown).base hbase, grow_but hgr _ (fun k hk => by cases hk), fun k hk => Or.inr ((Lies.of hown).low k hk).1⟩
theorem wp_lies {o : Oper} {a : Act} {W : World} {K : Act → World → Prop} {Q : Exit → Act → World → Prop} (s x : Operand) (ho : o.op = .call { callee := .builtin .append, args := #[s, x], argTypes := #[28, 28] })
    (base : Nat) (hbase : base ≤ W.heap.size) {v : Value} {n : Nat} {rows : List Value} (hs : a.eval s = v) (hL : Lies W base v n rows) (ad : Addr) (m c : Nat) (news : List Value) (hx : a.eval x = .slice (some ad) m c) (hl : news.length = m * 3) (hnews : ∀ j u, news[j]? = some u → W.cell? (ad.add j) = some u) (h1 : ∀ u ∈ news, u.oneCell' = true)
    (hsz : n + m ≤ 1000000) (h : ∀ v' w', Lies w' base v' (n + m) (rows ++ news) → But (fun k => v.ownBlock = some k) W w' → (∀ k, v'.ownBlock = some k → v.ownBlock = some k ∨ W.heap.size ≤ k) → K (a.put o.dst v') w') : o.wp Tryz.prog a W K Q := by
  obtain ⟨v', w', hr, h2, h3, h4⟩ := run_lies W base hbase hL o.type ad m c news hl hnews h1 hsz
  unfold Oper.wp execOp
  simp only [ho, resolve, invoke, builtin, Sem.run_bind, Sem.run_pure, Result.andThen_ok, List.map_toArray, List.map_cons, List.map_nil, hs, hx, hr]
  exact h v' w' h2 h3 h4
theorem wpList_lies {ops : Array Oper} {rest : List Oper} {o : Oper} {a : Act} {W : World} {Q : Exit → Act → World → Prop} (hgd : o.guard = none) (s x : Operand) (ho : o.op = .call { callee := .builtin .append, args := #[s, x], argTypes := #[28, 28] })
    (base : Nat) (hbase : base ≤ W.heap.size) {v : Value} {n : Nat} {rows : List Value} (hs : a.eval s = v) (hL : Lies W base v n rows) (ad : Addr) (m c : Nat) (news : List Value) (hx : a.eval x = .slice (some ad) m c) (hl : news.length = m * 3) (hnews : ∀ j u, news[j]? = some u → W.cell? (ad.add j) = some u) (h1 : ∀ u ∈ news, u.oneCell' = true)
    (hsz : n + m ≤ 1000000) (h : ∀ v' w', Lies w' base v' (n + m) (rows ++ news) → But (fun k => v.ownBlock = some k) W w' → (∀ k, v'.ownBlock = some k → v.ownBlock = some k ∨ W.heap.size ≤ k) → wpList Tryz.prog ops Q rest (a.put o.dst v') w') : wpList Tryz.prog ops Q (o :: rest) a W :=
  wpList_plain hgd fun _ hK => wp_lies s x ho base hbase hs hL ad m c news hx hl hnews h1 hsz fun v' w' h2 h3 h4 => hK _ _ (h v' w' h2 h3 h4)
/-- a row cut in front of a place -/
theorem Lies.cut {W : World} {base g n cap : Nat} {rows : List Value} (h : Lies W base (.slice (some ⟨g, 0, none⟩) n cap) n rows) (m : Nat) (hm : m ≤ n) : Lies W base (.slice (some ⟨g, 0, none⟩) m m) m (rows.take (m * 3)) := by
  rcases h.2 with ⟨h1, -⟩ | ⟨g', cap', cur, h1, h2, h3, h4, h5, h6, h7⟩
  · cases h1
  · injection h1 with q1 q2 q3
    injection q1 with q1
    injection q1 with q1
    subst q1 q3
    exact ⟨by rw [List.length_take, h.1]; omega, Or.inr ⟨g, m, cur, rfl, h2, h3, Nat.le_refl _, by omega, by omega, by rw [← h7, List.take_take]; congr 1; omega⟩⟩
/-- what lies in a row -/
theorem Lies.cellAt {W : World} {base : Nat} {x : Value} {n : Nat} {rows : List Value} (h : Lies W base x n rows) {j : Nat} (hj : j < n * 3) : ∃ g cap, x = .slice (some ⟨g, 0, none⟩) n cap ∧ n ≤ cap ∧ cap ≤ maxLen ∧ g < W.heap.size ∧ ∀ k u, rows[k]? = some u → W.cell? ⟨g, k, none⟩ = some u := by
  rcases h.2 with ⟨-, h1⟩ | ⟨g, cap, cur, h1, h2, h3, h4, h5, h6, h7⟩
  · omega
  · refine ⟨g, cap, h1, h4, h5, blk_lt h3, fun k u hk => ?_⟩
    have hkl : k < n * 3 := by rw [← h.1]; exact (List.getElem?_eq_some_iff.1 hk).1
    rw [cellBox h3, ← hk, ← h7, List.getElem?_take_of_lt hkl, Array.getElem?_toList]
theorem ltR_get : ∀ (ls : List LT) (i : Nat) (x : LT), ls[i]? = some x → (ltR ls)[i * 3]? = some (.int .i64 (x.f : Int)) ∧ (ltR ls)[i * 3 + 1]? = some (.int .i64 (x.t : Int)) ∧ (ltR ls)[i * 3 + 2]? = some (.string (encT x.q))
  | [], i, x, h => by simp at h
  | y :: ls, 0, x, h => by
    have : y = x := by simpa using h
    subst this
    exact ⟨rfl, rfl, rfl⟩
  | y :: ls, i + 1, x, h => by
    have := ltR_get ls i x (by simpa using h)
    have e : ltR (y :: ls) = ltC y ++ ltR ls := by simp [ltR]
    have hl : (ltC y).length = 3 := rfl
    rw [e, List.getElem?_append_right (by omega), List.getElem?_append_right (by omega), List.getElem?_append_right (by omega), hl]
    exact ⟨by rw [show (i + 1) * 3 - 3 = i * 3 by omega]; exact this.1, by rw [show (i + 1) * 3 + 1 - 3 = i * 3 + 1 by omega]; exact this.2.1, by rw [show (i + 1) * 3 + 2 - 3 = i * 3 + 2 by omega]; exact this.2.2⟩
theorem ltR_take (ls : List LT) (m : Nat) : (ltR ls).take (m * 3) = ltR (ls.take m) := by
  induction m generalizing ls with
  | zero => simp [ltR]
  | succ m ih =>
    cases ls with
    | nil => simp [ltR]
    | cons y ls =>
      have e : ltR (y :: ls) = ltC y ++ ltR ls := by simp [ltR]
      rw [e, show (m + 1) * 3 = (ltC y).length + m * 3 by simp [ltC]; omega, List.take_length_add_append, ih]
      simp [ltR]
theorem ltR_drop (ls : List LT) (m : Nat) : (ltR ls).drop (m * 3) = ltR (ls.drop m) := by
  induction m generalizing ls with
  | zero => simp [ltR]
  | succ m ih =>
    cases ls with
    | nil => simp [ltR]
    | cons y ls =>
      have e : ltR (y :: ls) = ltC y ++ ltR ls := by simp [ltR]
      rw [e, show (m + 1) * 3 = (ltC y).length + m * 3 by simp [ltC]; omega, List.drop_length_add_append, ih]
      simp
theorem ltR_one : ∀ (ls : List LT), ∀ u ∈ ltR ls, u.oneCell' = true := by
  intro ls u hu
  obtain ⟨x, -, hx⟩ := List.mem_flatMap.1 hu
  simp [ltC] at hx
  rcases hx with rfl | rfl | rfl <;> rfl
end Go.Proofs.YtgdcnenlelckhaaGreatDoor

namespace Go.Proofs.YtgdcnenlelckhaaGreatDoor
open Go.RowKit Go.Proofs.YtgdcnenlelckhaaGreatDoorW.PrintWords
open SlS SlT
theorem takeB_told2 {C : Nat → Nat → Bool} (hC : ∀ s j k : Nat, C j s = true → C k s = true → j = k) {i j : Nat} {v : VS} {q : Pkt} (hj : j < 64) (hij : j ≠ i) (h : HN C i v) (hq : Told C j q) :
    ∃ v' ps, takeB v (encT q).data.toList = (v', layL (j : Int) ps, true) ∧ HN C i v' ∧ (∀ p ∈ ps, Told C i p ∧ p.kind = 2) ∧ ps.length = (if q.kind = 1 then 1 else 0) ∧ (∀ s, s < 16384 → v'.own s = if C j s = true then (j : Int) else v.own s) := by
  obtain ⟨q', hd, hq', hk⟩ := told_bytes hj hq
  obtain ⟨h1, h2, h3⟩ := hear_honest hC hj hij h.hon hq'.fair
  have hf := hear_form hC hj hij h.hon hq'.fair
  have hne : ¬ q'.fr = (v.self : Int) := by rw [hq'.fair.fr, h.hon.self]; omega
  refine ⟨(hearV v q' true).1, (hearV v q' true).2, ?_, ?_, ?_, ?_, h3⟩
  · unfold takeB
    rw [hd]
    simp only [if_neg hne]
    rw [hq'.fair.fr]
  · refine ⟨h1, ?_⟩
    rw [hf]
    show _ ≤ (takenV v q').cur
    rw [taken_cur]
    have := h.top
    omega
  · have hn : HN C i (takenV v q') := ⟨by have := h1; rw [hf] at this; exact this, by rw [taken_cur]; have := h.top; omega⟩
    rw [hf]
    intro p hp
    have hp' : p ∈ (if q'.kind = 1 then [tellV (takenV v q') 2] else []) := hp
    by_cases h9 : q'.kind = 1
    · rw [if_pos h9] at hp'
      have : p = tellV (takenV v q') 2 := by simpa using hp'
      rw [this]
      exact ⟨told_of hn 2 (Or.inr rfl), rfl⟩
    · rw [if_neg h9] at hp'
      cases hp'
  · rw [hf, hk]
    show List.length (if q.kind = 1 then _ else _) = _
    split <;> rfl
def outL (ps : List (Nat × Pkt)) : List (Int × ByteArray) := ps.map fun p => ((p.1 : Int), encT p.2)
theorem outL_len (ps : List (Nat × Pkt)) : (outL ps).length = ps.length := by simp [outL]
theorem outL_app (a b : List (Nat × Pkt)) : outL (a ++ b) = outL a ++ outL b := by simp [outL]
theorem outL_get {ps : List (Nat × Pkt)} {i : Nat} {p : Nat × Pkt} (h : ps[i]? = some p) : (outL ps)[i]? = some ((p.1 : Int), encT p.2) := by simp [outL, h]
theorem lay_out (f : Nat) (ps : List Pkt) : layL (f : Int) ps = outL (ps.map fun p => (f, p)) := by simp [layL, outL]
theorem Ptrs_set {L : List BX} {i : Nat} {β : BX} (hi : L[i]? = some β) (g : Nat) (x : Value) (v : VS) (l : List (Int × ByteArray)) : Ptrs (L.set i ⟨β.b, g, x, v, l⟩) = Ptrs L := by
  apply List.ext_getElem?
  intro j
  unfold Ptrs
  rw [List.getElem?_map, List.getElem?_map]
  by_cases e : i = j
  · subst e
    rw [List.getElem?_set_self (List.getElem?_eq_some_iff.1 hi).1, hi]
    rfl
  · rw [List.getElem?_set_ne e]
/-- the buses of a net at work: what stands -/
structure MtS (w1 W : World) (cs : List Int) (P0 : List Value) (rx : Value) (L : List BX) (O : Nat → List (Nat × Pkt)) (x : Value) (ls : List LT) : Prop where
  all : AllB w1 W L
  len : L.length = cs.length
  row : W.ownsRow w1.heap.size 30 1 rx cs.length P0
  ptr : Ptrs L = P0
  way : Lies W w1.heap.size x ls.length (ltR ls)
  hn : ∀ (i : Nat) (β : BX), L[i]? = some β → HN (claimC cs) i β.v ∧ β.l = outL (O i)
  oo : ∀ i, i < cs.length → ∀ p ∈ O i, p.1 < cs.length ∧ p.1 ≠ i ∧ Told (claimC cs) i p.2
theorem MtS.get {w1 W : World} {cs : List Int} {P0 : List Value} {rx : Value} {L : List BX} {O : Nat → List (Nat × Pkt)} {x : Value} {ls : List LT} (h : MtS w1 W cs P0 rx L O x ls) {i : Nat} (hi : i < cs.length) : ∃ β, L[i]? = some β := ⟨L[i]'(by rw [h.len]; exact hi), List.getElem?_eq_getElem _⟩
/-- where a bus's pointer lies -/
theorem MtS.cell {w1 W : World} {cs : List Int} {P0 : List Value} {rx : Value} {L : List BX} {O : Nat → List (Nat × Pkt)} {x : Value} {ls : List LT} (h : MtS w1 W cs P0 rx L O x ls) {i : Nat} {β : BX} (hi : L[i]? = some β) : ∃ g c, rx = .slice (some ⟨g, 0, none⟩) cs.length c ∧ W.cell? ⟨g, i, none⟩ = some (.pointer (some ⟨β.b, 0, none⟩)) := by
  have hil : i < cs.length := by rw [← h.len]; exact (List.getElem?_eq_some_iff.1 hi).1
  obtain ⟨g, c, e, -, -⟩ := h.row.form (by omega)
  refine ⟨g, c, e, ?_⟩
  have hr := h.row
  rw [e] at hr
  rw [hr.cellAt _ (by omega), ← h.ptr]
  unfold Ptrs
  rw [List.getElem?_map, hi]
  rfl
theorem MtS.below {w1 W W' : World} {cs : List Int} {P0 : List Value} {rx : Value} {L : List BX} {O : Nat → List (Nat × Pkt)} {x : Value} {ls : List LT} (h : MtS w1 W cs P0 rx L O x ls) (hb : Below W.heap.size W W') : MtS w1 W' cs P0 rx L O x ls :=
  ⟨h.all.below hb, h.len, pw_own_below h.row hb, h.ptr, h.way.below hb, h.hn, h.oo⟩
/-- the views are as they were -/
def SameV (L L' : List BX) : Prop := ∀ (j : Nat) (γ' : BX), L'[j]? = some γ' → ∃ γ, L[j]? = some γ ∧ γ'.v = γ.v
/-- no bus lies on new ground but above -/
def Feet (W : World) (L L' : List BX) : Prop := ∀ (j : Nat) (γ' : BX), L'[j]? = some γ' → ∀ k, γ'.ft k → (∃ γ, L[j]? = some γ ∧ γ.ft k) ∨ W.heap.size ≤ k
theorem MtS.step {w1 W W' : World} {cs : List Int} {P0 : List Value} {rx : Value} {L : List BX} {O : Nat → List (Nat × Pkt)} {x : Value} {ls : List LT} (h : MtS w1 W cs P0 rx L O x ls) {i : Nat} {β : BX} (hi : L[i]? = some β) {x' : Value} {v : VS} {l : List (Int × ByteArray)} (os : List (Nat × Pkt))
    (hA : AllB w1 W' (L.set i ⟨β.b, β.g, x', v, l⟩)) (hb : But β.ft W W') (hv : HN (claimC cs) i v) (hl : l = outL os) (hos : ∀ p ∈ os, p.1 < cs.length ∧ p.1 ≠ i ∧ Told (claimC cs) i p.2) :
    MtS w1 W' cs P0 rx (L.set i ⟨β.b, β.g, x', v, l⟩) (upd O i os) x ls := by
  refine ⟨hA, by rw [List.length_set]; exact h.len, own_keep h.row hb fun k hk => h.all.row h.row (by decide) (by decide) (by decide) k hk i β hi, by rw [Ptrs_set hi]; exact h.ptr, h.way.keep hb fun k hk => h.way.away h.all k hk i β hi, ?_, ?_⟩
  · intro j γ hj
    by_cases e : i = j
    · subst e
      rw [List.getElem?_set_self (List.getElem?_eq_some_iff.1 hi).1] at hj
      injection hj with hj
      subst hj
      exact ⟨hv, by rw [show (upd O i os) i = os by unfold upd; rw [if_pos rfl]]; exact hl⟩
    · rw [List.getElem?_set_ne e] at hj
      have := h.hn j γ hj
      rw [show (upd O i os) j = O j by unfold upd; rw [if_neg fun q => e q.symm]]
      exact this
  · intro j hj p hp
    by_cases e : j = i
    · subst e
      rw [show (upd O j os) j = os by unfold upd; rw [if_pos rfl]] at hp
      exact hos p hp
    · rw [show (upd O i os) j = O j by unfold upd; rw [if_neg e]] at hp
      exact h.oo j hj p hp
theorem feet_set {W : World} {L : List BX} {i : Nat} {β : BX} (hi : L[i]? = some β) {x' : Value} {v : VS} {l : List (Int × ByteArray)} (hx : ∀ k, x'.ownBlock = some k → β.ft k ∨ W.heap.size ≤ k) : Feet W L (L.set i ⟨β.b, β.g, x', v, l⟩) := by
  intro j γ hj k hk
  by_cases e : i = j
  · subst e
    rw [List.getElem?_set_self (List.getElem?_eq_some_iff.1 hi).1] at hj
    injection hj with hj
    subst hj
    rcases hk with hk | hk | hk
    · exact Or.inl ⟨β, hi, Or.inl hk⟩
    · exact Or.inl ⟨β, hi, Or.inr (Or.inl hk)⟩
    · rcases hx k hk with h | h
      · exact Or.inl ⟨β, hi, h⟩
      · exact Or.inr h
  · rw [List.getElem?_set_ne e] at hj
    exact Or.inl ⟨γ, hj, hk⟩
theorem same_set {L : List BX} {i : Nat} {β : BX} (hi : L[i]? = some β) {x' : Value} {l : List (Int × ByteArray)} : SameV L (L.set i ⟨β.b, β.g, x', β.v, l⟩) := by
  intro j γ hj
  by_cases e : i = j
  · subst e
    rw [List.getElem?_set_self (List.getElem?_eq_some_iff.1 hi).1] at hj
    injection hj with hj
    subst hj
    exact ⟨β, hi, rfl⟩
  · rw [List.getElem?_set_ne e] at hj
    exact ⟨γ, hj, rfl⟩
theorem mPing_calls {w1 W : World} {cs : List Int} {P0 : List Value} {rx : Value} {L : List BX} {O : Nat → List (Nat × Pkt)} {x : Value} {ls : List LT} (h : MtS w1 W cs P0 rx L O x ls) (hc6 : cs.length ≤ 6) {i t : Nat} {β : BX} (hi : L[i]? = some β) (ht : t < cs.length) (hl : (O i).length ≤ 1000000) :
    Calls Tryz.prog 9 #[.pointer (some ⟨β.b, 0, none⟩), .int .i64 (t : Int)] W fun e W' => ∃ n : Int, e = .returned (.int .i64 n) ∧ ∃ L' : List BX, MtS w1 W' cs P0 rx L' (upd O i (O i ++ if t = i then [] else [(t, tellV β.v 1)])) x ls ∧ SameV L L' := by
  obtain ⟨hv, hol⟩ := h.hn i β hi
  have hil : i < cs.length := by rw [← h.len]; exact (List.getElem?_eq_some_iff.1 hi).1
  refine (aPing_calls h.all hi (t : Int) (by rw [hol, outL_len]; omega)).mono ?_
  rintro e W' ⟨n, rfl, x', hA, hb, hx⟩
  refine ⟨n, rfl, _, h.step hi _ hA hb hv ?_ ?_, same_set hi⟩
  · by_cases e : t = i
    · rw [if_neg (by rw [hv.hon.self]; omega), if_pos e, List.append_nil]; exact hol
    · rw [if_pos (by rw [hv.hon.self]; omega), if_neg e, outL_app, hol]; rfl
  · intro p hp
    rcases List.mem_append.1 hp with hp | hp
    · exact h.oo i hil p hp
    · by_cases e : t = i
      · rw [if_pos e] at hp; cases hp
      · rw [if_neg e] at hp
        obtain rfl : p = (t, tellV β.v 1) := by simpa using hp
        exact ⟨ht, e, told_of hv 1 (Or.inl rfl)⟩
theorem mTake_calls {w1 W : World} {cs : List Int} {P0 : List Value} {rx : Value} {L : List BX} {O : Nat → List (Nat × Pkt)} {x : Value} {ls : List LT} (h : MtS w1 W cs P0 rx L O x ls) (hc6 : cs.length ≤ 6) {f t : Nat} {β : BX} (hi : L[t]? = some β) (hf : f < cs.length) (hft : f ≠ t) {q : Pkt} (hq : Told (claimC cs) f q) (hl : (O t).length ≤ 1000000) :
    Calls Tryz.prog 11 #[.pointer (some ⟨β.b, 0, none⟩), .string (encT q)] W fun e W' => e = .returned (.bool true) ∧ ∃ (L' : List BX) (ps : List Pkt), MtS w1 W' cs P0 rx L' (upd O t (O t ++ ps.map fun p => (f, p))) x ls ∧ (∀ p ∈ ps, p.kind = 2) ∧ ps.length = (if q.kind = 1 then 1 else 0) ∧
      (∀ (j : Nat) (γ' : BX), L'[j]? = some γ' → ∃ γ, L[j]? = some γ ∧ ∀ s, s < 16384 → γ'.v.own s = if j = t ∧ claimC cs f s = true then (f : Int) else γ.v.own s) ∧ But β.ft W W' ∧ Feet W L L' := by
  obtain ⟨hv, hol⟩ := h.hn t β hi
  have htl : t < cs.length := by rw [← h.len]; exact (List.getElem?_eq_some_iff.1 hi).1
  obtain ⟨v', ps, he, h1, h2, h3, h4⟩ := takeB_told2 (claimC_one cs) (by omega) hft hv hq
  have hc := hv.hon.cur
  refine (bTake_calls W (h.all.all t β hi) (h.all.envs hi) (encT q) (Nat.le_trans (encT_size q) (by decide)) (by omega) (by rw [hol, outL_len]; omega)).mono ?_
  rintro e W' ⟨rfl, hB⟩
  rw [he] at hB ⊢
  obtain ⟨x', hA, hb, hx⟩ := h.all.post hi hB
  refine ⟨rfl, _, ps, h.step hi _ hA hb h1 (by rw [hol, outL_app, ← lay_out]) ?_, fun p hp => (h2 p hp).2, h3, ?_, hb, feet_set hi hx⟩
  · intro p hp
    rcases List.mem_append.1 hp with hp | hp
    · exact h.oo t htl p hp
    · obtain ⟨p', hp', rfl⟩ := List.mem_map.1 hp
      exact ⟨hf, hft, (h2 p' hp').1⟩
  · intro j γ hj
    by_cases e : t = j
    · subst e
      rw [List.getElem?_set_self (List.getElem?_eq_some_iff.1 hi).1] at hj
      injection hj with hj
      subst hj
      refine ⟨β, hi, fun s hs => ?_⟩
      show v'.own s = _
      rw [h4 s hs]
      by_cases hc : claimC cs f s = true
      · rw [if_pos hc, if_pos ⟨rfl, hc⟩]
      · rw [if_neg hc, if_neg fun h => hc h.2]
    · rw [List.getElem?_set_ne e] at hj
      exact ⟨γ, hj, fun s _ => by rw [if_neg fun h => e h.1.symm]⟩
theorem mOuts_calls {w1 W : World} {cs : List Int} {P0 : List Value} {rx : Value} {L : List BX} {O : Nat → List (Nat × Pkt)} {x : Value} {ls : List LT} (h : MtS w1 W cs P0 rx L O x ls) {i : Nat} {β : BX} (hi : L[i]? = some β) :
    Calls Tryz.prog 10 #[.pointer (some ⟨β.b, 0, none⟩)] W fun e W' => ∃ Y c, e = .returned (.slice Y (O i).length c) ∧ ∃ L' : List BX, MtS w1 W' cs P0 rx L' (upd O i []) x ls ∧ SameV L L' ∧ W'.ownsRow 0 35 2 (.slice Y (O i).length c) (O i).length (outR (outL (O i))) ∧
      (∀ k, (Value.slice Y (O i).length c).ownBlock = some k → ∀ (j : Nat) (γ : BX), L'[j]? = some γ → ¬ γ.ft k) ∧ But (fun k => k = β.b) W W' := by
  obtain ⟨hv, hol⟩ := h.hn i β hi
  have hB := h.all.all i β hi
  have hil : i < L.length := (List.getElem?_eq_some_iff.1 hi).1
  refine (bOuts_calls W hB).mono ?_
  rintro e W' ⟨rfl, h1, h2, h3⟩
  obtain ⟨Y, c, hx⟩ := own_slice h2
  have haw : ∀ k, β.x.ownBlock = some k → ∀ (j : Nat) (γ : BX), (L.set i ⟨β.b, β.g, .slice none 0 0, β.v, []⟩)[j]? = some γ → ¬ γ.ft k := by
    intro k hk j γ hj hf
    by_cases e : i = j
    · subst e
      rw [List.getElem?_set_self hil] at hj
      injection hj with hj
      subst hj
      rcases hf with hf | hf | hf
      · exact hB.nb (by rw [hk, hf])
      · exact hB.ng (by rw [hk, hf])
      · simp [Value.ownBlock] at hf
    · rw [List.getElem?_set_ne e] at hj
      exact h.all.sep i j β γ hi hj e k (Or.inr (Or.inr hk)) hf
  have hlen : β.l.length = (O i).length := by rw [hol, outL_len]
  rw [hx] at h2 haw ⊢
  rw [hlen] at h2 haw ⊢
  rw [hol] at h2
  exact ⟨Y, c, rfl, _, h.step hi [] (h.all.outs hi h1 h3) (h3.weak fun k _ e => Or.inl e) hv rfl (fun p hp => by cases hp), same_set hi, h2, haw, h3⟩
/-- letters that may be on their way -/
def OkL (cs : List Int) (ls : List LT) : Prop := ∀ y ∈ ls, y.f < cs.length ∧ y.t < cs.length ∧ y.f ≠ y.t ∧ Told (claimC cs) y.f y.q
theorem OkL.app {cs : List Int} {a b : List LT} (ha : OkL cs a) (hb : OkL cs b) : OkL cs (a ++ b) := fun y hy => by
  rcases List.mem_append.1 hy with h | h
  · exact ha y h
  · exact hb y h
/-- letters are laid onto the way -/
theorem MtS.lay {w1 W W' : World} {cs : List Int} {P0 : List Value} {rx : Value} {L : List BX} {O : Nat → List (Nat × Pkt)} {x : Value} {ls : List LT} (h : MtS w1 W cs P0 rx L O x ls) (hb : But (fun k => x.ownBlock = some k) W W') {x' : Value} {ls' : List LT} (hL : Lies W' w1.heap.size x' ls'.length (ltR ls')) : MtS w1 W' cs P0 rx L O x' ls' :=
  ⟨h.all.away hb (fun k hk => (h.way.low k hk).1) (fun i β hi k hk hk2 => h.way.away h.all k hk2 i β hi hk), h.len, own_keep h.row hb (fun k hk hk2 => by
    rcases h.row.2 with ⟨e0, -⟩ | ⟨g, cap, cur, e0, -, hg, -⟩
    · rw [e0] at hk; simp [Value.ownBlock] at hk
    · rw [e0] at hk; simp [Value.ownBlock] at hk
      exact h.way.ne_type hg (by decide) (by rw [hk]; exact hk2)), h.ptr, hL, h.hn, h.oo⟩
end Go.Proofs.YtgdcnenlelckhaaGreatDoor

namespace Go.Proofs.YtgdcnenlelckhaaGreatDoor
open Go.RowKit Go.Proofs.YtgdcnenlelckhaaGreatDoorW.PrintWords
open SlS SlT
inductive MeA (t1 t2 t5 t6 t7 t8 t9 t10 t13 t14 t17 t18 t22 t33 t34 t35 t36 t59 t60 t61 t115 t116 t117 t142 t143 t147 t148 t164 t165 t166 t181 t182 t183 : Value) : Act → Prop
  | mk {u0 u3 u4 u11 u12 u15 u16 u19 u20 u21 u23 u24 u25 u26 u27 u28 u29 u30 u31 u32 u37 u38 u39 u40 u41 u42 u43 u44 u45 u46 u47 u48 u49 u50 u51 u52 u53 u54 u55 u56 u57 u58 u62 u63 u64 u65 u66 u67 u68 u69 u70 u71 u72 u73 u74 u75 u76 u77 u78 u79 u80 u81 u82 u83 u84 u85 u86 u87 u88 u89 u90 u91 u92 u93 u94 u95 u96 u97 u98 u99 u100 u101 u102 u103 u104 u105 u106 u107 u108 u109 u110 u111 u112 u113 u114 u118 u119 u120 u121 u122 u123 u124 u125 u126 u127 u128 u129 u130 u131 u132 u133 u134 u135 u136 u137 u138 u139 u140 u141 u144 u145 u146 u149 u150 u151 u152 u153 u154 u155 u156 u157 u158 u159 u160 u161 u162 u163 u167 u168 u169 u170 u171 u172 u173 u174 u175 u176 u177 u178 u179 u180 u184 u185 u186 u187 u188 u189 u190 u191 u192 : Value} : MeA t1 t2 t5 t6 t7 t8 t9 t10 t13 t14 t17 t18 t22 t33 t34 t35 t36 t59 t60 t61 t115 t116 t117 t142 t143 t147 t148 t164 t165 t166 t181 t182 t183 ⟨#[u0, t1, t2, u3, u4, t5, t6, t7, t8, t9, t10, u11, u12, t13, t14, u15, u16, t17, t18, u19, u20, u21, t22, u23, u24, u25, u26, u27, u28, u29, u30, u31, u32, t33, t34, t35, t36, u37, u38, u39, u40, u41, u42, u43, u44, u45, u46, u47, u48, u49, u50, u51, u52, u53, u54, u55, u56, u57, u58, t59, t60, t61, u62, u63, u64, u65, u66, u67, u68, u69, u70, u71, u72, u73, u74, u75, u76, u77, u78, u79, u80, u81, u82, u83, u84, u85, u86, u87, u88, u89, u90, u91, u92, u93, u94, u95, u96, u97, u98, u99, u100, u101, u102, u103, u104, u105, u106, u107, u108, u109, u110, u111, u112, u113, u114, t115, t116, t117, u118, u119, u120, u121, u122, u123, u124, u125, u126, u127, u128, u129, u130, u131, u132, u133, u134, u135, u136, u137, u138, u139, u140, u141, t142, t143, u144, u145, u146, t147, t148, u149, u150, u151, u152, u153, u154, u155, u156, u157, u158, u159, u160, u161, u162, u163, t164, t165, t166, u167, u168, u169, u170, u171, u172, u173, u174, u175, u176, u177, u178, u179, u180, t181, t182, t183, u184, u185, u186, u187, u188, u189, u190, u191, u192], []⟩
theorem outR_length : ∀ l : List (Int × ByteArray), (outR l).length = l.length * 2
  | [] => rfl
  | p :: l => by
    have : (outR (p :: l)).length = 2 + (outR l).length := by simp [outR]; omega
    rw [this, outR_length l, List.length_cons]; omega
theorem out_cells' {W : World} {A : Option Addr} {c b n : Nat} {l : List (Int × ByteArray)} (h : W.ownsRow b 35 2 (.slice A n c) n (outR l)) : n ≤ c ∧ ∀ i p, l[i]? = some p → ∃ g, A = some ⟨g, 0, none⟩ ∧ g < W.heap.size ∧ W.cell? ⟨g, i * 2, none⟩ = some (.int .i64 p.1) ∧ W.cell? ⟨g, i * 2 + 1, none⟩ = some (.string p.2) := by
  have hl : l.length = n := by have := h.1; rw [outR_length] at this; omega
  subst hl
  exact out_cells h
theorem box3L {W : World} {p : Nat} {a b c : Value} (h : W.heap[p]? = some (.cells #[a, b, c] 37 (0, 0))) : W.cell? ⟨p, 0, none⟩ = some a ∧ W.cell? ⟨p, 1, none⟩ = some b ∧ W.cell? ⟨p, 2, none⟩ = some c :=
  ⟨by rw [cellBox h]; rfl, by rw [cellBox h]; rfl, by rw [cellBox h]; rfl⟩
theorem box2L {W : World} {p : Nat} {a b : Value} (h : W.heap[p]? = some (.cells #[a, b] 35 (0, 0))) : W.cell? ⟨p, 0, none⟩ = some a ∧ W.cell? ⟨p, 1, none⟩ = some b :=
  ⟨by rw [cellBox h]; rfl, by rw [cellBox h]; rfl⟩
theorem info_net : (Tryz.prog.info? 24).map (·.size) = some 1 := by kernel_rfl
theorem MtS.cellP {w1 W : World} {cs : List Int} {P0 : List Value} {g c : Nat} {L : List BX} {O : Nat → List (Nat × Pkt)} {x : Value} {ls : List LT} (h : MtS w1 W cs P0 (.slice (some ⟨g, 0, none⟩) cs.length c) L O x ls) {i : Nat} (hi : i < cs.length) : W.cell? ⟨g, i, none⟩ = P0[i]? := by
  rw [h.row.cellAt _ (by omega)]
theorem MtS.ptrAt {w1 W : World} {cs : List Int} {P0 : List Value} {rx : Value} {L : List BX} {O : Nat → List (Nat × Pkt)} {x : Value} {ls : List LT} (h : MtS w1 W cs P0 rx L O x ls) {i : Nat} {β : BX} (hi : L[i]? = some β) : P0[i]? = some (.pointer (some ⟨β.b, 0, none⟩)) := by
  rw [← h.ptr]; unfold Ptrs; rw [List.getElem?_map, hi]; rfl
/-- b knows what a claims -/
def Kn (cs : List Int) (L : List BX) (a b : Nat) : Prop := ∀ (γ : BX), L[b]? = some γ → ∀ s, s < 16384 → claimC cs a s = true → γ.v.own s = (a : Int)
theorem Kn.same {cs : List Int} {L L' : List BX} {a b : Nat} (h : Kn cs L a b) (hs : SameV L L') : Kn cs L' a b := fun γ hg s h1 h2 => by
  obtain ⟨γ0, hg0, e⟩ := hs b γ hg
  rw [e]
  exact h γ0 hg0 s h1 h2
theorem Kn.take {cs : List Int} {L L' : List BX} {a b f t : Nat} (h : Kn cs L a b) (hs : ∀ (j : Nat) (γ' : BX), L'[j]? = some γ' → ∃ γ, L[j]? = some γ ∧ ∀ s, s < 16384 → γ'.v.own s = if j = t ∧ claimC cs f s = true then (f : Int) else γ.v.own s) : Kn cs L' a b := fun γ hg s h1 h2 => by
  obtain ⟨γ0, hg0, e⟩ := hs b γ hg
  rw [e s h1]
  split
  · rename_i hc
    rw [claimC_one cs s a f h2 hc.2]
  · exact h γ0 hg0 s h1 h2
theorem Kn.learn {cs : List Int} {L L' : List BX} {f t : Nat} (hs : ∀ (j : Nat) (γ' : BX), L'[j]? = some γ' → ∃ γ, L[j]? = some γ ∧ ∀ s, s < 16384 → γ'.v.own s = if j = t ∧ claimC cs f s = true then (f : Int) else γ.v.own s) : Kn cs L' f t := fun γ hg s h1 h2 => by
  obtain ⟨γ0, hg0, e⟩ := hs t γ hg
  rw [e s h1, if_pos ⟨rfl, h2⟩]
theorem full_ok {cs : List Int} {i : Nat} {v : VS} (hc : cs.length ≤ 6) (h : HN (claimC cs) i v) (hk : ∀ a, a < cs.length → a ≠ i → ∀ s, s < 16384 → claimC cs a s = true → v.own s = (a : Int)) : ∀ s : Nat, s < 64 → v.own s = ownU cs (s : Int) cs.length ∨ (true = false ∧ v.own s = -1) := by
  intro s hs
  refine Or.inl ?_
  obtain ⟨h1, h2⟩ := ownU_lt cs (s : Int) cs.length
  rcases Int.lt_or_le (ownU cs (s : Int) cs.length) 0 with h0 | h0
  · have e : ownU cs (s : Int) cs.length = -1 := by omega
    rw [e]
    rcases h.hon.own s (by omega) with h3 | ⟨j, hj, h3, h4⟩
    · exact h3
    · unfold claimC at h4
      simp only [Bool.and_eq_true, decide_eq_true_eq, beq_iff_eq] at h4
      omega
  · obtain ⟨a, ha⟩ : ∃ a : Nat, ownU cs (s : Int) cs.length = (a : Int) := ⟨_, (Int.toNat_of_nonneg h0).symm⟩
    have hca : claimC cs a s = true := by
      unfold claimC
      simp only [Bool.and_eq_true, decide_eq_true_eq, beq_iff_eq]
      exact ⟨hs, ha⟩
    rw [ha]
    by_cases e : a = i
    · subst e; exact h.hon.all s (by omega) hca
    · exact hk a (by omega) e s (by omega) hca
theorem rem_nat (m n : Nat) : Int.tmod (m : Int) (n : Int) = ((m % n : Nat) : Int) := rfl
theorem eqIn_nil (W : World) (d : Nat) (a : Option Addr) (n c : Nat) : (Op.equalIn (d + 1) 25 (.slice a n c) (.slice none 0 0)).run Tryz.prog W = .ok a.isNone W := by
  cases a <;> simp [Op.equalIn, run_underlying Tryz.underlying25]
theorem eq_nil (W : World) (a : Option Addr) (n c : Nat) : (binOp .eql 25 (.slice a n c) (.slice none 0 0)).run Tryz.prog W = .ok (.bool a.isNone) W := by
  simp only [binOp]
  simp [Op.equal, Op.maxDepth, eqIn_nil W 9999 a n c]
theorem honest_ok {cs : List Int} {i : Nat} {v : VS} (hc : cs.length ≤ 6) (h : HN (claimC cs) i v) : ∀ s : Nat, s < 64 → v.own s = ownU cs (s : Int) cs.length ∨ (false = false ∧ v.own s = -1) := by
  intro s hs
  rcases h.hon.own s (by omega) with h1 | ⟨j, hj, h1, h2⟩
  · exact Or.inr ⟨rfl, h1⟩
  · refine Or.inl ?_
    unfold claimC at h2
    simp only [Bool.and_eq_true, decide_eq_true_eq, beq_iff_eq] at h2
    rw [h1, h2.2]
set_option maxHeartbeats 16000000 in
set_option maxRecDepth 100000 in
theorem meets_calls (w : World) (hE : Env w) {A : Option Addr} {cc : Nat} {cs : List Int} (hcs : Ints w A cs) (hc : cs.length ≤ cc) (hcm : cc ≤ 9223372036854775807) {B : Option Addr} {pc : Nat} {ps : List Int} (hps : Ints w B ps) (hpc : ps.length ≤ pc) (hpm : pc ≤ 9223372036854775807) :
    Calls Tryz.prog 3 #[.agg #[.slice A cs.length cc], (.slice B ps.length pc)] w fun e w' => e = .returned (.bool true) ∧ Below w.heap.size w w' := by
  have hb1 := below_new' w (.cells #[.slice A cs.length cc] 24)
  have hE1 := hE.below hb1
  have hcs1 := hcs.below hb1
  have hps1 := hps.below hb1
  have hbx := heapN w (.cells #[.slice A cs.length cc] 24)
  clear hcs hps
  go_enter Tryz.func3, Tryz.ntmps3
  refine wp_cut (fun a W => (∃ t5 t6 t7 t8 t9 t10 t13 t14 t17 t18 t22 t33 t34 t35 t36 t59 t60 t61 t115 t116 t117 t142 t143 t147 t148 t164 t165 t166 t181 t182 t183, MeA (.slice B ps.length pc) (.pointer (some ⟨w.heap.size, 0, none⟩)) t5 t6 t7 t8 t9 t10 t13 t14 t17 t18 t22 t33 t34 t35 t36 t59 t60 t61 t115 t116 t117 t142 t143 t147 t148 t164 t165 t166 t181 t182 t183 a) ∧ W = (w.alloc (.cells #[.slice A cs.length cc] 24))) ?_ ?_
  · go_wp2_with fail
    exact ⟨⟨_, _, _, _, _, _, _, _, _, _, _, _, _, _, _, _, _, _, _, _, _, _, _, _, _, _, _, _, _, _, _, MeA.mk⟩, trivial⟩
  rintro _ _ ⟨⟨t5, t6, t7, t8, t9, t10, t13, t14, t17, t18, t22, t33, t34, t35, t36, t59, t60, t61, t115, t116, t117, t142, t143, t147, t148, t164, t165, t166, t181, t182, t183, hA⟩, rfl⟩
  cases hA
  generalize hw1 : (w.alloc (.cells #[.slice A cs.length cc] 24)) = w1 at *
  refine wp_cut (fun a W => ∃ rx, (∃ t6 t7 t8 t9 t10 t13 t14 t17 t18 t22 t33 t34 t35 t36 t59 t60 t61 t115 t116 t117 t142 t143 t147 t148 t164 t165 t166 t181 t182 t183, MeA (.slice B ps.length pc) (.pointer (some ⟨w.heap.size, 0, none⟩)) rx t6 t7 t8 t9 t10 t13 t14 t17 t18 t22 t33 t34 t35 t36 t59 t60 t61 t115 t116 t117 t142 t143 t147 t148 t164 t165 t166 t181 t182 t183 a) ∧ Below w1.heap.size w1 W ∧ ((rx = .slice none 0 0 ∧ ¬ (1 ≤ cs.length ∧ cs.length ≤ 6)) ∨ (1 ≤ cs.length ∧ cs.length ≤ 6 ∧ ∃ L, L.length = cs.length ∧ Net w1 W cs L ∧ W.ownsRow w1.heap.size 30 1 rx cs.length (Ptrs L)))) ?_ ?_
  · have u0 : w1.cell? ⟨w.heap.size, 0, none⟩ = some (.slice A cs.length cc) := by rw [cellBox hbx]; rfl
    have hN := Lib.hid (nodes_calls w1 hE1 hcs1 hc hcm)
    clear hbx hb1
    go_wp2_with fail
    refine hN.out.mono ?_
    rintro e w2 ⟨rx, rfl, hb2, hx⟩
    replace hb2 := Lib.hid hb2
    replace hx := Lib.hid hx
    clear hN u0
    go_wp2_with fail
    exact ⟨_, ⟨_, _, _, _, _, _, _, _, _, _, _, _, _, _, _, _, _, _, _, _, _, _, _, _, _, _, _, _, _, _, MeA.mk⟩, hb2.out, hx.out⟩
  rintro _ w2 ⟨rx, ⟨t6, t7, t8, t9, t10, t13, t14, t17, t18, t22, t33, t34, t35, t36, t59, t60, t61, t115, t116, t117, t142, t143, t147, t148, t164, t165, t166, t181, t182, t183, hA⟩, hb2, hx⟩
  cases hA
  refine wp_cut (fun a W => (∃ t6 t7 t8 t9 t10 t13 t14 t17 t18 t22 t33 t34 t35 t36 t59 t60 t61 t115 t116 t117 t142 t143 t147 t148 t164 t165 t166 t181 t182 t183, MeA (.slice B ps.length pc) (.pointer (some ⟨w.heap.size, 0, none⟩)) rx t6 t7 t8 t9 t10 t13 t14 t17 t18 t22 t33 t34 t35 t36 t59 t60 t61 t115 t116 t117 t142 t143 t147 t148 t164 t165 t166 t181 t182 t183 a) ∧ ps.length ≤ 300 ∧ 1 ≤ cs.length ∧ cs.length ≤ 6 ∧ ∃ L, MtS w1 W cs (Ptrs L) rx L (fun _ => []) (.slice none 0 0) []) ?_ ?_
  · have hal := Lib.hid (alive_calls w2 (hE1.below hb2))
    have hbw := Lib.hid (hb1.trans (hb2.mono hb1.size))
    clear hb1 hb2 hbx
    rcases hx with ⟨rfl, -⟩ | ⟨h1, h6, L, hL, hN, hrow⟩
    · have hq := fun W => eq_nil W none 0 0
      simp only [Option.isNone_none] at hq
      go_wp2_with fail
      refine hal.out.mono ?_
      rintro e wz ⟨rfl, hbz⟩
      have hbwz := Lib.hid (hbw.out.trans (hbz.mono hbw.out.size))
      clear hbz
      go_wp2_with fail
      go_ret
      exact ⟨rfl, hbwz.out⟩
    · obtain ⟨g, c, e, -, -⟩ := hrow.form (by omega)
      subst e
      have hS : MtS w1 w2 cs (Ptrs L) (.slice (some ⟨g, 0, none⟩) cs.length c) L (fun _ => []) (.slice none 0 0) [] := ⟨hN.all, hL, hrow, rfl, Lies.nil _ _, fun i β hi => hN.hon i β hi, fun i _ p hp => by cases hp⟩
      replace hS := Lib.hid hS
      clear hN hrow
      have hq := fun W => eq_nil W (some ⟨g, 0, none⟩) cs.length c
      simp only [Option.isNone_some] at hq
      by_cases h3 : 300 < ps.length
      · have d3 : decide ((300 : Int) < (ps.length : Int)) = true := decide_eq_true (by omega)
        go_wp2_with fail
        refine hal.out.mono ?_
        rintro e wz ⟨rfl, hbz⟩
        have hbwz := Lib.hid (hbw.out.trans (hbz.mono hbw.out.size))
        clear hbz
        go_wp2_with fail
        go_ret
        exact ⟨rfl, hbwz.out⟩
      · have d3 : decide ((300 : Int) < (ps.length : Int)) = false := decide_eq_false (by omega)
        go_wp2_with fail
        exact ⟨⟨_, _, _, _, _, _, _, _, _, _, _, _, _, _, _, _, _, _, _, _, _, _, _, _, _, _, _, _, _, _, MeA.mk⟩, by omega, h1, h6, L, hS.out⟩
  clear hx hb2
  rintro _ w3 ⟨⟨t6, t7, t8, t9, t10, t13, t14, t17, t18, t22, t33, t34, t35, t36, t59, t60, t61, t115, t116, t117, t142, t143, t147, t148, t164, t165, t166, t181, t182, t183, hA⟩, h300, h1, h6, L0, hS⟩
  cases hA
  generalize hP0 : Ptrs L0 = P0 at *
  clear hP0
  refine wp_cut (fun a W => (∃ t7 t8 t9 t10 t13 t14 t17 t18 t22 t33 t34 t35 t36 t59 t60 t61 t115 t116 t117 t142 t143 t147 t148 t164 t165 t166 t181 t182 t183, MeA (.slice B ps.length pc) (.pointer (some ⟨w.heap.size, 0, none⟩)) rx (.slice none 0 0) t7 t8 t9 t10 t13 t14 t17 t18 t22 t33 t34 t35 t36 t59 t60 t61 t115 t116 t117 t142 t143 t147 t148 t164 t165 t166 t181 t182 t183 a) ∧ W = w3) ?_ ?_
  · clear hS
    go_wp2_with fail
    exact ⟨⟨_, _, _, _, _, _, _, _, _, _, _, _, _, _, _, _, _, _, _, _, _, _, _, _, _, _, _, _, _, MeA.mk⟩, trivial⟩
  rintro _ _ ⟨⟨t7, t8, t9, t10, t13, t14, t17, t18, t22, t33, t34, t35, t36, t59, t60, t61, t115, t116, t117, t142, t143, t147, t148, t164, t165, t166, t181, t182, t183, hA⟩, rfl⟩
  cases hA
  refine wp_cut (fun a W => ∃ x L O ls, (∃ t6 t7 t8 t9 t10 t13 t14 t17 t18 t22 t33 t34 t35 t36 t59 t60 t61 t115 t116 t117 t142 t143 t147 t148 t164 t165 t166 t181 t182 t183, MeA (.slice B ps.length pc) (.pointer (some ⟨w.heap.size, 0, none⟩)) rx t6 t7 t8 t9 t10 t13 t14 t17 t18 t22 t33 t34 t35 t36 t59 t60 t61 t115 t116 t117 t142 t143 t147 t148 t164 t165 t166 t181 t182 t183 a) ∧ (∀ j, O j = []) ∧ MtS w1 W cs P0 rx L O x ls) ?_ ?_
  · replace hS := Lib.hid hS
    replace hbx := Lib.hid hbx
    clear hb1
    go_wp2_with fail
    refine wp_loop (fun a W => ∃ (i : Nat) (z : Int) (x : Value) (L : List BX) (O : Nat → List (Nat × Pkt)) (ls : List LT), (∃ t7 t8 t9 t10 t13 t14 t17 t18 t22 t36 t59 t60 t61 t115 t116 t117 t142 t143 t147 t148 t164 t165 t166 t181 t182 t183, MeA (.slice B ps.length pc) (.pointer (some ⟨w.heap.size, 0, none⟩)) rx x t7 t8 t9 t10 t13 t14 t17 t18 t22 (.slice B ps.length pc) (.int .i64 (ps.length : Int)) (.int .i64 z) t36 t59 t60 t61 t115 t116 t117 t142 t143 t147 t148 t164 t165 t166 t181 t182 t183 a) ∧ z = (i : Int) ∧ i ≤ ps.length ∧ (∀ j, O j = []) ∧ MtS w1 W cs P0 rx L O x ls ∧ OkL cs ls ∧ ls.length ≤ 2 * i) (fun a _ => ps.length - (intOf (a.tmps.getD 35 undef)).toNat) ?_ ?_
    · exact ⟨0, 0, _, _, _, _, ⟨_, _, _, _, _, _, _, _, _, _, _, _, _, _, _, _, _, _, _, _, _, _, _, _, _, _, MeA.mk⟩, rfl, by omega, fun _ => rfl, hS.out, (fun y hy => by cases hy), Nat.le_refl _⟩
    · clear hS L0
      rintro _ wr ⟨i, z, u6, L, O, ls, ⟨t7, t8, t9, t10, t13, t14, t17, t18, t22, t36, t59, t60, t61, t115, t116, t117, t142, t143, t147, t148, t164, t165, t166, t181, t182, t183, hA⟩, rfl, hi, hO, hM, hk, hls⟩
      cases hA
      by_cases hil : i < ps.length
      · have hgo3 : decide ((i : Int) < (ps.length : Int)) = true := decide_eq_true (by omega)
        have hi0 : (0 : Int) ≤ (i : Int) := by omega
        refine wp_cut (fun a W => (∃ t7 t8 t9 t10 t13 t14 t17 t18 t22 t59 t60 t61 t115 t116 t117 t142 t143 t147 t148 t164 t165 t166 t181 t182 t183, MeA (.slice B ps.length pc) (.pointer (some ⟨w.heap.size, 0, none⟩)) rx u6 t7 t8 t9 t10 t13 t14 t17 t18 t22 (.slice B ps.length pc) (.int .i64 (ps.length : Int)) (.int .i64 (i : Int)) (.bool true) t59 t60 t61 t115 t116 t117 t142 t143 t147 t148 t164 t165 t166 t181 t182 t183 a) ∧ W = wr) ?_ ?_
        · clear hM
          go_wp2_with fail
          exact ⟨⟨_, _, _, _, _, _, _, _, _, _, _, _, _, _, _, _, _, _, _, _, _, _, _, _, _, MeA.mk⟩, trivial⟩
        rintro _ wr ⟨⟨t7, t8, t9, t10, t13, t14, t17, t18, t22, t59, t60, t61, t115, t116, t117, t142, t143, t147, t148, t164, t165, t166, t181, t182, t183, hA⟩, rfl⟩
        cases hA
        refine wp_cut (fun a W => (∃ t7 t8 t9 t10 t13 t14 t17 t18 t22 t36 t59 t60 t61 t115 t116 t117 t142 t143 t147 t148 t164 t165 t166 t181 t182 t183, MeA (.slice B ps.length pc) (.pointer (some ⟨w.heap.size, 0, none⟩)) rx u6 t7 t8 t9 t10 t13 t14 t17 t18 t22 (.slice B ps.length pc) (.int .i64 (ps.length : Int)) (.int .i64 (i : Int)) t36 t59 t60 t61 t115 t116 t117 t142 t143 t147 t148 t164 t165 t166 t181 t182 t183 a) ∧ W = wr) ?_ ?_
        · clear hM
          go_wp2_with fail
          exact ⟨⟨_, _, _, _, _, _, _, _, _, _, _, _, _, _, _, _, _, _, _, _, _, _, _, _, _, _, MeA.mk⟩, trivial⟩
        rintro _ wr ⟨⟨t7, t8, t9, t10, t13, t14, t17, t18, t22, t36, t59, t60, t61, t115, t116, t117, t142, t143, t147, t148, t164, t165, t166, t181, t182, t183, hA⟩, rfl⟩
        cases hA
        refine wp_cut (fun a W => ∃ x L O ls, (∃ t7 t8 t9 t10 t13 t14 t17 t18 t22 t36 t59 t60 t61 t115 t116 t117 t142 t143 t147 t148 t164 t165 t166 t181 t182 t183, MeA (.slice B ps.length pc) (.pointer (some ⟨w.heap.size, 0, none⟩)) rx x t7 t8 t9 t10 t13 t14 t17 t18 t22 (.slice B ps.length pc) (.int .i64 (ps.length : Int)) (.int .i64 (i : Int)) t36 t59 t60 t61 t115 t116 t117 t142 t143 t147 t148 t164 t165 t166 t181 t182 t183 a) ∧ (∀ j, O j = []) ∧ MtS w1 W cs P0 rx L O x ls ∧ OkL cs ls ∧ ls.length ≤ 2 * (i + 1)) ?_ ?_
        · refine wp_block ?_
          obtain ⟨k, hkk⟩ : ∃ k, ps[i]? = some k := ⟨ps[i], List.getElem?_eq_getElem hil⟩
          refine wp_cut (fun a W => (∃ t9 t10 t13 t14 t17 t18 t22 t36 t59 t60 t61 t115 t116 t117 t142 t143 t147 t148 t164 t165 t166 t181 t182 t183, MeA (.slice B ps.length pc) (.pointer (some ⟨w.heap.size, 0, none⟩)) rx u6 (.int .i64 (i : Int)) (.int .i64 k) t9 t10 t13 t14 t17 t18 t22 (.slice B ps.length pc) (.int .i64 (ps.length : Int)) (.int .i64 (i : Int)) t36 t59 t60 t61 t115 t116 t117 t142 t143 t147 t148 t164 t165 t166 t181 t182 t183 a) ∧ W = wr) ?_ ?_
          · obtain ⟨gb, ob, rfl, hg, u0⟩ := (hps1.below hM.all.bel) i k hkk
            clear hM
            go_wp2_with fail
            exact ⟨⟨_, _, _, _, _, _, _, _, _, _, _, _, _, _, _, _, _, _, _, _, _, _, _, _, MeA.mk⟩, trivial⟩
          rintro _ wr ⟨⟨t9, t10, t13, t14, t17, t18, t22, t36, t59, t60, t61, t115, t116, t117, t142, t143, t147, t148, t164, t165, t166, t181, t182, t183, hA⟩, rfl⟩
          cases hA
          obtain ⟨k0, hk0⟩ : ∃ k0 : Nat, max k 0 = (k0 : Int) := ⟨(max k 0).toNat, by omega⟩
          obtain ⟨fr, hfr⟩ : ∃ fr, fr = k0 % cs.length := ⟨_, rfl⟩
          obtain ⟨tn, htn⟩ : ∃ tn, tn = i % cs.length := ⟨_, rfl⟩
          have hfl : fr < cs.length := by rw [hfr]; exact Nat.mod_lt _ (by omega)
          have htl : tn < cs.length := by rw [htn]; exact Nat.mod_lt _ (by omega)
          refine wp_cut (fun a W => (∃ t13 t14 t17 t18 t22 t36 t59 t60 t61 t115 t116 t117 t142 t143 t147 t148 t164 t165 t166 t181 t182 t183, MeA (.slice B ps.length pc) (.pointer (some ⟨w.heap.size, 0, none⟩)) rx u6 (.int .i64 (i : Int)) (.int .i64 k) (.int .i64 (fr : Int)) (.int .i64 (tn : Int)) t13 t14 t17 t18 t22 (.slice B ps.length pc) (.int .i64 (ps.length : Int)) (.int .i64 (i : Int)) t36 t59 t60 t61 t115 t116 t117 t142 t143 t147 t148 t164 t165 t166 t181 t182 t183 a) ∧ MtS w1 W cs P0 rx L O u6 ls) ?_ ?_
          · obtain ⟨gr, cr, e, -, -⟩ := hM.row.form (by omega)
            subst e
            have hM2 := Lib.hid (hM.below (below_drew (Below.refl _ _)))
            have hn0 : ¬ (cs.length : Int) = 0 := by omega
            have hne : ¬ cs = [] := by rintro rfl; simp at h1
            have hr1 : Int.tmod (k0 : Int) (cs.length : Int) = (fr : Int) := by rw [rem_nat, hfr]
            have hr2 : Int.tmod (i : Int) (cs.length : Int) = (tn : Int) := by rw [rem_nat, htn]
            clear hM
            go_wp2_with fail
            refine wp_region_held_drew (S := fun _ => True) (by kernel_rfl) trivial (fun hHeld => ?_)
            have hS0 := hHeld
            generalize World.drew _ = W2 at *
            refine wpAnyH_take (i := 0) (oi := ⟨some 40, _, _, _, _, _⟩) (v := .int .i64 k) rfl (by kernel_rfl) (by kernel_rfl) (by kernel_rfl) (fun _ _ _ h => h) (Or.inl ⟨by rfl, fun W hW => by go_simp⟩) hS0 ?_
            try simp only [Act.put, List.setIfInBounds_toArray, List.set_cons_zero, List.set_cons_succ]
            refine wpAnyH_take (i := 1) (oi := ⟨some 41, _, _, _, _, _⟩) (v := .int .i64 (k0 : Int)) rfl (by kernel_rfl) (by kernel_rfl) (by kernel_rfl) (fun _ _ _ h => h) (Or.inl ⟨by rfl, fun W hW => by go_simp⟩) hS0 ?_
            try simp only [Act.put, List.setIfInBounds_toArray, List.set_cons_zero, List.set_cons_succ]
            refine wpAnyH_take (i := 2) (oi := ⟨some 42, _, _, _, _, _⟩) (v := .slice (some ⟨gr, 0, none⟩) cs.length cr) rfl (by kernel_rfl) (by kernel_rfl) (by kernel_rfl) (fun _ _ _ h => h) (Or.inl ⟨by rfl, fun W hW => by go_simp⟩) hS0 ?_
            try simp only [Act.put, List.setIfInBounds_toArray, List.set_cons_zero, List.set_cons_succ]
            refine wpAnyH_take (i := 3) (oi := ⟨some 43, _, _, _, _, _⟩) (v := .int .i64 (cs.length : Int)) rfl (by kernel_rfl) (by kernel_rfl) (by kernel_rfl) (fun _ _ _ h => h) (Or.inl ⟨by rfl, fun W hW => by go_simp⟩) hS0 ?_
            try simp only [Act.put, List.setIfInBounds_toArray, List.set_cons_zero, List.set_cons_succ]
            refine wpAnyH_take (i := 4) (oi := ⟨some 44, _, _, _, _, _⟩) (v := .int .i64 (fr : Int)) rfl (by kernel_rfl) (by kernel_rfl) (by kernel_rfl) (fun _ _ _ h => h) (Or.inl ⟨by rfl, fun W hW => by go_simp; try exact hne⟩) hS0 ?_
            try simp only [Act.put, List.setIfInBounds_toArray, List.set_cons_zero, List.set_cons_succ]
            refine wpAnyH_take (i := 5) (oi := ⟨some 45, _, _, _, _, _⟩) (v := .int .i64 (i : Int)) rfl (by kernel_rfl) (by kernel_rfl) (by kernel_rfl) (fun _ _ _ h => h) (Or.inl ⟨by rfl, fun W hW => by go_simp⟩) hS0 ?_
            try simp only [Act.put, List.setIfInBounds_toArray, List.set_cons_zero, List.set_cons_succ]
            refine wpAnyH_take (i := 6) (oi := ⟨some 46, _, _, _, _, _⟩) (v := .slice (some ⟨gr, 0, none⟩) cs.length cr) rfl (by kernel_rfl) (by kernel_rfl) (by kernel_rfl) (fun _ _ _ h => h) (Or.inl ⟨by rfl, fun W hW => by go_simp⟩) hS0 ?_
            try simp only [Act.put, List.setIfInBounds_toArray, List.set_cons_zero, List.set_cons_succ]
            refine wpAnyH_take (i := 7) (oi := ⟨some 47, _, _, _, _, _⟩) (v := .int .i64 (cs.length : Int)) rfl (by kernel_rfl) (by kernel_rfl) (by kernel_rfl) (fun _ _ _ h => h) (Or.inl ⟨by rfl, fun W hW => by go_simp⟩) hS0 ?_
            try simp only [Act.put, List.setIfInBounds_toArray, List.set_cons_zero, List.set_cons_succ]
            refine wpAnyH_take (i := 8) (oi := ⟨some 48, _, _, _, _, _⟩) (v := .int .i64 (tn : Int)) rfl (by kernel_rfl) (by kernel_rfl) (by kernel_rfl) (fun _ _ _ h => h) (Or.inl ⟨by rfl, fun W hW => by go_simp; try exact hne⟩) hS0 ?_
            try simp only [Act.put, List.setIfInBounds_toArray, List.set_cons_zero, List.set_cons_succ]
            refine wpAnyH_take (i := 9) (oi := ⟨some 9, _, _, _, _, _⟩) (v := .int .i64 (fr : Int)) rfl (by kernel_rfl) (by kernel_rfl) (by kernel_rfl) (fun _ _ _ h => h) (Or.inl ⟨by rfl, fun W hW => by go_simp⟩) hS0 ?_
            try simp only [Act.put, List.setIfInBounds_toArray, List.set_cons_zero, List.set_cons_succ]
            refine wpAnyH_take (i := 10) (oi := ⟨some 10, _, _, _, _, _⟩) (v := .int .i64 (tn : Int)) rfl (by kernel_rfl) (by kernel_rfl) (by kernel_rfl) (fun _ _ _ h => h) (Or.inl ⟨by rfl, fun W hW => by go_simp⟩) hS0 ?_
            try simp only [Act.put, List.setIfInBounds_toArray, List.set_cons_zero, List.set_cons_succ]
            refine wpAnyH_done (by kernel_rfl) ?_ _
            go_wp2_with fail
            exact ⟨⟨_, _, _, _, _, _, _, _, _, _, _, _, _, _, _, _, _, _, _, _, _, _, MeA.mk⟩, hM2.out⟩
          clear hM hfr htn
          rintro _ W8 ⟨⟨t13, t14, t17, t18, t22, t36, t59, t60, t61, t115, t116, t117, t142, t143, t147, t148, t164, t165, t166, t181, t182, t183, hA⟩, hM⟩
          cases hA
          refine wp_cut (fun a W => ∃ L O, (∃ t13 t14 t17 t18 t22 t36 t59 t60 t61 t115 t116 t117 t142 t143 t147 t148 t164 t165 t166 t181 t182 t183, MeA (.slice B ps.length pc) (.pointer (some ⟨w.heap.size, 0, none⟩)) rx u6 (.int .i64 (i : Int)) (.int .i64 k) (.int .i64 (fr : Int)) (.int .i64 (tn : Int)) t13 t14 t17 t18 t22 (.slice B ps.length pc) (.int .i64 (ps.length : Int)) (.int .i64 (i : Int)) t36 t59 t60 t61 t115 t116 t117 t142 t143 t147 t148 t164 t165 t166 t181 t182 t183 a) ∧ (∀ j, j ≠ fr → O j = []) ∧ (O fr).length ≤ 1 ∧ MtS w1 W cs P0 rx L O u6 ls) ?_ ?_
          · obtain ⟨β, hβ⟩ := hM.get hfl
            obtain ⟨gr, cr, e, u0⟩ := hM.cell hβ
            subst e
            have hP := Lib.hid (mPing_calls hM h6 hβ htl (by rw [hO]; exact Nat.zero_le _))
            clear hM
            go_wp2_with fail
            refine hP.out.mono ?_
            rintro e W9 ⟨n, rfl, L', hM', -⟩
            replace hM' := Lib.hid hM'
            clear hP u0 hβ
            go_wp2_with fail
            refine ⟨L', _, ⟨_, _, _, _, _, _, _, _, _, _, _, _, _, _, _, _, _, _, _, _, _, _, MeA.mk⟩, fun j hj => ?_, ?_, hM'.out⟩
            · unfold upd; rw [if_neg hj]; exact hO j
            · unfold upd; rw [if_pos rfl, hO]; split <;> simp
          clear hM hO O L
          rintro _ W9 ⟨L, O, ⟨t13, t14, t17, t18, t22, t36, t59, t60, t61, t115, t116, t117, t142, t143, t147, t148, t164, t165, t166, t181, t182, t183, hA⟩, hO, hO1, hM⟩
          cases hA
          refine wp_cut (fun a W => ∃ x L O ls, (∃ t13 t14 t17 t18 t22 t36 t59 t60 t61 t115 t116 t117 t142 t143 t147 t148 t164 t165 t166 t181 t182 t183, MeA (.slice B ps.length pc) (.pointer (some ⟨w.heap.size, 0, none⟩)) rx x (.int .i64 (i : Int)) (.int .i64 k) (.int .i64 (fr : Int)) (.int .i64 (tn : Int)) t13 t14 t17 t18 t22 (.slice B ps.length pc) (.int .i64 (ps.length : Int)) (.int .i64 (i : Int)) t36 t59 t60 t61 t115 t116 t117 t142 t143 t147 t148 t164 t165 t166 t181 t182 t183 a) ∧ (∀ j, O j = []) ∧ MtS w1 W cs P0 rx L O x ls ∧ OkL cs ls ∧ ls.length ≤ 2 * i + 1) ?_ ?_
          · obtain ⟨β, hβ⟩ := hM.get hfl
            obtain ⟨gr, cr, e, u0⟩ := hM.cell hβ
            subst e
            have hoo := hM.oo fr hfl
            have hOu := Lib.hid (mOuts_calls hM hβ)
            generalize hos : O fr = os at *
            clear hM
            go_wp2_with fail
            refine hOu.out.mono ?_
            rintro e W10 ⟨Y, cy, rfl, L', hM', -, hrow, -⟩
            replace hM' := Lib.hid hM'
            replace hrow := Lib.hid hrow
            clear hOu u0 hβ
            go_wp2_with fail
            go_loopw [6, 61] (fun s6 sC wr => ∃ j : Nat, j ≤ os.length ∧ sC = .int .i64 j ∧ ∃ ls2 : List LT, MtS w1 wr cs P0 (.slice (some ⟨gr, 0, none⟩) cs.length cr) L' (upd O fr []) s6 ls2 ∧ OkL cs ls2 ∧ ls2.length ≤ ls.length + j ∧ wr.ownsRow 0 35 2 (.slice Y os.length cy) os.length (outR (outL os))) (fun _ sC _ => os.length - (intOf sC).toNat)
            case atStart => exact ⟨0, by omega, rfl, ls, hM'.out, hk, Nat.le_refl _, hrow.out⟩
            case round =>
              clear hM' hrow
              obtain ⟨j, hj, rfl, ls2, hM, hk2, hl2, hrow⟩ := hrel
              by_cases hjl : j < os.length
              · have hgoj : decide ((j : Int) < (os.length : Int)) = true := decide_eq_true (by omega)
                have hj0 : (0 : Int) ≤ (j : Int) := by omega
                obtain ⟨p, hp⟩ : ∃ p, os[j]? = some p := ⟨os[j], List.getElem?_eq_getElem hjl⟩
                obtain ⟨hp1, hp2, hp3⟩ := hoo p (List.mem_of_getElem? hp)
                obtain ⟨hlc, hlq⟩ := out_cells' hrow
                obtain ⟨gy, rfl, hgy, v0, v1⟩ := hlq j _ (outL_get hp)
                generalize hET : encT p.2 = ET at *
                have n1 := below_new' wr (.cells #[.int .i64 (p.1 : Int), .string ET] 35)
                have b1 := heapN wr (.cells #[.int .i64 (p.1 : Int), .string ET] 35)
                have n2 := below_new' (wr.alloc (.cells #[.int .i64 (p.1 : Int), .string ET] 35)) (.cells #[.int .i64 (fr : Int), .int .i64 (p.1 : Int), .string ET] 37)
                have hnews := World.news_of_block (heapN (wr.alloc (.cells #[.int .i64 (p.1 : Int), .string ET] 35)) (.cells #[.int .i64 (fr : Int), .int .i64 (p.1 : Int), .string ET] 37))
                rw [show (wr.alloc (.cells #[.int .i64 (p.1 : Int), .string ET] 35)).heap.size = wr.heap.size + 1 by simp] at hnews
                have hM2 := (hM.below n1).below n2
                have hway := hM2.way
                have hrow2 := pw_own_below (pw_own_below hrow n1) n2
                have hbase := hM2.all.bel.size
                have hlen2 : ls2.length + 1 ≤ 1000000 := by omega
                have hone : ∀ u ∈ [Value.int .i64 (fr : Int), .int .i64 (p.1 : Int), .string ET], u.oneCell' = true := by
                  rw [← hET]; exact fun u hu => ltR_one [LT.mk fr p.1 p.2] u (by simpa [ltR, ltC] using hu)
                replace hM2 := Lib.hid hM2
                replace hrow2 := Lib.hid hrow2
                clear hM hrow n1 b1 n2 hlq hlc
                go_wp2_with (at_builtin; (refine wpList_lies rfl _ _ rfl w1.heap.size hbase rfl hway ⟨wr.heap.size + 1, 0, none⟩ 1 1 [.int .i64 (fr : Int), .int .i64 (p.1 : Int), .string ET] rfl rfl hnews hone hlen2 ?_); refine holdN ?_)
                refine Lib.hid ?_
                intro x3 W3 hL3 hb3 hat3
                have e3 : ltR ls2 ++ [.int .i64 (fr : Int), .int .i64 (p.1 : Int), .string ET] = ltR (ls2 ++ [LT.mk fr p.1 p.2]) := by rw [ltR_app, ← hET]; simp [ltR, ltC]
                have hL3' : Lies W3 w1.heap.size x3 (ls2 ++ [LT.mk fr p.1 p.2]).length (ltR (ls2 ++ [LT.mk fr p.1 p.2])) := by rw [← e3, List.length_append]; exact hL3
                have hM3 := hM2.out.lay hb3 hL3'
                have hrow3 := own_keep hrow2.out hb3 (fun k hk hk2 => by
                  rcases hrow2.out.2 with ⟨e0, -⟩ | ⟨g9, cap9, cur9, e0, -, hg9, -⟩
                  · rw [e0] at hk; simp [Value.ownBlock] at hk
                  · rw [e0] at hk; simp [Value.ownBlock] at hk
                    exact hM2.out.way.ne_type hg9 (by decide) (by rw [hk]; exact hk2))
                replace hM3 := Lib.hid hM3
                replace hrow3 := Lib.hid hrow3
                clear hL3 hL3' hb3 hat3 hM2 hrow2 hway hnews
                go_wp2_with fail
                refine ⟨⟨j + 1, by omega, by go_num, ls2 ++ [LT.mk fr p.1 p.2], hM3.out, hk2.app ?_, by rw [List.length_append]; show ls2.length + 1 ≤ _; omega, hrow3.out⟩, by simp [intOf]; omega⟩
                intro z9 hz9
                obtain rfl : z9 = LT.mk fr p.1 p.2 := by simpa using hz9
                exact ⟨hfl, hp1, fun e => hp2 e.symm, hp3⟩
              · obtain rfl : j = os.length := by omega
                have hgoj : decide ((os.length : Int) < (os.length : Int)) = false := decide_eq_false (by omega)
                replace hM := Lib.hid hM
                clear hrow
                go_wp2_with fail
                exact ⟨_, L', _, ls2, ⟨_, _, _, _, _, _, _, _, _, _, _, _, _, _, _, _, _, _, _, _, _, _, MeA.mk⟩, (fun q => by unfold upd; split; exact rfl; rename_i hq; exact hO q hq), hM.out, hk2, by omega⟩
          clear hM hO hO1 hk hls ls L O
          rintro _ W10 ⟨x, L, O, ls, ⟨t13, t14, t17, t18, t22, t36, t59, t60, t61, t115, t116, t117, t142, t143, t147, t148, t164, t165, t166, t181, t182, t183, hA⟩, hO, hM, hk, hls⟩
          cases hA
          refine wp_cut (fun a W => (∃ t13 t14 t17 t18 t22 t36 t59 t60 t61 t115 t116 t117 t142 t143 t147 t148 t164 t165 t166 t181 t182 t183, MeA (.slice B ps.length pc) (.pointer (some ⟨w.heap.size, 0, none⟩)) rx x (.int .i64 (i : Int)) (.int .i64 k) (.int .i64 (fr : Int)) (.int .i64 (tn : Int)) t13 t14 t17 t18 t22 (.slice B ps.length pc) (.int .i64 (ps.length : Int)) (.int .i64 (i : Int)) t36 t59 t60 t61 t115 t116 t117 t142 t143 t147 t148 t164 t165 t166 t181 t182 t183 a) ∧ W = W10 ∧ 0 < ls.length) ?_ ?_
          · obtain ⟨Ax, cx, e⟩ := hM.way.slice
            subst e
            replace hM := Lib.hid hM
            by_cases h0 : ls.length = 0
            · have hb0 : ((ls.length : Int) == 0) = true := by rw [h0]; rfl
              replace h0 := Lib.hid h0
              go_wp2_with fail
              exact ⟨_, L, O, ls, ⟨_, _, _, _, _, _, _, _, _, _, _, _, _, _, _, _, _, _, _, _, _, _, _, _, _, _, MeA.mk⟩, hO, hM.out, hk, by omega⟩
            · have hb0 : ((ls.length : Int) == 0) = false := beq_eq_false_iff_ne.2 (by omega)
              replace h0 := Lib.hid h0
              go_wp2_with fail
              exact ⟨⟨_, _, _, _, _, _, _, _, _, _, _, _, _, _, _, _, _, _, _, _, _, _, MeA.mk⟩, trivial, by have := h0.out; omega⟩
          rintro _ W11 ⟨⟨t13, t14, t17, t18, t22, t36, t59, t60, t61, t115, t116, t117, t142, t143, t147, t148, t164, t165, t166, t181, t182, t183, hA⟩, rfl, h0⟩
          cases hA
          obtain ⟨ap, hap⟩ : ∃ ap, ap = k0 % ls.length := ⟨_, rfl⟩
          have hal : ap < ls.length := by rw [hap]; exact Nat.mod_lt _ h0
          refine wp_cut (fun a W => (∃ t14 t17 t18 t22 t36 t59 t60 t61 t115 t116 t117 t142 t143 t147 t148 t164 t165 t166 t181 t182 t183, MeA (.slice B ps.length pc) (.pointer (some ⟨w.heap.size, 0, none⟩)) rx x (.int .i64 (i : Int)) (.int .i64 k) (.int .i64 (fr : Int)) (.int .i64 (tn : Int)) (.int .i64 (ap : Int)) t14 t17 t18 t22 (.slice B ps.length pc) (.int .i64 (ps.length : Int)) (.int .i64 (i : Int)) t36 t59 t60 t61 t115 t116 t117 t142 t143 t147 t148 t164 t165 t166 t181 t182 t183 a) ∧ W = W11) ?_ ?_
          · obtain ⟨Ax, cx, e⟩ := hM.way.slice
            subst e
            have hn0 : ¬ (ls.length : Int) = 0 := by omega
            have hne : ¬ ls = [] := by rintro rfl; simp at h0
            have hr1 : Int.tmod (k0 : Int) (ls.length : Int) = (ap : Int) := by rw [rem_nat, hap]
            clear hM hap
            go_wp2_with fail
            exact ⟨⟨_, _, _, _, _, _, _, _, _, _, _, _, _, _, _, _, _, _, _, _, _, MeA.mk⟩, trivial⟩
          clear hap
          rintro _ W12 ⟨⟨t14, t17, t18, t22, t36, t59, t60, t61, t115, t116, t117, t142, t143, t147, t148, t164, t165, t166, t181, t182, t183, hA⟩, rfl⟩
          cases hA
          obtain ⟨y, hy⟩ : ∃ y, ls[ap]? = some y := ⟨ls[ap], List.getElem?_eq_getElem hal⟩
          obtain ⟨hyf, hyt, hyne, hyT⟩ := hk y (List.mem_of_getElem? hy)
          obtain ⟨ET0, hET0⟩ : ∃ E, E = encT y.q := ⟨_, rfl⟩
          replace hET0 := Lib.hid hET0
          refine wp_cut (fun a W => ∃ p14, (∃ t17 t18 t22 t36 t59 t60 t61 t115 t116 t117 t142 t143 t147 t148 t164 t165 t166 t181 t182 t183, MeA (.slice B ps.length pc) (.pointer (some ⟨w.heap.size, 0, none⟩)) rx x (.int .i64 (i : Int)) (.int .i64 k) (.int .i64 (fr : Int)) (.int .i64 (tn : Int)) (.int .i64 (ap : Int)) (.pointer (some ⟨p14, 0, none⟩)) t17 t18 t22 (.slice B ps.length pc) (.int .i64 (ps.length : Int)) (.int .i64 (i : Int)) t36 t59 t60 t61 t115 t116 t117 t142 t143 t147 t148 t164 t165 t166 t181 t182 t183 a) ∧ MtS w1 W cs P0 rx L O x ls ∧ W.heap[p14]? = some (.cells #[.int .i64 (y.f : Int), .int .i64 (y.t : Int), .string ET0] 37 (0, 0)) ∧ x.ownBlock ≠ some p14) ?_ ?_
          · obtain ⟨gx, cx, e, hnc, hcm2, hgl, hcell⟩ := hM.way.cellAt (j := ap * 3) (by omega)
            subst e
            obtain ⟨z0, z1, z2⟩ := ltR_get ls ap y hy
            have u0 := hcell _ _ z0
            have u1 := hcell _ _ z1
            have u2 := hcell _ _ z2
            rw [← hET0.out] at u2
            have n1 := below_new' W12 (.cells #[.int .i64 (y.f : Int), .int .i64 (y.t : Int), .string ET0] 37)
            have hN := Lib.hid (heapN W12 (.cells #[.int .i64 (y.f : Int), .int .i64 (y.t : Int), .string ET0] 37))
            have hM2 := Lib.hid (hM.below n1)
            have hown : (Value.slice (some ⟨gx, 0, none⟩) ls.length cx).ownBlock ≠ some W12.heap.size := fun e => by simp [Value.ownBlock] at e; omega
            replace hown := Lib.hid hown
            have hap0 : (0 : Int) ≤ (ap : Int) := by omega
            clear hM n1 hcell z0 z1 z2 hy
            go_wp2_with fail
            exact ⟨_, ⟨_, _, _, _, _, _, _, _, _, _, _, _, _, _, _, _, _, _, _, _, MeA.mk⟩, hM2.out, hN.out, hown.out⟩
          clear hM
          rintro _ W13 ⟨p14, ⟨t17, t18, t22, t36, t59, t60, t61, t115, t116, t117, t142, t143, t147, t148, t164, t165, t166, t181, t182, t183, hA⟩, hM, hb14, hx14⟩
          cases hA
          refine wp_cut (fun a W => ∃ x ls, (∃ t13 t17 t18 t22 t36 t59 t60 t61 t115 t116 t117 t142 t143 t147 t148 t164 t165 t166 t181 t182 t183, MeA (.slice B ps.length pc) (.pointer (some ⟨w.heap.size, 0, none⟩)) rx x (.int .i64 (i : Int)) (.int .i64 k) (.int .i64 (fr : Int)) (.int .i64 (tn : Int)) t13 (.pointer (some ⟨p14, 0, none⟩)) t17 t18 t22 (.slice B ps.length pc) (.int .i64 (ps.length : Int)) (.int .i64 (i : Int)) t36 t59 t60 t61 t115 t116 t117 t142 t143 t147 t148 t164 t165 t166 t181 t182 t183 a) ∧ MtS w1 W cs P0 rx L O x ls ∧ OkL cs ls ∧ ls.length ≤ 2 * i + 1 ∧ W.heap[p14]? = some (.cells #[.int .i64 (y.f : Int), .int .i64 (y.t : Int), .string ET0] 37 (0, 0)) ∧ x.ownBlock ≠ some p14) ?_ ?_
          · have hr5 : Int.tmod (i : Int) 5 = ((i % 5 : Nat) : Int) := rem_nat i 5
            by_cases h5 : i % 5 = 4
            · have hb5 : (((i % 5 : Nat) : Int) != 4) = false := by rw [h5]; rfl
              have hb5' : ((i : Int) % 5 != 4) = false := hb5
              replace hM := Lib.hid hM
              replace hb14 := Lib.hid hb14
              replace h5 := Lib.hid h5
              go_wp2_with fail
              exact ⟨_, ls, ⟨_, _, _, _, _, _, _, _, _, _, _, _, _, _, _, _, _, _, _, _, _, MeA.mk⟩, hM.out, hk, hls, hb14.out, hx14⟩
            · have hb5 : (((i % 5 : Nat) : Int) != 4) = true := by rw [bne_iff_ne]; omega
              have hb5' : ((i : Int) % 5 != 4) = true := hb5
              obtain ⟨gx, cx, e, hnc, hcm2, hgl, hcell⟩ := hM.way.cellAt (j := ap * 3) (by omega)
              subst e
              have hM2 := hM.below (below_drew (Below.refl _ _))
              have hcut := hM2.way.cut ap (by omega)
              have hdr : (World.drew W13).heap[p14]? = _ := hb14
              have hcell2 : ∀ k u, (ltR ls)[k]? = some u → (World.drew W13).cell? ⟨gx, k, none⟩ = some u := hcell
              have hbase := hM2.all.bel.size
              have hlt14 := blk_lt hdr
              replace hM2 := Lib.hid hM2
              replace hdr := Lib.hid hdr
              replace hcut := Lib.hid hcut
              replace hcell2 := Lib.hid hcell2
              replace hbase := Lib.hid hbase
              replace h5 := Lib.hid h5
              have hap0 : (0 : Int) ≤ (ap : Int) := by omega
              clear hM hb14 hcell
              go_wp2_with fail
              refine wp_region_held_drew (S := fun _ => True) (by kernel_rfl) trivial (fun hHeld => ?_)
              have hS0 := hHeld
              generalize World.drew _ = W2 at *
              have hwr : IntKind.i64.wrap ((ap : Int) + 1) = (ap : Int) + 1 := by rw [IntKind.wrap_i64]; omega
              obtain ⟨ad, had, hnews⟩ : ∃ ad : Addr, (if cx = ap + 1 then some (⟨gx, 0, none⟩ : Addr) else some ⟨gx, (ap + 1) * 3, none⟩) = some ad ∧ ∀ j u, (ltR (ls.drop (ap + 1)))[j]? = some u → W2.cell? (ad.add j) = some u := by
                by_cases hcx : cx = ap + 1
                · refine ⟨_, by rw [if_pos hcx], fun j u hj => ?_⟩
                  rw [List.drop_eq_nil_of_le (by omega)] at hj
                  simp [ltR] at hj
                · refine ⟨_, by rw [if_neg hcx], fun j u hj => ?_⟩
                  rw [Addr.add_mid]
                  rw [← ltR_drop, List.getElem?_drop] at hj
                  exact hcell2.out _ u hj
              refine wpAnyH_take (i := 0) (oi := ⟨some 90, _, _, _, _, _⟩) (v := .slice (some ⟨gx, 0, none⟩) ls.length cx) rfl (by kernel_rfl) (by kernel_rfl) (by kernel_rfl) (fun _ _ _ h => h) (Or.inl ⟨by rfl, fun W hW => by go_simp⟩) hS0 ?_
              try simp only [Act.put, List.setIfInBounds_toArray, List.set_cons_zero, List.set_cons_succ]
              refine wpAnyH_take (i := 1) (oi := ⟨some 91, _, _, _, _, _⟩) (v := .int .i64 (ap : Int)) rfl (by kernel_rfl) (by kernel_rfl) (by kernel_rfl) (fun _ _ _ h => h) (Or.inl ⟨by rfl, fun W hW => by go_simp⟩) hS0 ?_
              try simp only [Act.put, List.setIfInBounds_toArray, List.set_cons_zero, List.set_cons_succ]
              refine wpAnyH_take (i := 2) (oi := ⟨some 92, _, _, _, _, _⟩) (v := .int .i64 (ap : Int)) rfl (by kernel_rfl) (by kernel_rfl) (by kernel_rfl) (fun _ _ _ h => h) (Or.inl ⟨by rfl, fun W hW => by go_simp⟩) hS0 ?_
              try simp only [Act.put, List.setIfInBounds_toArray, List.set_cons_zero, List.set_cons_succ]
              refine wpAnyH_take (i := 3) (oi := ⟨some 93, _, _, _, _, _⟩) (v := .slice (some ⟨gx, 0, none⟩) ap ap) rfl (by kernel_rfl) (by kernel_rfl) (by kernel_rfl) (fun _ _ _ h => h) (Or.inl ⟨by rfl, fun W hW => by go_simp; try (intro h; omega)⟩) hS0 ?_
              try simp only [Act.put, List.setIfInBounds_toArray, List.set_cons_zero, List.set_cons_succ]
              refine wpAnyH_take (i := 4) (oi := ⟨some 94, _, _, _, _, _⟩) (v := .slice (some ⟨gx, 0, none⟩) ls.length cx) rfl (by kernel_rfl) (by kernel_rfl) (by kernel_rfl) (fun _ _ _ h => h) (Or.inl ⟨by rfl, fun W hW => by go_simp⟩) hS0 ?_
              try simp only [Act.put, List.setIfInBounds_toArray, List.set_cons_zero, List.set_cons_succ]
              refine wpAnyH_take (i := 5) (oi := ⟨some 95, _, _, _, _, _⟩) (v := .int .i64 (ap : Int)) rfl (by kernel_rfl) (by kernel_rfl) (by kernel_rfl) (fun _ _ _ h => h) (Or.inl ⟨by rfl, fun W hW => by go_simp⟩) hS0 ?_
              try simp only [Act.put, List.setIfInBounds_toArray, List.set_cons_zero, List.set_cons_succ]
              refine wpAnyH_take (i := 6) (oi := ⟨some 96, _, _, _, _, _⟩) (v := .int .i64 ((ap : Int) + 1)) rfl (by kernel_rfl) (by kernel_rfl) (by kernel_rfl) (fun _ _ _ h => h) (Or.inl ⟨by rfl, fun W hW => by go_simp; try exact hwr⟩) hS0 ?_
              try simp only [Act.put, List.setIfInBounds_toArray, List.set_cons_zero, List.set_cons_succ]
              refine wpAnyH_take (i := 7) (oi := ⟨some 97, _, _, _, _, _⟩) (v := .slice (some ad) (ls.length - (ap + 1)) (cx - (ap + 1))) rfl (by kernel_rfl) (by kernel_rfl) (by kernel_rfl) (fun _ _ _ h => h) (Or.inl ⟨by rfl, fun W hW => by go_simp; try (intro h; exact absurd (h (by omega)) (by omega))⟩) hS0 ?_
              try simp only [Act.put, List.setIfInBounds_toArray, List.set_cons_zero, List.set_cons_succ]
              refine wpAnyH_ready (rs := [8]) (by kernel_rfl) (by simp) ?_
              refine AllReadyH.cons (o := ⟨some 98, _, _, _, _, _⟩) rfl (fun K hK => ?_) AllReadyH.nil
              rw [if_pos (by rfl)]
              refine wp_lies _ _ rfl w1.heap.size hbase.out rfl hcut.out ad (ls.length - (ap + 1)) (cx - (ap + 1)) (ltR (ls.drop (ap + 1))) rfl (by rw [ltR_len, List.length_drop]) hnews (ltR_one _) (by omega) ?_
              intro x3 W3 hL3 hb3 hat3
              refine hK.out _ _ trivial (fun hHeld => ?_)
              clear hK K
              try simp only [Act.put, List.setIfInBounds_toArray, List.set_cons_zero, List.set_cons_succ]
              refine wpAnyH_take (i := 9) (oi := ⟨some 6, _, _, _, _, _⟩) (v := x3) rfl (by kernel_rfl) (by kernel_rfl) (by kernel_rfl) (fun _ _ _ h => h) (Or.inl ⟨by rfl, fun W hW => by go_simp⟩) trivial ?_
              try simp only [Act.put, List.setIfInBounds_toArray, List.set_cons_zero, List.set_cons_succ]
              have e3 : (ltR ls).take (ap * 3) ++ ltR (ls.drop (ap + 1)) = ltR (ls.take ap ++ ls.drop (ap + 1)) := by rw [ltR_app, ltR_take]
              have hln : (ls.take ap ++ ls.drop (ap + 1)).length = ap + (ls.length - (ap + 1)) := by rw [List.length_append, List.length_take, List.length_drop]; omega
              have hL3' : Lies W3 w1.heap.size x3 (ls.take ap ++ ls.drop (ap + 1)).length (ltR (ls.take ap ++ ls.drop (ap + 1))) := by rw [← e3, hln]; exact hL3
              have hM3 := Lib.hid (hM2.out.lay (x := .slice (some ⟨gx, 0, none⟩) ls.length cx) hb3 hL3')
              have hb16 := Lib.hid ((hb3.block _ (blk_lt hdr.out) (fun e => hx14 e)).trans hdr.out)
              have hx16 : x3.ownBlock ≠ some p14 := fun e => by
                rcases hat3 p14 e with h | h
                · exact hx14 h
                · have := blk_lt hdr.out; omega
              replace hx16 := Lib.hid hx16
              have hk3 : OkL cs (ls.take ap ++ ls.drop (ap + 1)) := fun z hz => by
                rcases List.mem_append.1 hz with h | h
                · exact hk z (List.mem_of_mem_take h)
                · exact hk z (List.mem_of_mem_drop h)
              clear hL3 hb3 hat3 hM2 hdr hcut hnews hL3'
              refine wpAnyH_done (by kernel_rfl) ?_ _
              go_wp2_with fail
              exact ⟨_, _, ⟨_, _, _, _, _, _, _, _, _, _, _, _, _, _, _, _, _, _, _, _, _, MeA.mk⟩, hM3.out, hk3, by omega, hb16.out, hx16.out⟩
          clear hM hk hls hb14 hx14 hy hal h0 ls x ap
          rintro _ W14 ⟨x, ls, ⟨t13, t17, t18, t22, t36, t59, t60, t61, t115, t116, t117, t142, t143, t147, t148, t164, t165, t166, t181, t182, t183, hA⟩, hM, hk, hls, hb14, hx14⟩
          cases hA
          have hyt0 : (0 : Int) ≤ (y.t : Int) := by omega
          have hyt1 : (y.t : Int) < (cs.length : Int) := by omega
          refine wp_cut (fun a W => ∃ x L O ls, (∃ t13 t17 t18 t22 t36 t59 t60 t61 t115 t116 t117 t142 t143 t147 t148 t164 t165 t166 t181 t182 t183, MeA (.slice B ps.length pc) (.pointer (some ⟨w.heap.size, 0, none⟩)) rx x (.int .i64 (i : Int)) (.int .i64 k) (.int .i64 (fr : Int)) (.int .i64 (tn : Int)) t13 (.pointer (some ⟨p14, 0, none⟩)) t17 t18 t22 (.slice B ps.length pc) (.int .i64 (ps.length : Int)) (.int .i64 (i : Int)) t36 t59 t60 t61 t115 t116 t117 t142 t143 t147 t148 t164 t165 t166 t181 t182 t183 a) ∧ (∀ j, O j = []) ∧ MtS w1 W cs P0 rx L O x ls ∧ OkL cs ls ∧ ls.length ≤ 2 * i + 2 ∧ W.heap[p14]? = some (.cells #[.int .i64 (y.f : Int), .int .i64 (y.t : Int), .string ET0] 37 (0, 0))) ?_ ?_
          · have hr7 : Int.tmod (i : Int) 7 = ((i % 7 : Nat) : Int) := rem_nat i 7
            by_cases h7 : i % 7 = 6
            · have hb7 : (((i % 7 : Nat) : Int) != 6) = false := by rw [h7]; rfl
              have hb7' : ((i : Int) % 7 != 6) = false := hb7
              replace hM := Lib.hid hM
              replace hb14 := Lib.hid hb14
              replace h7 := Lib.hid h7
              go_wp2_with fail
              exact ⟨_, L, O, ls, ⟨_, _, _, _, _, _, _, _, _, _, _, _, _, _, _, _, _, _, _, _, _, MeA.mk⟩, hO, hM.out, hk, by omega, hb14.out⟩
            · have hb7 : (((i % 7 : Nat) : Int) != 6) = true := by rw [bne_iff_ne]; omega
              have hb7' : ((i : Int) % 7 != 6) = true := hb7
              obtain ⟨β, hβ⟩ := hM.get hyt
              obtain ⟨gr, cr, e, -⟩ := hM.cell hβ
              subst e
              have hM2 := hM.below (below_drew (Below.refl _ _))
              have hdr : (World.drew W14).heap[p14]? = some (.cells #[.int .i64 (y.f : Int), .int .i64 (y.t : Int), .string ET0] 37 (0, 0)) := hb14
              have hu0 := (hM2.cellP hyt).trans (hM2.ptrAt hβ)
              have hP14 := Lib.hid (hM2.ptrAt hβ)
              have hTk := mTake_calls hM2 h6 hβ hyf hyne hyT (by rw [hO]; exact Nat.zero_le _)
              rw [← hET0.out] at hTk
              have hft := foot_type (hM2.all.all _ β hβ) hdr (by decide) (by decide) (by decide)
              have hSs := Lib.hid (And.intro hdr hu0)
              replace hTk := Lib.hid hTk
              replace hft := Lib.hid hft
              replace h7 := Lib.hid h7
              clear hM hM2 hb14 hdr hu0 hβ
              go_wp2_with fail
              refine wp_region_held_drew (S := fun W => W.heap[p14]? = some (.cells #[.int .i64 (y.f : Int), .int .i64 (y.t : Int), .string ET0] 37 (0, 0)) ∧ W.cell? ⟨gr, y.t, none⟩ = some (.pointer (some ⟨β.b, 0, none⟩))) (by kernel_rfl) hSs.out (fun hHeld => ?_)
              have hS0 := hHeld
              clear hHeld
              replace hTk := hTk.out
              clear hSs
              generalize World.drew _ = W2 at *
              refine wpAnyH_take (i := 0) (oi := ⟨some 102, _, _, _, _, _⟩) (v := .slice (some ⟨gr, 0, none⟩) cs.length cr) rfl (by kernel_rfl) (by kernel_rfl) (by kernel_rfl) (fun _ _ _ h => h) (Or.inl ⟨by rfl, fun W hW => by obtain ⟨p0, p1, p2⟩ := box3L hW.1; have q0 := hW.2; go_simp⟩) hS0 ?_
              try simp only [Act.put, List.setIfInBounds_toArray, List.set_cons_zero, List.set_cons_succ]
              refine wpAnyH_take (i := 1) (oi := ⟨some 103, _, _, _, _, _⟩) (v := .pointer (some ⟨p14, 1, none⟩)) rfl (by kernel_rfl) (by kernel_rfl) (by kernel_rfl) (fun _ _ _ h => h) (Or.inl ⟨by rfl, fun W hW => by obtain ⟨p0, p1, p2⟩ := box3L hW.1; have q0 := hW.2; go_simp⟩) hS0 ?_
              try simp only [Act.put, List.setIfInBounds_toArray, List.set_cons_zero, List.set_cons_succ]
              refine wpAnyH_take (i := 2) (oi := ⟨some 104, _, _, _, _, _⟩) (v := .int .i64 (y.t : Int)) rfl (by kernel_rfl) (by kernel_rfl) (by kernel_rfl) (fun _ _ _ h => h) (Or.inl ⟨by rfl, fun W hW => by obtain ⟨p0, p1, p2⟩ := box3L hW.1; have q0 := hW.2; go_simp⟩) hS0 ?_
              try simp only [Act.put, List.setIfInBounds_toArray, List.set_cons_zero, List.set_cons_succ]
              refine wpAnyH_take (i := 3) (oi := ⟨some 105, _, _, _, _, _⟩) (v := .pointer (some ⟨gr, y.t, none⟩)) rfl (by kernel_rfl) (by kernel_rfl) (by kernel_rfl) (fun _ _ _ h => h) (Or.inl ⟨by rfl, fun W hW => by obtain ⟨p0, p1, p2⟩ := box3L hW.1; have q0 := hW.2; go_simp⟩) hS0 ?_
              try simp only [Act.put, List.setIfInBounds_toArray, List.set_cons_zero, List.set_cons_succ]
              refine wpAnyH_take (i := 4) (oi := ⟨some 106, _, _, _, _, _⟩) (v := .pointer (some ⟨β.b, 0, none⟩)) rfl (by kernel_rfl) (by kernel_rfl) (by kernel_rfl) (fun _ _ _ h => h) (Or.inl ⟨by rfl, fun W hW => by obtain ⟨p0, p1, p2⟩ := box3L hW.1; have q0 := hW.2; go_simp⟩) hS0 ?_
              try simp only [Act.put, List.setIfInBounds_toArray, List.set_cons_zero, List.set_cons_succ]
              refine wpAnyH_take (i := 5) (oi := ⟨some 107, _, _, _, _, _⟩) (v := .pointer (some ⟨p14, 2, none⟩)) rfl (by kernel_rfl) (by kernel_rfl) (by kernel_rfl) (fun _ _ _ h => h) (Or.inl ⟨by rfl, fun W hW => by obtain ⟨p0, p1, p2⟩ := box3L hW.1; have q0 := hW.2; go_simp⟩) hS0 ?_
              try simp only [Act.put, List.setIfInBounds_toArray, List.set_cons_zero, List.set_cons_succ]
              refine wpAnyH_take (i := 6) (oi := ⟨some 108, _, _, _, _, _⟩) (v := .string ET0) rfl (by kernel_rfl) (by kernel_rfl) (by kernel_rfl) (fun _ _ _ h => h) (Or.inl ⟨by rfl, fun W hW => by obtain ⟨p0, p1, p2⟩ := box3L hW.1; have q0 := hW.2; go_simp⟩) hS0 ?_
              try simp only [Act.put, List.setIfInBounds_toArray, List.set_cons_zero, List.set_cons_succ]
              refine wpAnyH_ready (rs := [7]) (by kernel_rfl) (by simp) ?_
              refine AllReadyH.cons (o := ⟨some 109, _, _, _, _, _⟩) rfl (fun K hK => ?_) AllReadyH.nil
              rw [if_pos (by rfl)]
              go_simp
              refine hTk.mono ?_
              rintro e W3 ⟨rfl, L3, qs, hM3, -, hpl, -, hbut3, -⟩
              obtain ⟨β3, hβ3⟩ := hM3.get hyt
              have hbb : (Value.pointer (some ⟨β3.b, 0, none⟩)) = .pointer (some ⟨β.b, 0, none⟩) := by
                have h1 := hM3.ptrAt hβ3
                rw [hP14.out] at h1
                injection h1 with h1
                exact h1.symm
              have hS2 : W3.heap[p14]? = some (.cells #[.int .i64 (y.f : Int), .int .i64 (y.t : Int), .string ET0] 37 (0, 0)) ∧ W3.cell? ⟨gr, y.t, none⟩ = some (.pointer (some ⟨β3.b, 0, none⟩)) := ⟨(hbut3.block _ (blk_lt hS0.1) (fun e => hft.out e)).trans hS0.1, (hM3.cellP hyt).trans (hM3.ptrAt hβ3)⟩
              replace hM3 := Lib.hid hM3
              replace hS2 := Lib.hid hS2
              clear hTk hbut3 hS0
              go_wp2_with fail
              refine hK.out _ _ ⟨hS2.out.1, by rw [← hbb]; exact hS2.out.2⟩ (fun hHeld => ?_)
              clear hK K hHeld
              replace hM3 := hM3.out
              replace hS2 := hS2.out
              try simp only [Act.put, List.setIfInBounds_toArray, List.set_cons_zero, List.set_cons_succ]
              refine wpAnyH_done (by kernel_rfl) ?_ _
              have hb14 := hS2.1
              obtain ⟨w0', w1', w2'⟩ := box3L hb14
              have u0 := hS2.2
              have hne14 : ¬ p14 = β3.b := fun e => foot_type (hM3.all.all _ β3 hβ3) hb14 (by decide) (by decide) (by decide) (Or.inl e)
              replace hb14 := Lib.hid hb14
              clear hbb hP14 hft
              have hoo := hM3.oo y.t hyt
              have hOu := Lib.hid (mOuts_calls hM3 hβ3)
              obtain ⟨os, hos⟩ : ∃ os, os = upd O y.t (O y.t ++ qs.map fun p => (y.f, p)) y.t := ⟨_, rfl⟩
              rw [← hos] at hoo hOu
              have hlos : os.length ≤ 1 := by
                rw [hos]; unfold upd; rw [if_pos rfl, hO, List.nil_append, List.length_map, hpl]; split <;> omega
              have hOo : ∀ q, upd (upd O y.t (O y.t ++ qs.map fun p => (y.f, p))) y.t [] q = [] := fun q => by
                unfold upd
                by_cases e : q = y.t
                · rw [if_pos e]
                · rw [if_neg e, if_neg e]; exact hO q
              replace hOo := Lib.hid hOo
              replace hO := Lib.hid hO
              clear hM3 hpl hos hS2 hβ3
              generalize upd O y.t (O y.t ++ qs.map fun p => (y.f, p)) = O3 at *
              go_wp2_with fail
              refine hOu.out.mono ?_
              rintro e W10 ⟨Y, cy, rfl, L', hM', -, hrow, -, hbut10⟩
              have hb10 := Lib.hid ((hbut10.block _ (blk_lt hb14.out) (fun e => hne14 e)).trans hb14.out)
              replace hM' := Lib.hid hM'
              replace hrow := Lib.hid hrow
              clear hOu u0 hbut10 hb14 w0' w1' w2'
              have hb14 := hb10
              clear hb10
              go_wp2_with fail
              go_loopw [6, 117] (fun s6 sC wr => ∃ j : Nat, j ≤ os.length ∧ sC = .int .i64 j ∧ ∃ ls2 : List LT, MtS w1 wr cs P0 (.slice (some ⟨gr, 0, none⟩) cs.length cr) L' (upd O3 y.t []) s6 ls2 ∧ OkL cs ls2 ∧ ls2.length ≤ ls.length + j ∧ wr.ownsRow 0 35 2 (.slice Y os.length cy) os.length (outR (outL os)) ∧ wr.heap[p14]? = some (.cells #[.int .i64 (y.f : Int), .int .i64 (y.t : Int), .string ET0] 37 (0, 0)) ∧ s6.ownBlock ≠ some p14) (fun _ sC _ => os.length - (intOf sC).toNat)
              case atStart => exact ⟨0, by omega, rfl, ls, hM'.out, hk, Nat.le_refl _, hrow.out, hb14.out, hx14⟩
              case round =>
                clear hM' hrow hb14 hx14
                obtain ⟨j, hj, rfl, ls2, hM, hk2, hl2, hrow, hb14, hx14⟩ := hrel
                by_cases hjl : j < os.length
                · have hgoj : decide ((j : Int) < (os.length : Int)) = true := decide_eq_true (by omega)
                  have hj0 : (0 : Int) ≤ (j : Int) := by omega
                  obtain ⟨p, hp⟩ : ∃ p, os[j]? = some p := ⟨os[j], List.getElem?_eq_getElem hjl⟩
                  obtain ⟨hp1, hp2, hp3⟩ := hoo p (List.mem_of_getElem? hp)
                  obtain ⟨hlc, hlq⟩ := out_cells' hrow
                  obtain ⟨gy, rfl, hgy, v0, v1⟩ := hlq j _ (outL_get hp)
                  generalize hET : encT p.2 = ET at *
                  have n1 := below_new' wr (.cells #[.int .i64 (p.1 : Int), .string ET] 35)
                  have b1 := heapN wr (.cells #[.int .i64 (p.1 : Int), .string ET] 35)
                  have n2 := below_new' (wr.alloc (.cells #[.int .i64 (p.1 : Int), .string ET] 35)) (.cells #[.int .i64 (y.t : Int), .int .i64 (p.1 : Int), .string ET] 37)
                  have hnews := World.news_of_block (heapN (wr.alloc (.cells #[.int .i64 (p.1 : Int), .string ET] 35)) (.cells #[.int .i64 (y.t : Int), .int .i64 (p.1 : Int), .string ET] 37))
                  rw [show (wr.alloc (.cells #[.int .i64 (p.1 : Int), .string ET] 35)).heap.size = wr.heap.size + 1 by simp] at hnews
                  have hM2 := (hM.below n1).below n2
                  have hway := hM2.way
                  have hrow2 := pw_own_below (pw_own_below hrow n1) n2
                  have hbase := hM2.all.bel.size
                  have hlen2 : ls2.length + 1 ≤ 1000000 := by omega
                  have hone : ∀ u ∈ [Value.int .i64 (y.t : Int), .int .i64 (p.1 : Int), .string ET], u.oneCell' = true := by
                    rw [← hET]; exact fun u hu => ltR_one [LT.mk y.t p.1 p.2] u (by simpa [ltR, ltC] using hu)
                  have hb15 := (n2.block _ (blk_lt ((n1.block _ (blk_lt hb14)).trans hb14))).trans ((n1.block _ (blk_lt hb14)).trans hb14)
                  have hlt14 := blk_lt hb14
                  have w1' := (box3L hb14).2.1
                  replace hb15 := Lib.hid hb15
                  clear hb14
                  replace hM2 := Lib.hid hM2
                  replace hrow2 := Lib.hid hrow2
                  clear hM hrow n1 b1 n2 hlq hlc
                  go_wp2_with (at_builtin; (refine wpList_lies rfl _ _ rfl w1.heap.size hbase rfl hway ⟨wr.heap.size + 1, 0, none⟩ 1 1 [.int .i64 (y.t : Int), .int .i64 (p.1 : Int), .string ET] rfl rfl hnews hone hlen2 ?_); refine holdN ?_)
                  refine Lib.hid ?_
                  intro x3 W3 hL3 hb3 hat3
                  have e3 : ltR ls2 ++ [.int .i64 (y.t : Int), .int .i64 (p.1 : Int), .string ET] = ltR (ls2 ++ [LT.mk y.t p.1 p.2]) := by rw [ltR_app, ← hET]; simp [ltR, ltC]
                  have hL3' : Lies W3 w1.heap.size x3 (ls2 ++ [LT.mk y.t p.1 p.2]).length (ltR (ls2 ++ [LT.mk y.t p.1 p.2])) := by rw [← e3, List.length_append]; exact hL3
                  have hM3 := hM2.out.lay hb3 hL3'
                  have hrow3 := own_keep hrow2.out hb3 (fun k hk hk2 => by
                    rcases hrow2.out.2 with ⟨e0, -⟩ | ⟨g9, cap9, cur9, e0, -, hg9, -⟩
                    · rw [e0] at hk; simp [Value.ownBlock] at hk
                    · rw [e0] at hk; simp [Value.ownBlock] at hk
                      exact hM2.out.way.ne_type hg9 (by decide) (by rw [hk]; exact hk2))
                  have hb16 := Lib.hid ((hb3.block _ (blk_lt hb15.out) (fun e => hx14 e)).trans hb15.out)
                  have hx16 : x3.ownBlock ≠ some p14 := fun e => by
                    rcases hat3 p14 e with h | h
                    · exact hx14 h
                    · (try simp at h); omega
                  replace hx16 := Lib.hid hx16
                  clear hb15 hx14 w1'
                  replace hM3 := Lib.hid hM3
                  replace hrow3 := Lib.hid hrow3
                  clear hL3 hL3' hb3 hat3 hM2 hrow2 hway hnews
                  go_wp2_with fail
                  refine ⟨⟨j + 1, by omega, by go_num, ls2 ++ [LT.mk y.t p.1 p.2], hM3.out, hk2.app ?_, by rw [List.length_append]; show ls2.length + 1 ≤ _; omega, hrow3.out, hb16.out, hx16.out⟩, by simp [intOf]; omega⟩
                  intro z9 hz9
                  obtain rfl : z9 = LT.mk y.t p.1 p.2 := by simpa using hz9
                  exact ⟨hyt, hp1, fun e => hp2 e.symm, hp3⟩
                · obtain rfl : j = os.length := by omega
                  have hgoj : decide ((os.length : Int) < (os.length : Int)) = false := decide_eq_false (by omega)
                  replace hM := Lib.hid hM
                  replace hb14 := Lib.hid hb14
                  clear hrow
                  go_wp2_with fail
                  exact ⟨_, L', _, ls2, ⟨_, _, _, _, _, _, _, _, _, _, _, _, _, _, _, _, _, _, _, _, _, MeA.mk⟩, hOo.out, hM.out, hk2, by omega, hb14.out⟩
          clear hM hk hls hb14 hx14 hO O L ls x
          rintro _ W15 ⟨x, L, O, ls, ⟨t13, t17, t18, t22, t36, t59, t60, t61, t115, t116, t117, t142, t143, t147, t148, t164, t165, t166, t181, t182, t183, hA⟩, hO, hM, hk, hls, hb14⟩
          cases hA
          obtain ⟨β, hβ⟩ := hM.get hyt
          obtain ⟨gr, cr, e, -⟩ := hM.cell hβ
          subst e
          have hM2 := hM.below (below_drew (Below.refl _ _))
          have hdr : (World.drew W15).heap[p14]? = some (.cells #[.int .i64 (y.f : Int), .int .i64 (y.t : Int), .string ET0] 37 (0, 0)) := hb14
          have hu0 := (hM2.cellP hyt).trans (hM2.ptrAt hβ)
          have hnet := (hM2.all.bel.block _ (blk_lt hbx.out)).trans hbx.out
          have hAg := Lib.hid (agree_calls (World.drew W15) (hM2.all.all _ β hβ) (hcs1.below hM2.all.bel) hc hcm false (honest_ok h6 (hM2.hn _ β hβ).1))
          have hSs := Lib.hid (And.intro hdr (And.intro hu0 hnet))
          replace hM2 := Lib.hid hM2
          clear hM hb14 hdr hu0 hβ hnet
          go_wp2_with fail
          refine wp_region_held_drew (S := fun W => W.heap[p14]? = some (.cells #[.int .i64 (y.f : Int), .int .i64 (y.t : Int), .string ET0] 37 (0, 0)) ∧ W.cell? ⟨gr, y.t, none⟩ = some (.pointer (some ⟨β.b, 0, none⟩)) ∧ W.heap[w.heap.size]? = some (.cells #[.slice A cs.length cc] 24 (0, 0))) (by kernel_rfl) hSs.out (fun hHeld => ?_)
          have hS0 := hHeld
          clear hHeld
          replace hAg := hAg.out
          replace hM2 := hM2.out
          clear hSs
          generalize World.drew _ = W2 at *
          refine wpAnyH_take (i := 0) (oi := ⟨some 132, _, _, _, _, _⟩) (v := .slice (some ⟨gr, 0, none⟩) cs.length cr) rfl (by kernel_rfl) (by kernel_rfl) (by kernel_rfl) (fun _ _ _ h => h) (Or.inl ⟨by rfl, fun W hW => by obtain ⟨p0, p1, p2⟩ := box3L hW.1; have q0 := hW.2.1; go_simp⟩) hS0 ?_
          try simp only [Act.put, List.setIfInBounds_toArray, List.set_cons_zero, List.set_cons_succ]
          refine wpAnyH_take (i := 1) (oi := ⟨some 133, _, _, _, _, _⟩) (v := .pointer (some ⟨p14, 1, none⟩)) rfl (by kernel_rfl) (by kernel_rfl) (by kernel_rfl) (fun _ _ _ h => h) (Or.inl ⟨by rfl, fun W hW => by obtain ⟨p0, p1, p2⟩ := box3L hW.1; have q0 := hW.2.1; go_simp⟩) hS0 ?_
          try simp only [Act.put, List.setIfInBounds_toArray, List.set_cons_zero, List.set_cons_succ]
          refine wpAnyH_take (i := 2) (oi := ⟨some 134, _, _, _, _, _⟩) (v := .int .i64 (y.t : Int)) rfl (by kernel_rfl) (by kernel_rfl) (by kernel_rfl) (fun _ _ _ h => h) (Or.inl ⟨by rfl, fun W hW => by obtain ⟨p0, p1, p2⟩ := box3L hW.1; have q0 := hW.2.1; go_simp⟩) hS0 ?_
          try simp only [Act.put, List.setIfInBounds_toArray, List.set_cons_zero, List.set_cons_succ]
          refine wpAnyH_take (i := 3) (oi := ⟨some 135, _, _, _, _, _⟩) (v := .pointer (some ⟨gr, y.t, none⟩)) rfl (by kernel_rfl) (by kernel_rfl) (by kernel_rfl) (fun _ _ _ h => h) (Or.inl ⟨by rfl, fun W hW => by obtain ⟨p0, p1, p2⟩ := box3L hW.1; have q0 := hW.2.1; go_simp⟩) hS0 ?_
          try simp only [Act.put, List.setIfInBounds_toArray, List.set_cons_zero, List.set_cons_succ]
          refine wpAnyH_take (i := 4) (oi := ⟨some 136, _, _, _, _, _⟩) (v := .pointer (some ⟨β.b, 0, none⟩)) rfl (by kernel_rfl) (by kernel_rfl) (by kernel_rfl) (fun _ _ _ h => h) (Or.inl ⟨by rfl, fun W hW => by obtain ⟨p0, p1, p2⟩ := box3L hW.1; have q0 := hW.2.1; go_simp⟩) hS0 ?_
          try simp only [Act.put, List.setIfInBounds_toArray, List.set_cons_zero, List.set_cons_succ]
          refine wpAnyH_take (i := 5) (oi := ⟨some 137, _, _, _, _, _⟩) (v := .agg #[.slice A cs.length cc]) rfl (by kernel_rfl) (by kernel_rfl) (by kernel_rfl) (fun _ _ _ h => h) (yields_row (by rfl) 24 (.tmp 2) rfl w.heap.size rfl 24 #[.slice A cs.length cc] (0, 0) _ (fun W hW => hW.2.2) Tryz.underlying24 rfl info_net) hS0 ?_
          try simp only [Act.put, List.setIfInBounds_toArray, List.set_cons_zero, List.set_cons_succ]
          refine wpAnyH_ready (rs := [6]) (by kernel_rfl) (by simp) ?_
          refine AllReadyH.cons (o := ⟨some 138, _, _, _, _, _⟩) rfl (fun K hK => ?_) AllReadyH.nil
          rw [if_pos (by rfl)]
          go_simp
          refine hAg.mono ?_
          rintro e W3 ⟨rfl, hb3⟩
          have hM3 := Lib.hid (hM2.below hb3)
          have hS2 : W3.heap[p14]? = some (.cells #[.int .i64 (y.f : Int), .int .i64 (y.t : Int), .string ET0] 37 (0, 0)) ∧ W3.cell? ⟨gr, y.t, none⟩ = some (.pointer (some ⟨β.b, 0, none⟩)) ∧ W3.heap[w.heap.size]? = some (.cells #[.slice A cs.length cc] 24 (0, 0)) := ⟨(hb3.block _ (blk_lt hS0.1)).trans hS0.1, (hM3.out.cellP hyt).trans ((hM2.cellP hyt).symm.trans hS0.2.1), (hb3.block _ (blk_lt hS0.2.2)).trans hS0.2.2⟩
          replace hS2 := Lib.hid hS2
          clear hAg hb3 hS0 hM2
          go_wp2_with fail
          refine hK.out _ _ hS2.out (fun hHeld => ?_)
          clear hK K hHeld
          have hS0 := hS2.out
          try simp only [Act.put, List.setIfInBounds_toArray, List.set_cons_zero, List.set_cons_succ]
          refine wpAnyH_take (i := 7) (oi := ⟨some 139, _, _, _, _, _⟩) (v := .bool false) rfl (by kernel_rfl) (by kernel_rfl) (by kernel_rfl) (fun _ _ _ h => h) (Or.inl ⟨by rfl, fun W hW => by obtain ⟨p0, p1, p2⟩ := box3L hW.1; have q0 := hW.2.1; go_simp⟩) hS0 ?_
          try simp only [Act.put, List.setIfInBounds_toArray, List.set_cons_zero, List.set_cons_succ]
          refine wpAnyH_done (by kernel_rfl) ?_ _
          go_wp2_with fail
          exact ⟨x, L, O, ls, ⟨_, _, _, _, _, _, _, _, _, _, _, _, _, _, _, _, _, _, _, _, _, _, _, _, _, _, MeA.mk⟩, hO, hM3.out, hk, by omega⟩
        rintro _ W16 ⟨x, L, O, ls, ⟨t7, t8, t9, t10, t13, t14, t17, t18, t22, t36, t59, t60, t61, t115, t116, t117, t142, t143, t147, t148, t164, t165, t166, t181, t182, t183, hA⟩, hO, hM, hk, hls⟩
        cases hA
        replace hM := Lib.hid hM
        go_wp2_with fail
        exact ⟨⟨i + 1, _, x, L, O, ls, ⟨_, _, _, _, _, _, _, _, _, _, _, _, _, _, _, _, _, _, _, _, _, _, _, _, _, _, MeA.mk⟩, by omega, by omega, hO, hM.out, hk, by omega⟩, by simp [intOf]; omega⟩
      · obtain rfl : i = ps.length := by omega
        have hgo3 : decide ((ps.length : Int) < (ps.length : Int)) = false := decide_eq_false (by omega)
        replace hM := Lib.hid hM
        go_wp2_with fail
        exact ⟨_, L, O, ls, ⟨_, _, _, _, _, _, _, _, _, _, _, _, _, _, _, _, _, _, _, _, _, _, _, _, _, _, _, _, _, _, MeA.mk⟩, hO, hM.out⟩
  clear hS L0
  rintro _ W4 ⟨x0, L0, O0, ls0, ⟨t6, t7, t8, t9, t10, t13, t14, t17, t18, t22, t33, t34, t35, t36, t59, t60, t61, t115, t116, t117, t142, t143, t147, t148, t164, t165, t166, t181, t182, t183, hA⟩, hO, hS⟩
  cases hA
  refine wp_cut (fun a W => ∃ x L O ls, (∃ t6 t7 t8 t9 t10 t13 t14 t17 t18 t22 t33 t34 t35 t36 t59 t60 t61 t115 t116 t117 t142 t143 t147 t148 t164 t165 t166 t181 t182 t183, MeA (.slice B ps.length pc) (.pointer (some ⟨w.heap.size, 0, none⟩)) rx t6 t7 t8 t9 t10 t13 t14 t17 t18 t22 t33 t34 t35 t36 t59 t60 t61 t115 t116 t117 t142 t143 t147 t148 t164 t165 t166 t181 t182 t183 a) ∧ MtS w1 W cs P0 rx L O x ls ∧ (∀ a b, a < cs.length → b < cs.length → a ≠ b → Kn cs L a b)) ?_ ?_
  · obtain ⟨gr, cr, e, -, -⟩ := hS.row.form (by omega)
    subst e
    replace hS := Lib.hid hS
    replace hbx := Lib.hid hbx
    replace hO := Lib.hid hO
    clear hb1
    go_wp2_with fail
    go_loopw [143] (fun sC wr => ∃ f : Nat, f ≤ cs.length ∧ sC = .int .i64 f ∧ ∃ x L O ls, MtS w1 wr cs P0 (.slice (some ⟨gr, 0, none⟩) cs.length cr) L O x ls ∧ (∀ j, ∀ p ∈ O j, p.2.kind = 2) ∧ (∀ j, (O j).length ≤ f * 6) ∧ (∀ a b, a < f → b < cs.length → a ≠ b → Kn cs L a b)) (fun sC _ => cs.length - (intOf sC).toNat)
    case atStart => exact ⟨0, by omega, rfl, _, _, _, _, hS.out, (fun j p hp => by rw [hO.out] at hp; cases hp), (fun j => by rw [hO.out]; exact Nat.zero_le _), fun a b ha => by omega⟩
    case round =>
      clear hS hO
      obtain ⟨f, hf, rfl, x, L, O, ls, hM, hki, hle, hkn⟩ := hrel
      by_cases hfl : f < cs.length
      · have hgof : decide ((f : Int) < (cs.length : Int)) = true := decide_eq_true (by omega)
        have hf0 : (0 : Int) ≤ (f : Int) := by omega
        have hf1 : (f : Int) < (cs.length : Int) := by omega
        replace hM := Lib.hid hM
        replace hki := Lib.hid hki
        replace hle := Lib.hid hle
        replace hkn := Lib.hid hkn
        go_wp2_with fail
        go_loopw [148] (fun sC wr => ∃ t : Nat, t ≤ cs.length ∧ sC = .int .i64 t ∧ ∃ x L O ls, MtS w1 wr cs P0 (.slice (some ⟨gr, 0, none⟩) cs.length cr) L O x ls ∧ (∀ j, ∀ p ∈ O j, p.2.kind = 2) ∧ (∀ j, (O j).length ≤ f * 6 + t) ∧ (∀ a b, (a < f ∨ (a = f ∧ b < t)) → b < cs.length → a ≠ b → Kn cs L a b)) (fun sC _ => cs.length - (intOf sC).toNat)
        case atStart => exact ⟨0, by omega, rfl, x, L, O, ls, hM.out, hki.out, fun j => by have := hle.out j; omega, fun a b h => hkn.out a b (by omega)⟩
        case round =>
          clear hM hki hle hkn
          obtain ⟨t, ht, rfl, x, L, O, ls, hM, hki, hle, hkn⟩ := hrel
          by_cases htl : t < cs.length
          · have hgot : decide ((t : Int) < (cs.length : Int)) = true := decide_eq_true (by omega)
            by_cases hft : f = t
            · subst hft
              have hbe : ((f : Int) != (f : Int)) = false := by simp
              replace hM := Lib.hid hM
              replace hki := Lib.hid hki
              replace hle := Lib.hid hle
              replace hkn := Lib.hid hkn
              go_wp2_with fail
              exact ⟨⟨f + 1, by omega, by go_num, x, L, O, ls, hM.out, hki.out, fun j => by have := hle.out j; omega, fun a b h hb hne => hkn.out a b (by omega) hb hne⟩, by simp [intOf]; omega⟩
            · have hbe : ((f : Int) != (t : Int)) = true := by rw [bne_iff_ne]; omega
              obtain ⟨β, hβ⟩ := hM.get hfl
              have u0 := (hM.cellP hfl).trans (hM.ptrAt hβ)
              have hP := mPing_calls hM h6 hβ htl (by have := hle f; omega)
              rw [if_neg (fun e => hft e.symm)] at hP
              have hq1 : (tellV β.v 1).kind = 1 := rfl
              generalize tellV β.v 1 = q0 at *
              replace hP := Lib.hid hP
              replace hki := Lib.hid hki
              replace hle := Lib.hid hle
              replace hkn := Lib.hid hkn
              replace hft := Lib.hid hft
              clear hM hβ
              go_wp2_with fail
              refine hP.out.mono ?_
              rintro e W5 ⟨n, rfl, L5, hM5, hsv5⟩
              obtain ⟨β5, hβ5⟩ := hM5.get hfl
              have u5 := (hM5.cellP hfl).trans (hM5.ptrAt hβ5)
              have hOu := mOuts_calls hM5 hβ5
              have hoo := hM5.oo f hfl
              rw [show upd O f (O f ++ [(t, q0)]) f = O f ++ [(t, q0)] by unfold upd; rw [if_pos rfl]] at hOu hoo
              have hO6 : ∀ j, upd (upd O f (O f ++ [(t, q0)])) f [] j = if j = f then [] else O j := fun j => by
                unfold upd; split
                · rfl
                · rfl
              generalize upd (upd O f (O f ++ [(t, q0)])) f [] = O6 at *
              obtain ⟨os, hos⟩ : ∃ os, os = O f ++ [(t, q0)] := ⟨_, rfl⟩
              have hlo : os.length = (O f).length + 1 := by rw [hos]; simp
              have hlast : ∀ j p, os[j]? = some p → (j = (O f).length ∧ p = (t, q0)) ∨ (j < (O f).length ∧ p.2.kind = 2) := fun j p hp => by
                rw [hos] at hp
                rcases Nat.lt_or_ge j (O f).length with h | h
                · rw [List.getElem?_append_left h] at hp
                  exact Or.inr ⟨h, hki.out f p (List.mem_of_getElem? hp)⟩
                · rw [List.getElem?_append_right h] at hp
                  rcases Nat.eq_zero_or_pos (j - (O f).length) with h0 | h0
                  · rw [h0] at hp
                    exact Or.inl ⟨by omega, by simpa using hp.symm⟩
                  · rw [List.getElem?_eq_none (by show 1 ≤ j - (O f).length; exact h0)] at hp; cases hp
              rw [← hos] at hOu hoo
              have hki6 : ∀ j, ∀ p ∈ O6 j, p.2.kind = 2 := fun j p hp => by
                rw [hO6] at hp; split at hp
                · cases hp
                · exact hki.out j p hp
              have hle6 : ∀ j, (O6 j).length ≤ f * 6 + t := fun j => by
                rw [hO6]; split
                · exact Nat.zero_le _
                · exact hle.out j
              replace hOu := Lib.hid hOu
              replace hki6 := Lib.hid hki6
              replace hle6 := Lib.hid hle6
              replace hlast := Lib.hid hlast
              replace hlo := Lib.hid hlo
              replace hsv5 := Lib.hid hsv5
              have hlef := Lib.hid (hle.out f)
              clear hP hM5 hβ5 u0 hos hO6 hki hle
              go_wp2_with fail
              refine hOu.out.mono ?_
              rintro e W6 ⟨Y, cy, rfl, L6, hM6, hsv6, hrow, haw, -⟩
              have hst : ∃ x L O ls, MtS w1 W6 cs P0 (.slice (some ⟨gr, 0, none⟩) cs.length cr) L O x ls ∧ (∀ j, ∀ p ∈ O j, p.2.kind = 2) ∧ (∀ j, (O j).length ≤ f * 6 + t + 0) ∧ (∀ a b, (a < f ∨ (a = f ∧ b < t)) → b < cs.length → a ≠ b → Kn cs L a b) ∧ W6.ownsRow 0 35 2 (.slice Y os.length cy) os.length (outR (outL os)) ∧ (∀ k, (Value.slice Y os.length cy).ownBlock = some k → ∀ (j : Nat) (γ : BX), L[j]? = some γ → ¬ γ.ft k) :=
                ⟨x, L6, O6, ls, hM6, hki6.out, hle6.out, fun a b h hb hne => ((hkn.out a b h hb hne).same hsv5.out).same hsv6, hrow, haw⟩
              have hos9 : os.length ≤ 1000 := by have h8 := hlo.out; have h9 := hlef.out; omega
              replace hst := Lib.hid hst
              clear hOu hM6 hsv6 hrow haw hki6 hle6 hkn hsv5 u5
              go_wp2_with fail
              go_loopw [166] (fun sC wr => ∃ j : Nat, j ≤ os.length ∧ sC = .int .i64 j ∧ ∃ x L O ls, MtS w1 wr cs P0 (.slice (some ⟨gr, 0, none⟩) cs.length cr) L O x ls ∧ (∀ j, ∀ p ∈ O j, p.2.kind = 2) ∧ (∀ q, (O q).length ≤ f * 6 + t + (if j = os.length then 1 else 0)) ∧ (∀ a b, (a < f ∨ (a = f ∧ b < t)) → b < cs.length → a ≠ b → Kn cs L a b) ∧ (j = os.length → Kn cs L f t) ∧ wr.ownsRow 0 35 2 (.slice Y os.length cy) os.length (outR (outL os)) ∧ (∀ k, (Value.slice Y os.length cy).ownBlock = some k → ∀ (j : Nat) (γ : BX), L[j]? = some γ → ¬ γ.ft k)) (fun sC _ => os.length - (intOf sC).toNat)
              case atStart =>
                obtain ⟨x, L, O, ls, g1, g2, g3, g4, g5, g6⟩ := hst.out
                exact ⟨0, by omega, rfl, x, L, O, ls, g1, g2, fun q => Nat.le_trans (g3 q) (by omega), g4, fun e => by have := hlo.out; omega, g5, g6⟩
              case round =>
                clear hst
                obtain ⟨j, hj, rfl, x, L, O9, ls, hM, hki, hle, hkn, hkl, hrow, haw⟩ := hrel
                by_cases hjl : j < os.length
                · have hgoj : decide ((j : Int) < (os.length : Int)) = true := decide_eq_true (by omega)
                  have hj0 : (0 : Int) ≤ (j : Int) := by omega
                  obtain ⟨p, hp⟩ : ∃ p, os[j]? = some p := ⟨os[j], List.getElem?_eq_getElem hjl⟩
                  obtain ⟨hp1, hp2, hp3⟩ := hoo p (List.mem_of_getElem? hp)
                  have hcase := hlast.out j p hp
                  obtain ⟨hlc, hlq⟩ := out_cells' hrow
                  obtain ⟨gy, rfl, hgy, v0, v1⟩ := hlq j _ (outL_get hp)
                  obtain ⟨β, hβ⟩ := hM.get hp1
                  have hlj := hle p.1
                  rw [if_neg (by omega)] at hlj
                  have n1 := below_new' wr (.cells #[.int .i64 (p.1 : Int), .string (encT p.2)] 35)
                  have nd := below_drew (Below.refl (wr.alloc (.cells #[.int .i64 (p.1 : Int), .string (encT p.2)] 35)).heap.size (wr.alloc (.cells #[.int .i64 (p.1 : Int), .string (encT p.2)] 35)))
                  have hM2 := (hM.below n1).below nd
                  have hrow2 := pw_own_below (pw_own_below hrow n1) nd
                  have hbo := (nd.block _ (blk_lt (heapN wr (.cells #[.int .i64 (p.1 : Int), .string (encT p.2)] 35)))).trans (heapN wr (.cells #[.int .i64 (p.1 : Int), .string (encT p.2)] 35))
                  have hfr : ¬ β.ft wr.heap.size := fun e => by have := ft_lt (hM.all.all _ β hβ) _ e; omega
                  have hu0 := (hM2.cellP hp1).trans (hM2.ptrAt hβ)
                  have hTk := mTake_calls hM2 h6 hβ hfl (fun e => hp2 e.symm) hp3 (by omega)
                  have hPP := Lib.hid (hM2.ptrAt hβ)
                  have hβh := Lib.hid hβ
                  have hp0 : (0 : Int) ≤ (p.1 : Int) := by omega
                  have hp1' : (p.1 : Int) < (cs.length : Int) := by omega
                  have hgyd : gy < (World.drew (wr.alloc (.cells #[.int .i64 (p.1 : Int), .string (encT p.2)] 35))).heap.size := Nat.lt_of_lt_of_le hgy (Nat.le_trans n1.size nd.size)
                  replace hcase := Lib.hid hcase
                  generalize encT p.2 = ET at *
                  have hSs := Lib.hid (And.intro hbo hu0)
                  replace hTk := Lib.hid hTk
                  replace hrow2 := Lib.hid hrow2
                  replace hfr := Lib.hid hfr
                  replace hki := Lib.hid hki
                  replace hle := Lib.hid hle
                  replace hkn := Lib.hid hkn
                  replace haw := Lib.hid haw
                  replace hgyd := Lib.hid hgyd
                  replace hp2 := Lib.hid hp2
                  clear hM hM2 hrow n1 nd hbo hu0 hlq hlc hkl hlj hβ hp
                  go_wp2_with fail
                  refine wp_region_held_drew (S := fun W => W.heap[wr.heap.size]? = some (.cells #[.int .i64 (p.1 : Int), .string ET] 35 (0, 0)) ∧ W.cell? ⟨gr, p.1, none⟩ = some (.pointer (some ⟨β.b, 0, none⟩))) (by kernel_rfl) hSs.out (fun hHeld => ?_)
                  have hS0 := hHeld
                  clear hHeld hSs v0 v1
                  replace hTk := hTk.out
                  generalize World.drew _ = W2 at *
                  generalize wr.heap.size = p20 at *
                  refine wpAnyH_take (i := 0) (oi := ⟨some 170, _, _, _, _, _⟩) (v := .slice (some ⟨gr, 0, none⟩) cs.length cr) rfl (by kernel_rfl) (by kernel_rfl) (by kernel_rfl) (fun _ _ _ h => h) (Or.inl ⟨by rfl, fun W hW => by obtain ⟨p0, p1⟩ := box2L hW.1; have q0 := hW.2; go_simp⟩) hS0 ?_
                  try simp only [Act.put, List.setIfInBounds_toArray, List.set_cons_zero, List.set_cons_succ]
                  refine wpAnyH_take (i := 1) (oi := ⟨some 171, _, _, _, _, _⟩) (v := .pointer (some ⟨p20, 0, none⟩)) rfl (by kernel_rfl) (by kernel_rfl) (by kernel_rfl) (fun _ _ _ h => h) (Or.inl ⟨by rfl, fun W hW => by obtain ⟨p0, p1⟩ := box2L hW.1; have q0 := hW.2; go_simp⟩) hS0 ?_
                  try simp only [Act.put, List.setIfInBounds_toArray, List.set_cons_zero, List.set_cons_succ]
                  refine wpAnyH_take (i := 2) (oi := ⟨some 172, _, _, _, _, _⟩) (v := .int .i64 (p.1 : Int)) rfl (by kernel_rfl) (by kernel_rfl) (by kernel_rfl) (fun _ _ _ h => h) (Or.inl ⟨by rfl, fun W hW => by obtain ⟨p0, p1⟩ := box2L hW.1; have q0 := hW.2; go_simp⟩) hS0 ?_
                  try simp only [Act.put, List.setIfInBounds_toArray, List.set_cons_zero, List.set_cons_succ]
                  refine wpAnyH_take (i := 3) (oi := ⟨some 173, _, _, _, _, _⟩) (v := .pointer (some ⟨gr, p.1, none⟩)) rfl (by kernel_rfl) (by kernel_rfl) (by kernel_rfl) (fun _ _ _ h => h) (Or.inl ⟨by rfl, fun W hW => by obtain ⟨p0, p1⟩ := box2L hW.1; have q0 := hW.2; go_simp⟩) hS0 ?_
                  try simp only [Act.put, List.setIfInBounds_toArray, List.set_cons_zero, List.set_cons_succ]
                  refine wpAnyH_take (i := 4) (oi := ⟨some 174, _, _, _, _, _⟩) (v := .pointer (some ⟨β.b, 0, none⟩)) rfl (by kernel_rfl) (by kernel_rfl) (by kernel_rfl) (fun _ _ _ h => h) (Or.inl ⟨by rfl, fun W hW => by obtain ⟨p0, p1⟩ := box2L hW.1; have q0 := hW.2; go_simp⟩) hS0 ?_
                  try simp only [Act.put, List.setIfInBounds_toArray, List.set_cons_zero, List.set_cons_succ]
                  refine wpAnyH_take (i := 5) (oi := ⟨some 175, _, _, _, _, _⟩) (v := .pointer (some ⟨p20, 1, none⟩)) rfl (by kernel_rfl) (by kernel_rfl) (by kernel_rfl) (fun _ _ _ h => h) (Or.inl ⟨by rfl, fun W hW => by obtain ⟨p0, p1⟩ := box2L hW.1; have q0 := hW.2; go_simp⟩) hS0 ?_
                  try simp only [Act.put, List.setIfInBounds_toArray, List.set_cons_zero, List.set_cons_succ]
                  refine wpAnyH_take (i := 6) (oi := ⟨some 176, _, _, _, _, _⟩) (v := .string ET) rfl (by kernel_rfl) (by kernel_rfl) (by kernel_rfl) (fun _ _ _ h => h) (Or.inl ⟨by rfl, fun W hW => by obtain ⟨p0, p1⟩ := box2L hW.1; have q0 := hW.2; go_simp⟩) hS0 ?_
                  try simp only [Act.put, List.setIfInBounds_toArray, List.set_cons_zero, List.set_cons_succ]
                  refine wpAnyH_ready (rs := [7]) (by kernel_rfl) (by simp) ?_
                  refine AllReadyH.cons (o := ⟨some 177, _, _, _, _, _⟩) rfl (fun K hK => ?_) AllReadyH.nil
                  rw [if_pos (by rfl)]
                  go_simp
                  refine hTk.mono ?_
                  rintro e W3 ⟨rfl, L3, qs, hM3, hqk, hpl, hown, hbut3, hfeet⟩
                  have hS2 : W3.heap[p20]? = some (.cells #[.int .i64 (p.1 : Int), .string ET] 35 (0, 0)) ∧ W3.cell? ⟨gr, p.1, none⟩ = some (.pointer (some ⟨β.b, 0, none⟩)) := ⟨(hbut3.block _ (blk_lt hS0.1) (fun e => hfr.out e)).trans hS0.1, (hM3.cellP hp1).trans hPP.out⟩
                  have hrow3 := own_keep hrow2.out hbut3 (fun k hk hk2 => haw.out k hk p.1 β hβh.out hk2)
                  have haw3 : ∀ k, (Value.slice (some ⟨gy, 0, none⟩) os.length cy).ownBlock = some k → ∀ (j : Nat) (γ : BX), L3[j]? = some γ → ¬ γ.ft k := fun k hk q γ hq hf => by
                    rcases hfeet q γ hq k hf with ⟨γ0, hg0, hf0⟩ | h
                    · exact haw.out k hk q γ0 hg0 hf0
                    · simp [Value.ownBlock] at hk
                      have := hgyd.out
                      omega
                  have hfin : ∃ x L O ls, MtS w1 W3 cs P0 (.slice (some ⟨gr, 0, none⟩) cs.length cr) L O x ls ∧ (∀ j, ∀ p ∈ O j, p.2.kind = 2) ∧ (∀ q, (O q).length ≤ f * 6 + t + (if j + 1 = os.length then 1 else 0)) ∧ (∀ a b, (a < f ∨ (a = f ∧ b < t)) → b < cs.length → a ≠ b → Kn cs L a b) ∧ (j + 1 = os.length → Kn cs L f t) ∧ W3.ownsRow 0 35 2 (.slice (some ⟨gy, 0, none⟩) os.length cy) os.length (outR (outL os)) ∧ (∀ k, (Value.slice (some ⟨gy, 0, none⟩) os.length cy).ownBlock = some k → ∀ (j : Nat) (γ : BX), L[j]? = some γ → ¬ γ.ft k) := by
                    refine ⟨x, L3, _, ls, hM3, fun q p' hp' => ?_, fun q => ?_, fun a b h hb hne => (hkn.out a b h hb hne).take hown, fun e => ?_, hrow3, haw3⟩
                    · unfold upd at hp'
                      split at hp'
                      · rcases List.mem_append.1 hp' with h | h
                        · exact hki.out _ p' h
                        · obtain ⟨z, hz, rfl⟩ := List.mem_map.1 h
                          exact hqk z hz
                      · exact hki.out q p' hp'
                    · have h1 := hle.out q
                      have h2 := hle.out p.1
                      rw [if_neg (by omega)] at h1 h2
                      have h3 := hlo.out
                      unfold upd
                      split
                      · rw [List.length_append, List.length_map, hpl]
                        rcases hcase.out with ⟨c1, c2⟩ | ⟨c1, c2⟩
                        · rw [if_pos (show p.2.kind = 1 by rw [c2]; exact hq1)]
                          split <;> omega
                        · rw [if_neg (show ¬ p.2.kind = 1 by rw [c2]; decide)]
                          split <;> omega
                      · split <;> omega
                    · rcases hcase.out with ⟨c1, c2⟩ | ⟨c1, c2⟩
                      · have e1 : p.1 = t := by rw [c2]
                        rw [← e1]
                        exact Kn.learn hown
                      · have := hlo.out; omega
                  replace hfin := Lib.hid hfin
                  replace hS2 := Lib.hid hS2
                  clear hTk hbut3 hS0 hM3 hown hfeet hrow3 haw3 hpl hqk hrow2 hki hle hkn haw
                  clear hoo hp1 hp3 hq1 hp0 hp1' hPP hβh hfr hgyd hcase hp2 hlast hlo
                  go_wp2_with fail
                  refine hK.out _ _ hS2.out (fun hHeld => ?_)
                  clear hK K hHeld hS2
                  try simp only [Act.put, List.setIfInBounds_toArray, List.set_cons_zero, List.set_cons_succ]
                  refine wpAnyH_done (by kernel_rfl) ?_ _
                  go_wp2_with fail
                  refine ⟨⟨j + 1, by omega, by go_num, hfin.out⟩, by simp [intOf]; omega⟩
                · obtain rfl : j = os.length := by omega
                  have hgoj : decide ((os.length : Int) < (os.length : Int)) = false := decide_eq_false (by omega)
                  have hkl := Lib.hid (hkl rfl)
                  replace hM := Lib.hid hM
                  replace hki := Lib.hid hki
                  replace hle := Lib.hid hle
                  replace hkn := Lib.hid hkn
                  clear hrow haw
                  go_wp2_with fail
                  refine ⟨⟨t + 1, by omega, by go_num, x, L, O9, ls, hM.out, hki.out, fun q => ?_, fun a b h hb hne => ?_⟩, by simp [intOf]; omega⟩
                  · have := hle.out q; rw [if_pos rfl] at this; omega
                  · by_cases e : a = f ∧ b = t
                    · rw [e.1, e.2]; exact hkl.out
                    · exact hkn.out a b (by omega) hb hne
          · obtain rfl : t = cs.length := by omega
            have hgot : decide ((cs.length : Int) < (cs.length : Int)) = false := decide_eq_false (by omega)
            replace hM := Lib.hid hM
            replace hki := Lib.hid hki
            replace hle := Lib.hid hle
            replace hkn := Lib.hid hkn
            go_wp2_with fail
            exact ⟨⟨f + 1, by omega, by go_num, x, L, O, ls, hM.out, hki.out, fun q => by have := hle.out q; omega, fun a b h hb hne => hkn.out a b (by omega) hb hne⟩, by simp [intOf]; omega⟩
      · obtain rfl : f = cs.length := by omega
        have hgof : decide ((cs.length : Int) < (cs.length : Int)) = false := decide_eq_false (by omega)
        replace hM := Lib.hid hM
        replace hkn := Lib.hid hkn
        clear hki hle
        go_wp2_with fail
        exact ⟨x, L, O, ls, ⟨_, _, _, _, _, _, _, _, _, _, _, _, _, _, _, _, _, _, _, _, _, _, _, _, _, _, _, _, _, _, MeA.mk⟩, hM.out, hkn.out⟩
  clear hS hO
  rintro _ W5 ⟨x, L, O, ls, ⟨t6, t7, t8, t9, t10, t13, t14, t17, t18, t22, t33, t34, t35, t36, t59, t60, t61, t115, t116, t117, t142, t143, t147, t148, t164, t165, t166, t181, t182, t183, hA⟩, hM, hkn⟩
  cases hA
  refine wp_cut (fun a W => (∃ t5 t6 t7 t8 t9 t10 t13 t14 t17 t18 t22 t33 t34 t35 t36 t59 t60 t61 t115 t116 t117 t142 t143 t147 t148 t164 t165 t166 t181 t182 t183, MeA (.slice B ps.length pc) (.pointer (some ⟨w.heap.size, 0, none⟩)) t5 t6 t7 t8 t9 t10 t13 t14 t17 t18 t22 t33 t34 t35 t36 t59 t60 t61 t115 t116 t117 t142 t143 t147 t148 t164 t165 t166 t181 t182 t183 a) ∧ Below w1.heap.size w1 W) ?_ ?_
  · obtain ⟨gr, cr, e, -, -⟩ := hM.row.form (by omega)
    subst e
    have hbel := Lib.hid hM.all.bel
    replace hM := Lib.hid hM
    replace hbx := Lib.hid hbx
    replace hkn := Lib.hid hkn
    clear hb1
    go_wp2_with fail
    go_loopw [183] (fun sC wr => ∃ i : Nat, i ≤ cs.length ∧ sC = .int .i64 i ∧ Below W5.heap.size W5 wr) (fun sC _ => cs.length - (intOf sC).toNat)
    case atStart => exact ⟨0, by omega, rfl, Below.refl _ _⟩
    case round =>
      obtain ⟨i, hi, rfl, hb⟩ := hrel
      by_cases hil : i < cs.length
      · have hgoi : decide ((i : Int) < (cs.length : Int)) = true := decide_eq_true (by omega)
        have hi0 : (0 : Int) ≤ (i : Int) := by omega
        have hM2 := hM.out.below hb
        obtain ⟨β, hβ⟩ := hM2.get hil
        have u0 := (hM2.cellP hil).trans (hM2.ptrAt hβ)
        have hnet := (hM2.all.bel.block _ (blk_lt hbx.out)).trans hbx.out
        have un : wr.cell? ⟨w.heap.size, 0, none⟩ = some (.slice A cs.length cc) := by rw [cellBox hnet]; rfl
        have hAg := Lib.hid (agree_calls wr (hM2.all.all _ β hβ) (hcs1.below hM2.all.bel) hc hcm true (full_ok h6 (hM2.hn _ β hβ).1 (fun a ha hne s hs hcl => hkn.out a i ha hil hne β hβ s hs hcl)))
        replace hb := Lib.hid hb
        clear hM2 hβ hnet
        go_wp2_with fail
        refine hAg.out.mono ?_
        rintro e W6 ⟨rfl, hb6⟩
        have hb7 := Lib.hid (hb.out.trans (hb6.mono hb.out.size))
        clear hAg hb6 hb u0 un
        go_wp2_with fail
        exact ⟨⟨i + 1, by omega, by go_num, hb7.out⟩, by simp [intOf]; omega⟩
      · obtain rfl : i = cs.length := by omega
        have hgoi : decide ((cs.length : Int) < (cs.length : Int)) = false := decide_eq_false (by omega)
        have hfin := Lib.hid (hbel.out.trans (hb.mono hbel.out.size))
        clear hb
        go_wp2_with fail
        exact ⟨⟨_, _, _, _, _, _, _, _, _, _, _, _, _, _, _, _, _, _, _, _, _, _, _, _, _, _, _, _, _, _, _, MeA.mk⟩, hfin.out⟩
  clear hM hkn
  rintro _ W6 ⟨⟨t5, t6, t7, t8, t9, t10, t13, t14, t17, t18, t22, t33, t34, t35, t36, t59, t60, t61, t115, t116, t117, t142, t143, t147, t148, t164, t165, t166, t181, t182, t183, hA⟩, hbel⟩
  cases hA
  have hal := Lib.hid (alive_calls W6 (hE1.below hbel))
  have hbw := Lib.hid (hb1.trans (hbel.mono hb1.size))
  clear hbel hb1 hbx
  go_wp2_with fail
  refine hal.out.mono ?_
  rintro e wz ⟨rfl, hbz⟩
  have hbwz := Lib.hid (hbw.out.trans (hbz.mono hbw.out.size))
  clear hbz
  go_wp2_with fail
  go_ret
  exact ⟨rfl, hbwz.out⟩
end Go.Proofs.YtgdcnenlelckhaaGreatDoor

namespace Go.Proofs.YtgdcnenlelckhaaGreatDoor
open Go Go.ChangeShapes Go.WideShapes Go.ChangeAt Go.RowKit Go.Deep Go.Proofs.YtgdcnenlelckhaaGreatDoorW.PrintWords
section
variable {H : Type} {enc : TypeId × Value → H} {W : World} {b : Nat} {v : Value} {d : DataW H} {p : List MemPlace}
theorem m_spot {w : World} {b o : Nat} {sp : Option Nat} {v : Value} (h : w.cell? ⟨b, o, sp⟩ = some v) : sp = none := by
  cases sp with
  | none => rfl
  | some x =>
    unfold World.cell? at h
    split at h <;> simp at h
theorem m_int {n : Nat} {x : Value} {z : DataW H × List MemPlace} (h : DataW.trod enc Tryz.prog W 0 (fun _ => true) true n 3 [x] = some z) : ∃ a, x = .int .i64 a := by
  obtain ⟨a, h1, _, h2⟩ := DataW.trod_int Tryz.underlying3 h
  cases h1
  exact ⟨a, rfl⟩
set_option maxRecDepth 100000 in
theorem m_ints {cell : Value} {fuel : Nat} {x : DataW H × List MemPlace} (h : DataW.trod enc Tryz.prog W 0 (fun _ => true) true fuel 22 [cell] = some x) :
    ∃ A c l, cell = .slice A (l : List Int).length c ∧ Ints W A l ∧ l.length ≤ c ∧ c ≤ 9223372036854775807 := by
  rcases open_slice Tryz.underlying22 h with ⟨h0, -⟩ | ⟨a, len, cap, m, n, D, Pl, hcs, -, hl, hm, hmm, hd, hx⟩
  · simp only [List.cons.injEq, and_true] at h0
    subst h0
    exact ⟨none, 0, [], rfl, fun i L h => by simp at h, Nat.le_refl _, Nat.zero_le _⟩
  · simp only [List.cons.injEq, and_true] at hcs
    subst hcs
    simp only [if_true] at hmm
    have h1 : Tryz.prog.cellsOf 3 = 1 := by kernel_rfl
    rw [h1] at hx
    obtain ⟨F, hF⟩ := choose_lt (α := Int) (p := fun i z => W.cell? (a.add i) = some (.int .i64 z)) (n := len) (fun i hi => by
      obtain ⟨cs', h1, h2⟩ := hx i (by omega)
      obtain ⟨_, hlen, hc⟩ := World.cells?_some h1
      match cs', hlen with
      | [c0], _ =>
        obtain ⟨z, rfl⟩ := m_int h2
        have h0 := hc 0 (by decide)
        refine ⟨z, ?_⟩
        rw [show i * 1 = i by omega] at h0
        have e : (Addr.add (Addr.add a i) 0) = Addr.add a i := by simp [Addr.add]
        rw [e] at h0
        exact h0)
    have hxl : ((List.range len).map F).length = len := by simp
    refine ⟨some a, cap, (List.range len).map F, by rw [hxl], fun i z hz => ?_, by rw [hxl]; exact hl, by unfold maxLen at hm; omega⟩
    obtain ⟨hi, hLx⟩ := List.getElem?_eq_some_iff.1 hz
    rw [hxl] at hi
    simp only [List.getElem_map, List.getElem_range] at hLx
    subst hLx
    obtain ⟨g, o, sp⟩ := a
    have hsp : sp = none := by
      have h0 := hF 0 (by omega)
      have : (Addr.add ⟨g, o, sp⟩ 0) = ⟨g, o, sp⟩ := by simp [Addr.add]
      rw [this] at h0
      exact m_spot h0
    subst hsp
    have hc := hF i hi
    rw [Addr.add_mid] at hc
    exact ⟨g, o, rfl, World.block_lt_of_cell? (u := .int .i64 (F i)) W _ hc, hc⟩
set_option maxRecDepth 100000 in
theorem open_picks (hv : Value.okWide Tryz.prog W .any b 22 v) (h : DataW.Trod enc Tryz.prog W 0 (fun _ => true) true 22 v d p) :
    ∃ A c l, v = .slice A (l : List Int).length c ∧ Ints W A l ∧ l.length ≤ c ∧ c ≤ 9223372036854775807 := by
  obtain ⟨A0, len0, cap0, rfl⟩ := okWide_slice Tryz.underlying22 hv
  obtain ⟨fuel, hf⟩ := h
  exact m_ints (fuel := fuel) hf
set_option maxRecDepth 100000 in
theorem open_net (hv : Value.okWide Tryz.prog W .any b 24 v) (h : DataW.Trod enc Tryz.prog W 0 (fun _ => true) true 24 v d p) :
    ∃ A c l, v = .agg #[.slice A (l : List Int).length c] ∧ Ints W A l ∧ l.length ≤ c ∧ c ≤ 9223372036854775807 := by
  obtain ⟨cs, rfl, hsz⟩ := okWide_struct Tryz.underlying24 hv
  obtain ⟨fuel, hf⟩ := h
  have h1 : Tryz.prog.cellsOf 24 = 1 := by kernel_rfl
  have hf' : DataW.trod enc Tryz.prog W 0 (fun _ => true) true fuel 24 cs.toList = some (d, p) := hf
  obtain ⟨xs, n, _, _, _, hl, hx⟩ := DataW.trod_struct Tryz.underlying24 hf'
  rw [h1] at hsz
  obtain ⟨c0, rfl⟩ : ∃ c0, cs = #[c0] := by
    obtain ⟨l⟩ := cs
    match l, hsz with
    | [c0], _ => exact ⟨c0, rfl⟩
  have h0 := hx 0 _ rfl
  have hc : Tryz.prog.cellsOf 22 = 1 := by kernel_rfl
  have hlt : 0 < xs.length := by rw [hl]; decide
  rw [List.getElem?_eq_getElem hlt] at h0
  have h2 : DataW.trod enc Tryz.prog W 0 (fun _ => true) true n 22 ((([c0] : List Value).drop 0).take (Tryz.prog.cellsOf 22)) = some xs[0] := h0
  rw [hc] at h2
  obtain ⟨A, c, l, rfl, g1, g2, g3⟩ := m_ints h2
  exact ⟨A, c, l, rfl, g1, g2, g3⟩
end
set_option maxRecDepth 100000 in
theorem BusMeets_walk (A : Option Addr) (c : Nat) (l : List Int) (B : Option Addr) (pc : Nat) (ps : List Int) (W : World) (hE : Env W) (hl : Ints W A l) (hc : l.length ≤ c) (hcm : c ≤ 9223372036854775807) (hp : Ints W B ps) (hpc : ps.length ≤ pc) (hpm : pc ≤ 9223372036854775807) :
    Calls Tryz.prog 3 #[.agg #[.slice A l.length c], .slice B ps.length pc] W fun e w' => e = .returned (.bool true) ∧ Below W.heap.size W w' :=
  meets_calls W hE hl hc hcm hp hpc hpm
end Go.Proofs.YtgdcnenlelckhaaGreatDoor
