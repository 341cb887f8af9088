/- slot.Make: of ranges that are in order the slots that they cover; else none. Conditions: none. -/
import Derived.Test.YtnlchdjknebmfaaDoorSlG
import Derived.Test.YtnlchdjknebmfaaDoorSlT
set_option linter.unusedVariables false
set_option linter.unusedSimpArgs false
namespace Go.Proofs.YtnlchdjknebmfaaDoor
open Go.RowKit Go.Proofs.YtnlchdjknebmfaaDoorW.PrintWords
open SlT
/-- A slice of ranges reads as this list. -/
def RdR (w : World) (A : Option Addr) (l : List (Int × Int)) : Prop :=
  ∀ k p, l[k]? = some p → ∃ g o, A = some ⟨g, o, none⟩ ∧ g < w.heap.size ∧ w.cell? ⟨g, o + k * 2, none⟩ = some (.int .i64 p.1) ∧ w.cell? ⟨g, o + k * 2 + 1, none⟩ = some (.int .i64 p.2)
theorem RdR.below {w w' : World} {A : Option Addr} {l : List (Int × Int)} (h : RdR w A l) (hb : Below w.heap.size w w') : RdR w' A l := fun k p hk => by
  obtain ⟨g, o, e, hlt, h1, h2⟩ := h k p hk
  exact ⟨g, o, e, Nat.lt_of_lt_of_le hlt hb.size, (hb.cell (p := ⟨g, o + k * 2, none⟩) hlt).trans h1, (hb.cell (p := ⟨g, o + k * 2 + 1, none⟩) hlt).trans h2⟩
theorem zero_words : Words Tryd.zeroCells30 (fun _ => 0) := by
  have e : Tryd.zeroCells30 = Array.replicate 256 (.int .u64 0) := by kernel_rfl
  rw [e]
  refine ⟨by simp, fun i hi => ?_, fun i => by decide⟩
  rw [Array.getElem?_replicate, if_pos hi]; rfl
def orW (f : Nat → Nat) (n : Nat) : Nat → Nat := fun w => if w = n / 64 then f w ||| 2 ^ (n % 64) else f w
theorem orW_lt {f : Nat → Nat} (h : ∀ i, f i < 18446744073709551616) (n : Nat) : f (n / 64) ||| 2 ^ (n % 64) < 18446744073709551616 := by
  have := Nat.or_lt_two_pow (n := 64) (by simpa using h (n / 64)) (by simpa using pow_lt64 (k := n % 64) (by omega))
  simpa using this
theorem hasN_orW (f : Nat → Nat) (n x : Nat) : hasN (orW f n) x = (hasN f x || decide (x = n)) := by
  unfold hasN orW
  split
  · rename_i h
    rw [Nat.testBit_or, Nat.testBit_two_pow]
    congr 1
    exact decide_eq_decide.2 ⟨fun e => by omega, fun e => by omega⟩
  · rename_i h
    have : decide (x = n) = false := decide_eq_false (fun e => h (by rw [e]))
    rw [this, Bool.or_false]
theorem words_or {a : Array Value} {f : Nat → Nat} (ha : Words a f) {k : Nat} (hk : k < 16384) : Words (a.setIfInBounds (k / 64) (.int .u64 ((f (k / 64) ||| 2 ^ (k % 64) : Nat) : Int))) (orW f k) := by
  have := ha.set (k / 64) (by omega) _ (orW_lt ha.lt k)
  have e : (fun w => if w = k / 64 then f (k / 64) ||| 2 ^ (k % 64) else f w) = orW f k := by
    funext w; unfold orW
    by_cases hw : w = k / 64
    · subst hw; simp
    · rw [if_neg hw, if_neg hw]
  rw [e] at this
  exact this
def MkPost (w : World) (l : List (Int × Int)) (e : Ending) (w' : World) : Prop :=
  (if okR l then ∃ a f, e = .returned (.tuple #[.agg a, .int .i64 0]) ∧ Words a f ∧ ∀ n, n < 16384 → hasN f n = setH l n else e = .returned (.tuple #[.agg Tryd.zeroCells30, .int .i64 20])) ∧ Below w.heap.size w w'
def okP (r : Int × Int) : Bool := decide (0 ≤ r.1) && decide (r.1 ≤ r.2) && decide (r.2 < 16384)
theorem okR_take (l : List (Int × Int)) (k : Nat) (p : Int × Int) (h : l[k]? = some p) : okR (l.take (k + 1)) = (okR (l.take k) && okP p) := by
  rw [List.take_add_one, h]; simp [okR, okP]
theorem setH_take (l : List (Int × Int)) (k : Nat) (p : Int × Int) (h : l[k]? = some p) (n : Nat) : setH (l.take (k + 1)) n = (setH (l.take k) n || (decide (p.1 ≤ (n : Int)) && decide ((n : Int) ≤ p.2))) := by
  rw [List.take_add_one, h]; simp [setH]
theorem okR_not {l : List (Int × Int)} {k : Nat} {p : Int × Int} (h : l[k]? = some p) (hp : okP p = false) : okR l = false := by
  cases e : okR l with
  | false => rfl
  | true =>
    unfold okR at e
    rw [List.all_eq_true] at e
    have := e p (List.mem_of_getElem? h)
    unfold okP at hp
    rw [hp] at this
    cases this
theorem results_cell_row2 {P : Program} {fn : Func} {p q : Tmp} {ty : TypeId} (h : fn.results = #[.cell p ty, .tmp q]) (tmps : Array Value) (w : World) (g : Nat) (t : TypeId) (cs : Array Value) (fr : Nat × Nat) (d : TypeDesc) (v : Value)
    (hp : tmps.getD p undef = .pointer (some ⟨g, 0, none⟩)) (hq : tmps.getD q undef = v) (hg : w.heap[g]? = some (.cells cs t fr))
    (hu : P.underlying ty = some d) (hd : (match d with | .struct _ | .array _ _ => true | _ => false) = true) (hi : (P.info? ty).map (·.size) = some cs.size) :
    (results fn tmps).run P w = .ok (.tuple #[.agg cs, v]) w := by
  have hp' : tmps[p]?.getD undef = .pointer (some ⟨g, 0, none⟩) := by simpa using hp
  have hq' : tmps[q]?.getD undef = v := by simpa using hq
  simp [results, h, hp', hq', asAddr, run_loadVar_row w g t ty cs fr d hg hu hd hi]
set_option maxHeartbeats 4000000 in
set_option maxRecDepth 100000 in
theorem Make_calls (l : List (Int × Int)) (A : Option Addr) (c : Nat) (hlen : l.length ≤ 9223372036854775806) (w : World) (hR : RdR w A l) : Calls Tryd.prog 22 #[.slice A l.length c] w (MkPost w l) := by
  go_enter Tryd.func22, Tryd.ntmps22
  go_wp2_with fail
  go_loopw [6, 7, 10] (fun _ _ i wr => ∃ (k : Nat) (a : Array Value) (f : Nat → Nat), k ≤ l.length ∧ i = .int .i64 k ∧ Words a f ∧ (∀ n, n < 16384 → hasN f n = setH (l.take k) n) ∧ okR (l.take k) = true ∧ Below w.heap.size w wr ∧
      wr.heap[w.heap.size]? = some (.cells Tryd.zeroCells30 30 (0, 0)) ∧ wr.heap[w.heap.size + 1]? = some (.cells a 30 (0, 0)) ∧ w.heap.size + 1 < wr.heap.size) (fun _ _ i _ => l.length - (intOf i).toNat)
  case atStart => exact ⟨0, _, _, by omega, rfl, zero_words, fun n _ => by simp [setH, hasN], rfl, below_alloc (below_new' _ _) _, heap0 w _ _, heap1 w _ _, by simp⟩
  case round =>
    obtain ⟨k, a, f, hk, rfl, ha, hf, hok, hb, h0, h1, hlt⟩ := hrel
    by_cases hkl : k < l.length
    · obtain ⟨p, hp⟩ : ∃ p, l[k]? = some p := ⟨l[k], List.getElem?_eq_getElem hkl⟩
      obtain ⟨g, o, rfl, hg, c1, c2⟩ := hR k p hp
      have c1 := (hb.cell (p := ⟨g, o + k * 2, none⟩) hg).trans c1
      have c2 := (hb.cell (p := ⟨g, o + k * 2 + 1, none⟩) hg).trans c2
      obtain ⟨p1, p2⟩ := p
      have hgo : decide ((k : Int) < (l.length : Int)) = true := decide_eq_true (by omega)
      simp only at c1 c2
      clear hR
      have hf := Lib.hid hf
      have h0' : ∀ o : Obj, (wr.alloc o).heap[w.heap.size]? = some (.cells Tryd.zeroCells30 30 (0, 0)) := fun o => ((below_new' wr o).block _ (by omega)).trans h0
      have h1' : ∀ o : Obj, (wr.alloc o).heap[w.heap.size + 1]? = some (.cells a 30 (0, 0)) := fun o => ((below_new' wr o).block _ (by omega)).trans h1
      have hb' : ∀ o : Obj, Below w.heap.size w (wr.alloc o) := fun o => hb.trans ((below_new' wr o).mono hb.size)
      by_cases hbad : p1 < 0 ∨ p2 < p1 ∨ 16384 ≤ p2
      · have hpB : okP (p1, p2) = false := by unfold okP; simp only [Bool.and_eq_false_iff, decide_eq_false_iff_not]; omega
        have hres := Lib.hid (okR_not hp hpB)
        clear hpB
        have hiZ : (Tryd.prog.info? 30).map (·.size) = some Tryd.zeroCells30.size := by rw [zero_size]; exact info30
        have hz1 := zero_words.one
        have done : ∀ (o : Obj), MkPost w l (.returned (.tuple #[.agg Tryd.zeroCells30, .int .i64 20])) ((wr.alloc o).setRow w.heap.size Tryd.zeroCells30) := fun o => by
          unfold MkPost
          rw [hres.out, if_neg (by decide)]
          exact ⟨rfl, below_setRow (hb' o) (Nat.le_refl _) _⟩
        have hb3 : p1 < 0 ∨ (¬ p1 < 0 ∧ p2 < p1) ∨ (¬ p1 < 0 ∧ ¬ p2 < p1 ∧ 16384 ≤ p2) := by omega
        clear hbad
        rcases hb3 with hb1 | ⟨hb1, hb2⟩ | ⟨hb1, hb2, hb4⟩
        all_goals
          go_wp2_with (refine wpList_store_row rfl 30 _ _ rfl (w.heap.size) Tryd.zeroCells30 rfl rfl 30 Tryd.zeroCells30 (h0' _) hiZ rfl hz1 ?_)
          refine bodyPost_ret (v := .tuple #[.agg Tryd.zeroCells30, .int .i64 20]) (results_cell_row2 Tryd.results22 _ _ w.heap.size 30 Tryd.zeroCells30 (0, 0) _ _ rfl rfl (setRow_heap _ _ _ _ _ _ (h0' _)) Tryd.underlying30 rfl hiZ) rfl (done _)
      · obtain ⟨q1, rfl⟩ : ∃ q : Nat, p1 = q := ⟨p1.toNat, by omega⟩
        obtain ⟨q2, rfl⟩ : ∃ q : Nat, p2 = q := ⟨p2.toNat, by omega⟩
        have hq12 : q1 ≤ q2 := by omega
        have hq2 : q2 < 16384 := by omega
        have t1 : ¬ (q1 : Int) < 0 := by omega
        have t2 : ¬ (q2 : Int) < (q1 : Int) := by omega
        have t3 : ¬ (16384 : Int) ≤ (q2 : Int) := by omega
        have hokn : okR (l.take (k + 1)) = true := by
          rw [okR_take l k _ hp, hok]
          unfold okP
          simp only [Bool.true_and, Bool.and_eq_true, decide_eq_true_eq]
          omega
        have hsn := setH_take l k _ hp
        simp only [Int.ofNat_le] at hsn
        have hokn := Lib.hid hokn
        have hsn := Lib.hid hsn
        obtain ⟨wo, rfl⟩ : ∃ wo : World, wo = wr := ⟨_, rfl⟩
        have hbad := Lib.hid hbad
        have hh0 := h0' (.cells #[.int .i64 (q1 : Int), .int .i64 (q2 : Int)] 53)
        have hh1 := h1' (.cells #[.int .i64 (q1 : Int), .int .i64 (q2 : Int)] 53)
        have hhb := hb' (.cells #[.int .i64 (q1 : Int), .int .i64 (q2 : Int)] 53)
        have hhl : wo.heap.size + 1 ≤ (wo.alloc (.cells #[.int .i64 (q1 : Int), .int .i64 (q2 : Int)] 53)).heap.size := by simp
        have d1 : (wo.alloc (.cells #[.int .i64 (q1 : Int), .int .i64 (q2 : Int)] 53)).cell? ⟨wo.heap.size, 0, none⟩ = some (.int .i64 (q1 : Int)) := by simp [go_sem]
        have d2 : (wo.alloc (.cells #[.int .i64 (q1 : Int), .int .i64 (q2 : Int)] 53)).cell? ⟨wo.heap.size, 1, none⟩ = some (.int .i64 (q2 : Int)) := by simp [go_sem]
        clear h0' h1' hb'
        go_wp2_with fail
        go_loopw [7] (fun s7 wr => ∃ (x : Nat) (a' : Array Value) (f' : Nat → Nat), q1 ≤ x ∧ x ≤ q2 + 1 ∧ s7 = .int .i64 x ∧ Words a' f' ∧ (∀ n, n < 16384 → hasN f' n = (setH (l.take k) n || (decide (q1 ≤ n) && decide (n < x)))) ∧ Below w.heap.size w wr ∧
          wr.heap[w.heap.size]? = some (.cells Tryd.zeroCells30 30 (0, 0)) ∧ wr.heap[w.heap.size + 1]? = some (.cells a' 30 (0, 0)) ∧ wo.heap.size + 1 ≤ wr.heap.size ∧ wr.cell? ⟨wo.heap.size, 1, none⟩ = some (.int .i64 (q2 : Int))) (fun s7 _ => 16384 - (intOf s7).toNat)
        case atStart => exact ⟨q1, a, f, by omega, by omega, rfl, ha, fun n hn => by rw [hf.out n hn]; (have : (decide (q1 ≤ n) && decide (n < q1)) = false := by rw [Bool.and_eq_false_iff, decide_eq_false_iff_not, decide_eq_false_iff_not]; omega); rw [this, Bool.or_false], hhb, hh0, hh1, hhl, d2⟩
        case round =>
          clear d1 d2 hhl hhb hh0 hh1
          obtain ⟨x, a', f', hx1, hx2, rfl, ha', hf', hb', h0', h1', hl', d2⟩ := hrel
          by_cases hxq : x ≤ q2
          · have c4 : wr.cell? ⟨w.heap.size + 1, x / 64, none⟩ = some (.int .u64 (f' (x / 64))) := by
              rw [cell_of_row wr _ (x / 64) a' 30 (0, 0) h1']; exact ha'.get (x / 64) (by omega)
            have c5 : wr.frozen? ⟨w.heap.size + 1, x / 64, none⟩ = false := by simp [World.frozen?, h1']
            have hw := words_or ha' (k := x) (by omega)
            have hO : bits .or .u64 (f' (x / 64) : Int) (2 ^ (x % 64)) = ((f' (x / 64) ||| 2 ^ (x % 64) : Nat) : Int) := by
              have := or64 (f' (x / 64)) (2 ^ (x % 64)) (ha'.lt _) (pow_lt64 (by omega))
              rw [Int.natCast_pow] at this
              exact this
            have hwp := wrap_pow (k := x % 64) (by omega)
            have hgo2 : decide ((x : Int) ≤ (q2 : Int)) = true := decide_eq_true (by omega)
            have hh := Lib.hid (fun n => hasN_orW f' x n)
            generalize hF : orW f' x = F at *
            generalize f' (x / 64) ||| 2 ^ (x % 64) = D at *
            have hf' := Lib.hid hf'
            have hxb : x < 16384 := by omega
            go_wp2_with fail
            go_region
            go_wp2_with fail
            have G1 := heap_setCell_same wr (w.heap.size + 1) (x / 64) a' 30 (.int .u64 (D : Int)) h1'
            have G0 := (heap_setCell_other wr ⟨w.heap.size + 1, x / 64, none⟩ w.heap.size (.int .u64 (D : Int)) (by simp)).trans h0'
            have G2 := (World.cell?_of_block (a := ⟨wo.heap.size, 1, none⟩) (heap_setCell_other wr ⟨w.heap.size + 1, x / 64, none⟩ wo.heap.size (.int .u64 (D : Int)) (by simp; omega))).trans d2
            refine ⟨⟨x + 1, _, F, by omega, by omega, by go_num, hw, fun n hn => ?_, below_drew (below_set hb' (Nat.le_succ _)), G0, G1, by simpa using hl', G2⟩, by simp [intOf]; omega⟩
            rw [hh.out n, hf'.out n hn, Bool.or_assoc]
            congr 1
            rw [Bool.eq_iff_iff]
            simp only [Bool.or_eq_true, Bool.and_eq_true, decide_eq_true_eq]
            omega
          · obtain rfl : x = q2 + 1 := by omega
            have hgo2 : decide (((q2 + 1 : Nat) : Int) ≤ (q2 : Int)) = false := decide_eq_false (by omega)
            go_wp2_with fail
            case roundEnd =>
              refine ⟨⟨k + 1, a', f', by omega, by go_num, ha', fun n hn => ?_, hokn.out, hb', h0', h1', by omega⟩, by simp [intOf]; omega⟩
              rw [hsn.out n, hf' n hn]
              congr 1
              rw [Bool.eq_iff_iff]
              simp only [Bool.and_eq_true, decide_eq_true_eq]
              omega
    · obtain rfl : k = l.length := by omega
      have hi : (Tryd.prog.info? 30).map (·.size) = some a.size := by rw [ha.size]; exact info30
      have hZ : Tryd.zeroCells30.size = a.size := by rw [ha.size]; exact zero_size
      have ho := ha.one
      have hf := Lib.hid hf
      clear hR
      rw [List.take_of_length_le (Nat.le_refl _)] at hok
      go_wp2_with (first | (refine wpList_load_row rfl 30 _ rfl (w.heap.size + 1) rfl 30 a (0, 0) _ h1 Tryd.underlying30 rfl hi ?_) | (refine wpList_store_row rfl 30 _ _ rfl (w.heap.size) a rfl rfl 30 Tryd.zeroCells30 h0 hi hZ ho ?_))
      refine bodyPost_ret (v := .tuple #[.agg a, .int .i64 0]) (results_cell_row2 Tryd.results22 _ _ w.heap.size 30 a (0, 0) _ _ rfl rfl (setRow_heap _ _ _ _ _ _ h0) Tryd.underlying30 rfl hi) rfl ?_
      unfold MkPost
      rw [hok, if_pos rfl]
      exact ⟨⟨a, f, rfl, ha, fun n hn => by rw [hf.out n hn, List.take_of_length_le (Nat.le_refl _)]⟩, below_setRow hb (Nat.le_refl _) _⟩
end Go.Proofs.YtnlchdjknebmfaaDoor
