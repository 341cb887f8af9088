/- Equality of packets; the statements' own check; a packet as it comes in. The statements' own check: it answers true. The statements of packets written and read. Conditions: the listed variables as laid. -/
import Derived.Test.YtbpjfjdndaoekaaDoorMgD
import Derived.Laws.StructEq
import Derived.ProofKit
import Derived.OpenShut
import Derived.Carry
set_option linter.unusedVariables false
set_option linter.unusedSimpArgs false
namespace Go.Proofs.YtbpjfjdndaoekaaDoor
section
open Go.RowKit Go.Proofs.YtbpjfjdndaoekaaDoorW.PrintWords
open SlS SlT
theorem fields26 : Tryd.prog.fieldsOf 26 = #[{ name := "Kind", type := 3, offset := 0, embedded := false, tag := "", pkgPath := "", byteOffset := 0 }, { name := "From", type := 3, offset := 1, embedded := false, tag := "", pkgPath := "", byteOffset := 8 }, { name := "Of", type := 3, offset := 2, embedded := false, tag := "", pkgPath := "", byteOffset := 16 }, { name := "Epoch", type := 22, offset := 3, embedded := false, tag := "", pkgPath := "", byteOffset := 24 }, { name := "Current", type := 22, offset := 4, embedded := false, tag := "", pkgPath := "", byteOffset := 32 }, { name := "Claims", type := 24, offset := 5, embedded := false, tag := "", pkgPath := "", byteOffset := 40 }] := by kernel_rfl
theorem size24 (w : World) : (sizeOf 24).run Tryd.prog w = .ok 256 w := by kernel_rfl
theorem part_one {c : Array Value} {i : Nat} {v : Value} (t : TypeId) (d : TypeDesc) (ht : Tryd.prog.underlying t = some d) (hd : (match d with | .struct _ | .array _ _ => true | _ => false) = false) (h : c[i]? = some v) (w : World) : (part t c i).run Tryd.prog w = .ok v w := by
  cases d <;> simp_all [part, isAgg, run_underlying ht]
theorem part_arr {c : Array Value} {k fr o : Int} {e cu : Nat} {a : Array Value} {f : Nat → Nat} (h : Pk c k fr o e cu a f) (w : World) : (part 24 c 5).run Tryd.prog w = .ok (.agg a) w := by
  have e1 : c.extract 5 (5 + 256) = a := by
    rw [h.cells, Array.extract_append]
    have := h.words.size
    simp
    exact Or.inr (by omega)
  have hs := size24 w
  simp [part, isAgg, run_underlying Tryd.underlying24, hs, e1]
def eqP (k fr o : Int) (e cu : Nat) (f : Nat → Nat) (k' fr' o' : Int) (e' cu' : Nat) (f' : Nat → Nat) : Bool := k == k' && (fr == fr' && (o == o' && (e == e' && (cu == cu' && eqW f f'))))
theorem eqlPk {c c' : Array Value} {k fr o k' fr' o' : Int} {e cu e' cu' : Nat} {a a' : Array Value} {f f' : Nat → Nat} (h : Pk c k fr o e cu a f) (h' : Pk c' k' fr' o' e' cu' a' f') (w : World) :
    (binOp .eql 26 (.agg c) (.agg c')).run Tryd.prog w = .ok (.bool (eqP k fr o e cu f k' fr' o' e' cu' f')) w := by
  rw [run_eql_struct, run_equalIn_struct w 9999 26 c c' (by rw [fields26]; exact Tryd.underlying26) (by kernel_rfl), fields26]
  have g : ∀ {c : Array Value} {k fr o : Int} {e cu : Nat} {a : Array Value} {f : Nat → Nat}, Pk c k fr o e cu a f → c[0]? = some (.int .i64 k) ∧ c[1]? = some (.int .i64 fr) ∧ c[2]? = some (.int .i64 o) ∧ c[3]? = some (.int .u64 e) ∧ c[4]? = some (.int .u64 cu) := fun h => by
    rw [h.cells]
    refine ⟨?_, ?_, ?_, ?_, ?_⟩ <;> simp [Array.getElem?_append]
  obtain ⟨g0, g1, g2, g3, g4⟩ := g h
  obtain ⟨q0, q1, q2, q3, q4⟩ := g h'
  have P0 := fun W => part_one 3 _ Tryd.underlying3 rfl g0 W
  have P1 := fun W => part_one 3 _ Tryd.underlying3 rfl g1 W
  have P2 := fun W => part_one 3 _ Tryd.underlying3 rfl g2 W
  have P3 := fun W => part_one 22 _ Tryd.underlying22 rfl g3 W
  have P4 := fun W => part_one 22 _ Tryd.underlying22 rfl g4 W
  have P5 := fun W => part_arr h W
  have Q0 := fun W => part_one 3 _ Tryd.underlying3 rfl q0 W
  have Q1 := fun W => part_one 3 _ Tryd.underlying3 rfl q1 W
  have Q2 := fun W => part_one 3 _ Tryd.underlying3 rfl q2 W
  have Q3 := fun W => part_one 22 _ Tryd.underlying22 rfl q3 W
  have Q4 := fun W => part_one 22 _ Tryd.underlying22 rfl q4 W
  have Q5 := fun W => part_arr h' W
  have E5 := fun W => eqInW 9997 h.words h'.words W
  have I3 := fun (x y : Int) W => run_equalIn_int (P := Tryd.prog) W 9998 3 .i64 .i64 x y Tryd.underlying3
  have I22 := fun (x y : Int) W => run_equalIn_int (P := Tryd.prog) W 9998 22 .u64 .u64 x y Tryd.underlying22
  have n1 : ((e : Int) == (e' : Int)) = (e == e') := by rw [Bool.eq_iff_iff]; simp; omega
  have n2 : ((cu : Int) == (cu' : Int)) = (cu == cu') := by rw [Bool.eq_iff_iff]; simp; omega
  clear g g0 g1 g2 g3 g4 q0 q1 q2 q3 q4 h h'
  simp only [Op.eqFields, ne_eq, String.reduceEq, not_false_eq_true, if_true, Sem.run_bind, P0, P1, P2, P3, P4, P5, Q0, Q1, Q2, Q3, Q4, Q5, E5, I3, I22, n1, n2, Result.andThen_ok, Sem.run_ite, Sem.run_pure]
  unfold eqP
  generalize (k == k') = b0
  generalize (fr == fr') = b1
  generalize (o == o') = b2
  generalize (e == e') = b3
  generalize (cu == cu') = b4
  generalize eqW f f' = b5
  cases b0 <;> cases b1 <;> cases b2 <;> cases b3 <;> cases b4 <;> cases b5 <;> rfl
theorem eqP_self (k fr o : Int) (e cu : Nat) (f : Nat → Nat) {f' : Nat → Nat} (h : ∀ n, n < 16384 → hasN f n = hasN f' n) {a a' : Array Value} (ha : Words a f) (ha' : Words a' f') : eqP k fr o e cu f k fr o e cu f' = true := by
  unfold eqP
  have := (words_ext ha ha' h).2
  have e5 : eqW f f' = true := by
    unfold eqW
    rw [List.all_eq_true]
    intro i hi
    rw [this i (List.mem_range.1 hi)]
    simp
  rw [e5]
  simp
theorem eqP_iff {k fr o k' fr' o' : Int} {e cu e' cu' : Nat} {f f' : Nat → Nat} : eqP k fr o e cu f k' fr' o' e' cu' f' = true ↔ k = k' ∧ fr = fr' ∧ o = o' ∧ e = e' ∧ cu = cu' ∧ eqW f f' = true := by
  unfold eqP
  simp only [Bool.and_eq_true, beq_iff_eq]
end
open Go Go.ChangeShapes Go.WideShapes Go.ChangeAt Go.RowKit Go.Deep Go.Proofs.YtbpjfjdndaoekaaDoorW.PrintWords
theorem cBits : Tryd.prog.cellsOf 24 = 256 := by kernel_rfl
theorem cU64 : Tryd.prog.cellsOf 22 = 1 := by kernel_rfl
theorem cInt : Tryd.prog.cellsOf 3 = 1 := by kernel_rfl
theorem cPk : Tryd.prog.cellsOf 26 = 261 := by kernel_rfl
theorem u64_of {z : Int} (h : (Lit.int .u64 z).wf = true) : 0 ≤ z ∧ z < 18446744073709551616 := by
  have e1 : IntKind.u64.min = 0 := rfl
  have e2 : IntKind.u64.max = 18446744073709551615 := rfl
  simp [Lit.wf, e1, e2] at h
  omega
section
variable {H : Type} {enc : TypeId × Value → H} {W : World} {b : Nat} {v : Value} {d : DataW H} {p : List MemPlace}
theorem bits_words {n : Nat} {e t : TypeId} {cs : Array Value} (ht : Tryd.prog.underlying t = some (.array n e)) (he : Tryd.prog.underlying e = some (.int .u64)) (hce : Tryd.prog.cellsOf e = 1) (hn : n = 256) (hsz : cs.size = 256)
    {fuel : Nat} {x : DataW H × List MemPlace} (h : DataW.trod enc Tryd.prog W 0 (fun _ => true) true fuel t cs.toList = some x) : ∃ f, Words cs f := by
  obtain ⟨xs, m, _, _, _, hl, hx⟩ := DataW.trod_array ht h
  have key : ∀ i, i < 256 → ∃ z : Nat, cs[i]? = some (.int .u64 (z : Int)) ∧ z < 18446744073709551616 := by
    intro i hi
    have h1 := hx i (by omega)
    rw [hce] at h1
    have hxi : xs[i]? = some (xs[i]'(by omega)) := List.getElem?_eq_getElem (by omega)
    rw [hxi] at h1
    obtain ⟨z, hcs, _, hw⟩ := DataW.trod_int he h1
    have hb := u64_of hw
    have hci : cs[i]? = some (.int .u64 z) := by
      have := congrArg (·[0]?) hcs
      simpa [List.getElem?_take, List.getElem?_drop] using this
    refine ⟨z.toNat, ?_, by omega⟩
    rw [hci, Int.toNat_of_nonneg hb.1]
  refine ⟨fun i => if h : i < 256 then (key i h).choose else 0, hsz, fun i hi => ?_, fun i => ?_⟩
  · rw [dif_pos hi]; exact (key i hi).choose_spec.1
  · by_cases h : i < 256
    · rw [dif_pos h]; exact (key i h).choose_spec.2
    · rw [dif_neg h]; decide
set_option maxRecDepth 100000 in
theorem open_bits (hv : Value.okWide Tryd.prog W .any b 24 v) (h : DataW.Trod enc Tryd.prog W 0 (fun _ => true) true 24 v d p) : ∃ a f, v = .agg a ∧ Words a f := by
  have hv2 : ∃ cs : Array Value, v = .agg cs ∧ cs.size = Tryd.prog.cellsOf 24 := by
    simp only [Value.okWide, Tryd.underlying24] at hv
    obtain ⟨cs, h1, h2, _⟩ := hv
    exact ⟨cs, h1, h2⟩
  obtain ⟨cs, rfl, hsz⟩ := hv2
  obtain ⟨fuel, hf⟩ := h
  obtain ⟨f, hw⟩ := bits_words Tryd.underlying24 Tryd.underlying22 cU64 rfl (hsz.trans cBits) (fuel := fuel) (x := (d, p)) hf
  exact ⟨cs, f, rfl, hw⟩
theorem open_fields {P : Program} {t : TypeId} {fs : Array Field} {v : Value} {d : DataW H} {p : List MemPlace} {b : Nat} (hs : P.underlying t = some (.struct fs)) (hv : Value.okWide P W .any b t v) (h : DataW.Trod enc P W 0 (fun _ => true) true t v d p) :
    ∃ cs n, v = .agg cs ∧ cs.size = P.cellsOf t ∧ ∀ (i : Nat) (f : Field), fs[i]? = some f → ∃ y, DataW.trod enc P W 0 (fun _ => true) true n f.type ((cs.toList.drop f.offset).take (P.cellsOf f.type)) = some y := by
  obtain ⟨cs, rfl, hsz⟩ := okWide_struct hs hv
  obtain ⟨fuel, hf⟩ := h
  obtain ⟨xs, n, _, _, _, hl, hx⟩ := DataW.trod_struct hs hf
  refine ⟨cs, n, rfl, hsz, fun i f hi => ?_⟩
  have h1 : i < fs.size := by
    rcases Nat.lt_or_ge i fs.size with h | h
    · exact h
    · rw [Array.getElem?_eq_none h] at hi; cases hi
  exact ⟨_, (hx i f hi).trans (List.getElem?_eq_getElem (by omega))⟩

set_option maxRecDepth 100000 in
theorem open_pk (hv : Value.okWide Tryd.prog W .any b 26 v) (h : DataW.Trod enc Tryd.prog W 0 (fun _ => true) true 26 v d p) : ∃ c k fr o e cu a f, v = .agg c ∧ Pk c k fr o e cu a f := by
  obtain ⟨cs, n, rfl, hsz, hf⟩ := open_fields Tryd.underlying26 hv h
  rw [cPk] at hsz
  have one : ∀ i (hi : i < 5), (cs.toList.drop i).take 1 = [cs[i]'(by omega)] := fun i hi => by
    rw [List.drop_eq_getElem_cons (by simp; omega)]
    simp
  obtain ⟨y0, t0⟩ := hf 0 _ rfl
  replace t0 : DataW.trod enc Tryd.prog W 0 (fun _ => true) true n 3 ((cs.toList.drop 0).take (Tryd.prog.cellsOf 3)) = some y0 := t0
  rw [cInt] at t0
  obtain ⟨y1, t1⟩ := hf 1 _ rfl
  replace t1 : DataW.trod enc Tryd.prog W 0 (fun _ => true) true n 3 ((cs.toList.drop 1).take (Tryd.prog.cellsOf 3)) = some y1 := t1
  rw [cInt] at t1
  obtain ⟨y2, t2⟩ := hf 2 _ rfl
  replace t2 : DataW.trod enc Tryd.prog W 0 (fun _ => true) true n 3 ((cs.toList.drop 2).take (Tryd.prog.cellsOf 3)) = some y2 := t2
  rw [cInt] at t2
  obtain ⟨y3, t3⟩ := hf 3 _ rfl
  replace t3 : DataW.trod enc Tryd.prog W 0 (fun _ => true) true n 22 ((cs.toList.drop 3).take (Tryd.prog.cellsOf 22)) = some y3 := t3
  rw [cU64] at t3
  obtain ⟨y4, t4⟩ := hf 4 _ rfl
  replace t4 : DataW.trod enc Tryd.prog W 0 (fun _ => true) true n 22 ((cs.toList.drop 4).take (Tryd.prog.cellsOf 22)) = some y4 := t4
  rw [cU64] at t4
  obtain ⟨y5, t5⟩ := hf 5 _ rfl
  replace t5 : DataW.trod enc Tryd.prog W 0 (fun _ => true) true n 24 ((cs.toList.drop 5).take (Tryd.prog.cellsOf 24)) = some y5 := t5
  rw [cBits] at t5
  rw [one 0 (by omega)] at t0
  rw [one 1 (by omega)] at t1
  rw [one 2 (by omega)] at t2
  rw [one 3 (by omega)] at t3
  rw [one 4 (by omega)] at t4
  obtain ⟨z0, e0, _, w0⟩ := DataW.trod_int Tryd.underlying3 t0
  obtain ⟨z1, e1, _, w1⟩ := DataW.trod_int Tryd.underlying3 t1
  obtain ⟨z2, e2, _, w2⟩ := DataW.trod_int Tryd.underlying3 t2
  obtain ⟨z3, e3, _, w3⟩ := DataW.trod_int Tryd.underlying22 t3
  obtain ⟨z4, e4, _, w4⟩ := DataW.trod_int Tryd.underlying22 t4
  simp only [List.cons.injEq, and_true] at e0 e1 e2 e3 e4
  have w3 := u64_of w3
  have w4 := u64_of w4
  have hx : (cs.extract 5 261).toList = (cs.toList.drop 5).take 256 := by simp [Array.toList_extract, List.extract]
  rw [← hx] at t5
  obtain ⟨f, hw⟩ := bits_words Tryd.underlying24 Tryd.underlying22 cU64 rfl (by simp; omega) t5
  refine ⟨cs, z0, z1, z2, z3.toNat, z4.toNat, cs.extract 5 261, f, rfl, ?_, hw, by omega, by omega⟩
  rw [Int.toNat_of_nonneg w3.1, Int.toNat_of_nonneg w4.1, ← e0, ← e1, ← e2, ← e3, ← e4]
  apply Array.ext_getElem?
  intro i
  by_cases hi : i < 5
  · rw [Array.getElem?_append_left (by simpa using hi)]
    rcases (show i = 0 ∨ i = 1 ∨ i = 2 ∨ i = 3 ∨ i = 4 by omega) with rfl | rfl | rfl | rfl | rfl <;> (rw [Array.getElem?_eq_getElem (by omega)]; rfl)
  · rw [Array.getElem?_append_right (by simp; omega)]
    change cs[i]? = (cs.extract 5 261)[i - 5]?
    by_cases h2 : i < 261
    · rw [Array.getElem?_extract, if_pos (by omega)]
      congr 1
      omega
    · rw [Array.getElem?_eq_none (by omega), Array.getElem?_eq_none (by simp; omega)]
end
end Go.Proofs.YtbpjfjdndaoekaaDoor

namespace Go.Proofs.YtbpjfjdndaoekaaDoor
open Go.RowKit Go.Proofs.YtbpjfjdndaoekaaDoorW.PrintWords
open SlS SlT
theorem zero_no (n : Nat) : hasN (fun _ => 0) n = false := by simp [hasN]
theorem has5 : hasN (orW (fun _ => 0) 5) = fun x => decide (x = 5) := by
  funext x
  rw [hasN_orW, zero_no, Bool.false_or]
theorem filter5 : (List.range 16384).filter (fun x => decide (x = 5)) = [5] := by decide +kernel
theorem print5 : printH (hasN (orW (fun _ => 0) 5)) = [53] := by
  rw [has5]
  unfold printH rngH
  rw [filter5]
  have e : rangesV [5] = [(5, 5)] := rfl
  have d : ∀ n, n < 10 → Lib.decDigits n = [UInt8.ofNat (48 + n)] := fun n h => by rw [Lib.decDigits, dif_pos h]
  rw [e]
  unfold printV
  simp [rangeT, Lib.join, List.intercalate, List.intersperse, d]
def S5 : List UInt8 := [1, 1, 0, 0, 0, 0, 0, 0, 0, 0, 2, 0, 0, 0, 0, 0, 0, 0, 3, 0, 1, 53, 112, 223]
theorem enc5 : encV 1 1 0 2 3 [53] = S5 := by decide +kernel
theorem words5 : Words (Tryd.zeroCells24.setIfInBounds 0 (.int .u64 32)) (orW (fun _ => 0) 5) := words_or zero_words (k := 5) (by decide)
theorem enc_pk5 {c a : Array Value} (h : Pk c 1 1 0 2 3 a (orW (fun _ => 0) 5)) (W : World) (hE : Env W) : Calls Tryd.prog 9 #[.agg c] W fun r w' => r = .returned (.tuple #[.string ⟨S5.toArray⟩, .int .i64 0]) ∧ Below W.heap.size W w' :=
  (Encode_calls c _ _ _ _ _ a _ h W hE).mono fun r w' hh => ⟨by rw [hh.1]; unfold encR; rw [if_pos (by decide), print5]; exact congrArg (fun l : List UInt8 => Ending.returned (.tuple #[.string ⟨l.toArray⟩, .int .i64 0])) enc5, hh.2⟩
/-- the bytes of a packet are read as that packet -/
theorem dec_back {w w' : World} {c : Array Value} {K F O : Nat} {e cu : Nat} {a : Array Value} {f : Nat → Nat} {r : Ending} (hp : Pk c K F O e cu a f) (hr : rightV K F O e cu = true) (h : DcPost w (encV K F O e cu (printH (hasN f))) r w') :
    ∃ c' a' f', r = .returned (.tuple #[.agg c', .int .i64 0]) ∧ Pk c' K F O e cu a' f' ∧ (∀ n, n < 16384 → hasN f' n = hasN f n) ∧ Below w.heap.size w w' := by
  obtain ⟨h1 | ⟨h1, -⟩, hb⟩ := h
  · obtain ⟨c', K', F', O', e', cu', a', f', rfl, hp', hr', he⟩ := h1
    obtain ⟨_, _, _, q1, q2, q3, b1, b2, b3⟩ := right_nat hr
    obtain ⟨_, _, _, q4, q5, q6, b4, b5, b6⟩ := right_nat hr'
    have hl := print_len (hasN f)
    have hl' := print_len (hasN f')
    obtain ⟨rfl, rfl, rfl, rfl, rfl, ht⟩ := encV_inj (by omega) (by omega) (by omega) (by omega) (by omega) (by omega) hp'.he hp.he hp'.hcu hp.hcu (Nat.lt_of_le_of_lt hl' (by decide)) (Nat.lt_of_le_of_lt hl (by decide)) he
    exact ⟨c', a', f', rfl, hp', fun n hn => printH_inj ht hn, hb⟩
  · exact absurd rfl (h1 K F O e cu (hasN f) hr hp.he hp.hcu)
theorem pk5 : Pk ((((((Tryd.zeroCells26.setIfInBounds 0 (.int .i64 1)).setIfInBounds 1 (.int .i64 1)).setIfInBounds 3 (.int .u64 2)).setIfInBounds 4 (.int .u64 3))).setIfInBounds 5 (.int .u64 32)) 1 1 0 2 3 (Tryd.zeroCells24.setIfInBounds 0 (.int .u64 32)) (orW (fun _ => 0) 5) := by
  refine ⟨?_, words5, by decide, by decide⟩
  rw [zero26]
  generalize Tryd.zeroCells24 = z
  simp [Array.setIfInBounds_append]
theorem pk5a : Pk (((((Tryd.zeroCells26.setIfInBounds 0 (.int .i64 1)).setIfInBounds 1 (.int .i64 1)).setIfInBounds 3 (.int .u64 2)).setIfInBounds 4 (.int .u64 3))) 1 1 0 2 3 Tryd.zeroCells24 (fun _ => 0) := by
  refine ⟨?_, zero_words, by decide, by decide⟩
  rw [zero26]
  generalize Tryd.zeroCells24 = z
  simp [Array.setIfInBounds_append]
set_option maxHeartbeats 2000000 in
set_option maxRecDepth 100000 in
theorem alive_calls (w : World) (hE : Env w) : Calls Tryd.prog 11 #[] w fun e w' => e = .returned (.bool true) ∧ Below w.heap.size w w' := by
  have hiZ : (Tryd.prog.info? 26).map (·.size) = some Tryd.zeroCells26.size := by rw [zero_pk.size]; exact info26
  have hia : (Tryd.prog.info? 26).map (·.size) = some (((((Tryd.zeroCells26.setIfInBounds 0 (.int .i64 1)).setIfInBounds 1 (.int .i64 1)).setIfInBounds 3 (.int .u64 2)).setIfInBounds 4 (.int .u64 3)) : Array Value).size := by rw [pk5a.size]; exact info26
  have hza : Tryd.zeroCells26.size = (((((Tryd.zeroCells26.setIfInBounds 0 (.int .i64 1)).setIfInBounds 1 (.int .i64 1)).setIfInBounds 3 (.int .u64 2)).setIfInBounds 4 (.int .u64 3)) : Array Value).size := by rw [pk5a.size]; exact zero_pk.size
  have hoa := pk5a.one
  have hp5 := Lib.hid pk5
  have hc5 := Lib.hid (show (((((Tryd.zeroCells26.setIfInBounds 0 (.int .i64 1)).setIfInBounds 1 (.int .i64 1)).setIfInBounds 3 (.int .u64 2)).setIfInBounds 4 (.int .u64 3)) : Array Value)[5]? = some (.int .u64 0) by rw [pk5a.cells, Array.getElem?_append_right (by simp)]; exact zero_words.get 0 (by decide))
  replace hiZ := Lib.hid hiZ
  replace hia := Lib.hid hia
  replace hza := Lib.hid hza
  go_enter Tryd.func11, Tryd.ntmps11
  go_wp2_with (first
             | (refine wpList_store_row rfl 26 _ _ rfl (w.heap.size) ((((Tryd.zeroCells26.setIfInBounds 0 (.int .i64 1)).setIfInBounds 1 (.int .i64 1)).setIfInBounds 3 (.int .u64 2)).setIfInBounds 4 (.int .u64 3)) rfl rfl 26 Tryd.zeroCells26 (heapN w _) hia.out hza.out hoa ?_
                have hG1 : ((w.alloc (.cells Tryd.zeroCells26 26)).setRow w.heap.size ((((Tryd.zeroCells26.setIfInBounds 0 (.int .i64 1)).setIfInBounds 1 (.int .i64 1)).setIfInBounds 3 (.int .u64 2)).setIfInBounds 4 (.int .u64 3))).heap[w.heap.size]? = some (.cells ((((Tryd.zeroCells26.setIfInBounds 0 (.int .i64 1)).setIfInBounds 1 (.int .i64 1)).setIfInBounds 3 (.int .u64 2)).setIfInBounds 4 (.int .u64 3)) 26 (0, 0)) := setRow_heap _ _ _ _ _ _ (heapN w _)
                have hl1 : w.heap.size < ((w.alloc (.cells Tryd.zeroCells26 26)).setRow w.heap.size ((((Tryd.zeroCells26.setIfInBounds 0 (.int .i64 1)).setIfInBounds 1 (.int .i64 1)).setIfInBounds 3 (.int .u64 2)).setIfInBounds 4 (.int .u64 3))).heap.size := by simp [World.setRow]
                have hb1 : Below w.heap.size w ((w.alloc (.cells Tryd.zeroCells26 26)).setRow w.heap.size ((((Tryd.zeroCells26.setIfInBounds 0 (.int .i64 1)).setIfInBounds 1 (.int .i64 1)).setIfInBounds 3 (.int .u64 2)).setIfInBounds 4 (.int .u64 3))) := below_setRow (below_new' w _) (Nat.le_refl _) _
                generalize (w.alloc (.cells Tryd.zeroCells26 26)).setRow w.heap.size ((((Tryd.zeroCells26.setIfInBounds 0 (.int .i64 1)).setIfInBounds 1 (.int .i64 1)).setIfInBounds 3 (.int .u64 2)).setIfInBounds 4 (.int .u64 3)) = W1 at *
                generalize ((((Tryd.zeroCells26.setIfInBounds 0 (.int .i64 1)).setIfInBounds 1 (.int .i64 1)).setIfInBounds 3 (.int .u64 2)).setIfInBounds 4 (.int .u64 3)) = c1 at *
                have k5 : W1.cell? ⟨w.heap.size, 5, none⟩ = some (.int .u64 0) := by rw [cell_of_row W1 _ 5 c1 26 (0, 0) hG1]; exact hc5.out
                have f5 : W1.frozen? ⟨w.heap.size, 5, none⟩ = false := by simp [World.frozen?, hG1]
                replace hG1 := Lib.hid hG1)
             | (have hG2 := heap_setCell_same W1 w.heap.size 5 c1 26 (.int .u64 32) hG1.out
                have hi2 : (Tryd.prog.info? 26).map (·.size) = some (c1.setIfInBounds 5 (.int .u64 32)).size := by rw [hp5.out.size]; exact info26
                refine wpList_load_row rfl 26 _ rfl w.heap.size rfl 26 _ (0, 0) _ hG2 Tryd.underlying26 rfl hi2 ?_))
  have hb2 : Below w.heap.size w (W1.setCell ⟨w.heap.size, 5, none⟩ (.int .u64 32)) := below_set hb1 (Nat.le_refl w.heap.size)
  have hl2 : w.heap.size < (W1.setCell ⟨w.heap.size, 5, none⟩ (.int .u64 32)).heap.size := by simpa using hl1
  have hoc := hp5.out.one
  generalize W1.setCell ⟨w.heap.size, 5, none⟩ (.int .u64 32) = W2 at *
  generalize c1.setIfInBounds 5 (.int .u64 32) = c at *
  refine (enc_pk5 hp5.out _ (hE.below hb2)).mono ?_
  rintro r w3 ⟨rfl, hb3⟩
  have hG3 := (hb3.block _ hl2).trans hG2
  have hl3 : w.heap.size < w3.heap.size := Nat.lt_of_lt_of_le hl2 hb3.size
  have hbw3 := hb2.trans (hb3.mono hb2.size)
  clear hb1 hb2 hb3 hG1 hG2 hl1 hl2 k5 f5 hoa hc5 hia hza
  have hD := Decode_calls ⟨S5.toArray⟩ (by decide) w3 (hE.below hbw3)
  have hS : (⟨S5.toArray⟩ : ByteArray).data.toList = encV 1 1 0 2 3 (printH (hasN (orW (fun _ => 0) 5))) := by rw [print5, enc5]
  rw [hS] at hD
  clear hS
  go_wp2_with fail
  refine hD.mono ?_
  rintro r w4 hpost
  obtain ⟨c', a', f', rfl, hp', hff, hb4⟩ := dec_back hp5.out (by decide) hpost
  have hG4 := (hb4.block _ hl3).trans hG3
  have hl4 : w.heap.size < w4.heap.size := Nat.lt_of_lt_of_le hl3 hb4.size
  have hbw4 := hbw3.trans (hb4.mono hbw3.size)
  have hi' : (Tryd.prog.info? 26).map (·.size) = some c'.size := by rw [hp'.size]; exact info26
  have hz' : Tryd.zeroCells26.size = c'.size := by rw [hp'.size]; exact zero_pk.size
  have ho' := hp'.one
  have hq := fun W => eqlPk hp' hp5.out W
  have hself : eqP (1 : Nat) (1 : Nat) (0 : Nat) 2 3 f' 1 1 0 2 3 (orW (fun _ => 0) 5) = true := eqP_self _ _ _ _ _ _ hff hp'.words hp5.out.words
  rw [hself] at hq
  have hG5 : ((w4.alloc (.cells Tryd.zeroCells26 26)).setRow w4.heap.size c').heap[w.heap.size]? = some (.cells c 26 (0, 0)) := (setRow_other _ _ _ _ (by omega)).trans (((below_new' w4 _).block _ hl4).trans hG4)
  have hG6 : ((w4.alloc (.cells Tryd.zeroCells26 26)).setRow w4.heap.size c').heap[w4.heap.size]? = some (.cells c' 26 (0, 0)) := setRow_heap _ _ _ _ _ _ (heapN w4 _)
  have hbw5 : Below w.heap.size w ((w4.alloc (.cells Tryd.zeroCells26 26)).setRow w4.heap.size c') := below_setRow (hbw4.trans ((below_new' w4 _).mono hbw4.size)) hbw4.size _
  clear hpost hb4 hG3 hl3 hbw3 hD hself hff hp5 hp' hG4
  replace hz' := Lib.hid hz'
  replace hi' := Lib.hid hi'
  replace hi2 := Lib.hid hi2
  go_wp2_with (first
    | (refine wpList_store_row rfl 26 _ _ rfl (w4.heap.size) c' rfl rfl 26 Tryd.zeroCells26 (heapN w4 _) hi'.out hz'.out ho' ?_)
    | (refine wpList_load_row_g (by first | rfl | simp [Region.wanted, yielded]) 26 (.tmp 1) rfl w.heap.size rfl 26 c (0, 0) _ hG5 Tryd.underlying26 rfl hi2.out ?_)
    | (refine wpList_load_row_g (by first | rfl | simp [Region.wanted, yielded]) 26 (.tmp 4) rfl w4.heap.size rfl 26 c' (0, 0) _ hG6 Tryd.underlying26 rfl hi'.out ?_))
  go_ret
  exact ⟨rfl, hbw5⟩
end Go.Proofs.YtbpjfjdndaoekaaDoor

namespace Go.Proofs.YtbpjfjdndaoekaaDoor
open Go.RowKit Go.Proofs.YtbpjfjdndaoekaaDoorW.PrintWords
open SlS SlT
/-- a packet's box, and what lies below -/
structure XB (w : World) (g : Nat) (c : Array Value) (W : World) : Prop where
  bel : Below w.heap.size w W
  box : W.heap[g]? = some (.cells c 26 (0, 0))
  lt : g < W.heap.size
theorem XB.keep {w W W2 : World} {g : Nat} {c : Array Value} (h : XB w g c W) (hb : Below W.heap.size W W2) : XB w g c W2 :=
  ⟨h.bel.trans (hb.mono h.bel.size), (hb.block _ h.lt).trans h.box, Nat.lt_of_lt_of_le h.lt hb.size⟩
theorem XB.new (w : World) (c : Array Value) : XB w w.heap.size c (w.alloc (.cells c 26)) := ⟨below_new' w _, heapN w _, by simp⟩
theorem enc_ret (k fr o : Int) (e cu : Nat) (f : Nat → Nat) : ∃ (T : ByteArray) (x : Int), encR k fr o e cu f = .returned (.tuple #[.string T, .int .i64 x]) ∧ ((x = 0 ∧ ∃ K F O : Nat, k = K ∧ fr = F ∧ o = O ∧ rightV k fr o e cu = true ∧ T = ⟨(encV K F O e cu (printH (hasN f))).toArray⟩) ∨ (x = 140 ∧ T = ⟨#[]⟩)) := by
  unfold encR
  cases h : rightV k fr o e cu with
  | true =>
    obtain ⟨K, F, O, rfl, rfl, rfl, -⟩ := right_nat h
    rw [if_pos rfl]
    exact ⟨_, 0, rfl, Or.inl ⟨rfl, K, F, O, rfl, rfl, rfl, rfl, by simp⟩⟩
  | false =>
    rw [if_neg (by decide)]
    exact ⟨_, 140, rfl, Or.inr ⟨rfl, rfl⟩⟩
set_option maxHeartbeats 4000000 in
set_option maxRecDepth 100000 in
theorem PacketWrites_walk (c : Array Value) (k fr o : Int) (e cu : Nat) (a : Array Value) (f : Nat → Nat) (hp : Pk c k fr o e cu a f) (w : World) (hE : Env w) : Calls Tryd.prog 3 #[.agg c] w fun r w' => r = .returned (.bool true) ∧ Below w.heap.size w w' := by
  have hi : (Tryd.prog.info? 26).map (·.size) = some c.size := by rw [hp.size]; exact info26
  have hE1 := fun W h => Encode_calls c k fr o e cu a f hp W h
  have hE2 := fun W h => refEncode_calls c k fr o e cu a f hp W h
  have hR1 := fun W => Right_calls c k fr o e cu a f hp W
  have hR2 := fun W => refRight_calls c k fr o e cu a f hp W
  obtain ⟨T, x, hT, -⟩ := enc_ret k fr o e cu f
  rw [hT] at hE1 hE2
  generalize rightV k fr o e cu = R at *
  clear hT hp
  have hcmp : (T.toList == T.toList) = true := by simp
  have hX := XB.new w c
  go_enter Tryd.func3, Tryd.ntmps3
  go_wp2_with (refine wpList_load_row rfl 26 _ rfl w.heap.size rfl 26 c (0, 0) _ hX.box Tryd.underlying26 rfl hi ?_)
  refine (hE1 _ (hE.below hX.bel)).mono ?_
  rintro r w1 ⟨rfl, hb⟩
  have hX1 := hX.keep hb
  clear hb hX hE1
  go_wp2_with (refine wpList_load_row rfl 26 _ rfl w.heap.size rfl 26 c (0, 0) _ hX1.box Tryd.underlying26 rfl hi ?_)
  refine (hE2 _ (hE.below hX1.bel)).mono ?_
  rintro r w2 ⟨rfl, hb⟩
  have hX2 := (hX1.keep hb).keep (below_drew (Below.refl _ _))
  clear hb hX1 hE2
  go_wp2_with fail
  refine wp_region_held_drew (S := XB w w.heap.size c) (by kernel_rfl) hX2 (fun hHeld => ?_)
  clear hHeld
  generalize w2.drew = v0 at *
  refine wpAnyH_ready (rs := [0]) (by kernel_rfl) (by simp) ?_
  refine AllReadyH.cons (o := ⟨some 17, _, _, _, _, _⟩) rfl (fun K hK => ?_) AllReadyH.nil
  go_simp
  refine (alive_calls _ (hE.below hX2.bel)).mono ?_
  rintro r v1 ⟨rfl, hb⟩
  have hX3 := hX2.keep hb
  clear hb
  go_wp2_with fail
  refine hK.out _ _ hX3 (fun hHeld => ?_)
  clear hHeld hK K
  try simp only [Act.put, List.setIfInBounds_toArray, List.set_cons_zero, List.set_cons_succ]
  refine wpAnyH_take (i := 1) (oi := ⟨some 18, _, _, _, _, _⟩) (v := .bool true) rfl (by kernel_rfl) (by kernel_rfl) (by kernel_rfl) (fun _ _ _ h => h) (Or.inl ⟨by rfl, fun W hW => by go_simp⟩) (by assumption) ?_
  try simp only [Act.put, List.setIfInBounds_toArray, List.set_cons_zero, List.set_cons_succ]
  refine wpAnyH_take (i := 2) (oi := ⟨some 19, _, _, _, _, _⟩) (v := .agg c) rfl (by kernel_rfl) (by kernel_rfl) (by kernel_rfl) (fun _ _ _ h => h) (yields_row (by rfl) 26 (.tmp 1) rfl w.heap.size rfl 26 c (0, 0) _ (fun W h => h.box) Tryd.underlying26 rfl hi) (by assumption) ?_
  try simp only [Act.put, List.setIfInBounds_toArray, List.set_cons_zero, List.set_cons_succ]
  refine wpAnyH_take (i := 4) (oi := ⟨some 21, _, _, _, _, _⟩) (v := .agg c) rfl (by kernel_rfl) (by kernel_rfl) (by kernel_rfl) (fun _ _ _ h => h) (yields_row (by rfl) 26 (.tmp 1) rfl w.heap.size rfl 26 c (0, 0) _ (fun W h => h.box) Tryd.underlying26 rfl hi) (by assumption) ?_
  try simp only [Act.put, List.setIfInBounds_toArray, List.set_cons_zero, List.set_cons_succ]
  refine wpAnyH_ready (rs := [3]) (by kernel_rfl) (by simp) ?_
  refine AllReadyH.cons (o := ⟨some 20, _, _, _, _, _⟩) rfl (fun K hK => ?_) AllReadyH.nil
  go_simp
  refine (hR1 _).mono ?_
  rintro r v2 ⟨rfl, hb⟩
  have hX4 := hX3.keep hb
  clear hb
  go_wp2_with fail
  refine hK.out _ _ hX4 (fun hHeld => ?_)
  clear hHeld hK K
  try simp only [Act.put, List.setIfInBounds_toArray, List.set_cons_zero, List.set_cons_succ]
  refine wpAnyH_ready (rs := [5]) (by kernel_rfl) (by simp) ?_
  refine AllReadyH.cons (o := ⟨some 22, _, _, _, _, _⟩) rfl (fun K hK => ?_) AllReadyH.nil
  go_simp
  refine (hR2 _).mono ?_
  rintro r v3 ⟨rfl, hb⟩
  have hX5 := hX4.keep hb
  clear hb
  go_wp2_with fail
  refine hK.out _ _ hX5 (fun hHeld => ?_)
  clear hHeld hK K
  try simp only [Act.put, List.setIfInBounds_toArray, List.set_cons_zero, List.set_cons_succ]
  refine wpAnyH_take (i := 6) (oi := ⟨some 23, _, _, _, _, _⟩) (v := .bool true) rfl (by kernel_rfl) (by kernel_rfl) (by kernel_rfl) (fun _ _ _ h => h) (Or.inl ⟨by rfl, fun W hW => by go_simp⟩) (by assumption) ?_
  try simp only [Act.put, List.setIfInBounds_toArray, List.set_cons_zero, List.set_cons_succ]
  refine wpAnyH_take (i := 7) (oi := ⟨some 24, _, _, _, _, _⟩) (v := .bool true) rfl (by kernel_rfl) (by kernel_rfl) (by kernel_rfl) (fun _ _ _ h => h) (Or.inl ⟨by rfl, fun W hW => by go_simp⟩) (by assumption) ?_
  try simp only [Act.put, List.setIfInBounds_toArray, List.set_cons_zero, List.set_cons_succ]
  refine wpAnyH_take (i := 8) (oi := ⟨some 25, _, _, _, _, _⟩) (v := .bool true) rfl (by kernel_rfl) (by kernel_rfl) (by kernel_rfl) (fun _ _ _ h => h) (Or.inl ⟨by rfl, fun W hW => by go_simp⟩) (by assumption) ?_
  try simp only [Act.put, List.setIfInBounds_toArray, List.set_cons_zero, List.set_cons_succ]
  refine wpAnyH_take (i := 9) (oi := ⟨some 26, _, _, _, _, _⟩) (v := .string T) rfl (by kernel_rfl) (by kernel_rfl) (by kernel_rfl) (fun _ _ _ h => h) (Or.inl ⟨by rfl, fun W hW => by go_simp⟩) (by assumption) ?_
  try simp only [Act.put, List.setIfInBounds_toArray, List.set_cons_zero, List.set_cons_succ]
  refine wpAnyH_take (i := 10) (oi := ⟨some 27, _, _, _, _, _⟩) (v := .string T) rfl (by kernel_rfl) (by kernel_rfl) (by kernel_rfl) (fun _ _ _ h => h) (Or.inl ⟨by rfl, fun W hW => by go_simp⟩) (by assumption) ?_
  try simp only [Act.put, List.setIfInBounds_toArray, List.set_cons_zero, List.set_cons_succ]
  refine wpAnyH_take (i := 11) (oi := ⟨some 28, _, _, _, _, _⟩) (v := .bool true) rfl (by kernel_rfl) (by kernel_rfl) (by kernel_rfl) (fun _ _ _ h => h) (Or.inl ⟨by rfl, fun W hW => by go_simp⟩) (by assumption) ?_
  try simp only [Act.put, List.setIfInBounds_toArray, List.set_cons_zero, List.set_cons_succ]
  refine wpAnyH_take (i := 12) (oi := ⟨some 29, _, _, _, _, _⟩) (v := .bool true) rfl (by kernel_rfl) (by kernel_rfl) (by kernel_rfl) (fun _ _ _ h => h) (Or.inl ⟨by rfl, fun W hW => by go_simp⟩) (by assumption) ?_
  try simp only [Act.put, List.setIfInBounds_toArray, List.set_cons_zero, List.set_cons_succ]
  refine wpAnyH_take (i := 13) (oi := ⟨some 30, _, _, _, _, _⟩) (v := .bool true) rfl (by kernel_rfl) (by kernel_rfl) (by kernel_rfl) (fun _ _ _ h => h) (Or.inl ⟨by rfl, fun W hW => by go_simp⟩) (by assumption) ?_
  try simp only [Act.put, List.setIfInBounds_toArray, List.set_cons_zero, List.set_cons_succ]
  refine wpAnyH_take (i := 14) (oi := ⟨some 31, _, _, _, _, _⟩) (v := .int .i64 x) rfl (by kernel_rfl) (by kernel_rfl) (by kernel_rfl) (fun _ _ _ h => h) (Or.inl ⟨by rfl, fun W hW => by go_simp⟩) (by assumption) ?_
  try simp only [Act.put, List.setIfInBounds_toArray, List.set_cons_zero, List.set_cons_succ]
  refine wpAnyH_take (i := 15) (oi := ⟨some 32, _, _, _, _, _⟩) (v := .int .i64 x) rfl (by kernel_rfl) (by kernel_rfl) (by kernel_rfl) (fun _ _ _ h => h) (Or.inl ⟨by rfl, fun W hW => by go_simp⟩) (by assumption) ?_
  try simp only [Act.put, List.setIfInBounds_toArray, List.set_cons_zero, List.set_cons_succ]
  refine wpAnyH_take (i := 16) (oi := ⟨some 33, _, _, _, _, _⟩) (v := .bool true) rfl (by kernel_rfl) (by kernel_rfl) (by kernel_rfl) (fun _ _ _ h => h) (Or.inl ⟨by rfl, fun W hW => by go_simp⟩) (by assumption) ?_
  try simp only [Act.put, List.setIfInBounds_toArray, List.set_cons_zero, List.set_cons_succ]
  refine wpAnyH_take (i := 17) (oi := ⟨some 34, _, _, _, _, _⟩) (v := .bool true) rfl (by kernel_rfl) (by kernel_rfl) (by kernel_rfl) (fun _ _ _ h => h) (Or.inl ⟨by rfl, fun W hW => by go_simp⟩) (by assumption) ?_
  try simp only [Act.put, List.setIfInBounds_toArray, List.set_cons_zero, List.set_cons_succ]
  refine wpAnyH_take (i := 18) (oi := ⟨some 2, _, _, _, _, _⟩) (v := .bool true) rfl (by kernel_rfl) (by kernel_rfl) (by kernel_rfl) (fun _ _ _ h => h) (Or.inl ⟨by rfl, fun W hW => by go_simp⟩) (by assumption) ?_
  try simp only [Act.put, List.setIfInBounds_toArray, List.set_cons_zero, List.set_cons_succ]
  refine wpAnyH_done (by kernel_rfl) ?_ _
  go_wp2_with fail
  go_ret
  exact ⟨rfl, hX5.bel⟩
/-- what the reading of some bytes tells -/
def DcIs (s : List UInt8) (c : Array Value) (x : Int) : Prop :=
  (x = 0 ∧ ∃ (K F O e cu : Nat) (a : Array Value) (f : Nat → Nat), Pk c (K : Nat) (F : Nat) (O : Nat) e cu a f ∧ rightV K F O e cu = true ∧ encV K F O e cu (printH (hasN f)) = s) ∨
  (x = 140 ∧ c = Tryd.zeroCells26 ∧ ∀ (K F O e cu : Nat) H, rightV K F O e cu = true → e < 18446744073709551616 → cu < 18446744073709551616 → encV K F O e cu (printH H) ≠ s)
theorem DcPost.res {w w' : World} {s : List UInt8} {r : Ending} (h : DcPost w s r w') : ∃ c x, r = .returned (.tuple #[.agg c, .int .i64 x]) ∧ DcIs s c x ∧ Below w.heap.size w w' := by
  obtain ⟨⟨c, K, F, O, e, cu, a, f, rfl, hp, hr, he⟩ | ⟨h1, rfl⟩, hb⟩ := h
  · exact ⟨c, 0, rfl, Or.inl ⟨rfl, K, F, O, e, cu, a, f, hp, hr, he⟩, hb⟩
  · exact ⟨_, 140, rfl, Or.inr ⟨rfl, rfl, h1⟩, hb⟩
theorem DcIs.box {s : List UInt8} {c : Array Value} {x : Int} (h : DcIs s c x) : c.size = 261 ∧ c.all (·.oneCell') = true := by
  rcases h with ⟨-, K, F, O, e, cu, a, f, hp, -⟩ | ⟨-, rfl, -⟩
  · exact ⟨hp.size, hp.one⟩
  · exact ⟨zero_pk.size, zero_pk.one⟩
theorem pk_inj {K F O e cu K' F' O' e' cu' : Nat} {h h' : Nat → Bool} (hr : rightV K F O e cu = true) (hr' : rightV K' F' O' e' cu' = true) (he : e < 18446744073709551616) (hcu : cu < 18446744073709551616) (he' : e' < 18446744073709551616) (hcu' : cu' < 18446744073709551616)
    (hh : encV K F O e cu (printH h) = encV K' F' O' e' cu' (printH h')) : K = K' ∧ F = F' ∧ O = O' ∧ e = e' ∧ cu = cu' ∧ ∀ n, n < 16384 → h n = h' n := by
  obtain ⟨_, _, _, q1, q2, q3, b1, b2, b3⟩ := right_nat hr
  obtain ⟨_, _, _, q4, q5, q6, b4, b5, b6⟩ := right_nat hr'
  have hl := print_len h
  have hl' := print_len h'
  obtain ⟨h1, h2, h3, h4, h5, ht⟩ := encV_inj (by omega) (by omega) (by omega) (by omega) (by omega) (by omega) he he' hcu hcu' (Nat.lt_of_le_of_lt hl (by decide)) (Nat.lt_of_le_of_lt hl' (by decide)) hh
  exact ⟨h1, h2, h3, h4, h5, fun n hn => printH_inj ht hn⟩
theorem DcIs.same {s : List UInt8} {c c' : Array Value} {x x' : Int} (h : DcIs s c x) (h' : DcIs s c' x') : x = x' ∧ ∀ W, (binOp .eql 26 (.agg c) (.agg c')).run Tryd.prog W = .ok (.bool true) W := by
  rcases h with ⟨rfl, K, F, O, e, cu, a, f, hp, hr, he⟩ | ⟨rfl, rfl, hn⟩
  · rcases h' with ⟨rfl, K', F', O', e', cu', a', f', hp', hr', he'⟩ | ⟨rfl, rfl, hn⟩
    · obtain ⟨rfl, rfl, rfl, rfl, rfl, hf⟩ := pk_inj hr hr' hp.he hp.hcu hp'.he hp'.hcu (he.trans he'.symm)
      exact ⟨rfl, fun W => by rw [eqlPk hp hp' W, eqP_self _ _ _ _ _ _ hf hp.words hp'.words]⟩
    · exact absurd he (hn K F O e cu _ hr hp.he hp.hcu)
  · rcases h' with ⟨rfl, K', F', O', e', cu', a', f', hp', hr', he'⟩ | ⟨rfl, rfl, -⟩
    · exact absurd he' (hn K' F' O' e' cu' _ hr' hp'.he hp'.hcu)
    · exact ⟨rfl, fun W => by rw [eqlPk zero_pk zero_pk W, eqP_self _ _ _ _ _ _ (fun _ _ => rfl) zero_words zero_words]⟩
theorem info_c {c : Array Value} (h : c.size = 261) : (Tryd.prog.info? 26).map (·.size) = some c.size := by rw [h]; exact info26
theorem zero_c {c : Array Value} (h : c.size = 261) : Tryd.zeroCells26.size = c.size := by rw [h]; exact zero_pk.size
/-- a new box of a packet, behind its store -/
theorem XB.next {w W : World} {g : Nat} {c : Array Value} (h : XB w g c W) (d : Array Value) : XB w g c ((W.alloc (.cells Tryd.zeroCells26 26)).setRow W.heap.size d) ∧ XB w W.heap.size d ((W.alloc (.cells Tryd.zeroCells26 26)).setRow W.heap.size d) := by
  have hl : W.heap.size < ((W.alloc (.cells Tryd.zeroCells26 26)).setRow W.heap.size d).heap.size := by simp [World.setRow]
  have hb : Below w.heap.size w ((W.alloc (.cells Tryd.zeroCells26 26)).setRow W.heap.size d) := below_setRow (h.bel.trans ((below_new' W _).mono h.bel.size)) h.bel.size _
  have hlt := h.lt
  exact ⟨⟨hb, (setRow_other _ _ _ _ (by omega)).trans (((below_new' W _).block _ h.lt).trans h.box), by omega⟩, ⟨hb, setRow_heap _ _ _ _ _ _ (heapN W _), hl⟩⟩
theorem XB.first {w W : World} (hb : Below w.heap.size w W) (d : Array Value) : XB w W.heap.size d ((W.alloc (.cells Tryd.zeroCells26 26)).setRow W.heap.size d) :=
  ⟨below_setRow (hb.trans ((below_new' W _).mono hb.size)) hb.size _, setRow_heap _ _ _ _ _ _ (heapN W _), by simp [World.setRow]⟩
set_option maxHeartbeats 4000000 in
set_option maxRecDepth 100000 in
theorem PacketReads_walk (s : ByteArray) (hs : s.size ≤ 140737488351232) (w : World) (hE : Env w) : Calls Tryd.prog 4 #[.string s] w fun r w' => r = .returned (.bool true) ∧ Below w.heap.size w w' := by
  by_cases hbig : 20000 < s.size
  · have hgo : (20000 : Int) < (s.size : Int) := by omega
    go_enter Tryd.func4, Tryd.ntmps4
    go_wp2_with fail
    refine (alive_calls _ hE).mono ?_
    rintro r w1 ⟨rfl, hb⟩
    go_wp2_with fail
    go_ret
    exact ⟨rfl, hb⟩
  · have hgo : ¬ (20000 : Int) < (s.size : Int) := by omega
    have hD1 := Decode_calls s hs w hE
    have hD2 := fun W h => refDecode_calls s (by omega) W h
    go_enter Tryd.func4, Tryd.ntmps4
    go_wp2_with fail
    refine hD1.mono ?_
    rintro r w1 hpost
    obtain ⟨c, x, rfl, hc, hb1⟩ := hpost.res
    obtain ⟨hcs, hco⟩ := hc.box
    have hX := XB.first hb1 c
    clear hpost hD1 hb1
    go_wp2_with (refine wpList_store_row rfl 26 _ _ rfl (w1.heap.size) c rfl rfl 26 Tryd.zeroCells26 (heapN w1 _) (info_c hcs) (zero_c hcs) hco ?_)
    generalize (w1.alloc (.cells Tryd.zeroCells26 26)).setRow w1.heap.size c = w2 at *
    generalize w1.heap.size = g at *
    refine (hD2 _ (hE.below hX.bel)).mono ?_
    rintro r w3 hpost
    obtain ⟨c', x', rfl, hc', hb3⟩ := hpost.res
    obtain ⟨hcs', hco'⟩ := hc'.box
    obtain ⟨rfl, hq⟩ := hc.same hc'
    have hX3 := hX.keep hb3
    obtain ⟨hX4, hX5⟩ := hX3.next c'
    clear hpost hD2 hb3 hX hX3 hc hc'
    go_wp2_with (refine wpList_store_row rfl 26 _ _ rfl (w3.heap.size) c' rfl rfl 26 Tryd.zeroCells26 (heapN w3 _) (info_c hcs') (zero_c hcs') hco' ?_)
    generalize (w3.alloc (.cells Tryd.zeroCells26 26)).setRow w3.heap.size c' = w4 at *
    generalize w3.heap.size = g' at *
    refine (alive_calls _ (hE.below hX4.bel)).mono ?_
    rintro r w5 ⟨rfl, hb⟩
    have hX6 := hX4.keep hb
    have hX7 := hX5.keep hb
    clear hb hX4 hX5
    go_wp2_with (first
      | (refine wpList_load_row_g (by first | rfl | simp [Region.wanted, yielded]) 26 (.tmp 3) rfl g rfl 26 c (0, 0) _ hX6.box Tryd.underlying26 rfl (info_c hcs) ?_)
      | (refine wpList_load_row_g (by first | rfl | simp [Region.wanted, yielded]) 26 (.tmp 5) rfl g' rfl 26 c' (0, 0) _ hX7.box Tryd.underlying26 rfl (info_c hcs') ?_))
    go_ret
    exact ⟨rfl, hX6.bel⟩
set_option maxHeartbeats 4000000 in
set_option maxRecDepth 100000 in
theorem PacketBack_walk (c : Array Value) (k fr o : Int) (e cu : Nat) (a : Array Value) (f : Nat → Nat) (hp : Pk c k fr o e cu a f) (w : World) (hE : Env w) : Calls Tryd.prog 5 #[.agg c] w fun r w' => r = .returned (.bool true) ∧ Below w.heap.size w w' := by
  have hi : (Tryd.prog.info? 26).map (·.size) = some c.size := by rw [hp.size]; exact info26
  have hE1 := fun W h => Encode_calls c k fr o e cu a f hp W h
  obtain ⟨T, x, hT, hx⟩ := enc_ret k fr o e cu f
  rw [hT] at hE1
  have hTs : T.size ≤ 70000 := by
    rcases hx with ⟨-, K, F, O, -, -, -, -, rfl⟩ | ⟨-, rfl⟩
    · have h1 := encV_len K F O e cu (printH (hasN f))
      have h2 := print_len (hasN f)
      change (printH (hasN f)).length ≤ 65390 at h2
      rw [size_mk]
      omega
    · decide
  have hx2 : x = 140 ∨ (x = 0 ∧ DcIs T.data.toList c 0) := by
    rcases hx with ⟨rfl, K, F, O, rfl, rfl, rfl, hr, rfl⟩ | ⟨rfl, -⟩
    · exact Or.inr ⟨rfl, Or.inl ⟨rfl, K, F, O, e, cu, a, f, hp, hr, rfl⟩⟩
    · exact Or.inl rfl
  have hD := fun W h => Decode_calls T (by omega) W h
  clear hT hp hx
  have hX := XB.new w c
  go_enter Tryd.func5, Tryd.ntmps5
  go_wp2_with (refine wpList_load_row rfl 26 _ rfl w.heap.size rfl 26 c (0, 0) _ hX.box Tryd.underlying26 rfl hi ?_)
  refine (hE1 _ (hE.below hX.bel)).mono ?_
  rintro r w1 ⟨rfl, hb⟩
  have hX1 := hX.keep hb
  clear hb hX hE1
  go_wp2_with fail
  refine (hD _ (hE.below hX1.bel)).mono ?_
  rintro r w2 hpost
  obtain ⟨c', x', rfl, hc', hb2⟩ := hpost.res
  obtain ⟨hcs', hco'⟩ := hc'.box
  have hX2 := hX1.keep hb2
  obtain ⟨hX4, hX5⟩ := hX2.next c'
  have hx3 : x = 140 ∨ (x = 0 ∧ x' = 0 ∧ ∀ W, (binOp .eql 26 (.agg c') (.agg c)).run Tryd.prog W = .ok (.bool true) W) := by
    rcases hx2 with h | ⟨h, h1⟩
    · exact Or.inl h
    · obtain ⟨h2, h3⟩ := hc'.same h1
      exact Or.inr ⟨h, h2, h3⟩
  clear hpost hD hb2 hX2 hX1 hc' hx2
  rcases hx3 with rfl | ⟨rfl, rfl, hq⟩
  · go_wp2_with (refine wpList_store_row rfl 26 _ _ rfl (w2.heap.size) c' rfl rfl 26 Tryd.zeroCells26 (heapN w2 _) (info_c hcs') (zero_c hcs') hco' ?_)
    refine (alive_calls _ (hE.below hX4.bel)).mono ?_
    rintro r w5 ⟨rfl, hb⟩
    have hX6 := hX4.keep hb
    clear hb hX4 hX5
    go_wp2_with fail
    go_ret
    exact ⟨rfl, hX6.bel⟩
  · go_wp2_with (refine wpList_store_row rfl 26 _ _ rfl (w2.heap.size) c' rfl rfl 26 Tryd.zeroCells26 (heapN w2 _) (info_c hcs') (zero_c hcs') hco' ?_)
    generalize (w2.alloc (.cells Tryd.zeroCells26 26)).setRow w2.heap.size c' = w4 at *
    generalize w2.heap.size = g' at *
    refine (alive_calls _ (hE.below hX4.bel)).mono ?_
    rintro r w5 ⟨rfl, hb⟩
    have hX6 := hX4.keep hb
    have hX7 := hX5.keep hb
    clear hb hX4 hX5
    go_wp2_with (first
      | (refine wpList_load_row_g (by first | rfl | simp [Region.wanted, yielded]) 26 (.tmp 1) rfl w.heap.size rfl 26 c (0, 0) _ hX6.box Tryd.underlying26 rfl hi ?_)
      | (refine wpList_load_row_g (by first | rfl | simp [Region.wanted, yielded]) 26 (.tmp 5) rfl g' rfl 26 c' (0, 0) _ hX7.box Tryd.underlying26 rfl (info_c hcs') ?_))
    go_ret
    exact ⟨rfl, hX6.bel⟩
end Go.Proofs.YtbpjfjdndaoekaaDoor
