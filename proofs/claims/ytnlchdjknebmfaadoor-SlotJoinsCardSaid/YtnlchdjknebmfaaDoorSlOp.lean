/- A set of slots and a row of ranges as they come in. Conditions: none. -/
import Derived.Test.YtnlchdjknebmfaaDoorSlV
import Derived.ProofKit
import Derived.OpenShut
import Derived.Carry
import Derived.Deep.Slices
import Derived.Deep.Fields
import Derived.Deep.MidRow
import Derived.ChangeSame
import Derived.Deep.RegionHeld3
set_option linter.unusedVariables false
set_option linter.unusedSimpArgs false
namespace Go.Proofs.YtnlchdjknebmfaaDoor
section
open Go.RowKit Go.Proofs.YtnlchdjknebmfaaDoorW.PrintWords
open SlS SlT
/-- a box of slots, and what lies below -/
structure Bx (w : World) (g : Nat) (a : Array Value) (W : World) : Prop where
  bel : Below w.heap.size w W
  box : W.heap[g]? = some (.cells a 30 (0, 0))
  lt : g < W.heap.size
theorem Bx.keep {w W W2 : World} {g : Nat} {a : Array Value} (h : Bx w g a W) (hb : Below W.heap.size W W2) : Bx w g a W2 :=
  ⟨h.bel.trans (hb.mono h.bel.size), (hb.block _ h.lt).trans h.box, Nat.lt_of_lt_of_le h.lt hb.size⟩
theorem Bx.new (w : World) (a : Array Value) : Bx w w.heap.size a (w.alloc (.cells a 30)) := ⟨below_new' w _, heapN w _, by simp⟩
/-- a second box, just laid -/
theorem Bx.next {w W : World} {g : Nat} {a b : Array Value} (h : Bx w g a W) : Bx w g a ((W.alloc (.cells Tryd.zeroCells30 30)).setRow W.heap.size b) ∧ Bx w W.heap.size b ((W.alloc (.cells Tryd.zeroCells30 30)).setRow W.heap.size b) := by
  have hl : W.heap.size < ((W.alloc (.cells Tryd.zeroCells30 30)).setRow W.heap.size b).heap.size := by simp [World.setRow]
  have hb : Below w.heap.size w ((W.alloc (.cells Tryd.zeroCells30 30)).setRow W.heap.size b) := below_setRow (h.bel.trans ((below_new' W _).mono h.bel.size)) h.bel.size _
  have hlt := h.lt
  exact ⟨⟨hb, (setRow_other _ _ _ _ (by omega)).trans (((below_new' W _).block _ h.lt).trans h.box), by omega⟩, ⟨hb, setRow_heap _ _ _ _ _ _ (heapN W _), hl⟩⟩
theorem Bx.drew {w W : World} {g : Nat} {a : Array Value} (h : Bx w g a W) : Bx w g a W.drew := ⟨below_drew h.bel, h.box, h.lt⟩
theorem yields_row {P : Program} {ops : Array Oper} {S : World → Prop} {o : Oper} {a : Act} (hw : Region.wanted o (yielded ops a.tmps) = true) (ty : TypeId) (x : Operand) (ho : o.op = .load ty x)
    (g : Nat) (hx : a.eval x = .pointer (some ⟨g, 0, none⟩)) (t : TypeId) (cs : Array Value) (fr : Nat × Nat) (d : TypeDesc) (hS : ∀ W, S W → W.heap[g]? = some (.cells cs t fr))
    (hu : P.underlying ty = some d) (hd : (match d with | .struct _ | .array _ _ => true | _ => false) = true) (hi : (P.info? ty).map (·.size) = some cs.size) : YieldsIf P ops S o (.agg cs) a :=
  .inl ⟨hw, fun W hW => by
    unfold execOp
    simp only [ho, hx, Instr.loadAt, Instr.sureAddr, Sem.run_bind, Sem.run_pure, Result.andThen_ok, run_loadVar_row W g t ty cs fr d (hS W hW) hu hd hi]⟩
end
open Go Go.ChangeShapes Go.WideShapes Go.ChangeAt Go.RowKit Go.Deep Go.Proofs.YtnlchdjknebmfaaDoorW.PrintWords
theorem cBits : Tryd.prog.cellsOf 30 = 256 := by kernel_rfl
theorem cU64 : Tryd.prog.cellsOf 28 = 1 := by kernel_rfl
theorem cRng : Tryd.prog.cellsOf 53 = 2 := by kernel_rfl
theorem u64_of {z : Int} (h : (Lit.int .u64 z).wf = true) : 0 ≤ z ∧ z < 18446744073709551616 := by
  have e1 : IntKind.u64.min = 0 := rfl
  have e2 : IntKind.u64.max = 18446744073709551615 := rfl
  simp [Lit.wf, e1, e2] at h
  omega
section
variable {H : Type} {enc : TypeId × Value → H} {W : World} {b : Nat} {v : Value} {d : DataW H} {p : List MemPlace}
theorem bits_words {n : Nat} {e t : TypeId} {cs : Array Value} (ht : Tryd.prog.underlying t = some (.array n e)) (he : Tryd.prog.underlying e = some (.int .u64)) (hce : Tryd.prog.cellsOf e = 1) (hn : n = 256) (hsz : cs.size = 256)
    {fuel : Nat} {x : DataW H × List MemPlace} (h : DataW.trod enc Tryd.prog W 0 (fun _ => true) true fuel t cs.toList = some x) : ∃ f, Words cs f := by
  obtain ⟨xs, m, _, _, _, hl, hx⟩ := DataW.trod_array ht h
  have key : ∀ i, i < 256 → ∃ z : Nat, cs[i]? = some (.int .u64 (z : Int)) ∧ z < 18446744073709551616 := by
    intro i hi
    have h1 := hx i (by omega)
    rw [hce] at h1
    have hxi : xs[i]? = some (xs[i]'(by omega)) := List.getElem?_eq_getElem (by omega)
    rw [hxi] at h1
    obtain ⟨z, hcs, _, hw⟩ := DataW.trod_int he h1
    have hb := u64_of hw
    have hci : cs[i]? = some (.int .u64 z) := by
      have := congrArg (·[0]?) hcs
      simpa [List.getElem?_take, List.getElem?_drop] using this
    refine ⟨z.toNat, ?_, by omega⟩
    rw [hci, Int.toNat_of_nonneg hb.1]
  refine ⟨fun i => if h : i < 256 then (key i h).choose else 0, hsz, fun i hi => ?_, fun i => ?_⟩
  · rw [dif_pos hi]; exact (key i hi).choose_spec.1
  · by_cases h : i < 256
    · rw [dif_pos h]; exact (key i h).choose_spec.2
    · rw [dif_neg h]; decide
set_option maxRecDepth 100000 in
theorem open_bits (hv : Value.okWide Tryd.prog W .any b 30 v) (h : DataW.Trod enc Tryd.prog W 0 (fun _ => true) true 30 v d p) : ∃ a f, v = .agg a ∧ Words a f := by
  have hv2 : ∃ cs : Array Value, v = .agg cs ∧ cs.size = Tryd.prog.cellsOf 30 := by
    simp only [Value.okWide, Tryd.underlying30] at hv
    obtain ⟨cs, h1, h2, _⟩ := hv
    exact ⟨cs, h1, h2⟩
  obtain ⟨cs, rfl, hsz⟩ := hv2
  obtain ⟨fuel, hf⟩ := h
  obtain ⟨f, hw⟩ := bits_words Tryd.underlying30 Tryd.underlying28 cU64 rfl (hsz.trans cBits) (fuel := fuel) (x := (d, p)) hf
  exact ⟨cs, f, rfl, hw⟩
theorem open_slice_fields {P : Program} {base : Nat} {spare : Nat → Bool} {held : Bool} {t e : TypeId} {fs : Array Field} {fuel : Nat} {cs : List Value} {x : DataW H × List MemPlace} (ht : P.underlying t = some (.slice e)) (he : P.underlying e = some (.struct fs))
    (hone : oneCellFields P fs = true) (hC : P.cellsOf e = fs.size) (h : DataW.trod enc P W base spare held fuel t cs = some x) :
    (cs = [.slice none 0 0]) ∨
    ∃ (a : Addr) (len cap m : Nat), cs = [.slice (some a) len cap] ∧ len ≤ cap ∧ cap ≤ maxLen ∧ m = (if spare a.block then cap else len) ∧
      ∀ i, i < m → ∃ (ys : List (DataW H × List MemPlace)) (n : Nat), ys.length = fs.size ∧
        ∀ (j : Nat) (f : Field), fs[j]? = some f → ∃ (v : Value) (y : DataW H × List MemPlace), W.cell? (a.add (i * fs.size + j)) = some v ∧ ys[j]? = some y ∧ DataW.trod enc P W base spare held n f.type [v] = some y := by
  rcases open_slice ht h with h0 | ⟨a, len, cap, m, n, D, Pl, hcs, hb, hl, hm, hmm, hx, hi⟩
  · exact .inl h0.1
  · refine .inr ⟨a, len, cap, m, hcs, hl, hm, hmm, fun i him => ?_⟩
    obtain ⟨cs', hc, ht'⟩ := hi i him
    rw [hC] at hc
    obtain ⟨ys, n', hn', hy, hlen, hyl, hf⟩ := DataW.trod_struct he ht'
    obtain ⟨_, hcl, hat⟩ := World.cells?_some hc
    refine ⟨ys, n', hyl, fun j f hj => ?_⟩
    obtain ⟨ho, hk⟩ := hone_of hone j f hj
    have hjl : j < fs.size := (Array.getElem?_eq_some_iff.1 hj).1
    have hcell := hat j hjl
    have hv : cs'[j]? = some (cs'[j]'(by omega)) := List.getElem?_eq_getElem (by omega)
    have h1 := hf j f hj
    rw [ho, hk] at h1
    have hone' : (cs'.drop j).take 1 = [cs'[j]'(by omega)] := by
      rw [List.drop_eq_getElem_cons (by omega)]
      rfl
    rw [hone'] at h1
    have hys : ys[j]? = some (ys[j]'(by omega)) := List.getElem?_eq_getElem (by omega)
    refine ⟨_, _, ?_, hys, h1.trans hys⟩
    rw [← Go.Deep.add_add, hcell, hv]
theorem spot_none {w : World} {b o : Nat} {sp : Option Nat} {v : Value} (h : w.cell? ⟨b, o, sp⟩ = some v) : sp = none := by
  cases sp with
  | none => rfl
  | some x =>
    unfold World.cell? at h
    split at h <;> simp at h
set_option maxRecDepth 100000 in
theorem open_rngs (hv : Value.okWide Tryd.prog W .any b 35 v) (h : DataW.Trod enc Tryd.prog W 0 (fun _ => true) true 35 v d p) :
    ∃ A c l, v = .slice A (l : List (Int × Int)).length c ∧ RdR W A l ∧ l.length ≤ 9223372036854775807 := by
  obtain ⟨A0, len, cap, rfl⟩ := okWide_slice Tryd.underlying35 hv
  obtain ⟨fuel, hf⟩ := h
  have hf' : DataW.trod enc Tryd.prog W 0 (fun _ => true) true fuel 35 [.slice A0 len cap] = some (d, p) := hf
  rcases open_slice_fields Tryd.underlying35 Tryd.underlying53 (by kernel_rfl) cRng hf' with h0 | ⟨a, len', cap', m, hcs, hl, hm, hmm, hx⟩
  · simp only [List.cons.injEq, Value.slice.injEq, and_true] at h0
    obtain ⟨rfl, rfl, rfl⟩ := h0
    exact ⟨none, 0, [], rfl, fun k p hk => by simp at hk, by simp⟩
  · simp only [List.cons.injEq, Value.slice.injEq, and_true] at hcs
    obtain ⟨rfl, rfl, rfl⟩ := hcs
    simp only [if_true] at hmm
    subst hmm
    obtain ⟨B, hB⟩ := choose_lt (n := m) (α := Int × Int) (p := fun i b => W.cell? (a.add (i * 2)) = some (.int .i64 b.1) ∧ W.cell? (a.add (i * 2 + 1)) = some (.int .i64 b.2)) (fun i hi => by
      obtain ⟨ys, n, _, hfl⟩ := hx i hi
      obtain ⟨v0, y0, c0, _, t0⟩ := hfl 0 _ rfl
      obtain ⟨v1, y1, c1, _, t1⟩ := hfl 1 _ rfl
      obtain ⟨z0, e0, _, _⟩ := DataW.trod_int Tryd.underlying3 t0
      obtain ⟨z1, e1, _, _⟩ := DataW.trod_int Tryd.underlying3 t1
      cases e0
      cases e1
      exact ⟨(z0, z1), c0, c1⟩)
    refine ⟨some a, m, (List.range len).map B, by simp, fun k q hk => ?_, ?_⟩
    · have hkl : k < len := by
        have := (List.getElem?_eq_some_iff.1 hk).1
        simpa using this
      rw [List.getElem?_map, List.getElem?_range hkl] at hk
      cases hk
      obtain ⟨c0, c1⟩ := hB k (by omega)
      obtain ⟨g, o, sp⟩ := a
      obtain rfl : sp = none := by
        have hB0 := (hB 0 (by omega)).1
        have e : (Addr.add ⟨g, o, sp⟩ (0 * 2)) = ⟨g, o, sp⟩ := by simp [Addr.add]
        rw [e] at hB0
        exact spot_none hB0
      rw [Addr.add_mid] at c0 c1
      exact ⟨g, o, rfl, World.block_lt_of_cell? W _ c0, c0, by rw [Nat.add_assoc]; exact c1⟩
    · have : m ≤ maxLen := hm
      unfold maxLen at this
      simp
      omega
end
end Go.Proofs.YtnlchdjknebmfaaDoor
