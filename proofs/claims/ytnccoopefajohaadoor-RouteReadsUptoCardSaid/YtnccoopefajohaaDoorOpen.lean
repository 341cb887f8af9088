/- What a struct of integers and rows holds, field by field, as an argument comes in. Conditions: none. -/
import Derived.Test.YtnccoopefajohaaDoorWWords
import Derived.WalkKit
import Derived.ProofKit
import Derived.OpenShut
import Derived.Carry
import Derived.Deep.Grids
set_option linter.unusedVariables false
set_option linter.unusedSimpArgs false
namespace Go.Proofs.YtnccoopefajohaaDoor.Op
open Go Go.ChangeShapes Go.WideShapes Go.ChangeAt Go.RowKit Go.Proofs.YtnccoopefajohaaDoorW.PrintWords
section
variable {H : Type} {enc : TypeId × Value → H} {P : Program} {W : World}

theorem open_fields {t : TypeId} {fs : Array Field} {v : Value} {d : DataW H} {p : List MemPlace} {b : Nat} (hs : P.underlying t = some (.struct fs)) (hv : Value.okWide P W .any b t v) (h : DataW.Trod enc P W 0 (fun _ => true) true t v d p) :
    ∃ cs n, v = .agg cs ∧ cs.size = P.cellsOf t ∧ ∀ (i : Nat) (f : Field), fs[i]? = some f → ∃ y, DataW.trod enc P W 0 (fun _ => true) true n f.type ((cs.toList.drop f.offset).take (P.cellsOf f.type)) = some y := by
  obtain ⟨cs, rfl, hsz⟩ := okWide_struct hs hv
  obtain ⟨fuel, hf⟩ := h
  obtain ⟨xs, n, _, _, _, hl, hx⟩ := DataW.trod_struct hs hf
  refine ⟨cs, n, rfl, hsz, fun i f hi => ?_⟩
  have h1 : i < fs.size := by
    rcases Nat.lt_or_ge i fs.size with h | h
    · exact h
    · rw [Array.getElem?_eq_none h] at hi; cases hi
  exact ⟨_, (hx i f hi).trans (List.getElem?_eq_getElem (by omega))⟩

theorem open_fields1 {t : TypeId} {fs : Array Field} {v : Value} {d : DataW H} {p : List MemPlace} {b : Nat} (hs : P.underlying t = some (.struct fs)) (hv : Value.okWide P W .any b t v) (h : DataW.Trod enc P W 0 (fun _ => true) true t v d p) :
    ∃ cs n, v = .agg cs ∧ cs.size = P.cellsOf t ∧ ∀ (i : Nat) (e : TypeId) (o : Nat), (fs[i]?).map (fun f => (f.type, f.offset)) = some (e, o) → P.cellsOf e = 1 → ∀ x, cs[o]? = some x → ∃ y, DataW.trod enc P W 0 (fun _ => true) true n e [x] = some y := by
  obtain ⟨cs, n, h1, h2, h3⟩ := open_fields hs hv h
  refine ⟨cs, n, h1, h2, fun i e o hf hc x hx => ?_⟩
  cases hfi : fs[i]? with
  | none => rw [hfi] at hf; cases hf
  | some f =>
    rw [hfi] at hf
    simp only [Option.map_some, Option.some.injEq, Prod.mk.injEq] at hf
    obtain ⟨rfl, rfl⟩ := hf
    obtain ⟨y, hy⟩ := h3 i f hfi
    have e1 : (cs.toList.drop f.offset).take 1 = [x] := by
      have hl : cs.toList[f.offset]? = some x := by rw [Array.getElem?_toList]; exact hx
      rw [List.take_one, List.head?_drop, hl]
      rfl
    rw [hc, e1] at hy
    exact ⟨y, hy⟩

theorem field_int {e : TypeId} {k : IntKind} {n : Nat} {x : Value} {y : DataW H × List MemPlace} (he : P.underlying e = some (.int k)) (h : DataW.trod enc P W 0 (fun _ => true) true n e [x] = some y) :
    ∃ a, x = .int k a ∧ (Lit.int k a).wf = true := by
  obtain ⟨a, h1, _, h2⟩ := DataW.trod_int he h
  cases h1
  exact ⟨a, rfl, h2⟩

theorem field_ints {t e : TypeId} {k : IntKind} {n : Nat} {x : Value} {y : DataW H × List MemPlace} (ht : P.underlying t = some (.slice e)) (he : P.underlying e = some (.int k)) (hc : P.cellsOf e = 1)
    (h : DataW.trod enc P W 0 (fun _ => true) true n t [x] = some y) :
    ∃ A c l, x = .slice A l.length c ∧ Kd.C (Kd.int k) W A l.length l ∧ l.length ≤ c ∧ l.length ≤ 9223372036854775807 ∧ ∀ z ∈ l, (Lit.int k z).wf = true := by
  have key : ∃ A len cap zs, x = .slice A len cap ∧ ((A = none ∧ len = 0 ∧ cap = 0 ∧ zs = []) ∨ ∃ x, A = some x ∧ len ≤ cap ∧ cap ≤ maxLen ∧ zs.length = cap ∧ (∀ i, i < zs.length → W.cell? (x.add i) = some (.int k (zs.getD i 0))) ∧ ∀ n ∈ zs, (Lit.int k n).wf = true) := by
    rcases open_ints ht he hc h with ⟨hcs, _⟩ | ⟨a, l, c, zs, hcs, _, hl, hm, hz, _, hcell, hwz⟩
    · cases hcs
      exact ⟨none, 0, 0, [], rfl, Or.inl ⟨rfl, rfl, rfl, rfl⟩⟩
    · cases hcs
      exact ⟨_, _, _, zs, rfl, Or.inr ⟨_, rfl, hl, hm, by simpa using hz, hcell, hwz⟩⟩
  obtain ⟨A, len, cap, zs, rfl, hk⟩ := key
  obtain ⟨l, rfl, hr, hm, hw, hcap⟩ := ReadsInt.ofRowC hk
  exact ⟨A, cap, l, rfl, Kd.C_of_reads (d := (0 : Int)) (h1 := fun _ => rfl) hr, hcap, by unfold maxLen at hm; exact hm, hw⟩

theorem field_bools {t e : TypeId} {n : Nat} {x : Value} {y : DataW H × List MemPlace} (ht : P.underlying t = some (.slice e)) (he : P.underlying e = some .bool) (hc : P.cellsOf e = 1)
    (h : DataW.trod enc P W 0 (fun _ => true) true n t [x] = some y) :
    ∃ A c l, x = .slice A l.length c ∧ Kd.C Kd.bool W A l.length l ∧ l.length ≤ c ∧ l.length ≤ 9223372036854775807 := by
  rcases Go.Deep.open_bools ht he hc h with ⟨hcs, _⟩ | ⟨a, len, cap, B, hcs, _, hl, hm, _, hcell⟩
  · cases hcs
    exact ⟨none, 0, [], rfl, ⟨rfl, Nat.zero_le _, fun h => absurd h (Nat.lt_irrefl _)⟩, Nat.le_refl _, Nat.zero_le _⟩
  · cases hcs
    unfold maxLen at hm
    have hlen : ((List.range len).map B).length = len := by simp
    refine ⟨some a, cap, (List.range len).map B, by rw [hlen], ?_, by rw [hlen]; exact hl, by rw [hlen]; omega⟩
    rw [hlen]
    refine Kd.C_of_reads (d := false) (h1 := fun _ => rfl) ⟨hlen, by omega, fun _ => ⟨a, rfl, fun j hj => ?_⟩⟩
    rw [hcell j (by omega)]
    simp [hj]
end
end Go.Proofs.YtnccoopefajohaaDoor.Op
