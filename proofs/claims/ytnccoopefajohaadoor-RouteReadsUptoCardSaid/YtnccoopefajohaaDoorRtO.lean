/- A Case and a Decision as they come in: their fields. Conditions: none. -/
import Derived.Test.YtnccoopefajohaaDoorRtL
set_option linter.unusedVariables false
set_option linter.unusedSimpArgs false
namespace Go.Proofs.YtnccoopefajohaaDoor
open Go Go.ChangeShapes Go.WideShapes Go.ChangeAt Go.RowKit Go.Proofs.YtnccoopefajohaaDoorW.PrintWords
theorem listN9 {cs : Array Value} (h : cs.size = 9) : ∃ c0 c1 c2 c3 c4 c5 c6 c7 c8, cs = #[c0, c1, c2, c3, c4, c5, c6, c7, c8] := by
  obtain ⟨l⟩ := cs
  rcases l with _ | ⟨c0, _ | ⟨c1, _ | ⟨c2, _ | ⟨c3, _ | ⟨c4, _ | ⟨c5, _ | ⟨c6, _ | ⟨c7, _ | ⟨c8, _ | ⟨c9, r⟩⟩⟩⟩⟩⟩⟩⟩⟩⟩ <;> simp at h
  exact ⟨_, _, _, _, _, _, _, _, _, rfl⟩
theorem listN4 {cs : Array Value} (h : cs.size = 4) : ∃ c0 c1 c2 c3, cs = #[c0, c1, c2, c3] := by
  obtain ⟨l⟩ := cs
  rcases l with _ | ⟨c0, _ | ⟨c1, _ | ⟨c2, _ | ⟨c3, _ | ⟨c4, r⟩⟩⟩⟩⟩ <;> simp at h
  exact ⟨_, _, _, _, rfl⟩
theorem i64_of {a : Int} (h : (Lit.int .i64 a).wf = true) : I64 a := by
  have e1 : IntKind.i64.min = -9223372036854775808 := rfl
  have e2 : IntKind.i64.max = 9223372036854775807 := rfl
  simp [Lit.wf, e1, e2] at h
  exact ⟨h.1, h.2⟩
theorem cI : Tryd.prog.cellsOf 3 = 1 := by kernel_rfl
theorem cB : Tryd.prog.cellsOf 4 = 1 := by kernel_rfl
theorem cIs : Tryd.prog.cellsOf 22 = 1 := by kernel_rfl
theorem cBs : Tryd.prog.cellsOf 23 = 1 := by kernel_rfl
theorem cCase : Tryd.prog.cellsOf 25 = 9 := by kernel_rfl
theorem cDec : Tryd.prog.cellsOf 28 = 4 := by kernel_rfl
section
variable {H : Type} {enc : TypeId × Value → H} {W : World} {b : Nat} {v : Value} {d : DataW H} {p : List MemPlace}

theorem open_case (hv : Value.okWide Tryd.prog W .any b 25 v) (h : DataW.Trod enc Tryd.prog W 0 (fun _ => true) true 25 v d p) :
    ∃ a0 a1 a2 a3 a4 a5 A6 A7 A8 c6 c7 c8 l6 l7 l8, v = .agg (caseV a0 a1 a2 a3 a4 a5 A6 A7 A8 (l6 : List Int).length (l7 : List Bool).length (l8 : List Bool).length c6 c7 c8) ∧ CaseOk W A6 A7 A8 c6 c7 c8 l6 l7 l8 := by
  obtain ⟨cs, n, rfl, hsz, hx⟩ := Op.open_fields1 Tryd.underlying25 hv h
  obtain ⟨c0, c1, c2, c3, c4, c5, c6, c7, c8, rfl⟩ := listN9 (hsz.trans cCase)
  obtain ⟨y0, k0⟩ := hx 0 3 0 rfl cI _ rfl
  obtain ⟨y1, k1⟩ := hx 1 3 1 rfl cI _ rfl
  obtain ⟨y2, k2⟩ := hx 2 3 2 rfl cI _ rfl
  obtain ⟨y3, k3⟩ := hx 3 3 3 rfl cI _ rfl
  obtain ⟨y4, k4⟩ := hx 4 3 4 rfl cI _ rfl
  obtain ⟨y5, k5⟩ := hx 5 3 5 rfl cI _ rfl
  obtain ⟨y6, k6⟩ := hx 6 22 6 rfl cIs _ rfl
  obtain ⟨y7, k7⟩ := hx 7 23 7 rfl cBs _ rfl
  obtain ⟨y8, k8⟩ := hx 8 23 8 rfl cBs _ rfl
  obtain ⟨a0, rfl, _⟩ := Op.field_int Tryd.underlying3 k0
  obtain ⟨a1, rfl, _⟩ := Op.field_int Tryd.underlying3 k1
  obtain ⟨a2, rfl, _⟩ := Op.field_int Tryd.underlying3 k2
  obtain ⟨a3, rfl, _⟩ := Op.field_int Tryd.underlying3 k3
  obtain ⟨a4, rfl, _⟩ := Op.field_int Tryd.underlying3 k4
  obtain ⟨a5, rfl, _⟩ := Op.field_int Tryd.underlying3 k5
  obtain ⟨A6, e6, l6, rfl, r6, h6, m6, _⟩ := Op.field_ints Tryd.underlying22 Tryd.underlying3 cI k6
  obtain ⟨A7, e7, l7, rfl, r7, h7, m7⟩ := Op.field_bools Tryd.underlying23 Tryd.underlying4 cB k7
  obtain ⟨A8, e8, l8, rfl, r8, h8, m8⟩ := Op.field_bools Tryd.underlying23 Tryd.underlying4 cB k8
  exact ⟨a0, a1, a2, a3, a4, a5, A6, A7, A8, e6, e7, e8, l6, l7, l8, rfl, r6, h6, m6, r7, h7, m7, r8, h8, m8⟩

theorem open_dec (hv : Value.okWide Tryd.prog W .any b 28 v) (h : DataW.Trod enc Tryd.prog W 0 (fun _ => true) true 28 v d p) :
    ∃ k x y z, v = .agg #[.int .i64 k, .int .i64 x, .int .i64 y, .int .i64 z] ∧ I64 x ∧ I64 y ∧ I64 z := by
  obtain ⟨cs, n, rfl, hsz, hx⟩ := Op.open_fields1 Tryd.underlying28 hv h
  obtain ⟨c0, c1, c2, c3, rfl⟩ := listN4 (hsz.trans cDec)
  obtain ⟨y0, k0⟩ := hx 0 3 0 rfl cI _ rfl
  obtain ⟨y1, k1⟩ := hx 1 3 1 rfl cI _ rfl
  obtain ⟨y2, k2⟩ := hx 2 3 2 rfl cI _ rfl
  obtain ⟨y3, k3⟩ := hx 3 3 3 rfl cI _ rfl
  obtain ⟨a0, rfl, _⟩ := Op.field_int Tryd.underlying3 k0
  obtain ⟨a1, rfl, w1⟩ := Op.field_int Tryd.underlying3 k1
  obtain ⟨a2, rfl, w2⟩ := Op.field_int Tryd.underlying3 k2
  obtain ⟨a3, rfl, w3⟩ := Op.field_int Tryd.underlying3 k3
  exact ⟨a0, a1, a2, a3, rfl, i64_of w1, i64_of w2, i64_of w3⟩
end
end Go.Proofs.YtnccoopefajohaaDoor
