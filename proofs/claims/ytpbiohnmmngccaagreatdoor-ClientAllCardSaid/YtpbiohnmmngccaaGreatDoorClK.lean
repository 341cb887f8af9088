/- Of a name the command; of arguments whether they are right. Conditions: utf8's tables as laid. -/
import Derived.Test.YtpbiohnmmngccaaGreatDoorClT
import Derived.Deep.WholeRow
import Derived.Laws.CopyOwn
set_option linter.unusedVariables false
set_option linter.unusedSimpArgs false
namespace Go.Proofs.YtpbiohnmmngccaaGreatDoor
open Go.RowKit Go.Proofs.YtpbiohnmmngccaaGreatDoorW.PrintWords
theorem results_cell_row2 {P : Program} {fn : Func} {p q : Tmp} {ty : TypeId} (h : fn.results = #[.cell p ty, .tmp q]) (tmps : Array Value) (w : World) (g : Nat) (t : TypeId) (cs : Array Value) (fr : Nat × Nat) (d : TypeDesc) (v : Value)
    (hp : tmps.getD p undef = .pointer (some ⟨g, 0, none⟩)) (hq : tmps.getD q undef = v) (hg : w.heap[g]? = some (.cells cs t fr))
    (hu : P.underlying ty = some d) (hd : (match d with | .struct _ | .array _ _ => true | _ => false) = true) (hi : (P.info? ty).map (·.size) = some cs.size) :
    (results fn tmps).run P w = .ok (.tuple #[.agg cs, v]) w := by
  have hp' : tmps[p]?.getD undef = .pointer (some ⟨g, 0, none⟩) := by simpa using hp
  have hq' : tmps[q]?.getD undef = v := by simpa using hq
  simp [results, h, hp', hq', asAddr, run_loadVar_row w g t ty cs fr d hg hu hd hi]
theorem heap1 (w : World) (A B : Obj) : ((w.alloc A).alloc B).heap[w.heap.size + 1]? = some B := by
  have := heap_alloc_new (w.alloc A) B
  rw [World.size_alloc] at this
  exact this
theorem heap0 (w : World) (A B : Obj) : ((w.alloc A).alloc B).heap[w.heap.size]? = some A := ((below_alloc (Below.refl (w.alloc A).heap.size (w.alloc A)) B).block w.heap.size (by simp)).trans (heap_alloc_new w A)
theorem spec_one (a : ByteArray) (b c d e f : Int) (g : Bool) : (#[.string a, .int .i64 b, .int .i64 c, .int .i64 d, .int .i64 e, .int .i64 f, .bool g] : Array Value).all (·.oneCell') = true := by
  simp [Value.oneCell']
def spec0 : Spec := ⟨[], 0, 0, 0, 0, 0, false⟩
def findV (s : ByteArray) : Option Spec := if 10 < s.size then none else specs.find? (fun sp => decide (sp.name = upperV s.data.toList))
def FindR (o : Option Spec) : Value := .tuple #[(o.getD spec0).val, .bool o.isSome]
theorem idx_find (U : List UInt8) : (idxV U = -1 ∧ specs.find? (fun sp => decide (sp.name = U)) = none) ∨ ∃ (j : Nat) (sp : Spec), idxV U = j ∧ j < 47 ∧ specs[j]? = some sp ∧ specs.find? (fun sp => decide (sp.name = U)) = some sp := by
  unfold idxV
  cases h : specs.findIdx? (fun sp => decide (sp.name = U)) with
  | none =>
    left
    refine ⟨rfl, ?_⟩
    rw [List.findIdx?_eq_none_iff] at h
    rw [List.find?_eq_none]
    intro x hx
    have := h x hx
    simpa using this
  | some j =>
    right
    obtain ⟨hj, h1, h2⟩ := List.findIdx?_eq_some_iff_getElem.1 h
    refine ⟨j, specs[j], rfl, hj, List.getElem?_eq_getElem hj, ?_⟩
    rw [List.find?_eq_some_iff_getElem]
    exact ⟨h1, j, hj, rfl, fun k hk => by simpa using h2 k hk⟩
set_option maxHeartbeats 2000000 in
set_option maxRecDepth 100000 in
theorem Find_calls (s : ByteArray) (w : World) (hE : Env w) :
    Calls Tryz.prog 49 #[.string s] w fun e w' => e = .returned (FindR (findV s)) ∧ Below w.heap.size w w' := by
  by_cases h10 : 10 < s.size
  · have d10 : decide ((10 : Int) < (s.size : Int)) = true := decide_eq_true (by omega)
    have hv : findV s = none := by unfold findV; rw [if_pos h10]
    rw [hv]
    go_enter Tryz.func49, Tryz.ntmps49
    go_wp2_with fail
    exact bodyPost_ret (results_cell_row2 Tryz.results49 _ _ (w.heap.size + 1) 84 _ (0, 0) _ _ rfl rfl (heap1 _ _ _) Tryz.underlying84 rfl (by kernel_rfl)) rfl ⟨rfl, below_alloc (below_alloc (Below.refl _ _) _) _⟩
  · have d10 : decide ((10 : Int) < (s.size : Int)) = false := decide_eq_false (by omega)
    have hv : findV s = specs.find? (fun sp => decide (sp.name = upperV s.data.toList)) := by unfold findV; rw [if_neg h10]
    rw [hv]
    have hI := fun b g W hW hc hg => IndexFunc_calls s (by omega) b g W hW hc hg
    have hidx := idx_find (upperV s.data.toList)
    generalize upperV s.data.toList = U at *
    go_enter Tryz.func49, Tryz.ntmps49
    go_wp2_with fail
    refine (all_calls _).mono ?_
    rintro e w1 ⟨rfl, rfl⟩
    have hb2 : Below w.heap.size w ((w.alloc (.cells #[.string s] 9)).alloc (.cells #[.string ⟨#[]⟩, .int .i64 0, .int .i64 0, .int .i64 0, .int .i64 0, .int .i64 0, .bool false] 84)) := below_alloc (below_alloc (Below.refl _ _) _) _
    have hres := heap1 w (.cells #[.string s] 9) (.cells #[.string ⟨#[]⟩, .int .i64 0, .int .i64 0, .int .i64 0, .int .i64 0, .int .i64 0, .bool false] 84)
    have hnm : ((w.alloc (.cells #[.string s] 9)).alloc (.cells #[.string ⟨#[]⟩, .int .i64 0, .int .i64 0, .int .i64 0, .int .i64 0, .int .i64 0, .bool false] 84)).heap[w.heap.size]? = some (.cells #[.string s] 9 (0, 0)) :=
      heap0 _ _ _
    generalize hW : (w.alloc (.cells #[.string s] 9)).alloc (.cells #[.string ⟨#[]⟩, .int .i64 0, .int .i64 0, .int .i64 0, .int .i64 0, .int .i64 0, .bool false] 84) = W at *
    have hs1 : W.heap.size = w.heap.size + 2 := by rw [← hW]; simp
    clear hW
    have hb3 : Below W.heap.size W (W.alloc (.cells specC 84)) := below_alloc (Below.refl _ _) _
    have hnm3 := (hb3.block w.heap.size (by omega)).trans hnm
    have hres3 := (hb3.block (w.heap.size + 1) (by omega)).trans hres
    have hsp3 : (W.alloc (.cells specC 84)).heap[W.heap.size]? = some (.cells specC 84 (0, 0)) := heap_alloc_new _ _
    have hb3' := hb2.trans (hb3.mono hb2.size)
    generalize W.alloc (.cells specC 84) = W3 at *
    generalize hg : W.heap.size = g at *
    subst hs1
    clear hg
    have hcall := hI w.heap.size (w.heap.size + 2) W3 (hE.below hb3') ((cell_of_box hnm3 0).trans rfl) hsp3
    clear hI hnm hres hb2 hb3
    go_wp2_with fail
    refine hcall.mono ?_
    rintro e w4 ⟨rfl, hb4⟩
    have hb4' := hb3'.trans (hb4.mono hb3'.size)
    have hsp4 := (hb4.block (w.heap.size + 2) (Array.getElem?_eq_some_iff.1 hsp3).1).trans hsp3
    have hres4 := (hb4.block (w.heap.size + 1) (Array.getElem?_eq_some_iff.1 hres3).1).trans hres3
    clear hnm3 hres3 hsp3 hcall
    have hi72 : (Tryz.prog.info? 84).map (·.size) = some 7 := by kernel_rfl
    rcases hidx with ⟨hi, hf⟩ | ⟨j, sp, hi, hj, hsp, hf⟩
    · rw [hi]
      go_wp2_with (refine wpList_store_row rfl 84 _ _ rfl (w.heap.size + 1) #[.string ⟨#[]⟩, .int .i64 0, .int .i64 0, .int .i64 0, .int .i64 0, .int .i64 0, .bool false] rfl rfl 84 #[.string ⟨#[]⟩, .int .i64 0, .int .i64 0, .int .i64 0, .int .i64 0, .int .i64 0, .bool false] hres4 hi72 rfl (spec_one _ _ _ _ _ _ _) ?_)
      exact bodyPost_ret (results_cell_row2 Tryz.results49 _ _ (w.heap.size + 1) 84 _ (0, 0) _ _ rfl rfl (setRow_heap _ _ _ _ _ _ hres4) Tryz.underlying84 rfl (by kernel_rfl)) rfl ⟨by rw [hf]; rfl, below_setRow hb4' (by omega) _⟩
    · rw [hi]
      have hj0 : (0 : Int) ≤ (j : Int) := by omega
      have hjn : decide ((j : Int) < 0) = false := decide_eq_false (by omega)
      have hj47 : decide ((j : Int) < 47) = true := decide_eq_true (by omega)
      have hcl : ∀ i v, sp.cells[i]? = some v → w4.cell? ⟨w.heap.size + 2, j * 7 + i, none⟩ = some v := fun i v h => (cell_of_box hsp4 _).trans (spec_cell j sp hsp i v h)
      obtain ⟨nm, l, m, f, la, st, wri⟩ := sp
      have h0 : w4.cell? ⟨w.heap.size + 2, j * 7, none⟩ = _ := hcl 0 _ rfl
      have h1 := hcl 1 _ rfl
      have h2 := hcl 2 _ rfl
      have h3 := hcl 3 _ rfl
      have h4 := hcl 4 _ rfl
      have h5 := hcl 5 _ rfl
      have h6 := hcl 6 _ rfl
      clear hcl hsp4
      go_wp2_with (refine wpList_store_row rfl 84 _ _ rfl (w.heap.size + 1) #[.string ⟨nm.toArray⟩, .int .i64 l, .int .i64 m, .int .i64 f, .int .i64 la, .int .i64 st, .bool wri] rfl rfl 84 #[.string ⟨#[]⟩, .int .i64 0, .int .i64 0, .int .i64 0, .int .i64 0, .int .i64 0, .bool false] hres4 hi72 rfl (spec_one _ _ _ _ _ _ _) ?_)
      exact bodyPost_ret (results_cell_row2 Tryz.results49 _ _ (w.heap.size + 1) 84 _ (0, 0) _ _ rfl rfl (setRow_heap _ _ _ _ _ _ hres4) Tryz.underlying84 rfl (by kernel_rfl)) rfl ⟨by rw [hf]; rfl, below_setRow hb4' (by omega) _⟩
end Go.Proofs.YtpbiohnmmngccaaGreatDoor
