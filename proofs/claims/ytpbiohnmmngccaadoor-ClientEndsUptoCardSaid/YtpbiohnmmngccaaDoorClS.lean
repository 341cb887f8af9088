/- A client's state, what it knows: New, Busy, Where. Conditions: none. -/
import Derived.Test.YtpbiohnmmngccaaDoorClD
import Derived.Maps.Own
import Derived.Maps.OwnSet
import Derived.Maps.Views
set_option linter.unusedVariables false
set_option linter.unusedSimpArgs false
namespace Go.Proofs.YtpbiohnmmngccaaDoor
open Go Go.RowKit Go.Maps Go.Proofs.YtpbiohnmmngccaaDoorW.PrintWords
structure CS where
  home : Int
  kn : Int → Option Int
  args : List ByteArray
  num : Int
  bud : Int
  cnt : Nat
def whereV (s : CS) (k : Int) : Int := (s.kn k).getD s.home
/-- what a map of numbers knows -/
def Knows (D : DataW Unit) (kn : Int → Option Int) : Prop := IsMap D ∧ ∀ k : Int, I64 k → has D (.int .i64 k) = (kn k).isSome ∧ ∀ v, kn k = some v → D.atKey (.int .i64 k) (.lit (.int .i64 0)) = .lit (.int .i64 v)
/-- a row's block holds texts -/
def T9 (W : World) (A : Option Addr) : Prop := ∀ ad, A = some ad → ∃ cs fr, W.heap[ad.block]? = some (.cells cs 9 fr)
theorem T9.keep {W W' : World} {A : Option Addr} (h : T9 W A) (hk : ∀ (k : Nat) (cs : Array Value) (fr : Nat × Nat), W.heap[k]? = some (Obj.cells cs 9 fr) → W'.heap[k]? = W.heap[k]?) : T9 W' A := fun ad hA => by
  obtain ⟨cs, fr, hc⟩ := h ad hA
  exact ⟨cs, fr, (hk _ _ _ hc).trans hc⟩
theorem T9.below {W W' : World} {A : Option Addr} (h : T9 W A) (hb : Below W.heap.size W W') : T9 W' A := T9.keep h fun k cs fr hc => hb.block k (Array.getElem?_eq_some_iff.1 hc).1
theorem strs_keep {w W : World} {A : Option Addr} {l : List ByteArray} (h : Kd.string.C w A l.length l) (ht : T9 w A) (hk : ∀ (k : Nat) (cs : Array Value) (fr : Nat × Nat), w.heap[k]? = some (Obj.cells cs 9 fr) → W.heap[k]? = w.heap[k]?) : Kd.string.C W A l.length l := by
  by_cases h0 : 0 < l.length
  · obtain ⟨b, o, rfl, hbl, hcs⟩ := str_cells h h0
    obtain ⟨cs, fr, hc⟩ := ht _ rfl
    have hblk := hk _ _ _ hc
    refine Kd.C_of_reads (d := (⟨#[]⟩ : ByteArray)) ⟨rfl, h.2.1, fun _ => ⟨_, rfl, fun j hj => ?_⟩⟩
    rw [Addr.add_mid, List.getD_eq_getElem?_getD, List.getElem?_eq_getElem hj, Option.getD_some]
    rw [← hcs j l[j] (List.getElem?_eq_getElem hj)]
    unfold World.cell?
    rw [hblk]
  · exact ⟨rfl, h.2.1, fun h1 => absurd h1 h0⟩
structure Cl (m g : Nat) (s : CS) (W : World) : Prop where
  box : ∃ (A : Option Addr) (c : Nat), W.heap[g]? = some (.cells #[.int .i64 s.home, .map (some m), .slice A s.args.length c, .int .i64 s.num, .int .i64 s.bud] 51 (0, 0)) ∧ Kd.string.C W A s.args.length s.args ∧ s.args.length ≤ c ∧ T9 W A
  map : ∃ (n : Nat) (D : DataW Unit), W.ownsMap Tryd.prog 3 (plainElem Tryd.prog 3) m n D ∧ Knows D s.kn ∧ n ≤ s.cnt
  ne : m ≠ g
theorem Cl.lt {m g : Nat} {s : CS} {W : World} (h : Cl m g s W) : m < W.heap.size ∧ g < W.heap.size := by
  obtain ⟨A, c, hb, -, -, -⟩ := h.box
  obtain ⟨n, D, hm, -, -⟩ := h.map
  exact ⟨hm.lt, (Array.getElem?_eq_some_iff.1 hb).1⟩
theorem Cl.below {m g : Nat} {s : CS} {W W' : World} (h : Cl m g s W) (hb : Below W.heap.size W W') : Cl m g s W' := by
  obtain ⟨A, c, h1, h2, h3, h8⟩ := h.box
  obtain ⟨n, D, ⟨es, ck, h4, h5⟩, h6, h7⟩ := h.map
  exact ⟨⟨A, c, (hb.block g h.lt.2).trans h1, Kd.C_below h2 hb, h3, T9.below h8 hb⟩, ⟨n, D, ⟨es, ck, (hb.block m h.lt.1).trans h4, h5⟩, h6, h7⟩, h.ne⟩
/-- all stays but two blocks -/
structure Keep2 (m g : Nat) (w w' : World) : Prop where
  os : w'.os = w.os
  tape : w'.tape = w.tape
  output : w'.output = w.output
  size : w.heap.size ≤ w'.heap.size
  block : ∀ k, k < w.heap.size → k ≠ m → k ≠ g → w'.heap[k]? = w.heap[k]?
theorem Keep2.base {m g : Nat} {w0 w W : World} (h0 : Below w0.heap.size w0 w) (hm : w0.heap.size ≤ m) (hg : w0.heap.size ≤ g) (h : Keep2 m g w W) : Below w0.heap.size w0 W :=
  ⟨h.os.trans h0.os, h.tape.trans h0.tape, h.output.trans h0.output, Nat.le_trans h0.size h.size, fun k hk => (h.block k (Nat.lt_of_lt_of_le hk h0.size) (by omega) (by omega)).trans (h0.block k hk)⟩
theorem Keep2.refl (m g : Nat) (w : World) : Keep2 m g w w := ⟨rfl, rfl, rfl, Nat.le_refl _, fun _ _ _ _ => rfl⟩
theorem Keep2.below {m g : Nat} {w W W' : World} (h : Keep2 m g w W) (hb : Below w.heap.size W W') : Keep2 m g w W' :=
  ⟨hb.os.trans h.os, hb.tape.trans h.tape, hb.output.trans h.output, Nat.le_trans h.size hb.size, fun k hk h1 h2 => (hb.block k hk).trans (h.block k hk h1 h2)⟩
theorem Keep2.trans {m g : Nat} {w W W' : World} (h : Keep2 m g w W) (hb : Keep2 m g W W') : Keep2 m g w W' :=
  ⟨hb.os.trans h.os, hb.tape.trans h.tape, hb.output.trans h.output, Nat.le_trans h.size hb.size, fun k hk h1 h2 => (hb.block k (Nat.lt_of_lt_of_le hk h.size) h1 h2).trans (h.block k hk h1 h2)⟩
/-- all stays but two blocks: rows of texts, and what a client is, where its own two blocks are told -/
theorem Keep2.str {m g : Nat} {w W : World} (hk : Keep2 m g w W) (hg : ∃ c fr, w.heap[g]? = some (.cells c 51 fr)) (hm : ∃ es ck, w.heap[m]? = some (.map es ck)) :
    ∀ (k : Nat) (cs : Array Value) (fr : Nat × Nat), w.heap[k]? = some (Obj.cells cs 9 fr) → W.heap[k]? = w.heap[k]? := fun k cs fr hc => by
  refine hk.block k (Array.getElem?_eq_some_iff.1 hc).1 ?_ ?_
  · rintro rfl
    obtain ⟨es, ck, hm⟩ := hm
    rw [hm] at hc
    cases hc
  · rintro rfl
    obtain ⟨c, fr', hg⟩ := hg
    rw [hg] at hc
    cases hc
theorem knows_empty : Knows (.map []) (fun _ => none) := ⟨⟨[], rfl⟩, fun k _ => ⟨rfl, fun v h => by cases h⟩⟩
theorem wf64 {k : Int} (h : I64 k) : (Lit.int .i64 k).wf = true := by
  unfold I64 at h
  simp only [Lit.wf, IntKind.min, IntKind.max, IntKind.signed, IntKind.bits, Bool.and_eq_true, decide_eq_true_eq, if_true]
  omega
theorem key_lit (k : Int) (h : I64 k) : keyOf Tryd.prog 3 (.int .i64 k) = some (.int .i64 k) := keyOf_int_mk Tryd.underlying3 (wf64 h)
set_option maxHeartbeats 1000000 in
theorem New_calls (home : Int) (w : World) : Calls Tryd.prog 7 #[.int .i64 home] w fun e w' => e = .returned (.pointer (some ⟨w.heap.size + 1, 0, none⟩)) ∧ Cl w.heap.size (w.heap.size + 1) ⟨home, fun _ => none, [], 0, 0, 0⟩ w' ∧ Below w.heap.size w w' := by
  have hmm := @run_makeMap Tryd.prog
  go_enter Tryd.func7, Tryd.ntmps7
  go_wp2_with fail
  go_ret
  refine ⟨rfl, ?_, below_alloc (below_alloc (Below.refl _ _) _) _⟩
  refine ⟨⟨none, 0, heap1 _ _ _, Kd.C_of_reads (d := (⟨#[]⟩ : ByteArray)) ⟨rfl, Nat.zero_le _, fun h => absurd h (Nat.lt_irrefl 0)⟩, Nat.le_refl _, fun ad h => by cases h⟩, ⟨0, .map [], (World.ownsMap_made w Tryd.prog 3 _).alloc _, knows_empty, Nat.le_refl _⟩, by simp⟩
theorem cl_cells {m g : Nat} {s : CS} {W : World} {A : Option Addr} {c : Nat} (h : W.heap[g]? = some (.cells #[.int .i64 s.home, .map (some m), .slice A s.args.length c, .int .i64 s.num, .int .i64 s.bud] 51 (0, 0))) :
    W.cell? ⟨g, 0, none⟩ = some (.int .i64 s.home) ∧ W.cell? ⟨g, 1, none⟩ = some (.map (some m)) ∧ W.cell? ⟨g, 2, none⟩ = some (.slice A s.args.length c) ∧ W.cell? ⟨g, 3, none⟩ = some (.int .i64 s.num) ∧ W.cell? ⟨g, 4, none⟩ = some (.int .i64 s.bud) := by
  refine ⟨?_, ?_, ?_, ?_, ?_⟩ <;> (rw [cell_of_box h]; rfl)
theorem Busy_calls (m g : Nat) (s : CS) (w : World) (h : Cl m g s w) : Calls Tryd.prog 12 #[.pointer (some ⟨g, 0, none⟩)] w fun e w' => e = .returned (.bool (decide (0 < s.args.length))) ∧ w = w' := by
  obtain ⟨A, c, hb, -, -, -⟩ := h.box
  obtain ⟨c0, c1, c2, c3, c4⟩ := cl_cells hb
  clear hb h
  go_enter Tryd.func12, Tryd.ntmps12
  go_wp2_with fail
  go_ret
  exact ⟨by simp, rfl⟩
set_option maxHeartbeats 1000000 in
theorem Where_calls (m g : Nat) (s : CS) (k : Int) (hk : I64 k) (w : World) (h : Cl m g s w) : Calls Tryd.prog 15 #[.pointer (some ⟨g, 0, none⟩), .int .i64 k] w fun e w' => e = .returned (.int .i64 (whereV s k)) ∧ w = w' := by
  obtain ⟨A, c, hb, -, -, -⟩ := h.box
  obtain ⟨n, D, hm, hkn, -⟩ := h.map
  obtain ⟨c0, c1, c2, c3, c4⟩ := cl_cells hb
  obtain ⟨hI, hkn⟩ := hkn
  obtain ⟨hh, ha⟩ := hkn k hk
  replace hm := Lib.hid hm
  replace ha := Lib.hid ha
  clear hb h hI hkn
  go_enter Tryd.func15, Tryd.ntmps15
  cases hs : s.kn k with
  | none =>
    have hw : whereV s k = s.home := by unfold whereV; rw [hs]; rfl
    rw [hs] at hh
    have hh' : has D (.int .i64 k) = false := hh
    go_wp2_with (at_lookup; refine wpList_lookup_own_ok_int _ rfl _ _ 49 rfl 3 3 .i64 (int_keyed Tryd.underlying3) Tryd.underlying49 Tryd.underlying3 (by go_simp) m n D rfl hm.out _ _ rfl (key_lit k hk) ?_; intro cv hat hwc; rw [hh']; clear hat hwc)
    go_ret
    exact ⟨by rw [hw]; rfl, rfl⟩
  | some v =>
    have hw : whereV s k = v := by unfold whereV; rw [hs]; rfl
    rw [hs] at hh
    have hh' : has D (.int .i64 k) = true := hh
    have hat' := ha.out v hs
    replace hat' := Lib.hid hat'
    go_wp2_with (at_lookup; refine wpList_lookup_own_ok_int _ rfl _ _ 49 rfl 3 3 .i64 (int_keyed Tryd.underlying3) Tryd.underlying49 Tryd.underlying3 (by go_simp) m n D rfl hm.out _ _ rfl (key_lit k hk) ?_; intro cv hat hwc; rw [hh']; have e9 := hat'.out.symm.trans hat; injection e9 with e9; injection e9 with _ e9; subst e9; clear hat hwc)
    go_ret
    exact ⟨rfl, rfl⟩
end Go.Proofs.YtpbiohnmmngccaaDoor
