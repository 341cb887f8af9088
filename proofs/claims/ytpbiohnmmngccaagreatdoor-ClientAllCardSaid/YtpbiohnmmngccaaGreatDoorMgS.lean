/- A client's state, what it knows: New, Busy, Where. A row of texts copied; where a call goes; how it is sent. A drawn region whose last operation writes what the others read: those may be taken first all the same. A call is sent. A call is begun. An answer is taken. Conditions: the listed variables as laid; the listed variables as laid; texts within the machine's reach. -/
import Derived.Test.YtpbiohnmmngccaaGreatDoorClD
import Derived.Maps.Own
import Derived.Maps.OwnSet
import Derived.Maps.Views
import Derived.Deep.RegionHeld3
set_option linter.unusedVariables false
set_option linter.unusedSimpArgs false
namespace Go.Proofs.YtpbiohnmmngccaaGreatDoor
open Go Go.RowKit Go.Maps Go.Proofs.YtpbiohnmmngccaaGreatDoorW.PrintWords
structure CS where
  home : Int
  kn : Int → Option Int
  args : List ByteArray
  num : Int
  bud : Int
  cnt : Nat
def whereV (s : CS) (k : Int) : Int := (s.kn k).getD s.home
/-- what a map of numbers knows -/
def Knows (D : DataW Unit) (kn : Int → Option Int) : Prop := IsMap D ∧ ∀ k : Int, I64 k → has D (.int .i64 k) = (kn k).isSome ∧ ∀ v, kn k = some v → D.atKey (.int .i64 k) (.lit (.int .i64 0)) = .lit (.int .i64 v)
/-- a row's block holds texts -/
def T9 (W : World) (A : Option Addr) : Prop := ∀ ad, A = some ad → ∃ cs fr, W.heap[ad.block]? = some (.cells cs 9 fr)
theorem T9.keep {W W' : World} {A : Option Addr} (h : T9 W A) (hk : ∀ (k : Nat) (cs : Array Value) (fr : Nat × Nat), W.heap[k]? = some (Obj.cells cs 9 fr) → W'.heap[k]? = W.heap[k]?) : T9 W' A := fun ad hA => by
  obtain ⟨cs, fr, hc⟩ := h ad hA
  exact ⟨cs, fr, (hk _ _ _ hc).trans hc⟩
theorem T9.below {W W' : World} {A : Option Addr} (h : T9 W A) (hb : Below W.heap.size W W') : T9 W' A := T9.keep h fun k cs fr hc => hb.block k (Array.getElem?_eq_some_iff.1 hc).1
theorem strs_keep {w W : World} {A : Option Addr} {l : List ByteArray} (h : Kd.string.C w A l.length l) (ht : T9 w A) (hk : ∀ (k : Nat) (cs : Array Value) (fr : Nat × Nat), w.heap[k]? = some (Obj.cells cs 9 fr) → W.heap[k]? = w.heap[k]?) : Kd.string.C W A l.length l := by
  by_cases h0 : 0 < l.length
  · obtain ⟨b, o, rfl, hbl, hcs⟩ := str_cells h h0
    obtain ⟨cs, fr, hc⟩ := ht _ rfl
    have hblk := hk _ _ _ hc
    refine Kd.C_of_reads (d := (⟨#[]⟩ : ByteArray)) ⟨rfl, h.2.1, fun _ => ⟨_, rfl, fun j hj => ?_⟩⟩
    rw [Addr.add_mid, List.getD_eq_getElem?_getD, List.getElem?_eq_getElem hj, Option.getD_some]
    rw [← hcs j l[j] (List.getElem?_eq_getElem hj)]
    unfold World.cell?
    rw [hblk]
  · exact ⟨rfl, h.2.1, fun h1 => absurd h1 h0⟩
structure Cl (m g : Nat) (s : CS) (W : World) : Prop where
  box : ∃ (A : Option Addr) (c : Nat), W.heap[g]? = some (.cells #[.int .i64 s.home, .map (some m), .slice A s.args.length c, .int .i64 s.num, .int .i64 s.bud] 52 (0, 0)) ∧ Kd.string.C W A s.args.length s.args ∧ s.args.length ≤ c ∧ T9 W A
  map : ∃ (n : Nat) (D : DataW Unit), W.ownsMap Tryz.prog 3 (plainElem Tryz.prog 3) m n D ∧ Knows D s.kn ∧ n ≤ s.cnt
  ne : m ≠ g
theorem Cl.lt {m g : Nat} {s : CS} {W : World} (h : Cl m g s W) : m < W.heap.size ∧ g < W.heap.size := by
  obtain ⟨A, c, hb, -, -, -⟩ := h.box
  obtain ⟨n, D, hm, -, -⟩ := h.map
  exact ⟨hm.lt, (Array.getElem?_eq_some_iff.1 hb).1⟩
theorem Cl.below {m g : Nat} {s : CS} {W W' : World} (h : Cl m g s W) (hb : Below W.heap.size W W') : Cl m g s W' := by
  obtain ⟨A, c, h1, h2, h3, h8⟩ := h.box
  obtain ⟨n, D, ⟨es, ck, h4, h5⟩, h6, h7⟩ := h.map
  exact ⟨⟨A, c, (hb.block g h.lt.2).trans h1, Kd.C_below h2 hb, h3, T9.below h8 hb⟩, ⟨n, D, ⟨es, ck, (hb.block m h.lt.1).trans h4, h5⟩, h6, h7⟩, h.ne⟩
/-- all stays but two blocks -/
structure Keep2 (m g : Nat) (w w' : World) : Prop where
  os : w'.os = w.os
  tape : w'.tape = w.tape
  output : w'.output = w.output
  size : w.heap.size ≤ w'.heap.size
  block : ∀ k, k < w.heap.size → k ≠ m → k ≠ g → w'.heap[k]? = w.heap[k]?
theorem Keep2.base {m g : Nat} {w0 w W : World} (h0 : Below w0.heap.size w0 w) (hm : w0.heap.size ≤ m) (hg : w0.heap.size ≤ g) (h : Keep2 m g w W) : Below w0.heap.size w0 W :=
  ⟨h.os.trans h0.os, h.tape.trans h0.tape, h.output.trans h0.output, Nat.le_trans h0.size h.size, fun k hk => (h.block k (Nat.lt_of_lt_of_le hk h0.size) (by omega) (by omega)).trans (h0.block k hk)⟩
theorem Keep2.refl (m g : Nat) (w : World) : Keep2 m g w w := ⟨rfl, rfl, rfl, Nat.le_refl _, fun _ _ _ _ => rfl⟩
theorem Keep2.below {m g : Nat} {w W W' : World} (h : Keep2 m g w W) (hb : Below w.heap.size W W') : Keep2 m g w W' :=
  ⟨hb.os.trans h.os, hb.tape.trans h.tape, hb.output.trans h.output, Nat.le_trans h.size hb.size, fun k hk h1 h2 => (hb.block k hk).trans (h.block k hk h1 h2)⟩
theorem Keep2.trans {m g : Nat} {w W W' : World} (h : Keep2 m g w W) (hb : Keep2 m g W W') : Keep2 m g w W' :=
  ⟨hb.os.trans h.os, hb.tape.trans h.tape, hb.output.trans h.output, Nat.le_trans h.size hb.size, fun k hk h1 h2 => (hb.block k (Nat.lt_of_lt_of_le hk h.size) h1 h2).trans (h.block k hk h1 h2)⟩
/-- all stays but two blocks: rows of texts, and what a client is, where its own two blocks are told -/
theorem Keep2.str {m g : Nat} {w W : World} (hk : Keep2 m g w W) (hg : ∃ c fr, w.heap[g]? = some (.cells c 52 fr)) (hm : ∃ es ck, w.heap[m]? = some (.map es ck)) :
    ∀ (k : Nat) (cs : Array Value) (fr : Nat × Nat), w.heap[k]? = some (Obj.cells cs 9 fr) → W.heap[k]? = w.heap[k]? := fun k cs fr hc => by
  refine hk.block k (Array.getElem?_eq_some_iff.1 hc).1 ?_ ?_
  · rintro rfl
    obtain ⟨es, ck, hm⟩ := hm
    rw [hm] at hc
    cases hc
  · rintro rfl
    obtain ⟨c, fr', hg⟩ := hg
    rw [hg] at hc
    cases hc
theorem knows_empty : Knows (.map []) (fun _ => none) := ⟨⟨[], rfl⟩, fun k _ => ⟨rfl, fun v h => by cases h⟩⟩
theorem wf64 {k : Int} (h : I64 k) : (Lit.int .i64 k).wf = true := by
  unfold I64 at h
  simp only [Lit.wf, IntKind.min, IntKind.max, IntKind.signed, IntKind.bits, Bool.and_eq_true, decide_eq_true_eq, if_true]
  omega
theorem key_lit (k : Int) (h : I64 k) : keyOf Tryz.prog 3 (.int .i64 k) = some (.int .i64 k) := keyOf_int_mk Tryz.underlying3 (wf64 h)
set_option maxHeartbeats 1000000 in
theorem New_calls (home : Int) (w : World) : Calls Tryz.prog 4 #[.int .i64 home] w fun e w' => e = .returned (.pointer (some ⟨w.heap.size + 1, 0, none⟩)) ∧ Cl w.heap.size (w.heap.size + 1) ⟨home, fun _ => none, [], 0, 0, 0⟩ w' ∧ Below w.heap.size w w' := by
  have hmm := @run_makeMap Tryz.prog
  go_enter Tryz.func4, Tryz.ntmps4
  go_wp2_with fail
  go_ret
  refine ⟨rfl, ?_, below_alloc (below_alloc (Below.refl _ _) _) _⟩
  refine ⟨⟨none, 0, heap1 _ _ _, Kd.C_of_reads (d := (⟨#[]⟩ : ByteArray)) ⟨rfl, Nat.zero_le _, fun h => absurd h (Nat.lt_irrefl 0)⟩, Nat.le_refl _, fun ad h => by cases h⟩, ⟨0, .map [], (World.ownsMap_made w Tryz.prog 3 _).alloc _, knows_empty, Nat.le_refl _⟩, by simp⟩
theorem cl_cells {m g : Nat} {s : CS} {W : World} {A : Option Addr} {c : Nat} (h : W.heap[g]? = some (.cells #[.int .i64 s.home, .map (some m), .slice A s.args.length c, .int .i64 s.num, .int .i64 s.bud] 52 (0, 0))) :
    W.cell? ⟨g, 0, none⟩ = some (.int .i64 s.home) ∧ W.cell? ⟨g, 1, none⟩ = some (.map (some m)) ∧ W.cell? ⟨g, 2, none⟩ = some (.slice A s.args.length c) ∧ W.cell? ⟨g, 3, none⟩ = some (.int .i64 s.num) ∧ W.cell? ⟨g, 4, none⟩ = some (.int .i64 s.bud) := by
  refine ⟨?_, ?_, ?_, ?_, ?_⟩ <;> (rw [cell_of_box h]; rfl)
theorem Busy_calls (m g : Nat) (s : CS) (w : World) (h : Cl m g s w) : Calls Tryz.prog 12 #[.pointer (some ⟨g, 0, none⟩)] w fun e w' => e = .returned (.bool (decide (0 < s.args.length))) ∧ w = w' := by
  obtain ⟨A, c, hb, -, -, -⟩ := h.box
  obtain ⟨c0, c1, c2, c3, c4⟩ := cl_cells hb
  clear hb h
  go_enter Tryz.func12, Tryz.ntmps12
  go_wp2_with fail
  go_ret
  exact ⟨by simp, rfl⟩
set_option maxHeartbeats 1000000 in
theorem Where_calls (m g : Nat) (s : CS) (k : Int) (hk : I64 k) (w : World) (h : Cl m g s w) : Calls Tryz.prog 13 #[.pointer (some ⟨g, 0, none⟩), .int .i64 k] w fun e w' => e = .returned (.int .i64 (whereV s k)) ∧ w = w' := by
  obtain ⟨A, c, hb, -, -, -⟩ := h.box
  obtain ⟨n, D, hm, hkn, -⟩ := h.map
  obtain ⟨c0, c1, c2, c3, c4⟩ := cl_cells hb
  obtain ⟨hI, hkn⟩ := hkn
  obtain ⟨hh, ha⟩ := hkn k hk
  replace hm := Lib.hid hm
  replace ha := Lib.hid ha
  clear hb h hI hkn
  go_enter Tryz.func13, Tryz.ntmps13
  cases hs : s.kn k with
  | none =>
    have hw : whereV s k = s.home := by unfold whereV; rw [hs]; rfl
    rw [hs] at hh
    have hh' : has D (.int .i64 k) = false := hh
    go_wp2_with (at_lookup; refine wpList_lookup_own_ok_int _ rfl _ _ 50 rfl 3 3 .i64 (int_keyed Tryz.underlying3) Tryz.underlying50 Tryz.underlying3 (by go_simp) m n D rfl hm.out _ _ rfl (key_lit k hk) ?_; intro cv hat hwc; rw [hh']; clear hat hwc)
    go_ret
    exact ⟨by rw [hw]; rfl, rfl⟩
  | some v =>
    have hw : whereV s k = v := by unfold whereV; rw [hs]; rfl
    rw [hs] at hh
    have hh' : has D (.int .i64 k) = true := hh
    have hat' := ha.out v hs
    replace hat' := Lib.hid hat'
    go_wp2_with (at_lookup; refine wpList_lookup_own_ok_int _ rfl _ _ 50 rfl 3 3 .i64 (int_keyed Tryz.underlying3) Tryz.underlying50 Tryz.underlying3 (by go_simp) m n D rfl hm.out _ _ rfl (key_lit k hk) ?_; intro cv hat hwc; rw [hh']; have e9 := hat'.out.symm.trans hat; injection e9 with e9; injection e9 with _ e9; subst e9; clear hat hwc)
    go_ret
    exact ⟨rfl, rfl⟩
end Go.Proofs.YtpbiohnmmngccaaGreatDoor

namespace Go.Proofs.YtpbiohnmmngccaaGreatDoor
open Go Go.RowKit Go.Maps Go.Proofs.YtpbiohnmmngccaaGreatDoorW.PrintWords
theorem own_strs {W : World} {base : Nat} {v : Value} {l : List ByteArray} (h : W.ownsRow base 9 1 v l.length (l.map Value.string)) :
    ∃ A c, v = .slice A l.length c ∧ l.length ≤ c ∧ Kd.string.C W A l.length l ∧ T9 W A := by
  obtain ⟨A, c, h1, h2, h3⟩ := Kd.R_reads (d := Kd.string) (e := 9) (ok := fun _ => True) (base := base) ⟨fun _ _ => trivial, _, h, Kd.reps_scalar l⟩
  refine ⟨A, c, h1, h2, h3, fun ad hA => ?_⟩
  subst hA
  have := own_typed h ad.block (by rw [h1]; rfl)
  obtain ⟨cells, hc⟩ := this
  exact ⟨cells, _, hc⟩
theorem Clone_calls (A : Option Addr) (c : Nat) (l : List ByteArray) (hl : l.length ≤ 1000000) (w : World) (hr : Kd.string.C w A l.length l) (hc : l.length ≤ c) :
    Calls Tryz.prog 15 #[.slice A l.length c] w fun e w' => ∃ A' c', e = .returned (.slice A' l.length c') ∧ Kd.string.C w' A' l.length l ∧ l.length ≤ c' ∧ T9 w' A' ∧ Below w.heap.size w w' := by
  by_cases h0 : 0 < l.length
  · obtain ⟨g, o, rfl, hg, hcs⟩ := str_cells hr h0
    refine (Tryz.slices_Clone_string g o l.length c l w (Nat.le_refl _) (by omega) (fun j hj => ?_)).mono ?_
    · rw [hcs j l[j] (List.getElem?_eq_getElem hj), List.getD_eq_getElem?_getD, List.getElem?_eq_getElem hj]; rfl
    · rintro e w' ⟨v', rfl, ho, -, hb⟩
      rw [List.take_length] at ho
      obtain ⟨A', c', rfl, h1, h2, h3⟩ := own_strs ho
      exact ⟨A', c', rfl, h2, h1, h3, hb⟩
  · obtain rfl : l = [] := by cases l <;> simp_all
    cases A with
    | none =>
      refine (Tryz.slices_Clone_string_nil 0 c w).mono ?_
      rintro e w' ⟨rfl, rfl⟩
      exact ⟨none, 0, rfl, Kd.C_of_reads (d := (⟨#[]⟩ : ByteArray)) ⟨rfl, Nat.zero_le _, fun h => absurd h (Nat.lt_irrefl 0)⟩, Nat.le_refl _, fun ad h => (by cases h), Below.refl _ _⟩
    | some a =>
      refine (Tryz.slices_Clone_string_zero a c w).mono ?_
      rintro e w' ⟨v', rfl, ho, -, hb⟩
      obtain ⟨A', c', rfl, h1, h2, h3⟩ := own_strs (l := []) ho
      exact ⟨A', c', rfl, h2, h1, h3, hb⟩
def ownerV (s : CS) : Int := match keyV s.args with
  | none => s.home
  | some k => whereV s (ofV k.data.toList)
theorem of_lt (l : List UInt8) : ofV l < 16384 := Nat.mod_lt _ (by decide)
set_option maxHeartbeats 1000000 in
theorem owner_calls (m g : Nat) (s : CS) (hbig : ∀ x ∈ s.args, x.size ≤ 9223372036854775807) (w : World) (h : Cl m g s w) (hE : Env w) :
    Calls Tryz.prog 17 #[.pointer (some ⟨g, 0, none⟩)] w fun e w' => e = .returned (.int .i64 (ownerV s)) ∧ Below w.heap.size w w' := by
  obtain ⟨A, c, hb, hr, hc, -⟩ := h.box
  obtain ⟨c0, c1, c2, c3, c4⟩ := cl_cells hb
  have hK := Keys_calls A c s.args hc w hr hE
  have hg := h.lt.2
  clear hb hr
  go_enter Tryz.func17, Tryz.ntmps17
  go_wp2_with fail
  refine hK.mono ?_
  rintro e w1 ⟨A1, c1', ks, rfl, hC, hcl, hkh, hb1⟩
  have h1 := h.below hb1
  have c0' := (hb1.cell (p := ⟨g, 0, none⟩) hg).trans c0
  clear hK c0 c1 c2 c3 c4
  cases hk : keyV s.args with
  | none =>
    have ho : ownerV s = s.home := by unfold ownerV; rw [hk]
    rw [hk] at hkh
    obtain rfl : ks = [] := by cases ks <;> simp_all
    go_wp2_with fail
    go_ret
    exact ⟨by rw [ho]; rfl, hb1⟩
  | some k =>
    have ho : ownerV s = whereV s (ofV k.data.toList) := by unfold ownerV; rw [hk]
    rw [hk] at hkh
    cases ks with
    | nil => simp at hkh
    | cons y t =>
      obtain rfl : y = k := by simpa using hkh
      obtain ⟨g1, o1, rfl, hg1, hcs⟩ := str_cells hC (by simp)
      have hcy := hcs 0 y rfl
      rw [Nat.add_zero] at hcy
      have hne : ((((t.length : Int) + 1)) == 0) = false := by rw [beq_eq_false_iff_ne]; omega
      have hsz : y.size ≤ 9223372036854775807 := by
        unfold keyV at hk
        split at hk
        · exact hbig y (List.mem_of_getElem? hk)
        · cases hk
      have hO := Of_calls y hsz w1 (hE.below hb1)
      have hlt := of_lt y.data.toList
      replace ho := Lib.hid ho
      replace h1 := Lib.hid h1
      clear hcs hC hkh
      go_wp2_with fail
      refine hO.mono ?_
      rintro e w2 ⟨rfl, hb2⟩
      have hb2' := hb1.trans (hb2.mono hb1.size)
      have h2 := h1.out.below hb2
      generalize ofV y.data.toList = sl at *
      clear hO
      have hW := Where_calls m g s (sl : Int) ⟨by omega, by omega⟩ w2 h2
      replace h2 := Lib.hid h2
      go_wp2_with fail
      refine hW.mono ?_
      rintro e w3 ⟨rfl, rfl⟩
      go_wp2_with fail
      go_ret
      exact ⟨by rw [ho.out]; rfl, hb2'⟩
end Go.Proofs.YtpbiohnmmngccaaGreatDoor

namespace Go.Proofs.YtpbiohnmmngccaaGreatDoor
open Go
section
variable {P : Program} {ops : Array Oper} {Q : Exit → Act → World → Prop} {md : Region.Mode} {S : World → Prop} {t : Nat}
/-- whatever order is picked: S holds behind every operation but 't' -/
def wpAnyT (P : Program) (md : Region.Mode) (ops : Array Oper) (Q : Exit → Act → World → Prop) (S : World → Prop) (t : Nat) : Nat → Array Bool → Act → World → Prop
  | 0, listed, a, w => Region.ready md ops listed = [] ∧ Q .normal a w
  | fuel + 1, listed, a, w =>
    (Region.ready md ops listed = [] → Q .normal a w) ∧
    ∀ i ∈ Region.ready md ops listed, wpOp P ops Q i (fun a' w' => (i ≠ t → S w') ∧ wpAnyT P md ops Q S t fuel (listed.setIfInBounds i true) a' w') a w
theorem wpAny_of_T : ∀ (fuel : Nat) (listed : Array Bool) (a : Act) (w : World), wpAnyT P md ops Q S t fuel listed a w → wpAny P md ops Q fuel listed a w
  | 0, _, _, _, h => h
  | fuel + 1, _, _, _, h => ⟨h.1, fun i hi => wpOp_mono (fun a' w' h' => wpAny_of_T fuel _ a' w' h'.2) (h.2 i hi)⟩
def waitsB (md : Region.Mode) (ops : Array Oper) (t i : Nat) : Bool := ((ops[t]?).map fun o => o.after.any fun e => Region.binds md e && (e.on == i)).getD false
theorem waits_spec {i : Nat} (h : waitsB md ops t i = true) (L : Array Bool) (hr : t ∈ Region.ready md ops L) : L.getD i false = true := by
  obtain ⟨-, o, ho, hall⟩ := mem_ready.1 hr
  unfold waitsB at h
  rw [ho] at h
  simp only [Option.map_some, Option.getD_some, Array.any_eq_true'] at h
  obtain ⟨e, he, hb⟩ := h
  simp only [Bool.and_eq_true, beq_iff_eq] at hb
  have := hall e he hb.1
  rw [hb.2] at this
  exact this
theorem wpAnyT_first {i : Nat} {oi : Oper} {v : Value} (hi : ops[i]? = some oi) (hsel : ∀ (j : Nat) (o : Oper) cs b, ops[j]? = some o → o.op ≠ .select cs b)
    (hQ : ∀ c a w, Q (.panic c) (a.put oi.dst v) w → Q (.panic c) a w) (hwait : waitsB md ops t i = true) :
    ∀ (fuel : Nat) (listed : Array Bool) (a : Act) (w : World),
      (∀ j oj, ops[j]? = some oj → j ≠ i → listed.getD j true = false → (∀ e ∈ oj.after, Region.binds md e = true → e.on ≠ i) → oi.apart ops oj = true) →
      i ∈ Region.ready md ops listed → YieldsIf P ops S oi v a → S w →
      wpAnyT P md ops Q S t fuel (listed.setIfInBounds i true) (a.put oi.dst v) w → wpAnyT P md ops Q S t (fuel + 1) listed a w := by
  intro fuel
  induction fuel with
  | zero =>
    intro listed a w _ hr hy hS H
    refine ⟨fun h => (by rw [h] at hr; cases hr), fun j hj => ?_⟩
    by_cases hji : j = i
    · subst hji; exact hy.wpOp hi hS ⟨fun _ => hS, H⟩
    · have := ready_mono hj hji
      rw [H.1] at this
      cases this
  | succ fuel ih =>
    intro listed a w hfree hr hy hS H
    refine ⟨fun h => (by rw [h] at hr; cases hr), fun j hj => ?_⟩
    by_cases hji : j = i
    · subst hji; exact hy.wpOp hi hS ⟨fun _ => hS, H⟩
    · have h1 := H.2 j (ready_mono hj hji)
      obtain ⟨hjun, oj, hoj, hall⟩ := mem_ready.1 hj
      have hun : listed.getD i true = false := (mem_ready.1 hr).1
      have hjt : j ≠ t := by
        intro e
        rw [e] at hj
        have h2 := waits_spec hwait listed hj
        rcases Nat.lt_or_ge i listed.size with h' | h'
        · simp [h'] at hun h2; rw [hun] at h2; cases h2
        · simp [Array.getElem?_eq_none h'] at h2
      have hnot : ∀ e ∈ oj.after, Region.binds md e = true → e.on ≠ i := fun e he hb heq => by
        have h1 := hall e he hb
        rw [heq] at h1
        rcases Nat.lt_or_ge i listed.size with h' | h'
        · simp [h'] at hun h1; rw [hun] at h1; cases h1
        · simp [Array.getElem?_eq_none h'] at h1
      have h2 := wpOp_putIf hoj (hfree j oj hoj hji hjun hnot) (fun cs b => hsel i oi cs b hi) (fun cs b => hsel j oj cs b hoj) hQ hy h1
      have hfree' : ∀ k ok, ops[k]? = some ok → k ≠ i → (listed.setIfInBounds j true).getD k true = false →
          (∀ e ∈ ok.after, Region.binds md e = true → e.on ≠ i) → oi.apart ops ok = true := fun k ok hk hki hun hno => by
        refine hfree k ok hk hki ?_ hno
        by_cases hjk : j = k
        · subst hjk; exact hjun
        · rw [getD_set_ne true hjk] at hun; exact hun
      refine wpOp_mono (fun a' w' h3 => ⟨h3.2.1, ih (listed.setIfInBounds j true) a' w' hfree' (ready_mono hr (Ne.symm hji)) h3.1 (h3.2.1 hjt) ?_⟩) h2
      rw [Array.setIfInBounds_comm _ _ hji]
      exact h3.2.2
theorem wpAnyT_take {i : Nat} {oi : Oper} {v : Value} {fuel : Nat} {listed : Array Bool} {a : Act} {w : World} (hi : ops[i]? = some oi)
    (hs : Region.noSelect ops = true) (hf : Region.free md ops listed i = true) (hr : (Region.ready md ops listed).contains i = true) (hw : waitsB md ops t i = true)
    (hQ : ∀ c a w, Q (.panic c) (a.put oi.dst v) w → Q (.panic c) a w) (hy : YieldsIf P ops S oi v a) (hS : S w)
    (h : wpAnyT P md ops Q S t fuel (listed.setIfInBounds i true) (a.put oi.dst v) w) : wpAnyT P md ops Q S t (fuel + 1) listed a w :=
  wpAnyT_first hi (Region.noSelect_spec hs) hQ hw fuel listed a w (Region.free_spec hi hf) (by simpa using hr) hy hS h
theorem wpAnyT_one {i : Nat} {o : Oper} {fuel : Nat} {listed : Array Bool} {a : Act} {w : World} (hr : Region.ready md ops listed = [i]) (ho : ops[i]? = some o)
    (h : ∀ K' : Act → World → Prop, Shut (∀ a w, (i ≠ t → S w) → wpAnyT P md ops Q S t fuel (listed.setIfInBounds i true) a w → K' a w) → if Region.wanted o (yielded ops a.tmps) = true then Oper.wp P o a w K' Q else K' (a.put o.dst undef) w) :
    wpAnyT P md ops Q S t (fuel + 1) listed a w := by
  refine ⟨fun h0 => (by rw [h0] at hr; cases hr), ?_⟩
  rw [hr]
  intro j hj
  obtain rfl : j = i := by simpa using hj
  exact wpOp_step ho (fun K' hK => h K' (fun a w hS hW => hK a w ⟨hS, hW⟩))
theorem wpAnyT_done {listed : Array Bool} {a : Act} {w : World} (hr : Region.ready md ops listed = []) (h : Q .normal a w) :
    ∀ fuel, wpAnyT P md ops Q S t fuel listed a w
  | 0 => ⟨hr, h⟩
  | _ + 1 => ⟨fun _ => h, by rw [hr]; simp⟩
theorem wp_region_last (t : Nat) {id : Nat} {a : Act} {w : World} (hm : P.follows .mixedOrders = true)
    (h : wpAnyT P .any ops Q S t ops.size (Array.replicate ops.size false) a w.drew) : (Code.region id ops true).wp P Q a w :=
  wp_region_any hm (wpAny_of_T _ _ _ _ h)
end
end Go.Proofs.YtpbiohnmmngccaaGreatDoor

namespace Go.Proofs.YtpbiohnmmngccaaGreatDoor
open Go Go.RowKit Go.Maps Go.Proofs.YtpbiohnmmngccaaGreatDoorW.PrintWords
/-- what a client does next, as cells -/
def outC (dst lk ln : Int) (args : Value) (asking : Int) (send : Bool) (rk ri : Int) (rt : ByteArray) (rl : Value) (done : Bool) : Array Value :=
  #[.int .i64 dst, .int .i64 lk, .int .i64 ln, .int .i64 0, .int .i64 0, .string ⟨#[]⟩, .string ⟨#[]⟩, args, .int .i64 0, .int .i64 0, .string ⟨#[]⟩, .slice none 0 0, .bool false, .int .i64 asking, .bool send, .int .i64 rk, .int .i64 ri, .string rt, rl, .bool done]
def out0 : Array Value := outC 0 0 0 (.slice none 0 0) 0 false 0 0 ⟨#[]⟩ (.slice none 0 0) false
def SentPost (m g : Nat) (s : CS) (dst asking : Int) (w : World) (e : Ending) (w' : World) : Prop :=
  ∃ A' c', e = .returned (.agg (outC dst 1 (s.num + 1) (.slice A' s.args.length c') asking true 0 0 ⟨#[]⟩ (.slice none 0 0) false)) ∧ Cl m g { s with num := s.num + 1 } w' ∧ Keep2 m g w w' ∧ Kd.string.C w' A' s.args.length s.args ∧ s.args.length ≤ c' ∧ T9 w' A'
theorem out_other {W : World} {B : Nat} {old OUT : Array Value} (hB : W.heap[B]? = some (.cells old 39 (0, 0))) (k : Nat) (cs : Array Value) (fr : Nat × Nat) (hc : W.heap[k]? = some (Obj.cells cs 9 fr)) : (W.setRow B OUT).heap[k]? = W.heap[k]? := setRow_other _ _ _ _ (by
  rintro rfl
  rw [hB] at hc
  injection hc with hc
  injection hc with _ hc
  exact absurd hc (by decide))
theorem sent_row {W : World} {A : Option Addr} {l : List ByteArray} {B : Nat} {old OUT : Array Value} (h : Kd.string.C W A l.length l) (ht : T9 W A) (hB : W.heap[B]? = some (.cells old 39 (0, 0))) : Kd.string.C (W.setRow B OUT) A l.length l := strs_keep h ht (out_other hB)
theorem sent_t9 {W : World} {A : Option Addr} {B : Nat} {old OUT : Array Value} (ht : T9 W A) (hB : W.heap[B]? = some (.cells old 39 (0, 0))) : T9 (W.setRow B OUT) A := T9.keep ht (out_other hB)
structure SS (g B : Nat) (bx : Array Value) (w1 W : World) : Prop where
  box : W.heap[g]? = some (.cells bx 52 (0, 0))
  out : W.heap[B]? = some (.cells out0 39 (0, 0))
  below : Below w1.heap.size w1 W
theorem SS.step {g B : Nat} {bx : Array Value} {w1 W W' : World} (h : SS g B bx w1 W) (hb : Below W.heap.size W W') : SS g B bx w1 W' :=
  ⟨(hb.block _ (Array.getElem?_eq_some_iff.1 h.box).1).trans h.box, (hb.block _ (Array.getElem?_eq_some_iff.1 h.out).1).trans h.out, h.below.trans (hb.mono h.below.size)⟩
theorem box_cells {g : Nat} {a b c d e : Value} {t : TypeId} {W : World} (h : W.heap[g]? = some (.cells #[a, b, c, d, e] t (0, 0))) :
    W.cell? ⟨g, 0, none⟩ = some a ∧ W.cell? ⟨g, 1, none⟩ = some b ∧ W.cell? ⟨g, 2, none⟩ = some c ∧ W.cell? ⟨g, 3, none⟩ = some d ∧ W.cell? ⟨g, 4, none⟩ = some e := by
  refine ⟨?_, ?_, ?_, ?_, ?_⟩ <;> (rw [cell_of_box h]; rfl)
theorem box_open {g i : Nat} {cs : Array Value} {t : TypeId} {W : World} (h : W.heap[g]? = some (.cells cs t (0, 0))) : W.frozen? ⟨g, i, none⟩ = false := by
  unfold World.frozen?
  rw [h]
  simp
theorem info32 : (Tryz.prog.info? 39).map (·.size) = some 20 := by kernel_rfl
theorem out_one (dst lk ln : Int) (A : Option Addr) (n c : Nat) (asking : Int) (send : Bool) (rk ri : Int) (rt : ByteArray) (B : Option Addr) (k d : Nat) (done : Bool) : (outC dst lk ln (.slice A n c) asking send rk ri rt (.slice B k d) done).all (·.oneCell') = true := by
  simp [outC, Value.oneCell']
theorem results_cell1 {P : Program} {fn : Func} {p : Tmp} {ty : TypeId} (h : fn.results = #[.cell p ty]) (tmps : Array Value) (w : World) (g : Nat) (t : TypeId) (cs : Array Value) (fr : Nat × Nat) (d : TypeDesc)
    (hp : tmps.getD p undef = .pointer (some ⟨g, 0, none⟩)) (hg : w.heap[g]? = some (.cells cs t fr))
    (hu : P.underlying ty = some d) (hd : (match d with | .struct _ | .array _ _ => true | _ => false) = true) (hi : (P.info? ty).map (·.size) = some cs.size) :
    (results fn tmps).run P w = .ok (.agg cs) w := by
  have hp' : tmps[p]?.getD undef = .pointer (some ⟨g, 0, none⟩) := by simpa using hp
  simp [results, h, hp', asAddr, run_loadVar_row w g t ty cs fr d hg hu hd hi]
/-- an own block of another kind is written -/
theorem Cl.row {m g B : Nat} {s : CS} {W : World} (h : Cl m g s W) {old cs : Array Value} {t : TypeId} {fr : Nat × Nat} (hB : W.heap[B]? = some (.cells old t fr)) (ht : t ≠ 9) (hm : m ≠ B) (hg : g ≠ B) : Cl m g s (W.setRow B cs) := by
  obtain ⟨A, c, h1, h2, h3, h8⟩ := h.box
  obtain ⟨n, D, ⟨es, ck, h4, h5⟩, h6, h7⟩ := h.map
  have hk : ∀ (k : Nat) (cs' : Array Value) (fr : Nat × Nat), W.heap[k]? = some (Obj.cells cs' 9 fr) → (W.setRow B cs).heap[k]? = W.heap[k]? := fun k cs' fr' hc => setRow_other _ _ _ _ (by
    rintro rfl
    rw [hB] at hc
    injection hc with hc
    injection hc with _ hc
    exact ht hc)
  exact ⟨⟨A, c, (setRow_other _ _ _ _ hg).trans h1, strs_keep h2 h8 hk, h3, T9.keep h8 hk⟩, ⟨n, D, ⟨es, ck, (setRow_other _ _ _ _ hm).trans h4, h5⟩, h6, h7⟩, h.ne⟩
set_option maxHeartbeats 4000000 in
set_option maxRecDepth 100000 in
theorem send_calls (m g : Nat) (s : CS) (dst asking : Int) (hn : 0 ≤ s.num ∧ s.num ≤ 1000000000) (hl : s.args.length ≤ 1000000) (w : World) (h : Cl m g s w) :
    Calls Tryz.prog 16 #[.pointer (some ⟨g, 0, none⟩), .int .i64 dst, .int .i64 asking] w (SentPost m g s dst asking w) := by
  obtain ⟨A, c, hb, hr, hc, hT⟩ := h.box
  replace hT := Lib.hid hT
  obtain ⟨c0, c1, c2, c3, c4⟩ := cl_cells hb
  have hg := h.lt.2
  have hw : IntKind.i64.wrap (s.num + 1) = s.num + 1 := by simp [IntKind.wrap, IntKind.bits, IntKind.signed]; omega
  have f3w : w.frozen? ⟨g, 3, none⟩ = false := box_open hb
  have hx0 : (w.setCell ⟨g, 3, none⟩ (.int .i64 (s.num + 1))).heap[g]? = some (.cells #[.int .i64 s.home, .map (some m), .slice A s.args.length c, .int .i64 (s.num + 1), .int .i64 s.bud] 52 (0, 0)) := heap_setCell_same _ g 3 _ _ _ hb
  have hb0 : Below (w.setCell ⟨g, 3, none⟩ (.int .i64 (s.num + 1))).heap.size (w.setCell ⟨g, 3, none⟩ (.int .i64 (s.num + 1))) ((w.setCell ⟨g, 3, none⟩ (.int .i64 (s.num + 1))).alloc (.cells out0 39)) := below_alloc (Below.refl _ _) _
  have hz1 : ((w.setCell ⟨g, 3, none⟩ (.int .i64 (s.num + 1))).alloc (.cells out0 39)).heap[w.heap.size]? = some (.cells out0 39 (0, 0)) := by
    have := heap_alloc_new (w.setCell ⟨g, 3, none⟩ (.int .i64 (s.num + 1))) (.cells out0 39)
    rwa [World.size_setCell] at this
  have hx1 := (hb0.block g (by rw [World.size_setCell]; exact hg)).trans hx0
  have hk1 : Keep2 m g w ((w.setCell ⟨g, 3, none⟩ (.int .i64 (s.num + 1))).alloc (.cells out0 39)) :=
    (⟨rfl, rfl, rfl, by rw [World.size_setCell]; exact Nat.le_refl _, fun k hk h1 h2 => Below.heap_setCell _ _ _ k h2⟩ : Keep2 m g w (w.setCell ⟨g, 3, none⟩ (.int .i64 (s.num + 1)))).below (hb0.mono (by rw [World.size_setCell]; exact Nat.le_refl _))
  have hm1 : ((w.setCell ⟨g, 3, none⟩ (.int .i64 (s.num + 1))).alloc (.cells out0 39)).heap[m]? = w.heap[m]? := (hb0.block m (by rw [World.size_setCell]; exact h.lt.1)).trans (Below.heap_setCell _ _ _ m h.ne)
  replace hm1 := Lib.hid hm1
  replace hx0 := Lib.hid hx0
  replace hb0 := Lib.hid hb0
  replace hx1 := Lib.hid hx1
  replace hz1 := Lib.hid hz1
  replace hk1 := Lib.hid hk1
  replace hb := Lib.hid hb
  replace hr := Lib.hid hr
  replace h := Lib.hid h
  go_enter Tryz.func16, Tryz.ntmps16
  go_wp2_with fail
  change Code.wp _ _ _ _ ((w.setCell ⟨g, 3, none⟩ (.int .i64 (s.num + 1))).alloc (.cells out0 39))
  generalize ((w.setCell ⟨g, 3, none⟩ (.int .i64 (s.num + 1))).alloc (.cells out0 39)) = W1 at *
  have hS : SS g w.heap.size #[.int .i64 s.home, .map (some m), .slice A s.args.length c, .int .i64 (s.num + 1), .int .i64 s.bud] W1 W1.drew := (SS.mk hx1.out hz1.out (Below.refl _ _)).step ⟨rfl, rfl, rfl, Nat.le_refl _, fun _ _ => rfl⟩
  refine wp_region_last (S := SS g w.heap.size #[.int .i64 s.home, .map (some m), .slice A s.args.length c, .int .i64 (s.num + 1), .int .i64 s.bud] W1) 13 (by kernel_rfl) ?_
  refine wpAnyT_take (i := 0) (oi := ⟨some 14, _, _, _, _, _⟩) (v := .int .i64 dst) rfl (by kernel_rfl) (by kernel_rfl) (by kernel_rfl) (by kernel_rfl) (fun _ _ _ h => h) (Or.inl ⟨by rfl, fun W hW => by go_simp⟩) (by assumption) ?_
  try simp only [Act.put, List.setIfInBounds_toArray, List.set_cons_zero, List.set_cons_succ]
  refine wpAnyT_take (i := 1) (oi := ⟨some 15, _, _, _, _, _⟩) (v := .pointer (some ⟨g, 0, none⟩)) rfl (by kernel_rfl) (by kernel_rfl) (by kernel_rfl) (by kernel_rfl) (fun _ _ _ h => h) (Or.inl ⟨by rfl, fun W hW => by go_simp⟩) (by assumption) ?_
  try simp only [Act.put, List.setIfInBounds_toArray, List.set_cons_zero, List.set_cons_succ]
  refine wpAnyT_take (i := 2) (oi := ⟨some 16, _, _, _, _, _⟩) (v := .pointer (some ⟨g, 0, none⟩)) rfl (by kernel_rfl) (by kernel_rfl) (by kernel_rfl) (by kernel_rfl) (fun _ _ _ h => h) (Or.inl ⟨by rfl, fun W hW => by go_simp⟩) (by assumption) ?_
  try simp only [Act.put, List.setIfInBounds_toArray, List.set_cons_zero, List.set_cons_succ]
  refine wpAnyT_take (i := 3) (oi := ⟨some 17, _, _, _, _, _⟩) (v := .pointer (some ⟨g, 3, none⟩)) rfl (by kernel_rfl) (by kernel_rfl) (by kernel_rfl) (by kernel_rfl) (fun _ _ _ h => h) (Or.inl ⟨by rfl, fun W hW => by go_simp⟩) (by assumption) ?_
  try simp only [Act.put, List.setIfInBounds_toArray, List.set_cons_zero, List.set_cons_succ]
  refine wpAnyT_take (i := 4) (oi := ⟨some 18, _, _, _, _, _⟩) (v := .int .i64 (s.num + 1)) rfl (by kernel_rfl) (by kernel_rfl) (by kernel_rfl) (by kernel_rfl) (fun _ _ _ h => h) (Or.inl ⟨by rfl, fun W hW => by obtain ⟨q0, q1, q2, q3, q4⟩ := box_cells hW.box; go_simp⟩) (by assumption) ?_
  try simp only [Act.put, List.setIfInBounds_toArray, List.set_cons_zero, List.set_cons_succ]
  refine wpAnyT_take (i := 5) (oi := ⟨some 19, _, _, _, _, _⟩) (v := .pointer (some ⟨g, 0, none⟩)) rfl (by kernel_rfl) (by kernel_rfl) (by kernel_rfl) (by kernel_rfl) (fun _ _ _ h => h) (Or.inl ⟨by rfl, fun W hW => by go_simp⟩) (by assumption) ?_
  try simp only [Act.put, List.setIfInBounds_toArray, List.set_cons_zero, List.set_cons_succ]
  refine wpAnyT_take (i := 6) (oi := ⟨some 20, _, _, _, _, _⟩) (v := .pointer (some ⟨g, 0, none⟩)) rfl (by kernel_rfl) (by kernel_rfl) (by kernel_rfl) (by kernel_rfl) (fun _ _ _ h => h) (Or.inl ⟨by rfl, fun W hW => by go_simp⟩) (by assumption) ?_
  try simp only [Act.put, List.setIfInBounds_toArray, List.set_cons_zero, List.set_cons_succ]
  refine wpAnyT_take (i := 7) (oi := ⟨some 21, _, _, _, _, _⟩) (v := .pointer (some ⟨g, 2, none⟩)) rfl (by kernel_rfl) (by kernel_rfl) (by kernel_rfl) (by kernel_rfl) (fun _ _ _ h => h) (Or.inl ⟨by rfl, fun W hW => by go_simp⟩) (by assumption) ?_
  try simp only [Act.put, List.setIfInBounds_toArray, List.set_cons_zero, List.set_cons_succ]
  refine wpAnyT_take (i := 8) (oi := ⟨some 22, _, _, _, _, _⟩) (v := .slice A s.args.length c) rfl (by kernel_rfl) (by kernel_rfl) (by kernel_rfl) (by kernel_rfl) (fun _ _ _ h => h) (Or.inl ⟨by rfl, fun W hW => by obtain ⟨q0, q1, q2, q3, q4⟩ := box_cells hW.box; go_simp⟩) (by assumption) ?_
  try simp only [Act.put, List.setIfInBounds_toArray, List.set_cons_zero, List.set_cons_succ]
  refine wpAnyT_take (i := 10) (oi := ⟨some 24, _, _, _, _, _⟩) (v := .int .i64 asking) rfl (by kernel_rfl) (by kernel_rfl) (by kernel_rfl) (by kernel_rfl) (fun _ _ _ h => h) (Or.inl ⟨by rfl, fun W hW => by go_simp⟩) (by assumption) ?_
  try simp only [Act.put, List.setIfInBounds_toArray, List.set_cons_zero, List.set_cons_succ]
  refine wpAnyT_one (i := 9) (o := ⟨some 23, _, _, _, _, _⟩) (by kernel_rfl) rfl (fun K hK => ?_)
  go_simp
  have hkd : Keep2 m g w W1.drew := hk1.out.below ⟨rfl, rfl, rfl, Nat.le_refl _, fun _ _ => rfl⟩
  have hmap : ∃ es ck, w.heap[m]? = some (.map es ck) := by
    obtain ⟨n, D, ⟨es, ck, h4, -⟩, -, -⟩ := h.out.map
    exact ⟨es, ck, h4⟩
  have hbx : ∃ c fr, w.heap[g]? = some (.cells c 52 fr) := ⟨_, _, hb.out⟩
  have hrd := strs_keep hr.out hT.out (hkd.str hbx hmap)
  refine (Clone_calls A c s.args hl W1.drew hrd hc).mono ?_
  rintro e w2 ⟨A', c', rfl, hC', hc', hT', hb2⟩
  have hS2 := hS.step hb2
  refine hK.out _ _ (fun _ => hS2) ?_
  clear hK K
  try simp only [Act.put, List.setIfInBounds_toArray, List.set_cons_zero, List.set_cons_succ]
  refine wpAnyT_take (i := 11) (oi := ⟨some 25, _, _, _, _, _⟩) (v := .agg #[.int .i64 1, .int .i64 (s.num + 1), .int .i64 0, .int .i64 0, .string ⟨#[]⟩, .string ⟨#[]⟩, .slice A' s.args.length c', .int .i64 0, .int .i64 0, .string ⟨#[]⟩, .slice none 0 0, .bool false, .int .i64 asking]) rfl (by kernel_rfl) (by kernel_rfl) (by kernel_rfl) (by kernel_rfl) (fun _ _ _ h => h) (Or.inl ⟨by rfl, fun W hW => by go_simp⟩) hS2 ?_
  try simp only [Act.put, List.setIfInBounds_toArray, List.set_cons_zero, List.set_cons_succ]
  refine wpAnyT_take (i := 12) (oi := ⟨some 26, _, _, _, _, _⟩) (v := .agg (outC dst 1 (s.num + 1) (.slice A' s.args.length c') asking true 0 0 ⟨#[]⟩ (.slice none 0 0) false)) rfl (by kernel_rfl) (by kernel_rfl) (by kernel_rfl) (by kernel_rfl) (fun _ _ _ h => h) (Or.inl ⟨by rfl, fun W hW => by go_simp; rfl⟩) hS2 ?_
  try simp only [Act.put, List.setIfInBounds_toArray, List.set_cons_zero, List.set_cons_succ]
  refine wpAnyT_one (i := 13) (o := ⟨none, _, _, _, _, _⟩) (by kernel_rfl) rfl (fun K hK => ?_)
  have hlt2 : w.heap.size < w2.heap.size := (Array.getElem?_eq_some_iff.1 hS2.out).1
  have hne : w.heap.size ≠ g := by omega
  refine wp_store_row 39 _ _ rfl w.heap.size (outC dst 1 (s.num + 1) (.slice A' s.args.length c') asking true 0 0 ⟨#[]⟩ (.slice none 0 0) false) rfl rfl 39 out0 hS2.out info32 rfl (out_one _ _ _ _ _ _ _ _ _ _ _ _ _ _ _) (hK.out _ _ (fun h => absurd rfl h) ?_)
  clear hK K
  try simp only [Act.put, List.setIfInBounds_toArray, List.set_cons_zero, List.set_cons_succ]
  refine wpAnyT_done (by kernel_rfl) ?_ _
  go_wp2_with fail
  refine bodyPost_ret (results_cell1 Tryz.results16 _ _ w.heap.size 39 (outC dst 1 (s.num + 1) (.slice A' s.args.length c') asking true 0 0 ⟨#[]⟩ (.slice none 0 0) false) (0, 0) _ rfl (setRow_heap _ _ _ _ _ _ hS2.out) Tryz.underlying39 rfl info32) rfl ⟨A', c', rfl, ?_, ?_, sent_row hC' hT' hS2.out, hc', sent_t9 hT' hS2.out⟩
  · have hbf : Below w.heap.size w2 (w2.setRow w.heap.size (outC dst 1 (s.num + 1) (.slice A' s.args.length c') asking true 0 0 ⟨#[]⟩ (.slice none 0 0) false)) := below_setRow (Below.refl _ _) (Nat.le_refl _) _
    have hkf : Keep2 m g w (w2.setRow w.heap.size (outC dst 1 (s.num + 1) (.slice A' s.args.length c') asking true 0 0 ⟨#[]⟩ (.slice none 0 0) false)) := (hkd.below (hb2.mono hkd.size)).below hbf
    have hgf : (w2.setRow w.heap.size (outC dst 1 (s.num + 1) (.slice A' s.args.length c') asking true 0 0 ⟨#[]⟩ (.slice none 0 0) false)).heap[g]? = _ := (hbf.block g hg).trans hS2.box
    obtain ⟨n, D, ⟨es, ck, h4, h5⟩, h6, h7⟩ := h.out.map
    have hmf : (w2.setRow w.heap.size (outC dst 1 (s.num + 1) (.slice A' s.args.length c') asking true 0 0 ⟨#[]⟩ (.slice none 0 0) false)).heap[m]? = some (.map es ck) := ((hbf.block m h.out.lt.1).trans (hb2.block m (Nat.lt_of_lt_of_le h.out.lt.1 hkd.size))).trans (hm1.out.trans h4)
    exact ⟨⟨A, c, hgf, strs_keep hr.out hT.out (hkf.str hbx hmap), hc, T9.keep hT.out (hkf.str hbx hmap)⟩, ⟨n, D, ⟨es, ck, hmf, h5⟩, h6, h7⟩, h.out.ne⟩
  · exact (hkd.below (hb2.mono hkd.size)).below (below_setRow (Below.refl _ _) (Nat.le_refl _) _)
end Go.Proofs.YtpbiohnmmngccaaGreatDoor

namespace Go.Proofs.YtpbiohnmmngccaaGreatDoor
open Go Go.RowKit Go.Maps Go.Proofs.YtpbiohnmmngccaaGreatDoorW.PrintWords
/-- what a call that comes to a letter, or to nothing, gives -/
inductive Next
  | none
  | send (dst asking : Int)
  | done (k i : Int) (t : ByteArray) (l : Value)
def OutOk (s : CS) (x : Next) (e : Ending) (w' : World) : Prop := match x with
  | .none => e = .returned (.agg out0)
  | .send d a => ∃ A' c', e = .returned (.agg (outC d 1 s.num (.slice A' s.args.length c') a true 0 0 ⟨#[]⟩ (.slice none 0 0) false)) ∧ Kd.string.C w' A' s.args.length s.args ∧ s.args.length ≤ c' ∧ T9 w' A'
  | .done k i t l => e = .returned (.agg (outC 0 0 0 (.slice none 0 0) 0 false k i t l true))
def DoPost (m g : Nat) (x : CS × Next) (w : World) (e : Ending) (w' : World) : Prop := OutOk x.1 x.2 e w' ∧ Cl m g x.1 w' ∧ Keep2 m g w w'
def begun (s : CS) (args : List ByteArray) : CS := { s with args := args, bud := 16 }
def beginV (s : CS) (args : List ByteArray) : CS × Next :=
  if 0 < s.args.length ∨ args.length = 0 then (s, .none) else ({ begun s args with num := s.num + 1 }, .send (ownerV (begun s args)) 0)
theorem keep2_alloc (m g : Nat) (w : World) (o : Obj) : Keep2 m g w (w.alloc o) := (Keep2.refl m g w).below (below_alloc (Below.refl _ _) _)
set_option maxHeartbeats 4000000 in
set_option maxRecDepth 100000 in
theorem Begin_calls (m g : Nat) (s : CS) (A : Option Addr) (c : Nat) (args : List ByteArray) (hn : 0 ≤ s.num ∧ s.num ≤ 1000000000) (hl : args.length ≤ 1000000) (hbig : ∀ x ∈ args, x.size ≤ 9223372036854775807) (w : World) (h : Cl m g s w)
    (hr : Kd.string.C w A args.length args) (hc : args.length ≤ c) (w0 : World) (hE0 : Env w0) (hB0 : Below w0.heap.size w0 w) (hm0 : w0.heap.size ≤ m) (hg0 : w0.heap.size ≤ g) :
    Calls Tryz.prog 7 #[.pointer (some ⟨g, 0, none⟩), .slice A args.length c] w (DoPost m g (beginV s args) w) := by
  have hb0 : Below w.heap.size w (w.alloc (.cells out0 39)) := below_alloc (Below.refl _ _) _
  have hz0 : (w.alloc (.cells out0 39)).heap[w.heap.size]? = some (.cells out0 39 (0, 0)) := heap_alloc_new _ _
  have h0 := h.below hb0
  have hB := Busy_calls m g s _ h0
  have hm := h.lt.1
  have hg := h.lt.2
  by_cases hbusy : 0 < s.args.length
  · have hv : beginV s args = (s, .none) := by unfold beginV; rw [if_pos (Or.inl hbusy)]
    have d1 : decide (0 < s.args.length) = true := decide_eq_true hbusy
    rw [hv]
    replace hz0 := Lib.hid hz0
    replace h0 := Lib.hid h0
    replace hb0 := Lib.hid hb0
    replace h := Lib.hid h
    go_enter Tryz.func7, Tryz.ntmps7
    go_wp2_with fail
    refine hB.mono ?_
    rintro e w1 ⟨rfl, rfl⟩
    rw [d1]
    go_wp2_with ((with_reducible refine store_at (ty := 39) (x := .tmp 4) (y := .tmp 12) ?_); refine ⟨w.heap.size, out0, 39, out0, rfl, rfl, hz0.out, info32, rfl, out_one _ _ _ _ _ _ _ _ _ _ _ _ _ _ _, ?_⟩)
    exact bodyPost_ret (results_cell1 Tryz.results7 _ _ w.heap.size 39 out0 (0, 0) _ rfl (setRow_heap _ _ _ _ _ _ hz0.out) Tryz.underlying39 rfl info32) rfl ⟨rfl, h.out.below (below_setRow hb0.out (Nat.le_refl _) _), (Keep2.refl m g w).below (below_setRow hb0.out (Nat.le_refl _) _)⟩
  · have d1 : decide (0 < s.args.length) = false := decide_eq_false hbusy
    by_cases ha : args.length = 0
    · have hv : beginV s args = (s, .none) := by unfold beginV; rw [if_pos (Or.inr ha)]
      obtain rfl : args = [] := List.length_eq_zero_iff.1 ha
      rw [hv]
      replace hz0 := Lib.hid hz0
      replace h0 := Lib.hid h0
      replace hb0 := Lib.hid hb0
      replace h := Lib.hid h
      go_enter Tryz.func7, Tryz.ntmps7
      go_wp2_with fail
      refine hB.mono ?_
      rintro e w1 ⟨rfl, rfl⟩
      rw [d1]
      go_wp2_with ((with_reducible refine store_at (ty := 39) (x := .tmp 4) (y := .tmp 12) ?_); refine ⟨w.heap.size, out0, 39, out0, rfl, rfl, hz0.out, info32, rfl, out_one _ _ _ _ _ _ _ _ _ _ _ _ _ _ _, ?_⟩)
      exact bodyPost_ret (results_cell1 Tryz.results7 _ _ w.heap.size 39 out0 (0, 0) _ rfl (setRow_heap _ _ _ _ _ _ hz0.out) Tryz.underlying39 rfl info32) rfl ⟨rfl, h.out.below (below_setRow hb0.out (Nat.le_refl _) _), (Keep2.refl m g w).below (below_setRow hb0.out (Nat.le_refl _) _)⟩
    · have hv : beginV s args = ({ begun s args with num := s.num + 1 }, .send (ownerV (begun s args)) 0) := by unfold beginV; rw [if_neg (by omega)]
      have hne : ((args.length : Int) == 0) = false := by rw [beq_eq_false_iff_ne]; omega
      have hCl := Clone_calls A c args hl _ (Kd.C_below hr hb0) hc
      rw [hv]
      replace hz0 := Lib.hid hz0
      replace h0 := Lib.hid h0
      replace hb0 := Lib.hid hb0
      replace h := Lib.hid h
      clear hv
      go_enter Tryz.func7, Tryz.ntmps7
      go_wp2_with fail
      refine hB.mono ?_
      rintro e w1 ⟨rfl, rfl⟩
      rw [d1]
      go_wp2_with fail
      refine hCl.mono ?_
      rintro e w1 ⟨A', c', rfl, hC', hc', hT', hb1⟩
      have h1 := h0.out.below hb1
      have hz1 := (hb1.block w.heap.size (by simp)).trans hz0.out
      have hkw1 : Keep2 m g w w1 := (keep2_alloc m g w _).below (hb1.mono (by simp))
      clear hCl hB
      obtain ⟨A0, c0, hb, hr0, hc0, -⟩ := h1.box
      replace hT' := Lib.hid hT'
      obtain ⟨k0, k1, k2, k3, k4⟩ := cl_cells hb
      have f2 : w1.frozen? ⟨g, 2, none⟩ = false := box_open hb
      have f4 : w1.frozen? ⟨g, 4, none⟩ = false := box_open hb
      replace hb := Lib.hid hb
      replace h1 := Lib.hid h1
      replace hz1 := Lib.hid hz1
      replace hkw1 := Lib.hid hkw1
      replace hb1 := Lib.hid hb1
      have hx2 : ((w1.setCell ⟨g, 2, none⟩ (.slice A' args.length c')).setCell ⟨g, 4, none⟩ (.int .i64 16)).heap[g]? = some (.cells #[.int .i64 (begun s args).home, .map (some m), .slice A' (begun s args).args.length c', .int .i64 (begun s args).num, .int .i64 (begun s args).bud] 52 (0, 0)) :=
        heap_setCell_same _ g 4 _ _ _ (heap_setCell_same _ g 2 _ _ _ hb.out)
      have ho2 : ∀ k, k ≠ g → ((w1.setCell ⟨g, 2, none⟩ (.slice A' args.length c')).setCell ⟨g, 4, none⟩ (.int .i64 16)).heap[k]? = w1.heap[k]? := fun k hk => (Below.heap_setCell _ _ _ k hk).trans (Below.heap_setCell _ _ _ k hk)
      have hk12 : Keep2 m g w1 ((w1.setCell ⟨g, 2, none⟩ (.slice A' args.length c')).setCell ⟨g, 4, none⟩ (.int .i64 16)) := ⟨rfl, rfl, rfl, by simp, fun k _ _ h2 => ho2 k h2⟩
      replace hx2 := Lib.hid hx2
      replace ho2 := Lib.hid ho2
      replace hk12 := Lib.hid hk12
      go_wp2_with fail
      generalize ((w1.setCell ⟨g, 2, none⟩ (.slice A' args.length c')).setCell ⟨g, 4, none⟩ (.int .i64 16)) = W2 at *
      have hmap : ∃ es ck, w1.heap[m]? = some (.map es ck) := by
        obtain ⟨n, D, ⟨es, ck, h4, -⟩, -, -⟩ := h1.out.map
        exact ⟨es, ck, h4⟩
      have hbx : ∃ c fr, w1.heap[g]? = some (.cells c 52 fr) := ⟨_, _, hb.out⟩
      have hC2 := strs_keep hC' hT'.out (hk12.out.str hbx hmap)
      have hT2 := T9.keep hT'.out (hk12.out.str hbx hmap)
      have hcl2 : Cl m g (begun s args) W2 := by
        obtain ⟨n, D, ⟨es, ck, h4, h5⟩, h6, h7⟩ := h1.out.map
        exact ⟨⟨A', c', hx2.out, hC2, hc', hT2⟩, ⟨n, D, ⟨es, ck, (ho2.out m h1.out.ne).trans h4, h5⟩, h6, h7⟩, h1.out.ne⟩
      have hz2 : W2.heap[w.heap.size]? = some (.cells out0 39 (0, 0)) := (ho2.out w.heap.size (by omega)).trans hz1.out
      have hkw2 : Keep2 m g w W2 := hkw1.out.trans hk12.out
      have hE2 : Env W2 := hE0.below (Keep2.base hB0 hm0 hg0 hkw2)
      clear hx2 ho2 hk12 hC' hb1 hz1 hkw1 h1 hb k0 k1 k2 k3 k4 f2 f4
      have hO := owner_calls m g (begun s args) hbig W2 hcl2 hE2
      replace hcl2 := Lib.hid hcl2
      replace hz2 := Lib.hid hz2
      replace hkw2 := Lib.hid hkw2
      refine hO.mono ?_
      rintro e w3 ⟨rfl, hb3⟩
      have hcl3 := hcl2.out.below hb3
      have hz3 := (hb3.block w.heap.size (Array.getElem?_eq_some_iff.1 hz2.out).1).trans hz2.out
      have hkw3 := hkw2.out.below (hb3.mono hkw2.out.size)
      have hS := send_calls m g (begun s args) (ownerV (begun s args)) 0 hn hl w3 hcl3
      clear hO hb3
      replace hz3 := Lib.hid hz3
      replace hcl3 := Lib.hid hcl3
      replace hkw3 := Lib.hid hkw3
      go_wp2_with fail
      refine hS.mono ?_
      rintro e w4 ⟨A4, c4, rfl, hcl4, hk4, hsA, hsc, hsT⟩
      have hz4 := (hk4.block w.heap.size (Array.getElem?_eq_some_iff.1 hz3.out).1 (by omega) (by omega)).trans hz3.out
      have hkw4 := hkw3.out.trans hk4
      replace hz4 := Lib.hid hz4
      replace hkw4 := Lib.hid hkw4
      replace hcl4 := Lib.hid hcl4
      generalize hOUT : outC (ownerV (begun s args)) 1 ((begun s args).num + 1) (.slice A4 (begun s args).args.length c4) 0 true 0 0 ⟨#[]⟩ (.slice none 0 0) false = OUT
      have hone : OUT.all (·.oneCell') = true := by rw [← hOUT]; exact out_one _ _ _ _ _ _ _ _ _ _ _ _ _ _ _
      have hsz : OUT.size = 20 := by rw [← hOUT]; rfl
      have hi : (Tryz.prog.info? 39).map (·.size) = some OUT.size := by rw [hsz]; exact info32
      have hsz0 : out0.size = OUT.size := by rw [hsz]; rfl
      replace hOUT := Lib.hid hOUT
      replace hi := Lib.hid hi
      go_wp2_with ((with_reducible refine store_at (ty := 39) (x := .tmp 4) (y := .tmp 24) ?_); refine ⟨w.heap.size, OUT, 39, out0, rfl, rfl, hz4.out, hi.out, hsz0, hone, ?_⟩)
      refine bodyPost_ret (results_cell1 Tryz.results7 _ _ w.heap.size 39 OUT (0, 0) _ rfl (setRow_heap _ _ _ _ _ _ hz4.out) Tryz.underlying39 rfl hi.out) rfl ⟨⟨A4, c4, by rw [← hOUT.out]; rfl, sent_row hsA hsT hz4.out, hsc, sent_t9 hsT hz4.out⟩, ?_, ?_⟩
      · exact hcl4.out.row hz4.out (by decide) (by omega) (by omega)
      · exact hkw4.out.below (below_setRow (Below.refl _ _) (Nat.le_refl _) _)
end Go.Proofs.YtpbiohnmmngccaaGreatDoor

namespace Go.Proofs.YtpbiohnmmngccaaGreatDoor
open Go Go.RowKit Go.Maps Go.Proofs.YtpbiohnmmngccaaGreatDoorW.PrintWords
open RtS
structure LV where
  kind : Int
  num : Int
  slot : Int
  ends : Int
  key : ByteArray
  text : ByteArray
  args : Option Addr × Nat × Nat
  rk : Int
  ri : Int
  rt : ByteArray
  rl : Option Addr × Nat × Nat
  good : Bool
  asking : Int
def lcells (L : LV) : Array Value := #[.int .i64 L.kind, .int .i64 L.num, .int .i64 L.slot, .int .i64 L.ends, .string L.key, .string L.text, .slice L.args.1 L.args.2.1 L.args.2.2, .int .i64 L.rk, .int .i64 L.ri, .string L.rt, .slice L.rl.1 L.rl.2.1 L.rl.2.2, .bool L.good, .int .i64 L.asking]
structure TS (g B : Nat) (bx lc : Array Value) (W0 W : World) : Prop where
  b0 : W.heap[B]? = some (.cells #[.pointer (some ⟨g, 0, none⟩)] 23 (0, 0))
  b1 : W.heap[B + 1]? = some (.cells lc 35 (0, 0))
  b2 : W.heap[B + 2]? = some (.cells out0 39 (0, 0))
  bx : W.heap[g]? = some (.cells bx 52 (0, 0))
  below : Below W0.heap.size W0 W
theorem TS.step {g B : Nat} {bx lc : Array Value} {W0 W W' : World} (h : TS g B bx lc W0 W) (hb : Below W.heap.size W W') : TS g B bx lc W0 W' :=
  ⟨(hb.block _ (Array.getElem?_eq_some_iff.1 h.b0).1).trans h.b0, (hb.block _ (Array.getElem?_eq_some_iff.1 h.b1).1).trans h.b1, (hb.block _ (Array.getElem?_eq_some_iff.1 h.b2).1).trans h.b2, (hb.block _ (Array.getElem?_eq_some_iff.1 h.bx).1).trans h.bx, h.below.trans (hb.mono h.below.size)⟩
theorem TS.c0 {g B : Nat} {bx lc : Array Value} {W0 W : World} (h : TS g B bx lc W0 W) : W.cell? ⟨B, 0, none⟩ = some (.pointer (some ⟨g, 0, none⟩)) := by rw [cell_of_box h.b0]; rfl
theorem TS.l0 {g B : Nat} {bx : Array Value} {L : LV} {W0 W : World} (h : TS g B bx (lcells L) W0 W) : W.cell? ⟨B + 1, 0, none⟩ = some (.int .i64 L.kind) := by rw [cell_of_box h.b1]; rfl
theorem TS.l1 {g B : Nat} {bx : Array Value} {L : LV} {W0 W : World} (h : TS g B bx (lcells L) W0 W) : W.cell? ⟨B + 1, 1, none⟩ = some (.int .i64 L.num) := by rw [cell_of_box h.b1]; rfl
def wrongT : ByteArray := ⟨#[82, 69, 68, 73, 82, 69, 67, 84, 83]⟩
def takeV (s : CS) (L : LV) : CS × Next :=
  if ¬ (0 < s.args.length) ∨ L.kind ≠ 2 ∨ L.num ≠ s.num then (s, .none)
  else
    let d := readV L.rt.data.toList
    if d.2.2.2.2 = false ∨ L.rk ≠ 2 ∨ d.1 = 5 ∨ d.1 = 6 then ({ s with args := [] }, .done L.rk L.ri L.rt (.slice L.rl.1 L.rl.2.1 L.rl.2.2))
    else if s.bud = 0 then ({ s with args := [] }, .done 2 0 wrongT (.slice none 0 0))
    else
      let s1 := { s with bud := s.bud - 1 }
      if d.1 = 2 then ({ s1 with kn := fun k => if k = d.2.1 then some d.2.2.1 else s.kn k, num := s.num + 1, cnt := s.cnt + 1 }, .send d.2.2.1 0)
      else if d.1 = 3 then ({ s1 with num := s.num + 1 }, .send d.2.2.1 d.2.2.2.1)
      else ({ s1 with num := s.num + 1 }, .send (ownerV s1) 0)
theorem take_world (w : World) (g : Nat) (L : LV) {bx : Array Value} (hg : g < w.heap.size) (hb : w.heap[g]? = some (.cells bx 52 (0, 0))) :
    TS g w.heap.size bx (lcells L) (((w.alloc (.cells #[.pointer (some ⟨g, 0, none⟩)] 23)).alloc (.cells (lcells L) 35)).alloc (.cells out0 39)) (((w.alloc (.cells #[.pointer (some ⟨g, 0, none⟩)] 23)).alloc (.cells (lcells L) 35)).alloc (.cells out0 39)) ∧
    Below w.heap.size w (((w.alloc (.cells #[.pointer (some ⟨g, 0, none⟩)] 23)).alloc (.cells (lcells L) 35)).alloc (.cells out0 39)) := by
  have hb3 : Below w.heap.size w (((w.alloc (.cells #[.pointer (some ⟨g, 0, none⟩)] 23)).alloc (.cells (lcells L) 35)).alloc (.cells out0 39)) := below_alloc (below_alloc (below_alloc (Below.refl _ _) _) _) _
  refine ⟨⟨?_, ?_, ?_, (hb3.block g hg).trans hb, Below.refl _ _⟩, hb3⟩
  · exact ((below_alloc (Below.refl ((w.alloc (.cells #[.pointer (some ⟨g, 0, none⟩)] 23)).alloc (.cells (lcells L) 35)).heap.size _) _).block _ (by simp; omega)).trans (heap0 _ _ _)
  · exact ((below_alloc (Below.refl ((w.alloc (.cells #[.pointer (some ⟨g, 0, none⟩)] 23)).alloc (.cells (lcells L) 35)).heap.size _) _).block _ (by simp)).trans (heap1 _ _ _)
  · have := heap_alloc_new ((w.alloc (.cells #[.pointer (some ⟨g, 0, none⟩)] 23)).alloc (.cells (lcells L) 35)) (.cells out0 39)
    simpa using this
theorem none_post {m g : Nat} {s : CS} {w W0 W : World} {bx lc : Array Value} (hW : TS g w.heap.size bx lc W0 W) (hb0 : Below w.heap.size w W0) (h : Cl m g s w) : DoPost m g (s, .none) w (.returned (.agg out0)) (W.setRow (w.heap.size + 2) out0) := by
  have hbw : Below w.heap.size w (W.setRow (w.heap.size + 2) out0) := below_setRow (hb0.trans (hW.below.mono hb0.size)) (by omega) _
  exact ⟨rfl, h.below hbw, (Keep2.refl m g w).below hbw⟩
set_option maxHeartbeats 2000000 in
theorem End_calls (m g B : Nat) (s : CS) (rk ri : Int) (rt : ByteArray) (rA : Option Addr) (rn rc : Nat) (w : World) (h : Cl m g s w) (hB : w.cell? ⟨B, 0, none⟩ = some (.pointer (some ⟨g, 0, none⟩))) :
    Calls Tryz.prog 20 #[.agg #[.int .i64 rk, .int .i64 ri, .string rt, .slice rA rn rc], .pointer (some ⟨B, 0, none⟩)] w (DoPost m g ({ s with args := [] }, .done rk ri rt (.slice rA rn rc)) w) := by
  obtain ⟨A, c, hb, hr, hc, hT⟩ := h.box
  obtain ⟨k0, k1, k2, k3, k4⟩ := cl_cells hb
  have hm := h.lt.1
  have hg := h.lt.2
  have hBl : B < w.heap.size := World.block_lt_of_cell? w _ hB
  have f2 : w.frozen? ⟨g, 2, none⟩ = false := box_open hb
  have hx : (w.setCell ⟨g, 2, none⟩ (.slice none 0 0)).heap[g]? = some (.cells #[.int .i64 s.home, .map (some m), .slice none 0 0, .int .i64 s.num, .int .i64 s.bud] 52 (0, 0)) := heap_setCell_same _ g 2 _ _ _ hb
  have hxm : (w.setCell ⟨g, 2, none⟩ (.slice none 0 0)).heap[m]? = w.heap[m]? := Below.heap_setCell _ _ _ m h.ne
  have hk : Keep2 m g w (w.setCell ⟨g, 2, none⟩ (.slice none 0 0)) := ⟨rfl, rfl, rfl, by simp, fun k _ _ h2 => Below.heap_setCell _ _ _ k h2⟩
  have hcl : Cl m g { s with args := [] } (w.setCell ⟨g, 2, none⟩ (.slice none 0 0)) := by
    obtain ⟨n, D, ⟨es, ck, h4, h5⟩, h6, h7⟩ := h.map
    exact ⟨⟨none, 0, hx, Kd.C_of_reads (d := (⟨#[]⟩ : ByteArray)) ⟨rfl, Nat.zero_le _, fun h => absurd h (Nat.lt_irrefl 0)⟩, Nat.le_refl _, fun ad h => by cases h⟩, ⟨n, D, ⟨es, ck, hxm.trans h4, h5⟩, h6, h7⟩, h.ne⟩
  have hba : Below (w.setCell ⟨g, 2, none⟩ (.slice none 0 0)).heap.size (w.setCell ⟨g, 2, none⟩ (.slice none 0 0)) (((w.setCell ⟨g, 2, none⟩ (.slice none 0 0)).alloc (.cells #[.int .i64 rk, .int .i64 ri, .string rt, .slice rA rn rc] 33)).alloc (.cells out0 39)) := below_alloc (below_alloc (Below.refl _ _) _) _
  have ho : (((w.setCell ⟨g, 2, none⟩ (.slice none 0 0)).alloc (.cells #[.int .i64 rk, .int .i64 ri, .string rt, .slice rA rn rc] 33)).alloc (.cells out0 39)).heap[w.heap.size + 1]? = some (.cells out0 39 (0, 0)) := by
    have := heap1 (w.setCell ⟨g, 2, none⟩ (.slice none 0 0)) (.cells #[.int .i64 rk, .int .i64 ri, .string rt, .slice rA rn rc] 33) (.cells out0 39)
    rwa [World.size_setCell] at this
  have hclf := hcl.below hba
  have hkf := hk.below (hba.mono (by simp))
  clear hx hxm hk hcl hba
  replace ho := Lib.hid ho
  replace hclf := Lib.hid hclf
  replace hkf := Lib.hid hkf
  replace hb := Lib.hid hb
  clear hr hT h
  go_enter Tryz.func20, Tryz.ntmps20
  go_wp2_with ((with_reducible refine store_at (ty := 39) (x := .tmp 3) (y := .tmp 8) ?_); refine ⟨w.heap.size + 1, (outC 0 0 0 (.slice none 0 0) 0 false rk ri rt (.slice rA rn rc) true), 39, out0, rfl, rfl, ho.out, info32, rfl, out_one _ _ _ _ _ _ _ _ _ _ _ _ _ _ _, ?_⟩)
  exact bodyPost_ret (results_cell1 Tryz.results20 _ _ (w.heap.size + 1) 39 (outC 0 0 0 (.slice none 0 0) 0 false rk ri rt (.slice rA rn rc) true) (0, 0) _ rfl (setRow_heap _ _ _ _ _ _ ho.out) Tryz.underlying39 rfl info32) rfl ⟨rfl, hclf.out.row ho.out (by decide) (by omega) (by omega), hkf.out.below (below_setRow (Below.refl _ _) (by omega) _)⟩
set_option maxHeartbeats 4000000 in
set_option maxRecDepth 100000 in
theorem Take_none (m g : Nat) (s : CS) (L : LV) (hn : 0 ≤ s.num ∧ s.num ≤ 1000000000) (w : World) (h : Cl m g s w) (hno : ¬ (0 < s.args.length) ∨ L.kind ≠ 2 ∨ L.num ≠ s.num) : Calls Tryz.prog 9 #[.pointer (some ⟨g, 0, none⟩), .agg (lcells L)] w (DoPost m g (s, .none) w) := by
  obtain ⟨A, c, hb, hr, hc, hT⟩ := h.box
  have hm := h.lt.1
  have hg := h.lt.2
  obtain ⟨hTS, hb0⟩ := take_world w g L hg hb
  have hcl0 := h.below hb0
  have hsz : (((w.alloc (.cells #[.pointer (some ⟨g, 0, none⟩)] 23)).alloc (.cells (lcells L) 35)).alloc (.cells out0 39)).heap.size = w.heap.size + 3 := by simp
  replace h := Lib.hid h
  replace hb := Lib.hid hb
  replace hr := Lib.hid hr
  replace hT := Lib.hid hT
  replace hcl0 := Lib.hid hcl0
  replace hTS := Lib.hid hTS
  replace hb0 := Lib.hid hb0
  replace hsz := Lib.hid hsz
  have hLC : lcells L = #[.int .i64 L.kind, .int .i64 L.num, .int .i64 L.slot, .int .i64 L.ends, .string L.key, .string L.text, .slice L.args.1 L.args.2.1 L.args.2.2, .int .i64 L.rk, .int .i64 L.ri, .string L.rt, .slice L.rl.1 L.rl.2.1 L.rl.2.2, .bool L.good, .int .i64 L.asking] := rfl
  rw [hLC]
  by_cases hbz : 0 < s.args.length
  · have dbusy : decide (0 < s.args.length) = true := decide_eq_true hbz
    by_cases hk : L.kind = 2
    · have hnn : L.num ≠ s.num := by rcases hno with h1 | h1 | h1; exact absurd hbz h1; exact absurd hk h1; exact h1
      have d1' := Lib.hid (show (L.kind != 2) = false by rw [hk]; rfl)
      have d2' := Lib.hid (show (L.num != s.num) = true by rw [bne_iff_ne]; exact hnn)
      clear hno hk hnn
      go_enter Tryz.func9, Tryz.ntmps9
      go_wp2_with fail
      change Code.wp _ _ _ _ (((w.alloc (.cells #[.pointer (some ⟨g, 0, none⟩)] 23)).alloc (.cells (lcells L) 35)).alloc (.cells out0 39))
      have hTS := hTS.out
      generalize (((w.alloc (.cells #[.pointer (some ⟨g, 0, none⟩)] 23)).alloc (.cells (lcells L) 35)).alloc (.cells out0 39)) = W0 at *
      refine wp_region_held_drew (S := TS g w.heap.size #[.int .i64 s.home, .map (some m), .slice A s.args.length c, .int .i64 s.num, .int .i64 s.bud] (lcells L) W0) (by kernel_rfl) (hTS.step ⟨rfl, rfl, rfl, Nat.le_refl _, fun _ _ => rfl⟩) (fun hHeld => ?_)
      refine wpAnyH_take (i := 0) (oi := ⟨some 8, _, _, _, _, _⟩) (v := .pointer (some ⟨g, 0, none⟩)) rfl (by kernel_rfl) (by kernel_rfl) (by kernel_rfl) (fun _ _ _ h => h) (Or.inl ⟨by rfl, fun W hW => by have q := hW.c0; go_simp⟩) (by assumption) ?_
      try simp only [Act.put, List.setIfInBounds_toArray, List.set_cons_zero, List.set_cons_succ]
      refine wpAnyH_ready (rs := [1]) (by kernel_rfl) (by simp) ?_
      refine AllReadyH.cons (o := ⟨some 9, _, _, _, _, _⟩) rfl (fun K hK => ?_) AllReadyH.nil
      go_simp
      refine (Busy_calls m g s _ (hcl0.out.below (TS.below (by assumption)))).mono ?_
      rintro e w1 ⟨rfl, rfl⟩
      rw [dbusy]
      go_wp2_with fail
      refine hK.out _ _ (by assumption) (fun hHeld1 => ?_)
      clear hK K
      try simp only [Act.put, List.setIfInBounds_toArray, List.set_cons_zero, List.set_cons_succ]
      refine wpAnyH_take (i := 2) (oi := ⟨some 10, _, _, _, _, _⟩) (v := .bool false) rfl (by kernel_rfl) (by kernel_rfl) (by kernel_rfl) (fun _ _ _ h => h) (Or.inl ⟨by rfl, fun W hW => by go_simp⟩) (by assumption) ?_
      try simp only [Act.put, List.setIfInBounds_toArray, List.set_cons_zero, List.set_cons_succ]
      refine wpAnyH_take (i := 3) (oi := ⟨some 11, _, _, _, _, _⟩) (v := .bool false) rfl (by kernel_rfl) (by kernel_rfl) (by kernel_rfl) (fun _ _ _ h => h) (Or.inl ⟨by rfl, fun W hW => by go_simp⟩) (by assumption) ?_
      try simp only [Act.put, List.setIfInBounds_toArray, List.set_cons_zero, List.set_cons_succ]
      refine wpAnyH_take (i := 4) (oi := ⟨some 12, _, _, _, _, _⟩) (v := .pointer (some ⟨w.heap.size + 1, 0, none⟩)) rfl (by kernel_rfl) (by kernel_rfl) (by kernel_rfl) (fun _ _ _ h => h) (Or.inl ⟨by rfl, fun W hW => by go_simp⟩) (by assumption) ?_
      try simp only [Act.put, List.setIfInBounds_toArray, List.set_cons_zero, List.set_cons_succ]
      refine wpAnyH_take (i := 5) (oi := ⟨some 13, _, _, _, _, _⟩) (v := .int .i64 L.kind) rfl (by kernel_rfl) (by kernel_rfl) (by kernel_rfl) (fun _ _ _ h => h) (Or.inl ⟨by rfl, fun W hW => by have q := hW.l0; go_simp⟩) (by assumption) ?_
      try simp only [Act.put, List.setIfInBounds_toArray, List.set_cons_zero, List.set_cons_succ]
      refine wpAnyH_take (i := 6) (oi := ⟨some 14, _, _, _, _, _⟩) (v := .bool false) rfl (by kernel_rfl) (by kernel_rfl) (by kernel_rfl) (fun _ _ _ h => h) (Or.inl ⟨by rfl, fun W hW => by have q := d1'.out; go_simp⟩) (by assumption) ?_
      try simp only [Act.put, List.setIfInBounds_toArray, List.set_cons_zero, List.set_cons_succ]
      refine wpAnyH_take (i := 7) (oi := ⟨some 15, _, _, _, _, _⟩) (v := .bool false) rfl (by kernel_rfl) (by kernel_rfl) (by kernel_rfl) (fun _ _ _ h => h) (Or.inl ⟨by rfl, fun W hW => by go_simp⟩) (by assumption) ?_
      try simp only [Act.put, List.setIfInBounds_toArray, List.set_cons_zero, List.set_cons_succ]
      refine wpAnyH_take (i := 8) (oi := ⟨some 16, _, _, _, _, _⟩) (v := .bool false) rfl (by kernel_rfl) (by kernel_rfl) (by kernel_rfl) (fun _ _ _ h => h) (Or.inl ⟨by rfl, fun W hW => by go_simp⟩) (by assumption) ?_
      try simp only [Act.put, List.setIfInBounds_toArray, List.set_cons_zero, List.set_cons_succ]
      refine wpAnyH_take (i := 9) (oi := ⟨some 17, _, _, _, _, _⟩) (v := .pointer (some ⟨w.heap.size + 1, 1, none⟩)) rfl (by kernel_rfl) (by kernel_rfl) (by kernel_rfl) (fun _ _ _ h => h) (Or.inl ⟨by rfl, fun W hW => by go_simp⟩) (by assumption) ?_
      try simp only [Act.put, List.setIfInBounds_toArray, List.set_cons_zero, List.set_cons_succ]
      refine wpAnyH_take (i := 10) (oi := ⟨some 18, _, _, _, _, _⟩) (v := .int .i64 L.num) rfl (by kernel_rfl) (by kernel_rfl) (by kernel_rfl) (fun _ _ _ h => h) (Or.inl ⟨by rfl, fun W hW => by have q := hW.l1; go_simp⟩) (by assumption) ?_
      try simp only [Act.put, List.setIfInBounds_toArray, List.set_cons_zero, List.set_cons_succ]
      refine wpAnyH_take (i := 11) (oi := ⟨some 19, _, _, _, _, _⟩) (v := .pointer (some ⟨g, 0, none⟩)) rfl (by kernel_rfl) (by kernel_rfl) (by kernel_rfl) (fun _ _ _ h => h) (Or.inl ⟨by rfl, fun W hW => by have q := hW.c0; go_simp⟩) (by assumption) ?_
      try simp only [Act.put, List.setIfInBounds_toArray, List.set_cons_zero, List.set_cons_succ]
      refine wpAnyH_take (i := 12) (oi := ⟨some 20, _, _, _, _, _⟩) (v := .pointer (some ⟨g, 0, none⟩)) rfl (by kernel_rfl) (by kernel_rfl) (by kernel_rfl) (fun _ _ _ h => h) (Or.inl ⟨by rfl, fun W hW => by go_simp⟩) (by assumption) ?_
      try simp only [Act.put, List.setIfInBounds_toArray, List.set_cons_zero, List.set_cons_succ]
      refine wpAnyH_take (i := 13) (oi := ⟨some 21, _, _, _, _, _⟩) (v := .pointer (some ⟨g, 3, none⟩)) rfl (by kernel_rfl) (by kernel_rfl) (by kernel_rfl) (fun _ _ _ h => h) (Or.inl ⟨by rfl, fun W hW => by go_simp⟩) (by assumption) ?_
      try simp only [Act.put, List.setIfInBounds_toArray, List.set_cons_zero, List.set_cons_succ]
      refine wpAnyH_take (i := 14) (oi := ⟨some 22, _, _, _, _, _⟩) (v := .int .i64 s.num) rfl (by kernel_rfl) (by kernel_rfl) (by kernel_rfl) (fun _ _ _ h => h) (Or.inl ⟨by rfl, fun W hW => by obtain ⟨q0, q1, q2, q3, q4⟩ := box_cells hW.bx; go_simp⟩) (by assumption) ?_
      try simp only [Act.put, List.setIfInBounds_toArray, List.set_cons_zero, List.set_cons_succ]
      refine wpAnyH_take (i := 15) (oi := ⟨some 23, _, _, _, _, _⟩) (v := .bool true) rfl (by kernel_rfl) (by kernel_rfl) (by kernel_rfl) (fun _ _ _ h => h) (Or.inl ⟨by rfl, fun W hW => by have q := d2'.out; go_simp⟩) (by assumption) ?_
      try simp only [Act.put, List.setIfInBounds_toArray, List.set_cons_zero, List.set_cons_succ]
      refine wpAnyH_take (i := 16) (oi := ⟨some 24, _, _, _, _, _⟩) (v := .bool true) rfl (by kernel_rfl) (by kernel_rfl) (by kernel_rfl) (fun _ _ _ h => h) (Or.inl ⟨by rfl, fun W hW => by go_simp⟩) (by assumption) ?_
      try simp only [Act.put, List.setIfInBounds_toArray, List.set_cons_zero, List.set_cons_succ]
      refine wpAnyH_done (by kernel_rfl) ?_ _
      go_wp2_with ((with_reducible refine store_at (ty := 39) (x := .tmp 4) (y := .tmp 25) ?_); refine ⟨w.heap.size + 2, out0, 39, out0, rfl, rfl, (TS.b2 (by assumption)), info32, rfl, out_one _ _ _ _ _ _ _ _ _ _ _ _ _ _ _, ?_⟩)
      exact bodyPost_ret (results_cell1 Tryz.results9 _ _ (w.heap.size + 2) 39 out0 (0, 0) _ rfl (setRow_heap _ _ _ _ _ _ (TS.b2 (by assumption))) Tryz.underlying39 rfl info32) rfl (none_post (by assumption) hb0.out h.out)
    · have d1' := Lib.hid (show (L.kind != 2) = true by rw [bne_iff_ne]; exact hk)
      clear hno hk
      go_enter Tryz.func9, Tryz.ntmps9
      go_wp2_with fail
      change Code.wp _ _ _ _ (((w.alloc (.cells #[.pointer (some ⟨g, 0, none⟩)] 23)).alloc (.cells (lcells L) 35)).alloc (.cells out0 39))
      have hTS := hTS.out
      generalize (((w.alloc (.cells #[.pointer (some ⟨g, 0, none⟩)] 23)).alloc (.cells (lcells L) 35)).alloc (.cells out0 39)) = W0 at *
      refine wp_region_held_drew (S := TS g w.heap.size #[.int .i64 s.home, .map (some m), .slice A s.args.length c, .int .i64 s.num, .int .i64 s.bud] (lcells L) W0) (by kernel_rfl) (hTS.step ⟨rfl, rfl, rfl, Nat.le_refl _, fun _ _ => rfl⟩) (fun hHeld => ?_)
      refine wpAnyH_take (i := 0) (oi := ⟨some 8, _, _, _, _, _⟩) (v := .pointer (some ⟨g, 0, none⟩)) rfl (by kernel_rfl) (by kernel_rfl) (by kernel_rfl) (fun _ _ _ h => h) (Or.inl ⟨by rfl, fun W hW => by have q := hW.c0; go_simp⟩) (by assumption) ?_
      try simp only [Act.put, List.setIfInBounds_toArray, List.set_cons_zero, List.set_cons_succ]
      refine wpAnyH_ready (rs := [1]) (by kernel_rfl) (by simp) ?_
      refine AllReadyH.cons (o := ⟨some 9, _, _, _, _, _⟩) rfl (fun K hK => ?_) AllReadyH.nil
      go_simp
      refine (Busy_calls m g s _ (hcl0.out.below (TS.below (by assumption)))).mono ?_
      rintro e w1 ⟨rfl, rfl⟩
      rw [dbusy]
      go_wp2_with fail
      refine hK.out _ _ (by assumption) (fun hHeld1 => ?_)
      clear hK K
      try simp only [Act.put, List.setIfInBounds_toArray, List.set_cons_zero, List.set_cons_succ]
      refine wpAnyH_take (i := 2) (oi := ⟨some 10, _, _, _, _, _⟩) (v := .bool false) rfl (by kernel_rfl) (by kernel_rfl) (by kernel_rfl) (fun _ _ _ h => h) (Or.inl ⟨by rfl, fun W hW => by go_simp⟩) (by assumption) ?_
      try simp only [Act.put, List.setIfInBounds_toArray, List.set_cons_zero, List.set_cons_succ]
      refine wpAnyH_take (i := 3) (oi := ⟨some 11, _, _, _, _, _⟩) (v := .bool false) rfl (by kernel_rfl) (by kernel_rfl) (by kernel_rfl) (fun _ _ _ h => h) (Or.inl ⟨by rfl, fun W hW => by go_simp⟩) (by assumption) ?_
      try simp only [Act.put, List.setIfInBounds_toArray, List.set_cons_zero, List.set_cons_succ]
      refine wpAnyH_take (i := 4) (oi := ⟨some 12, _, _, _, _, _⟩) (v := .pointer (some ⟨w.heap.size + 1, 0, none⟩)) rfl (by kernel_rfl) (by kernel_rfl) (by kernel_rfl) (fun _ _ _ h => h) (Or.inl ⟨by rfl, fun W hW => by go_simp⟩) (by assumption) ?_
      try simp only [Act.put, List.setIfInBounds_toArray, List.set_cons_zero, List.set_cons_succ]
      refine wpAnyH_take (i := 5) (oi := ⟨some 13, _, _, _, _, _⟩) (v := .int .i64 L.kind) rfl (by kernel_rfl) (by kernel_rfl) (by kernel_rfl) (fun _ _ _ h => h) (Or.inl ⟨by rfl, fun W hW => by have q := hW.l0; go_simp⟩) (by assumption) ?_
      try simp only [Act.put, List.setIfInBounds_toArray, List.set_cons_zero, List.set_cons_succ]
      refine wpAnyH_take (i := 6) (oi := ⟨some 14, _, _, _, _, _⟩) (v := .bool true) rfl (by kernel_rfl) (by kernel_rfl) (by kernel_rfl) (fun _ _ _ h => h) (Or.inl ⟨by rfl, fun W hW => by have q := d1'.out; go_simp⟩) (by assumption) ?_
      try simp only [Act.put, List.setIfInBounds_toArray, List.set_cons_zero, List.set_cons_succ]
      refine wpAnyH_take (i := 7) (oi := ⟨some 15, _, _, _, _, _⟩) (v := .bool true) rfl (by kernel_rfl) (by kernel_rfl) (by kernel_rfl) (fun _ _ _ h => h) (Or.inl ⟨by rfl, fun W hW => by go_simp⟩) (by assumption) ?_
      try simp only [Act.put, List.setIfInBounds_toArray, List.set_cons_zero, List.set_cons_succ]
      refine wpAnyH_take (i := 8) (oi := ⟨some 16, _, _, _, _, _⟩) (v := .bool true) rfl (by kernel_rfl) (by kernel_rfl) (by kernel_rfl) (fun _ _ _ h => h) (Or.inl ⟨by rfl, fun W hW => by go_simp⟩) (by assumption) ?_
      try simp only [Act.put, List.setIfInBounds_toArray, List.set_cons_zero, List.set_cons_succ]
      refine wpAnyH_take (i := 9) (oi := ⟨some 17, _, _, _, _, _⟩) (v := undef) rfl (by kernel_rfl) (by kernel_rfl) (by kernel_rfl) (fun _ _ _ h => h) (Or.inr ⟨by rfl, rfl⟩) (by assumption) ?_
      try simp only [Act.put, List.setIfInBounds_toArray, List.set_cons_zero, List.set_cons_succ]
      refine wpAnyH_take (i := 10) (oi := ⟨some 18, _, _, _, _, _⟩) (v := undef) rfl (by kernel_rfl) (by kernel_rfl) (by kernel_rfl) (fun _ _ _ h => h) (Or.inr ⟨by rfl, rfl⟩) (by assumption) ?_
      try simp only [Act.put, List.setIfInBounds_toArray, List.set_cons_zero, List.set_cons_succ]
      refine wpAnyH_take (i := 11) (oi := ⟨some 19, _, _, _, _, _⟩) (v := undef) rfl (by kernel_rfl) (by kernel_rfl) (by kernel_rfl) (fun _ _ _ h => h) (Or.inr ⟨by rfl, rfl⟩) (by assumption) ?_
      try simp only [Act.put, List.setIfInBounds_toArray, List.set_cons_zero, List.set_cons_succ]
      refine wpAnyH_take (i := 12) (oi := ⟨some 20, _, _, _, _, _⟩) (v := undef) rfl (by kernel_rfl) (by kernel_rfl) (by kernel_rfl) (fun _ _ _ h => h) (Or.inr ⟨by rfl, rfl⟩) (by assumption) ?_
      try simp only [Act.put, List.setIfInBounds_toArray, List.set_cons_zero, List.set_cons_succ]
      refine wpAnyH_take (i := 13) (oi := ⟨some 21, _, _, _, _, _⟩) (v := undef) rfl (by kernel_rfl) (by kernel_rfl) (by kernel_rfl) (fun _ _ _ h => h) (Or.inr ⟨by rfl, rfl⟩) (by assumption) ?_
      try simp only [Act.put, List.setIfInBounds_toArray, List.set_cons_zero, List.set_cons_succ]
      refine wpAnyH_take (i := 14) (oi := ⟨some 22, _, _, _, _, _⟩) (v := undef) rfl (by kernel_rfl) (by kernel_rfl) (by kernel_rfl) (fun _ _ _ h => h) (Or.inr ⟨by rfl, rfl⟩) (by assumption) ?_
      try simp only [Act.put, List.setIfInBounds_toArray, List.set_cons_zero, List.set_cons_succ]
      refine wpAnyH_take (i := 15) (oi := ⟨some 23, _, _, _, _, _⟩) (v := undef) rfl (by kernel_rfl) (by kernel_rfl) (by kernel_rfl) (fun _ _ _ h => h) (Or.inr ⟨by rfl, rfl⟩) (by assumption) ?_
      try simp only [Act.put, List.setIfInBounds_toArray, List.set_cons_zero, List.set_cons_succ]
      refine wpAnyH_take (i := 16) (oi := ⟨some 24, _, _, _, _, _⟩) (v := .bool true) rfl (by kernel_rfl) (by kernel_rfl) (by kernel_rfl) (fun _ _ _ h => h) (Or.inl ⟨by rfl, fun W hW => by go_simp⟩) (by assumption) ?_
      try simp only [Act.put, List.setIfInBounds_toArray, List.set_cons_zero, List.set_cons_succ]
      refine wpAnyH_done (by kernel_rfl) ?_ _
      go_wp2_with ((with_reducible refine store_at (ty := 39) (x := .tmp 4) (y := .tmp 25) ?_); refine ⟨w.heap.size + 2, out0, 39, out0, rfl, rfl, (TS.b2 (by assumption)), info32, rfl, out_one _ _ _ _ _ _ _ _ _ _ _ _ _ _ _, ?_⟩)
      exact bodyPost_ret (results_cell1 Tryz.results9 _ _ (w.heap.size + 2) 39 out0 (0, 0) _ rfl (setRow_heap _ _ _ _ _ _ (TS.b2 (by assumption))) Tryz.underlying39 rfl info32) rfl (none_post (by assumption) hb0.out h.out)
  · have dbusy : decide (0 < s.args.length) = false := decide_eq_false hbz
    clear hno
    go_enter Tryz.func9, Tryz.ntmps9
    go_wp2_with fail
    change Code.wp _ _ _ _ (((w.alloc (.cells #[.pointer (some ⟨g, 0, none⟩)] 23)).alloc (.cells (lcells L) 35)).alloc (.cells out0 39))
    have hTS := hTS.out
    generalize (((w.alloc (.cells #[.pointer (some ⟨g, 0, none⟩)] 23)).alloc (.cells (lcells L) 35)).alloc (.cells out0 39)) = W0 at *
    refine wp_region_held_drew (S := TS g w.heap.size #[.int .i64 s.home, .map (some m), .slice A s.args.length c, .int .i64 s.num, .int .i64 s.bud] (lcells L) W0) (by kernel_rfl) (hTS.step ⟨rfl, rfl, rfl, Nat.le_refl _, fun _ _ => rfl⟩) (fun hHeld => ?_)
    refine wpAnyH_take (i := 0) (oi := ⟨some 8, _, _, _, _, _⟩) (v := .pointer (some ⟨g, 0, none⟩)) rfl (by kernel_rfl) (by kernel_rfl) (by kernel_rfl) (fun _ _ _ h => h) (Or.inl ⟨by rfl, fun W hW => by have q := hW.c0; go_simp⟩) (by assumption) ?_
    try simp only [Act.put, List.setIfInBounds_toArray, List.set_cons_zero, List.set_cons_succ]
    refine wpAnyH_ready (rs := [1]) (by kernel_rfl) (by simp) ?_
    refine AllReadyH.cons (o := ⟨some 9, _, _, _, _, _⟩) rfl (fun K hK => ?_) AllReadyH.nil
    go_simp
    refine (Busy_calls m g s _ (hcl0.out.below (TS.below (by assumption)))).mono ?_
    rintro e w1 ⟨rfl, rfl⟩
    rw [dbusy]
    go_wp2_with fail
    refine hK.out _ _ (by assumption) (fun hHeld1 => ?_)
    clear hK K
    try simp only [Act.put, List.setIfInBounds_toArray, List.set_cons_zero, List.set_cons_succ]
    refine wpAnyH_take (i := 2) (oi := ⟨some 10, _, _, _, _, _⟩) (v := .bool true) rfl (by kernel_rfl) (by kernel_rfl) (by kernel_rfl) (fun _ _ _ h => h) (Or.inl ⟨by rfl, fun W hW => by go_simp⟩) (by assumption) ?_
    try simp only [Act.put, List.setIfInBounds_toArray, List.set_cons_zero, List.set_cons_succ]
    refine wpAnyH_take (i := 3) (oi := ⟨some 11, _, _, _, _, _⟩) (v := .bool true) rfl (by kernel_rfl) (by kernel_rfl) (by kernel_rfl) (fun _ _ _ h => h) (Or.inl ⟨by rfl, fun W hW => by go_simp⟩) (by assumption) ?_
    try simp only [Act.put, List.setIfInBounds_toArray, List.set_cons_zero, List.set_cons_succ]
    refine wpAnyH_take (i := 4) (oi := ⟨some 12, _, _, _, _, _⟩) (v := undef) rfl (by kernel_rfl) (by kernel_rfl) (by kernel_rfl) (fun _ _ _ h => h) (Or.inr ⟨by rfl, rfl⟩) (by assumption) ?_
    try simp only [Act.put, List.setIfInBounds_toArray, List.set_cons_zero, List.set_cons_succ]
    refine wpAnyH_take (i := 5) (oi := ⟨some 13, _, _, _, _, _⟩) (v := undef) rfl (by kernel_rfl) (by kernel_rfl) (by kernel_rfl) (fun _ _ _ h => h) (Or.inr ⟨by rfl, rfl⟩) (by assumption) ?_
    try simp only [Act.put, List.setIfInBounds_toArray, List.set_cons_zero, List.set_cons_succ]
    refine wpAnyH_take (i := 6) (oi := ⟨some 14, _, _, _, _, _⟩) (v := undef) rfl (by kernel_rfl) (by kernel_rfl) (by kernel_rfl) (fun _ _ _ h => h) (Or.inr ⟨by rfl, rfl⟩) (by assumption) ?_
    try simp only [Act.put, List.setIfInBounds_toArray, List.set_cons_zero, List.set_cons_succ]
    refine wpAnyH_take (i := 7) (oi := ⟨some 15, _, _, _, _, _⟩) (v := .bool true) rfl (by kernel_rfl) (by kernel_rfl) (by kernel_rfl) (fun _ _ _ h => h) (Or.inl ⟨by rfl, fun W hW => by go_simp⟩) (by assumption) ?_
    try simp only [Act.put, List.setIfInBounds_toArray, List.set_cons_zero, List.set_cons_succ]
    refine wpAnyH_take (i := 8) (oi := ⟨some 16, _, _, _, _, _⟩) (v := .bool true) rfl (by kernel_rfl) (by kernel_rfl) (by kernel_rfl) (fun _ _ _ h => h) (Or.inl ⟨by rfl, fun W hW => by go_simp⟩) (by assumption) ?_
    try simp only [Act.put, List.setIfInBounds_toArray, List.set_cons_zero, List.set_cons_succ]
    refine wpAnyH_take (i := 9) (oi := ⟨some 17, _, _, _, _, _⟩) (v := undef) rfl (by kernel_rfl) (by kernel_rfl) (by kernel_rfl) (fun _ _ _ h => h) (Or.inr ⟨by rfl, rfl⟩) (by assumption) ?_
    try simp only [Act.put, List.setIfInBounds_toArray, List.set_cons_zero, List.set_cons_succ]
    refine wpAnyH_take (i := 10) (oi := ⟨some 18, _, _, _, _, _⟩) (v := undef) rfl (by kernel_rfl) (by kernel_rfl) (by kernel_rfl) (fun _ _ _ h => h) (Or.inr ⟨by rfl, rfl⟩) (by assumption) ?_
    try simp only [Act.put, List.setIfInBounds_toArray, List.set_cons_zero, List.set_cons_succ]
    refine wpAnyH_take (i := 11) (oi := ⟨some 19, _, _, _, _, _⟩) (v := undef) rfl (by kernel_rfl) (by kernel_rfl) (by kernel_rfl) (fun _ _ _ h => h) (Or.inr ⟨by rfl, rfl⟩) (by assumption) ?_
    try simp only [Act.put, List.setIfInBounds_toArray, List.set_cons_zero, List.set_cons_succ]
    refine wpAnyH_take (i := 12) (oi := ⟨some 20, _, _, _, _, _⟩) (v := undef) rfl (by kernel_rfl) (by kernel_rfl) (by kernel_rfl) (fun _ _ _ h => h) (Or.inr ⟨by rfl, rfl⟩) (by assumption) ?_
    try simp only [Act.put, List.setIfInBounds_toArray, List.set_cons_zero, List.set_cons_succ]
    refine wpAnyH_take (i := 13) (oi := ⟨some 21, _, _, _, _, _⟩) (v := undef) rfl (by kernel_rfl) (by kernel_rfl) (by kernel_rfl) (fun _ _ _ h => h) (Or.inr ⟨by rfl, rfl⟩) (by assumption) ?_
    try simp only [Act.put, List.setIfInBounds_toArray, List.set_cons_zero, List.set_cons_succ]
    refine wpAnyH_take (i := 14) (oi := ⟨some 22, _, _, _, _, _⟩) (v := undef) rfl (by kernel_rfl) (by kernel_rfl) (by kernel_rfl) (fun _ _ _ h => h) (Or.inr ⟨by rfl, rfl⟩) (by assumption) ?_
    try simp only [Act.put, List.setIfInBounds_toArray, List.set_cons_zero, List.set_cons_succ]
    refine wpAnyH_take (i := 15) (oi := ⟨some 23, _, _, _, _, _⟩) (v := undef) rfl (by kernel_rfl) (by kernel_rfl) (by kernel_rfl) (fun _ _ _ h => h) (Or.inr ⟨by rfl, rfl⟩) (by assumption) ?_
    try simp only [Act.put, List.setIfInBounds_toArray, List.set_cons_zero, List.set_cons_succ]
    refine wpAnyH_take (i := 16) (oi := ⟨some 24, _, _, _, _, _⟩) (v := .bool true) rfl (by kernel_rfl) (by kernel_rfl) (by kernel_rfl) (fun _ _ _ h => h) (Or.inl ⟨by rfl, fun W hW => by go_simp⟩) (by assumption) ?_
    try simp only [Act.put, List.setIfInBounds_toArray, List.set_cons_zero, List.set_cons_succ]
    refine wpAnyH_done (by kernel_rfl) ?_ _
    go_wp2_with ((with_reducible refine store_at (ty := 39) (x := .tmp 4) (y := .tmp 25) ?_); refine ⟨w.heap.size + 2, out0, 39, out0, rfl, rfl, (TS.b2 (by assumption)), info32, rfl, out_one _ _ _ _ _ _ _ _ _ _ _ _ _ _ _, ?_⟩)
    exact bodyPost_ret (results_cell1 Tryz.results9 _ _ (w.heap.size + 2) 39 out0 (0, 0) _ rfl (setRow_heap _ _ _ _ _ _ (TS.b2 (by assumption))) Tryz.underlying39 rfl info32) rfl (none_post (by assumption) hb0.out h.out)
end Go.Proofs.YtpbiohnmmngccaaGreatDoor
