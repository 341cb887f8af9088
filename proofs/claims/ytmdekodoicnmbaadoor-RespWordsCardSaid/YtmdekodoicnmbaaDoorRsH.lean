/- The next command. Conditions: the listed variables as laid; bytes within the machine's reach. -/
import Derived.Test.YtmdekodoicnmbaaDoorRsG
import Derived.Maps.AppendAt
set_option linter.unusedVariables false
set_option linter.unusedSimpArgs false
namespace Go.Proofs.YtmdekodoicnmbaaDoor
open Go.RowKit Go.Proofs.YtmdekodoicnmbaaDoorW.PrintWords
/-- the scope of the function, and what stands behind a label -/
noncomputable def body15 : Code := match Tryd.f15.body with
  | some (.seq _ (.scope c)) => c
  | _ => .skip
noncomputable def tail15 (l : Nat) : Code := match findLabel body15 l with
  | some (.seq .skip c) => c
  | _ => .skip
/-- the parser as it stands, seen from the call's beginning -/
structure Pr (w we : World) (g : Nat) (A : Option Addr) (c : Nat) (b : List UInt8) (k : Int) (W : World) : Prop where
  box : W.heap[g]? = some (.cells #[.slice A b.length c, .int .i64 k] 39 (0, 0))
  rd : RdB w A c b
  old : Keeps g w we
  keeps : Keeps g we W
  lt : g < we.heap.size
def NxPost (w we : World) (g : Nat) (R : NextV) (e : Ending) (W : World) : Prop :=
  match R with
  | .stop E b => e = .returned (.tuple #[.slice none 0 0, .bool false, .int .i64 E]) ∧ ∃ A c, Pr w we g A c (if E = 0 then b else []) E W
  | .got args rest => ∃ A' c', e = .returned (.tuple #[.slice A' args.length c', .bool true, .int .i64 0]) ∧ W.ownsRow we.heap.size 9 1 (.slice A' args.length c') args.length (args.map Value.string) ∧ ∃ A c, Pr w we g A c rest 0 W
/-- a frame of the function, with some slots known -/
structure Fr (g : Nat) (a : Act) : Prop where
  size : a.tmps.size = 112
  defers : a.defers = []
  s0 : a.tmps.getD 0 undef = .pointer (some ⟨g, 0, none⟩)
  s2 : a.tmps.getD 2 undef = .slice none 0 0
  s3 : a.tmps.getD 3 undef = .bool false
  s4 : a.tmps.getD 4 undef = .int .i64 0
theorem list_lit (l : List Value) : l = (List.range l.length).map fun i => l.getD i undef := by
  apply List.ext_getElem?
  intro i
  rw [List.getElem?_map]
  by_cases h : i < l.length
  · rw [List.getElem?_range h, List.getElem?_eq_getElem h]
    simp [List.getD_eq_getElem?_getD, h]
  · rw [List.getElem?_eq_none (by omega), List.getElem?_eq_none (by simp; omega)]
    rfl
theorem Fr.lit {g : Nat} {a : Act} (h : Fr g a) : ∃ v : Nat → Value, a = { tmps := #[v 0, v 1, v 2, v 3, v 4, v 5, v 6, v 7, v 8, v 9, v 10, v 11, v 12, v 13, v 14, v 15, v 16, v 17, v 18, v 19, v 20, v 21, v 22, v 23, v 24, v 25, v 26, v 27, v 28, v 29, v 30, v 31, v 32, v 33, v 34, v 35, v 36, v 37, v 38, v 39, v 40, v 41, v 42, v 43, v 44, v 45, v 46, v 47, v 48, v 49, v 50, v 51, v 52, v 53, v 54, v 55, v 56, v 57, v 58, v 59, v 60, v 61, v 62, v 63, v 64, v 65, v 66, v 67, v 68, v 69, v 70, v 71, v 72, v 73, v 74, v 75, v 76, v 77, v 78, v 79, v 80, v 81, v 82, v 83, v 84, v 85, v 86, v 87, v 88, v 89, v 90, v 91, v 92, v 93, v 94, v 95, v 96, v 97, v 98, v 99, v 100, v 101, v 102, v 103, v 104, v 105, v 106, v 107, v 108, v 109, v 110, v 111], defers := [] } ∧ ∀ i, v i = a.tmps.getD i undef := by
  refine ⟨fun i => a.tmps.getD i undef, ?_, fun i => rfl⟩
  obtain ⟨⟨l⟩, d⟩ := a
  have h1 := h.size
  have h2 := h.defers
  simp only [List.size_toArray] at h1
  have e := list_lit l
  rw [h1] at e
  have e2 : (List.range 112).map (fun i => l.getD i undef) = [l.getD 0 undef, l.getD 1 undef, l.getD 2 undef, l.getD 3 undef, l.getD 4 undef, l.getD 5 undef, l.getD 6 undef, l.getD 7 undef, l.getD 8 undef, l.getD 9 undef, l.getD 10 undef, l.getD 11 undef, l.getD 12 undef, l.getD 13 undef, l.getD 14 undef, l.getD 15 undef, l.getD 16 undef, l.getD 17 undef, l.getD 18 undef, l.getD 19 undef, l.getD 20 undef, l.getD 21 undef, l.getD 22 undef, l.getD 23 undef, l.getD 24 undef, l.getD 25 undef, l.getD 26 undef, l.getD 27 undef, l.getD 28 undef, l.getD 29 undef, l.getD 30 undef, l.getD 31 undef, l.getD 32 undef, l.getD 33 undef, l.getD 34 undef, l.getD 35 undef, l.getD 36 undef, l.getD 37 undef, l.getD 38 undef, l.getD 39 undef, l.getD 40 undef, l.getD 41 undef, l.getD 42 undef, l.getD 43 undef, l.getD 44 undef, l.getD 45 undef, l.getD 46 undef, l.getD 47 undef, l.getD 48 undef, l.getD 49 undef, l.getD 50 undef, l.getD 51 undef, l.getD 52 undef, l.getD 53 undef, l.getD 54 undef, l.getD 55 undef, l.getD 56 undef, l.getD 57 undef, l.getD 58 undef, l.getD 59 undef, l.getD 60 undef, l.getD 61 undef, l.getD 62 undef, l.getD 63 undef, l.getD 64 undef, l.getD 65 undef, l.getD 66 undef, l.getD 67 undef, l.getD 68 undef, l.getD 69 undef, l.getD 70 undef, l.getD 71 undef, l.getD 72 undef, l.getD 73 undef, l.getD 74 undef, l.getD 75 undef, l.getD 76 undef, l.getD 77 undef, l.getD 78 undef, l.getD 79 undef, l.getD 80 undef, l.getD 81 undef, l.getD 82 undef, l.getD 83 undef, l.getD 84 undef, l.getD 85 undef, l.getD 86 undef, l.getD 87 undef, l.getD 88 undef, l.getD 89 undef, l.getD 90 undef, l.getD 91 undef, l.getD 92 undef, l.getD 93 undef, l.getD 94 undef, l.getD 95 undef, l.getD 96 undef, l.getD 97 undef, l.getD 98 undef, l.getD 99 undef, l.getD 100 undef, l.getD 101 undef, l.getD 102 undef, l.getD 103 undef, l.getD 104 undef, l.getD 105 undef, l.getD 106 undef, l.getD 107 undef, l.getD 108 undef, l.getD 109 undef, l.getD 110 undef, l.getD 111 undef] := rfl
  rw [e2] at e
  have h3 : ∀ i, (Array.getD (⟨l⟩ : Array Value) i undef) = l.getD i undef := fun i => by simp [Array.getD_eq_getD_getElem?, List.getD_eq_getElem?_getD]
  simp only [h3]
  simp only at h2
  rw [h2]
  exact congrArg (fun x : List Value => ({ tmps := ⟨x⟩, defers := [] } : Act)) e
/-- what holds at a jump to a label -/
def JN (w we : World) (g : Nat) (R : NextV) (l m : Nat) (a : Act) (W : World) : Prop :=
  Fr g a ∧ match l with
  | 0 => ∃ (E : Int) (A : Option Addr) (c : Nat) (b : List UInt8) (k : Int), a.tmps.getD 8 undef = .int .i64 E ∧ Pr w we g A c b k W ∧ R = .stop E b
  | 1 => ∃ (A : Option Addr) (c : Nat) (b : List UInt8) (f : Nat), a.tmps.getD 8 undef = .int .i64 0 ∧ Pr w we g A c b 0 W ∧ b.length < f ∧ nextF f b = R ∧ m = 3 * b.length + 2 ∧ b.length ≤ 140737488351232
  | 2 => ∃ (E at_ : Int) (argsv : Value) (A : Option Addr) (c : Nat) (b : List UInt8) (f : Nat), a.tmps.getD 8 undef = .int .i64 E ∧ a.tmps.getD 5 undef = argsv ∧ a.tmps.getD 9 undef = .int .i64 at_ ∧ Pr w we g A c b 0 W ∧ b.length < f ∧ nextF f b = R ∧ m = 3 * b.length + 1 ∧ b.length ≤ 140737488351232 ∧
      ((E ≠ 0 ∧ oneV b = .stop E) ∨ (E = 0 ∧ ∃ (args : List ByteArray) (n : Nat) (A2 : Option Addr) (c2 : Nat), at_ = n ∧ argsv = .slice A2 args.length c2 ∧ W.ownsRow we.heap.size 9 1 (.slice A2 args.length c2) args.length (args.map Value.string) ∧ oneV b = .read args n))
  | _ => False
theorem leap_ret {J : Nat → Nat → Act → World → Prop} {m : Nat} {Q : Exit → Act → World → Prop} {a : Act} {w : World} : leap J m Q .ret a w = Q .ret a w := rfl
theorem then_goto {K : Act → World → Prop} {Q : Exit → Act → World → Prop} {l : Nat} {a : Act} {w : World} : Exit.then K Q (.goto l) a w = Q (.goto l) a w := rfl
theorem leap_goto {J : Nat → Nat → Act → World → Prop} {m l : Nat} {Q : Exit → Act → World → Prop} {a : Act} {w : World} : leap J m Q (.goto l) a w = ∃ m', m' < m ∧ J l m' a w := rfl
theorem lk_512 (l : List UInt8) (k : Nat) (h : lkV l = k) : k < 512 := by
  have := (Lib.indexByte_some h).1
  have := (List.getElem?_eq_some_iff.1 this).1
  simp at this
  omega
theorem info_str : ∃ i0, Tryd.prog.info? 9 = some i0 ∧ i0.zero = some (.string ⟨#[]⟩) ∧ i0.size = 1 ∧ i0.bytes = 16 := info_parts (by kernel_rfl)
theorem Pr.cells {w we : World} {g : Nat} {A : Option Addr} {c : Nat} {b : List UInt8} {k : Int} {W : World} (h : Pr w we g A c b k W) :
    W.cell? ⟨g, 0, none⟩ = some (.slice A b.length c) ∧ W.cell? ⟨g, 1, none⟩ = some (.int .i64 k) ∧ W.frozen? ⟨g, 0, none⟩ = false ∧ W.frozen? ⟨g, 1, none⟩ = false := by
  refine ⟨?_, ?_, ?_, ?_⟩
  · rw [cell_of_row W _ _ _ 39 (0, 0) h.box]; rfl
  · rw [cell_of_row W _ _ _ 39 (0, 0) h.box]; rfl
  · simp [World.frozen?, h.box]
  · simp [World.frozen?, h.box]
theorem Pr.below {w we : World} {g : Nat} {A : Option Addr} {c : Nat} {b : List UInt8} {k : Int} {W W' : World} (h : Pr w we g A c b k W) (hb : Below we.heap.size W W') : Pr w we g A c b k W' :=
  ⟨(hb.block _ h.lt).trans h.box, h.rd, h.old, h.keeps.below hb, h.lt⟩
theorem Pr.set0 {w we : World} {g : Nat} {A A' : Option Addr} {c c' : Nat} {b b' : List UInt8} {k : Int} {W : World} (h : Pr w we g A c b k W) (hr : RdB w A' c' b') : Pr w we g A' c' b' k (W.setCell ⟨g, 0, none⟩ (.slice A' b'.length c')) := by
  refine ⟨?_, hr, h.old, h.keeps.set 0 _, h.lt⟩
  rw [heap_setCell_same W g 0 _ 39 _ h.box]
  rfl
theorem Pr.set1 {w we : World} {g : Nat} {A : Option Addr} {c : Nat} {b : List UInt8} {k k' : Int} {W : World} (h : Pr w we g A c b k W) : Pr w we g A c b k' (W.setCell ⟨g, 1, none⟩ (.int .i64 k')) := by
  refine ⟨?_, h.rd, h.old, h.keeps.set 1 _, h.lt⟩
  rw [heap_setCell_same W g 1 _ 39 _ h.box]
  rfl
set_option maxHeartbeats 4000000 in
set_option maxRecDepth 100000 in
theorem tail0 (w we : World) (g : Nat) (R : NextV) (m : Nat) (a : Act) (W : World) (hJ : JN w we g R 0 m a W) : (tail15 0).wp Tryd.prog (leap (JN w we g R) m (bodyPost Tryd.prog Tryd.f15 (NxPost w we g R))) a W := by
  obtain ⟨hF, E, A, c, b, k, h8, hP, rfl⟩ := hJ
  have h0 := hF.s0
  obtain ⟨v, ha, hv⟩ := hF.lit
  rw [← hv] at h8 h0
  rw [h8, h0] at ha
  subst ha
  clear hF hv h8 h0
  obtain ⟨c0, c1, z0, z1⟩ := hP.cells
  generalize hQ : leap (JN w we g (.stop E b)) m (bodyPost Tryd.prog Tryd.f15 (NxPost w we g (.stop E b))) = QQ
  replace hQ := hQ.symm
  replace hQ := Lib.hid hQ
  show Code.wp Tryd.prog (tail15 0) _ _ _
  unfold tail15 body15 Tryd.f15
  simp only [findLabel, Nat.reduceBEq, Bool.false_eq_true, ↓reduceIte]
  by_cases hE : E = 0
  · subst hE
    have hP1 := hP.set1 (k' := 0)
    go_wp2_with fail
    rw [hQ.out]
    rw [leap_ret]
    go_ret3
    exact ⟨rfl, A, c, hP1⟩
  · have hE1 : (E == 0) = false := by simp [hE]
    have hE2 : (E != 0) = true := by simp [hE]
    have hP1 := (hP.set0 (RdB.nil w)).set1 (k' := E)
    have d1 := (hP.set0 (RdB.nil w)).cells
    obtain ⟨d0, d1, y0, y1⟩ := d1
    go_wp2_with fail
    rw [hQ.out]
    rw [leap_ret]
    go_ret3
    refine ⟨rfl, none, 0, ?_⟩
    rw [if_neg hE]
    exact hP1
set_option maxHeartbeats 4000000 in
set_option maxRecDepth 100000 in
theorem tail2 (w we : World) (g : Nat) (R : NextV) (m : Nat) (a : Act) (W : World) (hJ : JN w we g R 2 m a W) : (tail15 2).wp Tryd.prog (leap (JN w we g R) m (bodyPost Tryd.prog Tryd.f15 (NxPost w we g R))) a W := by
  obtain ⟨hF, E, at_, argsv, A, c, b, f, h8, h5, h9, hP, hf, hR, rfl, hbl, hcase⟩ := hJ
  have h0 := hF.s0
  have h2 := hF.s2
  have h3 := hF.s3
  have h4 := hF.s4
  obtain ⟨v, ha, hv⟩ := hF.lit
  rw [← hv] at h0 h2 h3 h4 h8 h5 h9
  rw [h0, h2, h3, h4, h8, h5, h9] at ha
  subst ha
  clear hF hv h0 h2 h3 h4 h8 h5 h9
  obtain ⟨c0, c1, z0, z1⟩ := hP.cells
  generalize hQ : leap (JN w we g R) (3 * b.length + 1) (bodyPost Tryd.prog Tryd.f15 (NxPost w we g R)) = QQ
  replace hQ := hQ.symm
  replace hQ := Lib.hid hQ
  show Code.wp Tryd.prog (tail15 2) _ _ _
  unfold tail15 body15 Tryd.f15
  simp only [findLabel, Nat.reduceBEq, Bool.false_eq_true, ↓reduceIte]
  obtain ⟨f, rfl⟩ : ∃ q, f = q + 1 := ⟨f - 1, by omega⟩
  rcases hcase with ⟨hE, h1⟩ | ⟨rfl, args, n, A2, c2, rfl, rfl, hown, h1⟩
  · have hE1 : (E == 0) = false := by simp [hE]
    have hE2 : (E != 0) = true := by simp [hE]
    have hRe := Lib.hid (show R = .stop E b by rw [← hR]; simp only [nextF, h1])
    clear h1 hR
    go_wp2_with fail
    refine wp_goto ?_
    rw [hQ.out, then_goto, leap_goto]
    exact ⟨0, by omega, ⟨rfl, rfl, rfl, rfl, rfl, rfl⟩, E, A, c, b, 0, rfl, hP, hRe.out⟩
  · obtain ⟨hn1, hn2⟩ := one_len h1
    have hRe := Lib.hid (show R = if args = [] then nextF f (b.drop n) else .got args (b.drop n) by rw [← hR]; simp only [nextF, h1])
    obtain ⟨A', hcut, hr⟩ := cut_from A c b n hn2 hP.rd.1
    have hP1 := hP.set0 (hr w hP.rd)
    rw [List.length_drop] at hP1
    have hn3 : (n : Int) ≤ (b.length : Int) := by omega
    have hlen : (b.drop n).length = b.length - n := List.length_drop
    have hown1 : (W.setCell ⟨g, 0, none⟩ (.slice A' (b.length - n) (c - n))).ownsRow we.heap.size 9 1 (.slice A2 args.length c2) args.length (args.map Value.string) := ownsRow_setCell_below hown hP.lt _
    clear h1 hR hown hr
    replace hown1 := Lib.hid hown1
    replace hlen := Lib.hid hlen
    by_cases ha : args = []
    · subst ha
      replace hRe := Lib.hid (hRe.out.trans (if_pos rfl))
      go_wp2_with fail
      refine wp_goto ?_
      rw [hQ.out, then_goto, leap_goto]
      exact ⟨3 * (b.drop n).length + 2, by rw [hlen.out]; omega, ⟨rfl, rfl, rfl, rfl, rfl, rfl⟩, A', c - n, b.drop n, f, rfl, hP1, by rw [hlen.out]; omega, hRe.out.symm, rfl, by rw [hlen.out]; omega⟩
    · have hz : ¬ (args.length : Int) = 0 := by
        have := List.length_pos_iff.2 ha
        omega
      have hz2 : ((args.length : Int) == 0) = false := by simpa using hz
      replace ha := Lib.hid ha
      go_wp2_with fail
      rw [hQ.out, leap_ret]
      go_ret3
      rw [hRe.out, if_neg ha.out]
      exact ⟨A2, c2, rfl, hown1.out, A', c - n, hP1⟩
set_option maxHeartbeats 8000000 in
set_option maxRecDepth 100000 in
theorem tail1 (w0 : World) (hE0 : Env w0) (w we : World) (hB0 : Below w0.heap.size w0 w) (g : Nat) (hg0 : w0.heap.size ≤ g) (hbox : ∃ v k, w.heap[g]? = some (.cells #[v, .int .i64 k] 39 (0, 0)) ∧ ∀ z, v ≠ .int .u8 z)
    (R : NextV) (m : Nat) (a : Act) (W : World) (hJ : JN w we g R 1 m a W) : (tail15 1).wp Tryd.prog (leap (JN w we g R) m (bodyPost Tryd.prog Tryd.f15 (NxPost w we g R))) a W := by
  obtain ⟨hF, A, c, b, f, h8, hP, hf, hR, rfl, hbl⟩ := hJ
  have h0 := hF.s0
  have h2 := hF.s2
  have h3 := hF.s3
  have h4 := hF.s4
  obtain ⟨v, ha, hv⟩ := hF.lit
  rw [← hv] at h0 h2 h3 h4 h8
  rw [h0, h2, h3, h4, h8] at ha
  subst ha
  clear hF hv h0 h2 h3 h4 h8
  obtain ⟨c0, c1, z0, z1⟩ := hP.cells
  generalize hQ : leap (JN w we g R) (3 * b.length + 2) (bodyPost Tryd.prog Tryd.f15 (NxPost w we g R)) = QQ
  replace hQ := hQ.symm
  replace hQ := Lib.hid hQ
  show Code.wp Tryd.prog (tail15 1) _ _ _
  unfold tail15 body15 Tryd.f15
  simp only [findLabel, Nat.reduceBEq, Bool.false_eq_true, ↓reduceIte]
  obtain ⟨f, rfl⟩ : ∃ q, f = q + 1 := ⟨f - 1, by omega⟩
  obtain ⟨bv, bk, hbx, hbv⟩ := hbox
  have hrW : RdB W A c b := hP.rd.keeps hbx hbv (hP.old.trans hP.keeps)
  have hEW : Env W := hE0.below ((hP.old.trans hP.keeps).base hB0 hg0)
  by_cases hb0 : b = []
  · subst hb0
    have hRe := Lib.hid (show R = .stop 0 [] by rw [← hR]; simp [nextF, oneV])
    have hlen0 : ([] : List UInt8).length = 0 := rfl
    rw [hlen0] at c0
    clear hR hrW
    go_wp2_with fail
    refine wp_goto ?_
    rw [hQ.out, then_goto, leap_goto]
    exact ⟨0, by simp, ⟨rfl, rfl, rfl, rfl, rfl, rfl⟩, 0, A, c, [], 0, rfl, hP, hRe.out⟩
  · have hpos : 0 < b.length := List.length_pos_iff.2 hb0
    have hz : ¬ (b.length : Int) = 0 := by omega
    have hz2 : ((b.length : Int) == 0) = false := by simpa using hz
    have hL := line_calls A c b W hrW
    have hlk := lk_bd b
    unfold lineR at hL
    by_cases hk0 : lkV b < 0
    · rw [if_neg (by omega)] at hL
      have hone : oneV b = .stop (if 512 ≤ b.length then 33 else 0) := by unfold oneV; rw [if_neg hb0, if_pos hk0]
      generalize hE5 : (if 512 ≤ b.length then (33 : Int) else 0) = E5 at *
      have hE5' : E5 = 0 ∨ E5 = 33 := by rw [← hE5]; split <;> simp
      have hRe := Lib.hid (show R = .stop E5 b by rw [← hR]; simp only [nextF, hone])
      clear hE5 hone hR hrW hb0
      rcases hE5' with rfl | rfl
      all_goals
        go_wp2_with fail
        refine hL.mono ?_
        rintro e W2 ⟨rfl, rfl⟩
        go_wp2_with fail
        refine wp_goto ?_
        rw [hQ.out, then_goto, leap_goto]
        exact ⟨0, by omega, ⟨rfl, rfl, rfl, rfl, rfl, rfl⟩, _, A, c, b, 0, rfl, hP, hRe.out⟩
    · rw [if_pos (by omega)] at hL
      obtain ⟨k, hk⟩ : ∃ k : Nat, lkV b = k := ⟨(lkV b).toNat, by omega⟩
      have hk512 : k < 512 := lk_512 b k hk
      rw [hk] at hL hlk
      simp only [Int.toNat_natCast] at hL
      have hkl : k + 1 ≤ b.length := by omega
      obtain ⟨-, hrl⟩ := cut_to A c b (k + 1) hkl hrW.1
      have hline := hrl W hrW
      have hll : (b.take (k + 1)).length = k + 1 := by simp; omega
      obtain ⟨h1, h2, h3⟩ := hrW
      rcases h3 with ⟨-, rfl⟩ | ⟨g1, o1, rfl, hg1, hc1⟩
      · omega
      have hX := hc1 0 hpos
      rw [Nat.add_zero] at hX
      have hkp : (0 : Int) < (k : Int) + 1 := by omega
      by_cases h42 : b.getD 0 0 = 42
      · rw [h42] at hX
        have hX' : W.cell? ⟨g1, o1, none⟩ = some (.int .u8 42) := hX
        have hNum := number_calls (some ⟨g1, o1, none⟩) c (b.take (k + 1)) 32 (by rw [hll]; omega) (by rw [hll]; omega) W hline hEW
        rw [hll] at hNum
        have hone : oneV b = if numV (b.take (k + 1)) 32 < 0 then .stop 30 else match argsV (numV (b.take (k + 1)) 32).toNat b (k + 1) [] with
            | .error f => .stop f
            | .ok (args, n) => .read args n := by
          unfold oneV
          rw [if_neg hb0, if_neg hk0, if_neg (by rw [h42]; simp), hk]
          rfl
        have hle := numV_le (b.take (k + 1)) 32 (by decide)
        generalize numV (b.take (k + 1)) 32 = NN at *
        clear hc1 hX hrl h42
        by_cases hN : NN < 0
        · rw [if_pos hN] at hone
          have hRe := Lib.hid (show R = .stop 30 b by rw [← hR]; simp only [nextF, hone])
          clear hone hR hline hb0 hk
          go_wp2_with fail
          refine hL.mono ?_
          rintro e W2 ⟨rfl, rfl⟩
          go_wp2_with fail
          refine hNum.mono ?_
          rintro e W3 ⟨rfl, hb3⟩
          have hP3 := hP.below (hb3.mono hP.keeps.size)
          go_wp2_with fail
          refine wp_goto ?_
          rw [hQ.out, then_goto, leap_goto]
          exact ⟨0, by omega, ⟨rfl, rfl, rfl, rfl, rfl, rfl⟩, 30, _, c, b, 0, rfl, hP3, hRe.out⟩
        · rw [if_neg hN] at hone
          obtain ⟨n0, rfl⟩ : ∃ n : Nat, NN = n := ⟨NN.toNat, by omega⟩
          simp only [Int.toNat_natCast] at hone
          have hn0 : ¬ (n0 : Int) < 0 := by omega
          generalize hAR : argsV n0 b (k + 1) [] = AR at *
          replace hone := Lib.hid hone
          replace hR := Lib.hid hR
          replace hAR := Lib.hid hAR
          have hbox0 := Lib.hid (And.intro hbx hbv)
          clear hline hb0 hk hN hbx hbv
          go_wp2_with fail
          refine hL.mono ?_
          rintro e W2 ⟨rfl, rfl⟩
          go_wp2_with fail
          refine hNum.mono ?_
          rintro e W3 ⟨rfl, hb3⟩
          have hP3 := hP.below (hb3.mono hP.keeps.size)
          clear hL hNum hX' c0 c1 z0 z1
          go_wp2_with fail
          go_loopw [5, 8, 9, 59] (fun argsv s8 s9 s59 wr => ∃ (i at_ : Nat) (acc : List ByteArray), i ≤ n0 ∧ s8 = .int .i64 0 ∧ s59 = .int .i64 i ∧ s9 = .int .i64 at_ ∧ at_ ≤ b.length ∧ argsV (n0 - i) b at_ acc = AR ∧ acc.length ≤ i ∧ wr.ownsRow we.heap.size 9 1 argsv acc.length (acc.map Value.string) ∧ Pr w we g (some ⟨g1, o1, none⟩) c b 0 wr) (fun _ _ _ s59 _ => n0 - (intOf s59).toNat)
          case atStart => exact ⟨0, k + 1, [], by omega, rfl, rfl, by simp, by omega, by simpa using hAR.out, by simp, own_nil _ _ _ _, hP3⟩
          case round =>
            obtain ⟨i, at_, acc, hi, rfl, rfl, rfl, hat, hrec, hacc, hown, hPr⟩ := hrel
            clear hP3 hb3
            by_cases hin : i < n0
            · have hgo : decide ((i : Int) < (n0 : Int)) = true := decide_eq_true (by omega)
              have hsub : n0 - i = (n0 - (i + 1)) + 1 := by omega
              rw [hsub] at hrec
              obtain ⟨A', hcut, hr⟩ := cut_from (some ⟨g1, o1, none⟩) c b at_ hat hPr.rd.1
              have hrdW := hr w hPr.rd
              have hrdr : RdB wr A' (c - at_) (b.drop at_) := hrdW.keeps hbox0.out.1 hbox0.out.2 (hPr.old.trans hPr.keeps)
              have hEr : Env wr := hE0.below ((hPr.old.trans hPr.keeps).base hB0 hg0)
              have hlen : (b.drop at_).length = b.length - at_ := List.length_drop
              have hB := bulk_calls A' (c - at_) (b.drop at_) (by rw [hlen]; omega) wr hrdr hEr
              have hbl2 := bulk_len (b.drop at_)
              rw [hlen] at hB hbl2
              unfold bulkR at hB
              simp only [argsV] at hrec
              generalize bulkV (b.drop at_) = BV at *
              obtain ⟨S, nn, ff⟩ := BV
              simp only at hB hrec hbl2
              obtain ⟨c0, c1, z0, z1⟩ := hPr.cells
              have hat3 : (at_ : Int) ≤ (b.length : Int) := by omega
              obtain ⟨A5, c5, rfl⟩ := own_slice hown
              replace hown := Lib.hid hown
              replace hlen := Lib.hid hlen
              clear hr hrdW hrdr
              by_cases hbad : ff ≠ 0 ∨ nn = 0
              · rw [if_pos hbad] at hrec
                have hone2 : oneV b = .stop ff := by rw [hone.out, ← hrec]
                have hRe := Lib.hid (show R = .stop ff b by rw [← hR.out]; simp only [nextF, hone2])
                clear hrec hone2
                have hc : (ff ≠ 0 ∧ (ff == 0) = false) ∨ (ff = 0 ∧ nn = 0) := by
                  by_cases h : ff = 0
                  · exact Or.inr ⟨h, hbad.resolve_left (fun h2 => h2 h)⟩
                  · exact Or.inl ⟨h, by simp [h]⟩
                clear hbad
                rcases hc with ⟨hff, hff2⟩ | ⟨rfl, rfl⟩
                all_goals
                  go_wp2_with fail
                  refine hB.mono ?_
                  rintro e W4 ⟨rfl, hb4⟩
                  have hP4 := hPr.below (hb4.mono hPr.keeps.size)
                  go_wp2_with fail
                  refine wp_goto ?_
                  show QQ (.goto 0) _ _
                  rw [hQ.out, leap_goto]
                  exact ⟨0, by omega, ⟨rfl, rfl, rfl, rfl, rfl, rfl⟩, _, _, c, b, 0, rfl, hP4, hRe.out⟩
              · rw [if_neg hbad] at hrec
                obtain ⟨rfl, hnn⟩ : ff = 0 ∧ nn ≠ 0 := by
                  constructor
                  · rcases Classical.em (ff = 0) with h | h
                    · exact h
                    · exact absurd (Or.inl h) hbad
                  · exact fun h => hbad (Or.inr h)
                have hnz : ¬ (nn : Int) = 0 := by omega
                have hnz2 : ((nn : Int) == 0) = false := by simpa using hnz
                clear hbad
                have hsz : we.heap.size ≤ wr.heap.size := hPr.keeps.size
                have hnx : acc.map Value.string ++ [Value.string ⟨S.toArray⟩] = (acc ++ [(⟨S.toArray⟩ : ByteArray)]).map Value.string := by simp
                obtain ⟨i0, hi0, hz0, hz1s, hz2s⟩ := info_str
                have hsum : IntKind.i64.wrap ((at_ : Int) + (nn : Int)) = ((at_ + nn : Nat) : Int) := by rw [IntKind.wrap_i64]; omega
                replace hrec := Lib.hid hrec
                replace hnx := Lib.hid hnx
                generalize (⟨S.toArray⟩ : ByteArray) = SB at *
                go_wp2_with fail
                refine hB.mono ?_
                rintro e W4 ⟨rfl, hb4⟩
                have hP4 := hPr.below (hb4.mono hPr.keeps.size)
                have hown4 := pw_own_below hown.out hb4
                have hsz4 : we.heap.size ≤ W4.heap.size := hP4.keeps.size
                replace hown4 := Lib.hid hown4
                clear hb4 c0 c1 z0 z1 hB
                go_wp2_with (at_builtin; refine wpList_append_own _ rfl _ _ 33 rfl we.heap.size 9 i0 (.string ⟨#[]⟩) 1 16 Tryd.underlying33 hi0 hz0 hz1s hz2s rfl (by decide) _ _ _ rfl (hown4.out.alloc _) ⟨W4.heap.size, 0, none⟩ 1 1 [.string SB] rfl rfl (cell_one_new _ _ _) (fun u hu => by rw [List.mem_singleton.1 hu]; rfl) (by unfold maxLen; omega) (by omega) (by simp; omega) ?_; intro v' W5 hown5 hgrow hvv; clear hvv; replace hown5 := Lib.hid hown5; replace hgrow := Lib.hid hgrow)
                have hP5 := (hP4.below ((below_alloc (Below.refl W4.heap.size W4) (.cells #[.string SB] 9)).mono hsz4)).below ((Below.refl _ _).grown hgrow.out (by simp; omega) fun kk hkk => (hown4.out.lt kk hkk).1)
                have hown5 := hown5.out
                rw [hnx.out] at hown5
                refine ⟨⟨i + 1, at_ + nn, acc ++ [SB], by omega, rfl, by go_num, by simp, by omega, hrec.out, by simp; omega, ?_, hP5⟩, by simp [intOf]; omega⟩
                simpa using hown5
            · obtain rfl : i = n0 := by omega
              have hgo : decide ((i : Int) < (i : Int)) = false := decide_eq_false (by omega)
              obtain ⟨A5, c5, rfl⟩ := own_slice hown
              replace hown := Lib.hid hown
              replace hrec := Lib.hid hrec
              have hone2 : oneV b = .read acc at_ := by
                rw [hone.out, ← hrec.out, Nat.sub_self]
                rfl
              have hJ2 : ∀ aa : Act, Fr g aa → aa.tmps.getD 8 undef = .int .i64 0 → aa.tmps.getD 5 undef = .slice A5 acc.length c5 → aa.tmps.getD 9 undef = .int .i64 (at_ : Int) → JN w we g R 2 (3 * b.length + 1) aa wr := fun aa hF h8 h5 h9 =>
                ⟨hF, 0, _, _, _, c, b, f + 1, h8, h5, h9, hPr, hf, hR.out, rfl, hbl, Or.inr ⟨rfl, acc, at_, A5, c5, rfl, rfl, hown.out, hone2⟩⟩
              replace hJ2 := Lib.hid hJ2
              clear hone2
              go_wp2_with fail
              refine wp_label ?_
              show Exit.then _ _ _ _ _
              simp only [Exit.then]
              apply_assumption
              rw [hQ.out]
              refine wp_mono (Q := leap (JN w we g R) (3 * b.length + 1) _) ?_ (leap_mono (by omega))
              exact tail2 w we g R _ _ wr (hJ2.out _ ⟨rfl, rfl, rfl, rfl, rfl, rfl⟩ rfl rfl rfl)
      · have hne := neq_byte (k := 42) (by decide) h42
        have hWd := words_calls (some ⟨g1, o1, none⟩) c (b.take (k + 1)) (by rw [hll]; omega) W hline
        rw [hll] at hWd
        have hone : oneV b = if 32 < (wordsV (b.take (k + 1))).length then .stop 30 else .read (wordsV (b.take (k + 1))) (k + 1) := by
          unfold oneV
          rw [if_neg hb0, if_neg hk0, if_pos h42, hk]
          rfl
        generalize wordsV (b.take (k + 1)) = xs at *
        generalize (b.getD 0 0).toNat = X at *
        have hnee : ((X : Int) == 42) = false := hne
        have hnee2 : ((X : Int) != 42) = true := by rw [bne, hnee]; rfl
        replace hone := Lib.hid hone
        replace hR := Lib.hid hR
        clear hc1 hrl h42 hne hline hb0 hk
        go_wp2_with fail
        refine hL.mono ?_
        rintro e W2 ⟨rfl, rfl⟩
        go_wp2_with fail
        refine hWd.mono ?_
        rintro e W3 ⟨hpost, hb3⟩
        have hP3 := hP.below (hb3.mono hP.keeps.size)
        by_cases h32 : 32 < xs.length
        · rw [if_pos h32] at hpost
          subst hpost
          have hone2 := Lib.hid (hone.out.trans (if_pos h32))
          go_wp2_with fail
          refine wp_goto ?_
          rw [hQ.out, then_goto, leap_goto]
          exact ⟨3 * b.length + 1, by omega, ⟨rfl, rfl, rfl, rfl, rfl, rfl⟩, 30, _, _, _, c, b, f + 1, rfl, rfl, rfl, hP3, hf, hR.out, rfl, hbl, Or.inl ⟨by decide, hone2.out⟩⟩
        · rw [if_neg h32] at hpost
          obtain ⟨A3, rfl, hown⟩ := hpost
          have hone2 := Lib.hid (hone.out.trans (if_neg h32))
          have hown3 := Lib.hid (own_weaken hown hP.keeps.size)
          clear hown
          go_wp2_with fail
          refine wp_goto ?_
          rw [hQ.out, then_goto, leap_goto]
          exact ⟨3 * b.length + 1, by omega, ⟨rfl, rfl, rfl, rfl, rfl, rfl⟩, 0, _, _, _, c, b, f + 1, rfl, rfl, rfl, hP3, hf, hR.out, rfl, hbl, Or.inr ⟨rfl, xs, k + 1, _, _, by omega, rfl, hown3.out, hone2.out⟩⟩
set_option maxHeartbeats 8000000 in
set_option maxRecDepth 100000 in
theorem Next_calls (w0 : World) (hE0 : Env w0) (w we : World) (hB0 : Below w0.heap.size w0 w) (g : Nat) (hg0 : w0.heap.size ≤ g) (hbox : ∃ v k, w.heap[g]? = some (.cells #[v, .int .i64 k] 39 (0, 0)) ∧ ∀ z, v ≠ .int .u8 z)
    (A : Option Addr) (c : Nat) (b : List UInt8) (k : Int) (hp : Pr w we g A c b k we) (hbl : b.length ≤ 140737488351232) :
    Calls Tryd.prog 15 #[.pointer (some ⟨g, 0, none⟩)] we (NxPost w we g (nextV b k)) := by
  obtain ⟨c0, c1, z0, z1⟩ := hp.cells
  have H : ∀ l m a W, JN w we g (nextV b k) l m a W → (tail15 l).wp Tryd.prog (leap (JN w we g (nextV b k)) m (bodyPost Tryd.prog Tryd.f15 (NxPost w we g (nextV b k)))) a W ∧ (l = 0 ∨ l = 1 ∨ l = 2) := by
    intro l m a W hJ
    match l, hJ with
    | 0, hJ => exact ⟨tail0 w we g _ m a W hJ, by simp⟩
    | 1, hJ => exact ⟨tail1 w0 hE0 w we hB0 g hg0 hbox _ m a W hJ, by simp⟩
    | 2, hJ => exact ⟨tail2 w we g _ m a W hJ, by simp⟩
    | l + 3, hJ => exact hJ.2.elim
  by_cases hk : k = 0
  · subst hk
    have hR : nextV b 0 = nextF (b.length + 1) b := by unfold nextV; rw [if_pos rfl]
    have hJ1 : ∀ aa : Act, Fr g aa → aa.tmps.getD 8 undef = .int .i64 0 → JN w we g (nextV b 0) 1 (3 * b.length + 2) aa we := fun aa hF h8 => ⟨hF, A, c, b, b.length + 1, h8, hp, by omega, hR.symm, rfl, hbl⟩
    generalize nextV b 0 = R at *
    replace hR := Lib.hid hR
    replace hJ1 := Lib.hid hJ1
    replace H := Lib.hid H
    go_enter Tryd.func15, Tryd.ntmps15
    go_wp2_with fail
    refine wp_leaps (JN w we g R) (3 * b.length + 3) ?first (fun l m a W hJ => ⟨Code.seq .skip (tail15 l), ?pass, wp_seq (wp_skip ?done)⟩)
    case done => exact (H.out l m a W hJ).1
    case pass =>
      rcases (H.out l m a W hJ).2 with rfl | rfl | rfl <;> kernel_rfl
    case first =>
      go_wp2_with fail
      refine wp_label ?_
      simp only [Exit.then]
      apply_assumption
      refine wp_mono (Q := leap (JN w we g R) (3 * b.length + 2) _) ?_ (leap_mono (by omega))
      exact (H.out 1 _ _ we (hJ1.out _ ⟨rfl, rfl, rfl, rfl, rfl, rfl⟩ rfl)).1
  · have hR : nextV b k = .stop k b := by unfold nextV; rw [if_neg hk]
    have hk1 : (k == 0) = false := by simp [hk]
    have hk2 : (k != 0) = true := by simp [hk]
    generalize nextV b k = R at *
    replace hR := Lib.hid hR
    replace H := Lib.hid H
    go_enter Tryd.func15, Tryd.ntmps15
    go_wp2_with fail
    refine wp_leaps (JN w we g R) 1 ?first (fun l m a W hJ => ⟨Code.seq .skip (tail15 l), ?pass, wp_seq (wp_skip ?done)⟩)
    case done => exact (H.out l m a W hJ).1
    case pass =>
      rcases (H.out l m a W hJ).2 with rfl | rfl | rfl <;> kernel_rfl
    case first =>
      go_wp2_with fail
      refine wp_label ?_
      simp only [Exit.then]
      apply_assumption
      generalize hQ : leap (JN w we g R) 1 _ = QQ
      replace hQ := hQ.symm
      replace hQ := Lib.hid hQ
      go_wp2_with fail
      refine wp_goto ?_
      show QQ (.goto 0) _ _
      rw [hQ.out, leap_goto]
      exact ⟨0, by omega, ⟨rfl, rfl, rfl, rfl, rfl, rfl⟩, _, A, c, b, k, rfl, hp, hR.out⟩
end Go.Proofs.YtmdekodoicnmbaaDoor
