/- The document's view takes in what another one tells: where it is taken in. The document's bus: packets go out. The document's bus: a node is told. The document's bus takes bytes. Honest nodes and what they say as bytes, plain. Some buses beside one another; a bus wins and gives slots. Calls on one of some buses. A ping that is answered: it answers true. A script's calls; few. Conditions: the listed variables as laid. -/
import Derived.Test.YtgdcnenlelckhaaGreatDoorMgF
import Derived.Test.YtgdcnenlelckhaaGreatDoorMgE
set_option linter.unusedVariables false
set_option linter.unusedSimpArgs false
namespace Go.Proofs.YtgdcnenlelckhaaGreatDoor
open Go.RowKit Go.Proofs.YtgdcnenlelckhaaGreatDoorW.PrintWords
open SlS SlT
theorem TX.row {w : World} {g c : Nat} {ck : Array Value} {x x' : XS} {W : World} (h : TX w g c ck x W) (h1 : x.self = x'.self) (h2 : x.cur = x'.cur) (h3 : ∀ n, n < 64 → x.ep n = x'.ep n) (h4 : ∀ n i, n < 64 → i < 256 → x.cl n i = x'.cl n i) : TX w g c ck x' W := by
  have h5 := h.xv
  rw [h1, h2] at h5
  exact ⟨h5.keep (S2 := fun _ => False) (but_below (Below.refl _ _) _) (fun _ _ h => h.elim) (fun h => h) (fun h => h) (h5.xw.row.congr h3 h4), h.pb⟩
theorem TX.top {w : World} {g c : Nat} {ck : Array Value} {x : XS} {W : World} (h : TX w g c ck x W) (e : Nat) : TX w g c ck (maxX x e) (W.setCell ⟨w.heap.size, 2, none⟩ (.int .u64 ((max x.cur e : Nat) : Int))) := by
  have hb : But (fun k => k = w.heap.size) W (W.setCell ⟨w.heap.size, 2, none⟩ (.int .u64 ((max x.cur e : Nat) : Int))) := (But.refl (fun k => k = w.heap.size) W).set (p := ⟨w.heap.size, 2, none⟩) (fun _ => rfl) _
  have h5 := h.xv.setCu (Nat.le_refl _) (max x.cur e)
  exact ⟨h5.keep (S2 := fun _ => False) (but_below (Below.refl _ _) _) (fun _ _ h => h.elim) (fun h => h) (fun h => h) (h5.xw.row.congr (fun _ _ => rfl) (fun _ _ _ _ => rfl)), (hb.block _ (blk_lt h.pb) (by omega)).trans h.pb⟩
theorem TX.cells {w : World} {g c : Nat} {ck : Array Value} {x : XS} {W : World} (h : TX w g c ck x W) : W.cell? ⟨w.heap.size, 0, none⟩ = some (.int .i64 (x.self : Int)) ∧ W.cell? ⟨w.heap.size, 1, none⟩ = some (.slice (some ⟨g, 0, none⟩) 64 c) ∧ W.cell? ⟨w.heap.size, 2, none⟩ = some (.int .u64 (x.cur : Int)) ∧ (∀ i, W.frozen? ⟨w.heap.size, i, none⟩ = false) := ⟨h.xv.xw.x0, h.xv.xw.x1, h.xv.xw.x2, fun i => openBox h.xv.xw.box⟩
theorem box_after {w : World} {g c : Nat} {ck : Array Value} {x : XS} {W W' : World} {g' : Nat} (h : TX w g c ck x W) (hb : But (fun k => k = g') W W') (hg : w.heap.size + 1 + 1 < g') : W'.cell? ⟨w.heap.size, 0, none⟩ = some (.int .i64 (x.self : Int)) ∧ W'.cell? ⟨w.heap.size, 1, none⟩ = some (.slice (some ⟨g, 0, none⟩) 64 c) ∧ W'.cell? ⟨w.heap.size, 2, none⟩ = some (.int .u64 (x.cur : Int)) ∧ W'.frozen? ⟨w.heap.size, 0, none⟩ = false ∧ W'.frozen? ⟨w.heap.size, 1, none⟩ = false ∧ W'.frozen? ⟨w.heap.size, 2, none⟩ = false := by
  have hbox := (hb.block w.heap.size (blk_lt h.xv.xw.box) (by omega)).trans h.xv.xw.box
  exact ⟨by rw [cellBox hbox]; rfl, by rw [cellBox hbox]; rfl, by rw [cellBox hbox]; rfl, openBox hbox, openBox hbox, openBox hbox⟩
theorem yields_mid {P : Program} {ops : Array Oper} {S : World → Prop} {o : Oper} {a : Act} (hw : Region.wanted o (yielded ops a.tmps) = true) (ty : TypeId) (x : Operand) (ho : o.op = .load ty x) (b off : Nat) (hx : a.eval x = .pointer (some ⟨b, off, none⟩)) (A : Array Value) (d : TypeDesc) (hS : ∀ w, S w → w.rangeAt b off A.toList)
    (hu : P.underlying ty = some d) (hd : d.isRow = true) (hi : (P.info? ty).map (·.size) = some A.toList.length) : YieldsIf P ops S o (.agg A) a := by
  have := yieldsIf_load_mid (P := P) hw ty x ho b off hx A.toList d hS hu hd hi
  rwa [Array.toArray_toList] at this
theorem takenX_self (x : XS) (q : Pkt) : (takenX x q).self = x.self := by unfold takenX; split <;> rfl
theorem takenX_cur (x : XS) (q : Pkt) : (takenX x q).cur = max x.cur q.cur := by unfold takenX; split <;> rfl
theorem liftX_self (x : XS) (q : Pkt) : (liftX x q).self = x.self := by unfold liftX; split <;> rfl
set_option maxHeartbeats 8000000 in
set_option maxRecDepth 100000 in
theorem xTake_update {g c : Nat} {x : XS} (w : World) (h : XR w g x) (ck : Array Value) (q : Pkt) (hq : PkIs ck q) (h1 : rightP q = true) (h2 : q.cur ≤ 4611686018427387904) (h3 : q.fr ≠ (x.self : Int)) (h5 : q.kind = 3) (h6 : q.of_ ≠ (x.self : Int)) (hs64 : x.self < 64) (hcur : x.cur + 1 < 18446744073709551616) : Calls Tryz.prog 61 #[.agg #[.int .i64 (x.self : Int), .slice (some ⟨g, 0, none⟩) 64 c, .int .u64 (x.cur : Int)], .agg ck] w (XTPost w g x q) := by
  have hnid : ¬ idleP x.self q (rightP q) := by
    rintro (h | h | h | h)
    · rw [h1] at h; cases h
    · omega
    · exact h3 h
    · exact h6 h.2
  go_enter Tryz.func61, Tryz.ntmps61
  refine wp_cut (fun a W => a = ⟨#[.agg #[.int .i64 (x.self : Int), .slice (some ⟨g, 0, none⟩) 64 c, .int .u64 (x.cur : Int)], .agg ck, .pointer (some ⟨w.heap.size, 0, none⟩), .pointer (some ⟨w.heap.size + 1, 0, none⟩), .pointer (some ⟨w.heap.size + 1 + 1, 0, none⟩), .slice none 0 0, undef, undef, undef, undef, undef, undef, undef, undef, undef, undef, undef, undef, undef, undef, undef, undef, undef, undef, undef, undef, undef, undef, undef, undef, undef, undef, undef, undef, undef, undef, undef, undef, undef, undef, undef, undef, undef, undef, undef, undef, undef, undef, undef, undef, undef, undef, undef, undef, undef, undef, undef, undef, undef, undef, undef, undef, undef, undef, undef, undef, undef, undef, undef, undef, undef, undef, undef, undef, undef, undef, undef, undef, undef, undef, undef, undef, undef, undef, undef, undef, undef, undef, undef, undef, undef, undef, undef, undef, undef, undef, undef, undef, undef, undef, undef, undef, undef, undef, undef, undef, undef, undef, undef, undef, undef, undef, undef, undef, undef, undef, undef, undef, undef, undef, undef, undef, undef, undef, undef, undef], []⟩ ∧ TX w g c ck x W) ?_ ?_
  · have hX := Lib.hid (tX_start (c := c) (ck := ck) h)
    clear h
    go_wp2_with fail
    exact ⟨trivial, hX.out⟩
  rintro _ W ⟨rfl, hX⟩
  have k0 : W.cell? ⟨w.heap.size + 1, 0, none⟩ = some (.int .i64 q.kind) := by rw [cellBox hX.pb]; exact hq.at.1
  have hpb := hX.pb
  have hR := fun W => xRight_calls hq W
  have hi : (Tryz.prog.info? 67).map (·.size) = some ck.size := by rw [hq.size]; exact info26
  replace hX := Lib.hid hX
  clear h
  have hat := hq.at
  have h1' := h1
  unfold rightP rightV at h1'
  simp only [Bool.and_eq_true, decide_eq_true_eq] at h1'
  rw [if_pos h5] at h1'
  simp only [Bool.and_eq_true, decide_eq_true_eq] at h1'
  obtain ⟨n, hof⟩ : ∃ n : Nat, q.of_ = n := ⟨q.of_.toNat, by omega⟩
  have hno : nodeOf q = n := by unfold nodeOf; rw [if_pos h5, hof]; rfl
  have hn : n < 64 := by omega
  rw [h1] at hR
  have h2' : ¬ (4611686018427387904 : Int) < (q.cur : Int) := by omega
  have hd0 : decide ((4611686018427387904 : Int) < (q.cur : Int)) = false := decide_eq_false h2'
  have h4 : (q.fr == (x.self : Int)) = false := beq_eq_false_iff_ne.2 h3
  have hk3 : (q.kind == (3 : Int)) = true := beq_iff_eq.2 h5
  have h7 : (q.of_ == (x.self : Int)) = false := beq_eq_false_iff_ne.2 h6
  replace h6 := Lib.hid h6
  replace hof := Lib.hid hof
  replace h3 := Lib.hid h3
  refine wp_cutX w.heap.size (.bool true) undef undef (fun l W => l = undef ∧ TX w g c ck x W) ?_ ?_
  · go_wp2_with fail
    exact ⟨_, TxA_mk, rfl, hX.out⟩
  clear k0 hpb hX
  intro u0 u1 u10 u11 u12 u13 u14 u15 u16 u17 u18 u19 u20 u21 u22 u23 u24 u25 u26 u27 u28 u29 u30 u31 u32 u33 u34 u35 u36 u37 u38 u39 u40 u41 u42 u43 u44 u45 u46 u47 u48 u49 u50 u51 u52 u53 u54 u55 u56 u57 u58 u59 u60 u61 u62 u63 u64 u65 u66 u67 u68 u69 u70 u71 u72 u73 u74 u75 u76 u77 u78 u79 u80 u81 u82 u83 u84 u85 u86 u87 u88 u89 u90 u91 u92 u93 u94 u95 u96 u97 u98 u99 u100 u101 u102 u103 u104 u105 u106 u107 u108 u109 u110 u111 u112 u113 u114 u115 u116 u117 u118 u119 u120 u121 u122 u123 u124 u125 l W1 ⟨hl, hX⟩
  subst hl
  refine wp_cutX w.heap.size (.bool true) undef undef (fun l W => l = undef ∧ TX w g c ck x W) ?_ ?_
  · have hpb := hX.pb
    replace hX := Lib.hid hX
    go_wp2_with (refine wpList_load_row rfl 67 _ rfl (w.heap.size + 1) rfl 67 ck (0, 0) _ hpb Tryz.underlying67 rfl hi ?_)
    refine (hR _).mono ?_
    rintro r W2 ⟨rfl, hb⟩
    have hX2 := hX.out.below hb
    have c1 : W2.cell? ⟨w.heap.size + 1, 1, none⟩ = some (.int .i64 q.fr) := by rw [cellBox hX2.pb]; exact hat.2.1
    have c2 : W2.cell? ⟨w.heap.size + 1, 2, none⟩ = some (.int .i64 q.of_) := by rw [cellBox hX2.pb]; exact hat.2.2.1
    have c4 : W2.cell? ⟨w.heap.size + 1, 4, none⟩ = some (.int .u64 (q.cur : Int)) := by rw [cellBox hX2.pb]; exact hat.2.2.2.2.1
    have x0 := hX2.xv.xw.x0
    have hX2 := Lib.hid hX2
    clear hX hb hpb
    go_wp2_with fail
    exact ⟨_, TxA_mk, rfl, hX2.out⟩
  clear hX W1
  intro u0 u1 u10 u11 u12 u13 u14 u15 u16 u17 u18 u19 u20 u21 u22 u23 u24 u25 u26 u27 u28 u29 u30 u31 u32 u33 u34 u35 u36 u37 u38 u39 u40 u41 u42 u43 u44 u45 u46 u47 u48 u49 u50 u51 u52 u53 u54 u55 u56 u57 u58 u59 u60 u61 u62 u63 u64 u65 u66 u67 u68 u69 u70 u71 u72 u73 u74 u75 u76 u77 u78 u79 u80 u81 u82 u83 u84 u85 u86 u87 u88 u89 u90 u91 u92 u93 u94 u95 u96 u97 u98 u99 u100 u101 u102 u103 u104 u105 u106 u107 u108 u109 u110 u111 u112 u113 u114 u115 u116 u117 u118 u119 u120 u121 u122 u123 u124 u125 l W1 ⟨hl, hX⟩
  subst hl
  refine wp_cutX w.heap.size (.bool true) undef undef (fun l W => l = undef ∧ ∃ g' c', w.heap.size + 1 + 1 < g' ∧ TX w g' c' ck x W) ?_ ?_
  · obtain ⟨y0, y1, y2, y3⟩ := hX.cells
    have hC := Lib.hid (xcopied_calls (c := c) (sf := x.self) (cu := x.cur) _ hX.xv.xw.row)
    have hsz := blk_lt hX.xv.rvb
    replace hX := Lib.hid hX
    replace y3 := Lib.hid y3
    go_wp2_with fail
    refine hC.out.mono ?_
    rintro r W2 ⟨g', c', rfl, hg', hR2, hb2⟩
    have hg2 : w.heap.size + 1 + 1 < g' := by omega
    have hbb := but_below hb2 (fun k => k = g')
    obtain ⟨z0, z1, z2, z3, z4, z5⟩ := box_after hX.out hbb hg2
    have hX3 := Lib.hid (hX.out.put (c' := c') hR2 hbb hg2 rfl undef)
    clear hC hX hR2 hb2 hbb
    go_wp2_with fail
    exact ⟨_, TxA_mk, rfl, g', c', hg2, hX3.out⟩
  clear hX W1
  intro u0 u1 u10 u11 u12 u13 u14 u15 u16 u17 u18 u19 u20 u21 u22 u23 u24 u25 u26 u27 u28 u29 u30 u31 u32 u33 u34 u35 u36 u37 u38 u39 u40 u41 u42 u43 u44 u45 u46 u47 u48 u49 u50 u51 u52 u53 u54 u55 u56 u57 u58 u59 u60 u61 u62 u63 u64 u65 u66 u67 u68 u69 u70 u71 u72 u73 u74 u75 u76 u77 u78 u79 u80 u81 u82 u83 u84 u85 u86 u87 u88 u89 u90 u91 u92 u93 u94 u95 u96 u97 u98 u99 u100 u101 u102 u103 u104 u105 u106 u107 u108 u109 u110 u111 u112 u113 u114 u115 u116 u117 u118 u119 u120 u121 u122 u123 u124 u125 l W1 ⟨hl, g', c', hg2, hX⟩
  subst hl
  refine wp_cutX w.heap.size (.bool true) (.int .i64 q.fr) undef (fun l W => l = undef ∧ TX w g' c' ck x W) ?_ ?_
  · have c1 : W1.cell? ⟨w.heap.size + 1, 1, none⟩ = some (.int .i64 q.fr) := by rw [cellBox hX.pb]; exact hat.2.1
    replace hX := Lib.hid hX
    go_wp2_with fail
    exact ⟨_, TxA_mk, rfl, hX.out⟩
  clear hX W1
  intro u0 u1 u10 u11 u12 u13 u14 u15 u16 u17 u18 u19 u20 u21 u22 u23 u24 u25 u26 u27 u28 u29 u30 u31 u32 u33 u34 u35 u36 u37 u38 u39 u40 u41 u42 u43 u44 u45 u46 u47 u48 u49 u50 u51 u52 u53 u54 u55 u56 u57 u58 u59 u60 u61 u62 u63 u64 u65 u66 u67 u68 u69 u70 u71 u72 u73 u74 u75 u76 u77 u78 u79 u80 u81 u82 u83 u84 u85 u86 u87 u88 u89 u90 u91 u92 u93 u94 u95 u96 u97 u98 u99 u100 u101 u102 u103 u104 u105 u106 u107 u108 u109 u110 u111 u112 u113 u114 u115 u116 u117 u118 u119 u120 u121 u122 u123 u124 u125 l W1 ⟨hl, hX⟩
  subst hl
  refine wp_cutX w.heap.size (.bool true) (.int .i64 (n : Int)) undef (fun l W => l = undef ∧ TX w g' c' ck x W) ?_ ?_
  · have c2 : W1.cell? ⟨w.heap.size + 1, 2, none⟩ = some (.int .i64 q.of_) := by rw [cellBox hX.pb]; exact hat.2.2.1
    rw [hof.out] at c2
    replace hX := Lib.hid hX
    go_wp2_with fail
    exact ⟨_, TxA_mk, rfl, hX.out⟩
  clear hX W1
  intro u0 u1 u10 u11 u12 u13 u14 u15 u16 u17 u18 u19 u20 u21 u22 u23 u24 u25 u26 u27 u28 u29 u30 u31 u32 u33 u34 u35 u36 u37 u38 u39 u40 u41 u42 u43 u44 u45 u46 u47 u48 u49 u50 u51 u52 u53 u54 u55 u56 u57 u58 u59 u60 u61 u62 u63 u64 u65 u66 u67 u68 u69 u70 u71 u72 u73 u74 u75 u76 u77 u78 u79 u80 u81 u82 u83 u84 u85 u86 u87 u88 u89 u90 u91 u92 u93 u94 u95 u96 u97 u98 u99 u100 u101 u102 u103 u104 u105 u106 u107 u108 u109 u110 u111 u112 u113 u114 u115 u116 u117 u118 u119 u120 u121 u122 u123 u124 u125 l W1 ⟨hl, hX⟩
  subst hl
  refine wp_cutX w.heap.size (.bool true) (.int .i64 (n : Int)) undef (fun l W => l = undef ∧ TX w g' c' ck (maxX x q.cur) W) ?_ ?_
  · have c4 : W1.cell? ⟨w.heap.size + 1, 4, none⟩ = some (.int .u64 (q.cur : Int)) := by rw [cellBox hX.pb]; exact hat.2.2.2.2.1
    obtain ⟨y0, y1, y2, y3⟩ := hX.cells
    have y4 := y3 2
    have hX2 := hX.top q.cur
    rw [show ((max x.cur q.cur : Nat) : Int) = max (x.cur : Int) (q.cur : Int) by omega] at hX2
    replace hX2 := Lib.hid hX2
    replace y3 := Lib.hid y3
    clear hX
    go_wp2_with fail
    exact ⟨_, TxA_mk, rfl, hX2.out⟩
  clear hX W1
  intro u0 u1 u10 u11 u12 u13 u14 u15 u16 u17 u18 u19 u20 u21 u22 u23 u24 u25 u26 u27 u28 u29 u30 u31 u32 u33 u34 u35 u36 u37 u38 u39 u40 u41 u42 u43 u44 u45 u46 u47 u48 u49 u50 u51 u52 u53 u54 u55 u56 u57 u58 u59 u60 u61 u62 u63 u64 u65 u66 u67 u68 u69 u70 u71 u72 u73 u74 u75 u76 u77 u78 u79 u80 u81 u82 u83 u84 u85 u86 u87 u88 u89 u90 u91 u92 u93 u94 u95 u96 u97 u98 u99 u100 u101 u102 u103 u104 u105 u106 u107 u108 u109 u110 u111 u112 u113 u114 u115 u116 u117 u118 u119 u120 u121 u122 u123 u124 u125 l W1 ⟨hl, hX⟩
  subst hl
  have htk : takenX x q = if (maxX x q.cur).ep n ≤ q.ep then claimX (maxX x q.cur) n q.ep q.cl else maxX x q.cur := by
    unfold takenX
    rw [hno]
  refine wp_cutX w.heap.size (.bool true) (.int .i64 (n : Int)) undef (fun l W => l = undef ∧ TX w g' c' ck (takenX x q) W) ?_ ?_
  · have c3 : W1.cell? ⟨w.heap.size + 1, 3, none⟩ = some (.int .u64 (q.ep : Int)) := by rw [cellBox hX.pb]; exact hat.2.2.2.1
    obtain ⟨y0, y1, y2, y3⟩ := hX.cells
    replace y3 := Lib.hid y3
    have e1 := hX.xv.xw.row.atEp n hn
    rw [htk]
    clear htk
    by_cases hle : (maxX x q.cur).ep n ≤ q.ep
    · rw [if_pos hle]
      have hd2 : (((maxX x q.cur).ep n : Nat) : Int) ≤ (q.ep : Int) := by omega
      generalize (maxX x q.cur).ep n = z at *
      generalize maxX x q.cur = u at *
      replace hX := Lib.hid hX.drew
      go_wp2_with fail
      go_region
      have hpb := hX.out.pb
      obtain ⟨y0, y1, y2, y3⟩ := hX.out.cells
      replace y3 := Lib.hid y3
      go_wp2_with (refine wpList_load_row rfl 67 _ rfl (w.heap.size + 1) rfl 67 ck (0, 0) _ hpb Tryz.underlying67 rfl hi ?_)
      refine (xclaim_calls (c := c') (sf := u.self) (cu := u.cur) _ hX.out.xv.xw.row n hn ck q hq).mono ?_
      rintro r W4 ⟨rfl, hR4, hb4⟩
      obtain ⟨z0, z1, z2, z3, z4, z5⟩ := box_after hX.out hb4 hg2
      have hX3 := Lib.hid (hX.out.put (c' := c') hR4 hb4 hg2 rfl undef)
      clear hX hR4 hb4 hpb y0 y1 y2
      go_wp2_with fail
      exact ⟨_, TxA_mk, rfl, hX3.out⟩
    · rw [if_neg hle]
      have hd2 : ¬ (((maxX x q.cur).ep n : Nat) : Int) ≤ (q.ep : Int) := by omega
      generalize (maxX x q.cur).ep n = z at *
      generalize maxX x q.cur = u at *
      replace hX := Lib.hid hX.drew
      go_wp2_with fail
      go_region
      go_wp2_with fail
      exact ⟨_, TxA_mk, rfl, hX.out⟩
  clear hX htk W1
  intro u0 u1 u10 u11 u12 u13 u14 u15 u16 u17 u18 u19 u20 u21 u22 u23 u24 u25 u26 u27 u28 u29 u30 u31 u32 u33 u34 u35 u36 u37 u38 u39 u40 u41 u42 u43 u44 u45 u46 u47 u48 u49 u50 u51 u52 u53 u54 u55 u56 u57 u58 u59 u60 u61 u62 u63 u64 u65 u66 u67 u68 u69 u70 u71 u72 u73 u74 u75 u76 u77 u78 u79 u80 u81 u82 u83 u84 u85 u86 u87 u88 u89 u90 u91 u92 u93 u94 u95 u96 u97 u98 u99 u100 u101 u102 u103 u104 u105 u106 u107 u108 u109 u110 u111 u112 u113 u114 u115 u116 u117 u118 u119 u120 u121 u122 u123 u124 u125 l W1 ⟨hl, hX⟩
  subst hl
  obtain ⟨y0, y1, y2, y3⟩ := hX.cells
  obtain ⟨q0, q1, q2, q3, q4, q5⟩ := rv_cells hX.xv.rvb
  obtain ⟨f1, f2, f3, f4⟩ := hX.fin (g0 := g) (Or.inr (by omega))
  have hH : hearX x q (rightP q) = (takenX x q, []) := by
    unfold hearX
    rw [if_neg hnid, if_pos h5]
  have hH := Lib.hid hH
  have f1 := Lib.hid f1
  have f2 := Lib.hid f2
  have f4 := Lib.hid f4
  replace y3 := Lib.hid y3
  clear hX f3 hR
  generalize takenX x q = u at *
  go_wp2_with fail
  refine bodyPost_ret (results_cell_row2 Tryz.results61 _ _ (w.heap.size + 1 + 1) 51 _ (0, 0) _ _ rfl rfl f1.out Tryz.underlying51 rfl (info51 _ _ _)) rfl ?_
  unfold XTPost
  rw [hH.out]
  exact ⟨g', c', _, rfl, ⟨[], .nil, World.ownsRow_nil _ _ _ _⟩, f2.out, Or.inr (by omega), f4.out⟩
set_option maxHeartbeats 8000000 in
set_option maxRecDepth 100000 in
theorem xTake_other {g c : Nat} {x : XS} (w : World) (h : XR w g x) (ck : Array Value) (q : Pkt) (hq : PkIs ck q) (h1 : rightP q = true) (h2 : q.cur ≤ 4611686018427387904) (h3 : q.fr ≠ (x.self : Int)) (h5 : q.kind ≠ 3) (hs64 : x.self < 64) (hcur : x.cur + 1 < 18446744073709551616) : Calls Tryz.prog 61 #[.agg #[.int .i64 (x.self : Int), .slice (some ⟨g, 0, none⟩) 64 c, .int .u64 (x.cur : Int)], .agg ck] w (XTPost w g x q) := by
  have hnid : ¬ idleP x.self q (rightP q) := by
    rintro (h | h | h | h)
    · rw [h1] at h; cases h
    · omega
    · exact h3 h
    · exact h5 h.1
  go_enter Tryz.func61, Tryz.ntmps61
  refine wp_cut (fun a W => a = ⟨#[.agg #[.int .i64 (x.self : Int), .slice (some ⟨g, 0, none⟩) 64 c, .int .u64 (x.cur : Int)], .agg ck, .pointer (some ⟨w.heap.size, 0, none⟩), .pointer (some ⟨w.heap.size + 1, 0, none⟩), .pointer (some ⟨w.heap.size + 1 + 1, 0, none⟩), .slice none 0 0, undef, undef, undef, undef, undef, undef, undef, undef, undef, undef, undef, undef, undef, undef, undef, undef, undef, undef, undef, undef, undef, undef, undef, undef, undef, undef, undef, undef, undef, undef, undef, undef, undef, undef, undef, undef, undef, undef, undef, undef, undef, undef, undef, undef, undef, undef, undef, undef, undef, undef, undef, undef, undef, undef, undef, undef, undef, undef, undef, undef, undef, undef, undef, undef, undef, undef, undef, undef, undef, undef, undef, undef, undef, undef, undef, undef, undef, undef, undef, undef, undef, undef, undef, undef, undef, undef, undef, undef, undef, undef, undef, undef, undef, undef, undef, undef, undef, undef, undef, undef, undef, undef, undef, undef, undef, undef, undef, undef, undef, undef, undef, undef, undef, undef, undef, undef, undef, undef, undef, undef], []⟩ ∧ TX w g c ck x W) ?_ ?_
  · have hX := Lib.hid (tX_start (c := c) (ck := ck) h)
    clear h
    go_wp2_with fail
    exact ⟨trivial, hX.out⟩
  rintro _ W ⟨rfl, hX⟩
  have k0 : W.cell? ⟨w.heap.size + 1, 0, none⟩ = some (.int .i64 q.kind) := by rw [cellBox hX.pb]; exact hq.at.1
  have hpb := hX.pb
  have hR := fun W => xRight_calls hq W
  have hi : (Tryz.prog.info? 67).map (·.size) = some ck.size := by rw [hq.size]; exact info26
  replace hX := Lib.hid hX
  clear h
  have hat := hq.at
  have h1' := h1
  unfold rightP rightV at h1'
  simp only [Bool.and_eq_true, decide_eq_true_eq] at h1'
  rw [if_neg h5] at h1'
  simp only [decide_eq_true_eq] at h1'
  obtain ⟨n, hfr⟩ : ∃ n : Nat, q.fr = n := ⟨q.fr.toNat, by omega⟩
  have hno : nodeOf q = n := by unfold nodeOf; rw [if_neg h5, hfr]; rfl
  have hn : n < 64 := by omega
  rw [h1] at hR
  have h2' : ¬ (4611686018427387904 : Int) < (q.cur : Int) := by omega
  have hd0 : decide ((4611686018427387904 : Int) < (q.cur : Int)) = false := decide_eq_false h2'
  have h4 : (q.fr == (x.self : Int)) = false := beq_eq_false_iff_ne.2 h3
  have hk3 : (q.kind == (3 : Int)) = false := beq_eq_false_iff_ne.2 h5
  replace hfr := Lib.hid hfr
  replace h3 := Lib.hid h3
  refine wp_cutX w.heap.size (.bool false) undef undef (fun l W => l = undef ∧ TX w g c ck x W) ?_ ?_
  · go_wp2_with fail
    exact ⟨_, TxA_mk, rfl, hX.out⟩
  clear k0 hpb hX
  intro u0 u1 u10 u11 u12 u13 u14 u15 u16 u17 u18 u19 u20 u21 u22 u23 u24 u25 u26 u27 u28 u29 u30 u31 u32 u33 u34 u35 u36 u37 u38 u39 u40 u41 u42 u43 u44 u45 u46 u47 u48 u49 u50 u51 u52 u53 u54 u55 u56 u57 u58 u59 u60 u61 u62 u63 u64 u65 u66 u67 u68 u69 u70 u71 u72 u73 u74 u75 u76 u77 u78 u79 u80 u81 u82 u83 u84 u85 u86 u87 u88 u89 u90 u91 u92 u93 u94 u95 u96 u97 u98 u99 u100 u101 u102 u103 u104 u105 u106 u107 u108 u109 u110 u111 u112 u113 u114 u115 u116 u117 u118 u119 u120 u121 u122 u123 u124 u125 l W1 ⟨hl, hX⟩
  subst hl
  refine wp_cutX w.heap.size (.bool false) undef undef (fun l W => l = undef ∧ TX w g c ck x W) ?_ ?_
  · have hpb := hX.pb
    replace hX := Lib.hid hX
    go_wp2_with (refine wpList_load_row rfl 67 _ rfl (w.heap.size + 1) rfl 67 ck (0, 0) _ hpb Tryz.underlying67 rfl hi ?_)
    refine (hR _).mono ?_
    rintro r W2 ⟨rfl, hb⟩
    have hX2 := hX.out.below hb
    have c1 : W2.cell? ⟨w.heap.size + 1, 1, none⟩ = some (.int .i64 q.fr) := by rw [cellBox hX2.pb]; exact hat.2.1
    have c2 : W2.cell? ⟨w.heap.size + 1, 2, none⟩ = some (.int .i64 q.of_) := by rw [cellBox hX2.pb]; exact hat.2.2.1
    have c4 : W2.cell? ⟨w.heap.size + 1, 4, none⟩ = some (.int .u64 (q.cur : Int)) := by rw [cellBox hX2.pb]; exact hat.2.2.2.2.1
    have x0 := hX2.xv.xw.x0
    have hX2 := Lib.hid hX2
    clear hX hb hpb
    go_wp2_with fail
    exact ⟨_, TxA_mk, rfl, hX2.out⟩
  clear hX W1
  intro u0 u1 u10 u11 u12 u13 u14 u15 u16 u17 u18 u19 u20 u21 u22 u23 u24 u25 u26 u27 u28 u29 u30 u31 u32 u33 u34 u35 u36 u37 u38 u39 u40 u41 u42 u43 u44 u45 u46 u47 u48 u49 u50 u51 u52 u53 u54 u55 u56 u57 u58 u59 u60 u61 u62 u63 u64 u65 u66 u67 u68 u69 u70 u71 u72 u73 u74 u75 u76 u77 u78 u79 u80 u81 u82 u83 u84 u85 u86 u87 u88 u89 u90 u91 u92 u93 u94 u95 u96 u97 u98 u99 u100 u101 u102 u103 u104 u105 u106 u107 u108 u109 u110 u111 u112 u113 u114 u115 u116 u117 u118 u119 u120 u121 u122 u123 u124 u125 l W1 ⟨hl, hX⟩
  subst hl
  refine wp_cutX w.heap.size (.bool false) undef undef (fun l W => l = undef ∧ ∃ g' c', w.heap.size + 1 + 1 < g' ∧ TX w g' c' ck x W) ?_ ?_
  · obtain ⟨y0, y1, y2, y3⟩ := hX.cells
    have hC := Lib.hid (xcopied_calls (c := c) (sf := x.self) (cu := x.cur) _ hX.xv.xw.row)
    have hsz := blk_lt hX.xv.rvb
    replace hX := Lib.hid hX
    replace y3 := Lib.hid y3
    go_wp2_with fail
    refine hC.out.mono ?_
    rintro r W2 ⟨g', c', rfl, hg', hR2, hb2⟩
    have hg2 : w.heap.size + 1 + 1 < g' := by omega
    have hbb := but_below hb2 (fun k => k = g')
    obtain ⟨z0, z1, z2, z3, z4, z5⟩ := box_after hX.out hbb hg2
    have hX3 := Lib.hid (hX.out.put (c' := c') hR2 hbb hg2 rfl undef)
    clear hC hX hR2 hb2 hbb
    go_wp2_with fail
    exact ⟨_, TxA_mk, rfl, g', c', hg2, hX3.out⟩
  clear hX W1
  intro u0 u1 u10 u11 u12 u13 u14 u15 u16 u17 u18 u19 u20 u21 u22 u23 u24 u25 u26 u27 u28 u29 u30 u31 u32 u33 u34 u35 u36 u37 u38 u39 u40 u41 u42 u43 u44 u45 u46 u47 u48 u49 u50 u51 u52 u53 u54 u55 u56 u57 u58 u59 u60 u61 u62 u63 u64 u65 u66 u67 u68 u69 u70 u71 u72 u73 u74 u75 u76 u77 u78 u79 u80 u81 u82 u83 u84 u85 u86 u87 u88 u89 u90 u91 u92 u93 u94 u95 u96 u97 u98 u99 u100 u101 u102 u103 u104 u105 u106 u107 u108 u109 u110 u111 u112 u113 u114 u115 u116 u117 u118 u119 u120 u121 u122 u123 u124 u125 l W1 ⟨hl, g', c', hg2, hX⟩
  subst hl
  refine wp_cutX w.heap.size (.bool false) (.int .i64 q.fr) undef (fun l W => l = undef ∧ TX w g' c' ck x W) ?_ ?_
  · have c1 : W1.cell? ⟨w.heap.size + 1, 1, none⟩ = some (.int .i64 q.fr) := by rw [cellBox hX.pb]; exact hat.2.1
    replace hX := Lib.hid hX
    go_wp2_with fail
    exact ⟨_, TxA_mk, rfl, hX.out⟩
  clear hX W1
  intro u0 u1 u10 u11 u12 u13 u14 u15 u16 u17 u18 u19 u20 u21 u22 u23 u24 u25 u26 u27 u28 u29 u30 u31 u32 u33 u34 u35 u36 u37 u38 u39 u40 u41 u42 u43 u44 u45 u46 u47 u48 u49 u50 u51 u52 u53 u54 u55 u56 u57 u58 u59 u60 u61 u62 u63 u64 u65 u66 u67 u68 u69 u70 u71 u72 u73 u74 u75 u76 u77 u78 u79 u80 u81 u82 u83 u84 u85 u86 u87 u88 u89 u90 u91 u92 u93 u94 u95 u96 u97 u98 u99 u100 u101 u102 u103 u104 u105 u106 u107 u108 u109 u110 u111 u112 u113 u114 u115 u116 u117 u118 u119 u120 u121 u122 u123 u124 u125 l W1 ⟨hl, hX⟩
  subst hl
  refine wp_cutX w.heap.size (.bool false) (.int .i64 (n : Int)) undef (fun l W => l = undef ∧ TX w g' c' ck x W) ?_ ?_
  · have c2 : W1.cell? ⟨w.heap.size + 1, 2, none⟩ = some (.int .i64 q.of_) := by rw [cellBox hX.pb]; exact hat.2.2.1
    rw [hfr.out]
    replace hX := Lib.hid hX
    go_wp2_with fail
    exact ⟨_, TxA_mk, rfl, hX.out⟩
  clear hX W1
  intro u0 u1 u10 u11 u12 u13 u14 u15 u16 u17 u18 u19 u20 u21 u22 u23 u24 u25 u26 u27 u28 u29 u30 u31 u32 u33 u34 u35 u36 u37 u38 u39 u40 u41 u42 u43 u44 u45 u46 u47 u48 u49 u50 u51 u52 u53 u54 u55 u56 u57 u58 u59 u60 u61 u62 u63 u64 u65 u66 u67 u68 u69 u70 u71 u72 u73 u74 u75 u76 u77 u78 u79 u80 u81 u82 u83 u84 u85 u86 u87 u88 u89 u90 u91 u92 u93 u94 u95 u96 u97 u98 u99 u100 u101 u102 u103 u104 u105 u106 u107 u108 u109 u110 u111 u112 u113 u114 u115 u116 u117 u118 u119 u120 u121 u122 u123 u124 u125 l W1 ⟨hl, hX⟩
  subst hl
  refine wp_cutX w.heap.size (.bool false) (.int .i64 (n : Int)) undef (fun l W => l = undef ∧ TX w g' c' ck (maxX x q.cur) W) ?_ ?_
  · have c4 : W1.cell? ⟨w.heap.size + 1, 4, none⟩ = some (.int .u64 (q.cur : Int)) := by rw [cellBox hX.pb]; exact hat.2.2.2.2.1
    obtain ⟨y0, y1, y2, y3⟩ := hX.cells
    have y4 := y3 2
    have hX2 := hX.top q.cur
    rw [show ((max x.cur q.cur : Nat) : Int) = max (x.cur : Int) (q.cur : Int) by omega] at hX2
    replace hX2 := Lib.hid hX2
    replace y3 := Lib.hid y3
    clear hX
    go_wp2_with fail
    exact ⟨_, TxA_mk, rfl, hX2.out⟩
  clear hX W1
  intro u0 u1 u10 u11 u12 u13 u14 u15 u16 u17 u18 u19 u20 u21 u22 u23 u24 u25 u26 u27 u28 u29 u30 u31 u32 u33 u34 u35 u36 u37 u38 u39 u40 u41 u42 u43 u44 u45 u46 u47 u48 u49 u50 u51 u52 u53 u54 u55 u56 u57 u58 u59 u60 u61 u62 u63 u64 u65 u66 u67 u68 u69 u70 u71 u72 u73 u74 u75 u76 u77 u78 u79 u80 u81 u82 u83 u84 u85 u86 u87 u88 u89 u90 u91 u92 u93 u94 u95 u96 u97 u98 u99 u100 u101 u102 u103 u104 u105 u106 u107 u108 u109 u110 u111 u112 u113 u114 u115 u116 u117 u118 u119 u120 u121 u122 u123 u124 u125 l W1 ⟨hl, hX⟩
  subst hl
  have htk : takenX x q = if (maxX x q.cur).ep n ≤ q.ep then claimX (maxX x q.cur) n q.ep q.cl else maxX x q.cur := by
    unfold takenX
    rw [hno]
  refine wp_cutX w.heap.size (.bool false) (.int .i64 (n : Int)) undef (fun l W => l = undef ∧ TX w g' c' ck (takenX x q) W) ?_ ?_
  · have c3 : W1.cell? ⟨w.heap.size + 1, 3, none⟩ = some (.int .u64 (q.ep : Int)) := by rw [cellBox hX.pb]; exact hat.2.2.2.1
    obtain ⟨y0, y1, y2, y3⟩ := hX.cells
    replace y3 := Lib.hid y3
    have e1 := hX.xv.xw.row.atEp n hn
    rw [htk]
    clear htk
    by_cases hle : (maxX x q.cur).ep n ≤ q.ep
    · rw [if_pos hle]
      have hd2 : (((maxX x q.cur).ep n : Nat) : Int) ≤ (q.ep : Int) := by omega
      generalize (maxX x q.cur).ep n = z at *
      generalize maxX x q.cur = u at *
      replace hX := Lib.hid hX.drew
      go_wp2_with fail
      go_region
      have hpb := hX.out.pb
      obtain ⟨y0, y1, y2, y3⟩ := hX.out.cells
      replace y3 := Lib.hid y3
      go_wp2_with (refine wpList_load_row rfl 67 _ rfl (w.heap.size + 1) rfl 67 ck (0, 0) _ hpb Tryz.underlying67 rfl hi ?_)
      refine (xclaim_calls (c := c') (sf := u.self) (cu := u.cur) _ hX.out.xv.xw.row n hn ck q hq).mono ?_
      rintro r W4 ⟨rfl, hR4, hb4⟩
      obtain ⟨z0, z1, z2, z3, z4, z5⟩ := box_after hX.out hb4 hg2
      have hX3 := Lib.hid (hX.out.put (c' := c') hR4 hb4 hg2 rfl undef)
      clear hX hR4 hb4 hpb y0 y1 y2
      go_wp2_with fail
      exact ⟨_, TxA_mk, rfl, hX3.out⟩
    · rw [if_neg hle]
      have hd2 : ¬ (((maxX x q.cur).ep n : Nat) : Int) ≤ (q.ep : Int) := by omega
      generalize (maxX x q.cur).ep n = z at *
      generalize maxX x q.cur = u at *
      replace hX := Lib.hid hX.drew
      go_wp2_with fail
      go_region
      go_wp2_with fail
      exact ⟨_, TxA_mk, rfl, hX.out⟩
  clear hX htk W1
  intro u0 u1 u10 u11 u12 u13 u14 u15 u16 u17 u18 u19 u20 u21 u22 u23 u24 u25 u26 u27 u28 u29 u30 u31 u32 u33 u34 u35 u36 u37 u38 u39 u40 u41 u42 u43 u44 u45 u46 u47 u48 u49 u50 u51 u52 u53 u54 u55 u56 u57 u58 u59 u60 u61 u62 u63 u64 u65 u66 u67 u68 u69 u70 u71 u72 u73 u74 u75 u76 u77 u78 u79 u80 u81 u82 u83 u84 u85 u86 u87 u88 u89 u90 u91 u92 u93 u94 u95 u96 u97 u98 u99 u100 u101 u102 u103 u104 u105 u106 u107 u108 u109 u110 u111 u112 u113 u114 u115 u116 u117 u118 u119 u120 u121 u122 u123 u124 u125 l W1 ⟨hl, hX⟩
  subst hl
  have hself := takenX_self x q
  have hcu := takenX_cur x q
  have hH : hearX x q (rightP q) = (liftX (takenX x q) q, answX (liftX (takenX x q) q) q) := by
    unfold hearX
    rw [if_neg hnid, if_neg h5]
  have hH := Lib.hid hH
  have hls := liftX_self (takenX x q) q
  refine wp_cutX w.heap.size (.bool false) (.int .i64 (n : Int)) undef (fun l W => l = undef ∧ TX w g' c' ck (takenX x q) W) ?_ ?_
  · replace hX := Lib.hid hX
    go_wp2_with fail
    exact ⟨_, TxA_mk, rfl, hX.out⟩
  clear hX W1
  intro u0 u1 u10 u11 u12 u13 u14 u15 u16 u17 u18 u19 u20 u21 u22 u23 u24 u25 u26 u27 u28 u29 u30 u31 u32 u33 u34 u35 u36 u37 u38 u39 u40 u41 u42 u43 u44 u45 u46 u47 u48 u49 u50 u51 u52 u53 u54 u55 u56 u57 u58 u59 u60 u61 u62 u63 u64 u65 u66 u67 u68 u69 u70 u71 u72 u73 u74 u75 u76 u77 u78 u79 u80 u81 u82 u83 u84 u85 u86 u87 u88 u89 u90 u91 u92 u93 u94 u95 u96 u97 u98 u99 u100 u101 u102 u103 u104 u105 u106 u107 u108 u109 u110 u111 u112 u113 u114 u115 u116 u117 u118 u119 u120 u121 u122 u123 u124 u125 l W1 ⟨hl, hX⟩
  subst hl
  refine wp_cutX w.heap.size (.bool false) (.int .i64 (n : Int)) undef (fun l W => l = undef ∧ TX w g' c' ck (liftX (takenX x q) q) W) ?_ ?_
  · have hlf : liftX (takenX x q) q = if q.ep = (takenX x q).ep (takenX x q).self ∧ (takenX x q).self < n then raiseX (takenX x q) else takenX x q := by
      unfold liftX
      rw [hno]
    rw [hlf]
    have hc1 : (takenX x q).cur + 1 < 18446744073709551616 := by rw [takenX_cur]; omega
    have hs1 : (takenX x q).self < 64 := by rw [takenX_self]; exact hs64
    clear hlf hH hls hself hcu
    generalize takenX x q = u at *
    have c3 : W1.cell? ⟨w.heap.size + 1, 3, none⟩ = some (.int .u64 (q.ep : Int)) := by rw [cellBox hX.pb]; exact hat.2.2.2.1
    obtain ⟨y0, y1, y2, y3⟩ := hX.cells
    replace y3 := Lib.hid y3
    have e1 := hX.xv.xw.row.atEp u.self hs1
    have hR9 := fun W (hW : XR W g' u) => xraise_calls (c := c') (sf := u.self) (cu := u.cur) W hW hs1 hc1
    replace hR9 := Lib.hid hR9
    by_cases ha : q.ep = u.ep u.self
    · have hd : ((q.ep : Int) == ((u.ep u.self : Nat) : Int)) = true := beq_iff_eq.2 (by omega)
      by_cases hb : u.self < n
      · rw [if_pos ⟨ha, hb⟩]
        have hd2 : decide ((u.self : Int) < (n : Int)) = true := decide_eq_true (by omega)
        clear ha
        replace hX := Lib.hid hX.drew
        generalize hz : u.ep u.self = z at *
        clear hz
        generalize hsf : u.self = sf at *
        have hsf := Lib.hid hsf
        go_wp2_with fail
        go_region
        obtain ⟨y0, y1, y2, y3⟩ := hX.out.cells
        rw [hsf.out] at y0
        replace y3 := Lib.hid y3
        go_wp2_with fail
        refine (hR9.out _ hX.out.xv.xw.row).mono ?_
        rintro r W4 ⟨rfl, hR4, hb4⟩
        obtain ⟨z0, z1, z2, z3, z4, z5⟩ := box_after hX.out hb4 hg2
        have hX3 := hX.out.put (x' := raiseX u) (c' := c') (hR4.congr (fun _ _ => by unfold xEp raiseX; simp only; rw [hsf.out]) (fun _ _ _ _ => rfl)) hb4 hg2 rfl undef
        rw [show ((raiseX u).self : Int) = (sf : Int) from by show (u.self : Int) = sf; rw [hsf.out], show (((raiseX u).cur : Nat) : Int) = (u.cur : Int) + 1 from by show ((u.cur + 1 : Nat) : Int) = _; omega] at hX3
        rw [hsf.out] at z0
        replace hX3 := Lib.hid hX3
        clear hX hR4 hb4 y0 y1 y2 hR9
        go_wp2_with fail
        exact ⟨_, TxA_mk, rfl, hX3.out⟩
      · rw [if_neg (fun h => hb h.2)]
        have hd2 : decide ((u.self : Int) < (n : Int)) = false := decide_eq_false (by omega)
        clear ha hR9
        replace hX := Lib.hid hX.drew
        generalize u.ep u.self = z at *
        generalize u.self = sf at *
        go_wp2_with fail
        go_region
        go_wp2_with fail
        exact ⟨_, TxA_mk, rfl, hX.out⟩
    · rw [if_neg (fun h => ha h.1)]
      have hd : ((q.ep : Int) == ((u.ep u.self : Nat) : Int)) = false := beq_eq_false_iff_ne.2 (by omega)
      clear ha hR9
      replace hX := Lib.hid hX.drew
      generalize u.ep u.self = z at *
      generalize u.self = sf at *
      go_wp2_with fail
      go_region
      go_wp2_with fail
      exact ⟨_, TxA_mk, rfl, hX.out⟩
  clear hX W1
  intro u0 u1 u10 u11 u12 u13 u14 u15 u16 u17 u18 u19 u20 u21 u22 u23 u24 u25 u26 u27 u28 u29 u30 u31 u32 u33 u34 u35 u36 u37 u38 u39 u40 u41 u42 u43 u44 u45 u46 u47 u48 u49 u50 u51 u52 u53 u54 u55 u56 u57 u58 u59 u60 u61 u62 u63 u64 u65 u66 u67 u68 u69 u70 u71 u72 u73 u74 u75 u76 u77 u78 u79 u80 u81 u82 u83 u84 u85 u86 u87 u88 u89 u90 u91 u92 u93 u94 u95 u96 u97 u98 u99 u100 u101 u102 u103 u104 u105 u106 u107 u108 u109 u110 u111 u112 u113 u114 u115 u116 u117 u118 u119 u120 u121 u122 u123 u124 u125 l W1 ⟨hl, hX⟩
  subst hl
  have hs9 : (liftX (takenX x q) q).self < 64 := by rw [hls, hself]; exact hs64
  have hc9 : (liftX (takenX x q) q).cur < 18446744073709551616 := by
    unfold liftX
    split
    · show (takenX x q).cur + 1 < _
      rw [hcu]
      omega
    · rw [hcu]
      omega
  clear hls hself hcu hno h4 hk3 hfr hd0 hR
  generalize liftX (takenX x q) q = u at *
  refine wp_cutX w.heap.size (.bool false) (.int .i64 (n : Int)) undef (fun l W => l = .slice none 0 0 ∧ TX w g' c' ck u W) ?_ ?_
  · replace hX := Lib.hid hX
    go_wp2_with fail
    exact ⟨_, TxA_mk, rfl, hX.out⟩
  clear hX W1
  intro u0 u1 u10 u11 u12 u13 u14 u15 u16 u17 u18 u19 u20 u21 u22 u23 u24 u25 u26 u27 u28 u29 u30 u31 u32 u33 u34 u35 u36 u37 u38 u39 u40 u41 u42 u43 u44 u45 u46 u47 u48 u49 u50 u51 u52 u53 u54 u55 u56 u57 u58 u59 u60 u61 u62 u63 u64 u65 u66 u67 u68 u69 u70 u71 u72 u73 u74 u75 u76 u77 u78 u79 u80 u81 u82 u83 u84 u85 u86 u87 u88 u89 u90 u91 u92 u93 u94 u95 u96 u97 u98 u99 u100 u101 u102 u103 u104 u105 u106 u107 u108 u109 u110 u111 u112 u113 u114 u115 u116 u117 u118 u119 u120 u121 u122 u123 u124 u125 l W1 ⟨hl, hX⟩
  subst hl
  refine wp_cutX w.heap.size (.bool false) (.int .i64 (n : Int)) undef (fun l W => TX w g' c' ck u W ∧ g' < W.heap.size ∧ PksRow W (g' + 1) l (trimL (if q.kind = 1 ∨ q.kind = 4 then [tellX u 2] else []))) ?_ ?_
  · have k0 : W1.cell? ⟨w.heap.size + 1, 0, none⟩ = some (.int .i64 q.kind) := by rw [cellBox hX.pb]; exact hat.1
    have hgW := hX.xv.xw.row.lt
    obtain ⟨y0, y1, y2, y3⟩ := hX.cells
    replace y3 := Lib.hid y3
    have hT := xTell_calls (c := c') _ hX.xv.xw.row hs9 hc9 2
    replace hT := Lib.hid hT
    replace hX := Lib.hid hX
    obtain ⟨i0, hi0, hz0, hz1, hz2⟩ := info_pk'
    have hcase : q.kind = 1 ∨ q.kind = 4 ∨ (q.kind ≠ 1 ∧ q.kind ≠ 4) := by omega
    rcases hcase with hk | hk | ⟨hk, hk'⟩
    · rw [if_pos (show q.kind = 1 ∨ q.kind = 4 by omega)]
      rw [hk] at k0
      clear hk
      go_wp2_with fail
      refine hT.out.mono ?_
      rintro r W4 ⟨k5, rfl, hpc, hb4⟩
      have hX4 := hX.out.below hb4
      have n5 := below_new' W4 (.cells k5 67)
      have hX5 := hX4.below n5
      have hc' := hpc.size
      have hln : (W4.alloc (.cells k5 67)).heap.size = W4.heap.size + 1 := by simp
      have hg4 := Nat.lt_of_lt_of_le hgW hb4.size
      replace hX5 := Lib.hid hX5
      clear hb4 hT hX hX4 n5
      go_wp2_with (first | (with_reducible refine wpList_build1 rfl (.tmp 95) k5 rfl rfl hc' ?_) | (at_builtin; refine wpList_append_own _ rfl _ _ 81 rfl (g' + 1) 67 i0 (.agg Tryz.zeroCells67) 261 2088 Tryz.underlying81 hi0 hz0 hz1 hz2 (zero_pk.size) (by decide) (.slice none 0 0) 0 [] rfl (World.ownsRow_nil _ _ _ _) ⟨W4.heap.size, 0, none⟩ 1 1 k5.toList rfl (by rw [Array.length_toList, hc']) (news_row _ _ _) (one_row hpc.one) (by simp only [maxLen]; omega) (by omega) (by omega) ?_; intro x' W7 hown7 hgr _; replace hgr := Lib.hid hgr; replace hown7 := Lib.hid hown7))
      have hb7 : Below (W4.alloc (.cells k5 67)).heap.size (W4.alloc (.cells k5 67)) W7 := ((Below.refl _ _).grown hgr.out (Nat.le_refl _) (fun k hk => by simp [Value.ownBlock] at hk))
      refine ⟨_, TxA_mk, hX5.out.below hb7, by have := hb7.size; omega, [k5], .cons hpc .nil, ?_⟩
      simpa [rowP, trimL] using hown7.out
    · rw [if_pos (show q.kind = 1 ∨ q.kind = 4 by omega)]
      rw [hk] at k0
      clear hk
      go_wp2_with fail
      refine hT.out.mono ?_
      rintro r W4 ⟨k5, rfl, hpc, hb4⟩
      have hX4 := hX.out.below hb4
      have n5 := below_new' W4 (.cells k5 67)
      have hX5 := hX4.below n5
      have hc' := hpc.size
      have hln : (W4.alloc (.cells k5 67)).heap.size = W4.heap.size + 1 := by simp
      have hg4 := Nat.lt_of_lt_of_le hgW hb4.size
      replace hX5 := Lib.hid hX5
      clear hb4 hT hX hX4 n5
      go_wp2_with (first | (with_reducible refine wpList_build1 rfl (.tmp 95) k5 rfl rfl hc' ?_) | (at_builtin; refine wpList_append_own _ rfl _ _ 81 rfl (g' + 1) 67 i0 (.agg Tryz.zeroCells67) 261 2088 Tryz.underlying81 hi0 hz0 hz1 hz2 (zero_pk.size) (by decide) (.slice none 0 0) 0 [] rfl (World.ownsRow_nil _ _ _ _) ⟨W4.heap.size, 0, none⟩ 1 1 k5.toList rfl (by rw [Array.length_toList, hc']) (news_row _ _ _) (one_row hpc.one) (by simp only [maxLen]; omega) (by omega) (by omega) ?_; intro x' W7 hown7 hgr _; replace hgr := Lib.hid hgr; replace hown7 := Lib.hid hown7))
      have hb7 : Below (W4.alloc (.cells k5 67)).heap.size (W4.alloc (.cells k5 67)) W7 := ((Below.refl _ _).grown hgr.out (Nat.le_refl _) (fun k hk => by simp [Value.ownBlock] at hk))
      refine ⟨_, TxA_mk, hX5.out.below hb7, by have := hb7.size; omega, [k5], .cons hpc .nil, ?_⟩
      simpa [rowP, trimL] using hown7.out
    · rw [if_neg (show ¬ (q.kind = 1 ∨ q.kind = 4) by omega)]
      have hd1 : (q.kind == (1 : Int)) = false := beq_eq_false_iff_ne.2 hk
      have hd2 : (q.kind == (4 : Int)) = false := beq_eq_false_iff_ne.2 hk'
      replace hgW := Lib.hid hgW
      clear hT
      go_wp2_with fail
      exact ⟨_, TxA_mk, hX.out, hgW.out, [], .nil, World.ownsRow_nil _ _ _ _⟩
  clear hX W1
  intro u0 u1 u10 u11 u12 u13 u14 u15 u16 u17 u18 u19 u20 u21 u22 u23 u24 u25 u26 u27 u28 u29 u30 u31 u32 u33 u34 u35 u36 u37 u38 u39 u40 u41 u42 u43 u44 u45 u46 u47 u48 u49 u50 u51 u52 u53 u54 u55 u56 u57 u58 u59 u60 u61 u62 u63 u64 u65 u66 u67 u68 u69 u70 u71 u72 u73 u74 u75 u76 u77 u78 u79 u80 u81 u82 u83 u84 u85 u86 u87 u88 u89 u90 u91 u92 u93 u94 u95 u96 u97 u98 u99 u100 u101 u102 u103 u104 u105 u106 u107 u108 u109 u110 u111 u112 u113 u114 u115 u116 u117 u118 u119 u120 u121 u122 u123 u124 u125 xl W1 ⟨hX, hgW, hrow⟩
  have hans : answX u q = (if q.kind = 1 ∨ q.kind = 4 then [tellX u 2] else []) ++ (if beatX u q.fr q.ep q.cl = -1 then [] else [⟨3, u.self, beatX u q.fr q.ep q.cl, u.ep (beatX u q.fr q.ep q.cl).toNat, u.cur, u.cl (beatX u q.fr q.ep q.cl).toNat⟩]) := rfl
  have hbn : beatX u q.fr q.ep q.cl = -1 ∨ ∃ o : Nat, o < 64 ∧ beatX u q.fr q.ep q.cl = o := by
    unfold beatX
    generalize List.find? _ _ = r
    cases r with
    | none => exact Or.inl rfl
    | some s => exact owner_node u s
  have hll : (if q.kind = 1 ∨ q.kind = 4 then [tellX u 2] else []).length ≤ 1 := by split <;> simp
  replace hans := Lib.hid hans
  generalize (if q.kind = 1 ∨ q.kind = 4 then [tellX u 2] else []) = l1 at *
  refine wp_cutX w.heap.size (.bool false) (.int .i64 (n : Int)) (.int .i64 (beatX u q.fr q.ep q.cl)) (fun l W => TX w g' c' ck u W ∧ g' < W.heap.size ∧ PksRow W (g' + 1) l (trimL l1)) ?_ ?_
  · obtain ⟨cs, hcs, hown⟩ := hrow
    have hpb := hX.pb
    obtain ⟨y0, y1, y2, y3⟩ := hX.cells
    replace y3 := Lib.hid y3
    have hB := Lib.hid (xbeaten_calls (c := c') (sf := u.self) (cu := u.cur) _ hX.xv.xw.row ck q hq)
    replace hown := Lib.hid hown
    replace hX := Lib.hid hX
    go_wp2_with (refine wpList_load_row rfl 67 _ rfl (w.heap.size + 1) rfl 67 ck (0, 0) _ hpb Tryz.underlying67 rfl hi ?_)
    refine hB.out.mono ?_
    rintro r W4 ⟨rfl, hb4⟩
    have hX4 := Lib.hid (hX.out.below hb4)
    have hown4 := Lib.hid (pw_own_below hown.out hb4)
    have hg4 := Lib.hid (Nat.lt_of_lt_of_le hgW hb4.size)
    clear hb4 hB hX hown hpb
    go_wp2_with fail
    exact ⟨_, TxA_mk, hX4.out, hg4.out, cs, hcs, hown4.out⟩
  clear hX hrow hgW W1
  intro u0 u1 u10 u11 u12 u13 u14 u15 u16 u17 u18 u19 u20 u21 u22 u23 u24 u25 u26 u27 u28 u29 u30 u31 u32 u33 u34 u35 u36 u37 u38 u39 u40 u41 u42 u43 u44 u45 u46 u47 u48 u49 u50 u51 u52 u53 u54 u55 u56 u57 u58 u59 u60 u61 u62 u63 u64 u65 u66 u67 u68 u69 u70 u71 u72 u73 u74 u75 u76 u77 u78 u79 u80 u81 u82 u83 u84 u85 u86 u87 u88 u89 u90 u91 u92 u93 u94 u95 u96 u97 u98 u99 u100 u101 u102 u103 u104 u105 u106 u107 u108 u109 u110 u111 u112 u113 u114 u115 u116 u117 u118 u119 u120 u121 u122 u123 u124 u125 xl W1 ⟨hX, hgW, hrow⟩
  refine wp_cutX w.heap.size (.bool false) (.int .i64 (n : Int)) (.int .i64 (beatX u q.fr q.ep q.cl)) (fun l W => TX w g' c' ck u W ∧ PksRow W (g' + 1) l (trimL (answX u q))) ?_ ?_
  · rw [hans.out]
    generalize beatX u q.fr q.ep q.cl = bt at *
    rcases hbn with rfl | ⟨o, ho, rfl⟩
    · rw [if_pos rfl, List.append_nil]
      replace hX := Lib.hid hX
      replace hrow := Lib.hid hrow
      go_wp2_with fail
      exact ⟨_, TxA_mk, hX.out, hrow.out⟩
    · rw [if_neg (by omega), Int.toNat_natCast]
      have hge : decide ((0 : Int) ≤ (o : Int)) = true := decide_eq_true (by omega)
      obtain ⟨cs, hcs, hown⟩ := hrow
      replace hown := Lib.hid hown
      obtain ⟨i0, hi0, hz0, hz1, hz2⟩ := info_pk'
      obtain ⟨a5, ha, hr5, -⟩ := hX.xv.xw.row.words o ho
      have hep := hX.xv.xw.row.epLt o ho
      replace hX := Lib.hid hX
      replace hr5 := Lib.hid hr5
      have hia := info43l ha
      go_wp2_with fail
      replace hown := pw_own_below hown.out (below_drew (Below.refl W1.heap.size W1))
      replace hr5 : ∀ j v, a5.toList[j]? = some v → W1.drew.cell? ⟨g', o * 257 + 1 + j, none⟩ = some v := fun j v hj => hr5.out j v hj
      replace hX := hX.out.drew
      refine wp_region_last (S := fun W => TX w g' c' ck u W ∧ W.rangeAt g' (o * 257 + 1) a5.toList) 21 (by kernel_rfl) ?_
      have hS : TX w g' c' ck u W1.drew ∧ W1.drew.rangeAt g' (o * 257 + 1) a5.toList := ⟨hX, hr5⟩
      have hgW2 : g' < W1.drew.heap.size := hgW
      clear hr5 hX hgW
      generalize World.drew _ = W4 at *
      refine wpAnyT_take (i := 0) (oi := ⟨some 103, _, _, _, _, _⟩) (v := xl) rfl (by kernel_rfl) (by kernel_rfl) (by kernel_rfl) (by kernel_rfl) (fun _ _ _ h => h) (Or.inl ⟨by rfl, fun W hW => by have q0 := hW.1.xv.xw.x0; have q1 := hW.1.xv.xw.x1; have q2 := hW.1.xv.xw.x2; have q3 := hW.1.xv.xw.row.atEp _ ho; go_simp; try (intro h; omega)⟩) hS ?_
      try simp only [Act.put, List.setIfInBounds_toArray, List.set_cons_zero, List.set_cons_succ]
      refine wpAnyT_take (i := 1) (oi := ⟨some 104, _, _, _, _, _⟩) (v := .pointer (some ⟨w.heap.size, 0, none⟩)) rfl (by kernel_rfl) (by kernel_rfl) (by kernel_rfl) (by kernel_rfl) (fun _ _ _ h => h) (Or.inl ⟨by rfl, fun W hW => by have q0 := hW.1.xv.xw.x0; have q1 := hW.1.xv.xw.x1; have q2 := hW.1.xv.xw.x2; have q3 := hW.1.xv.xw.row.atEp _ ho; go_simp; try (intro h; omega)⟩) hS ?_
      try simp only [Act.put, List.setIfInBounds_toArray, List.set_cons_zero, List.set_cons_succ]
      refine wpAnyT_take (i := 2) (oi := ⟨some 105, _, _, _, _, _⟩) (v := .int .i64 (u.self : Int)) rfl (by kernel_rfl) (by kernel_rfl) (by kernel_rfl) (by kernel_rfl) (fun _ _ _ h => h) (Or.inl ⟨by rfl, fun W hW => by have q0 := hW.1.xv.xw.x0; have q1 := hW.1.xv.xw.x1; have q2 := hW.1.xv.xw.x2; have q3 := hW.1.xv.xw.row.atEp _ ho; go_simp; try (intro h; omega)⟩) hS ?_
      try simp only [Act.put, List.setIfInBounds_toArray, List.set_cons_zero, List.set_cons_succ]
      refine wpAnyT_take (i := 3) (oi := ⟨some 106, _, _, _, _, _⟩) (v := .int .i64 (o : Int)) rfl (by kernel_rfl) (by kernel_rfl) (by kernel_rfl) (by kernel_rfl) (fun _ _ _ h => h) (Or.inl ⟨by rfl, fun W hW => by have q0 := hW.1.xv.xw.x0; have q1 := hW.1.xv.xw.x1; have q2 := hW.1.xv.xw.x2; have q3 := hW.1.xv.xw.row.atEp _ ho; go_simp; try (intro h; omega)⟩) hS ?_
      try simp only [Act.put, List.setIfInBounds_toArray, List.set_cons_zero, List.set_cons_succ]
      refine wpAnyT_take (i := 4) (oi := ⟨some 107, _, _, _, _, _⟩) (v := .pointer (some ⟨w.heap.size, 1, none⟩)) rfl (by kernel_rfl) (by kernel_rfl) (by kernel_rfl) (by kernel_rfl) (fun _ _ _ h => h) (Or.inl ⟨by rfl, fun W hW => by have q0 := hW.1.xv.xw.x0; have q1 := hW.1.xv.xw.x1; have q2 := hW.1.xv.xw.x2; have q3 := hW.1.xv.xw.row.atEp _ ho; go_simp; try (intro h; omega)⟩) hS ?_
      try simp only [Act.put, List.setIfInBounds_toArray, List.set_cons_zero, List.set_cons_succ]
      refine wpAnyT_take (i := 5) (oi := ⟨some 108, _, _, _, _, _⟩) (v := .slice (some ⟨g', 0, none⟩) 64 c') rfl (by kernel_rfl) (by kernel_rfl) (by kernel_rfl) (by kernel_rfl) (fun _ _ _ h => h) (Or.inl ⟨by rfl, fun W hW => by have q0 := hW.1.xv.xw.x0; have q1 := hW.1.xv.xw.x1; have q2 := hW.1.xv.xw.x2; have q3 := hW.1.xv.xw.row.atEp _ ho; go_simp; try (intro h; omega)⟩) hS ?_
      try simp only [Act.put, List.setIfInBounds_toArray, List.set_cons_zero, List.set_cons_succ]
      refine wpAnyT_take (i := 6) (oi := ⟨some 109, _, _, _, _, _⟩) (v := .int .i64 (o : Int)) rfl (by kernel_rfl) (by kernel_rfl) (by kernel_rfl) (by kernel_rfl) (fun _ _ _ h => h) (Or.inl ⟨by rfl, fun W hW => by have q0 := hW.1.xv.xw.x0; have q1 := hW.1.xv.xw.x1; have q2 := hW.1.xv.xw.x2; have q3 := hW.1.xv.xw.row.atEp _ ho; go_simp; try (intro h; omega)⟩) hS ?_
      try simp only [Act.put, List.setIfInBounds_toArray, List.set_cons_zero, List.set_cons_succ]
      refine wpAnyT_take (i := 7) (oi := ⟨some 110, _, _, _, _, _⟩) (v := .pointer (some ⟨g', o * 257, none⟩)) rfl (by kernel_rfl) (by kernel_rfl) (by kernel_rfl) (by kernel_rfl) (fun _ _ _ h => h) (Or.inl ⟨by rfl, fun W hW => by have q0 := hW.1.xv.xw.x0; have q1 := hW.1.xv.xw.x1; have q2 := hW.1.xv.xw.x2; have q3 := hW.1.xv.xw.row.atEp _ ho; go_simp; try (intro h; omega)⟩) hS ?_
      try simp only [Act.put, List.setIfInBounds_toArray, List.set_cons_zero, List.set_cons_succ]
      refine wpAnyT_take (i := 8) (oi := ⟨some 111, _, _, _, _, _⟩) (v := .pointer (some ⟨g', o * 257, none⟩)) rfl (by kernel_rfl) (by kernel_rfl) (by kernel_rfl) (by kernel_rfl) (fun _ _ _ h => h) (Or.inl ⟨by rfl, fun W hW => by have q0 := hW.1.xv.xw.x0; have q1 := hW.1.xv.xw.x1; have q2 := hW.1.xv.xw.x2; have q3 := hW.1.xv.xw.row.atEp _ ho; go_simp; try (intro h; omega)⟩) hS ?_
      try simp only [Act.put, List.setIfInBounds_toArray, List.set_cons_zero, List.set_cons_succ]
      refine wpAnyT_take (i := 9) (oi := ⟨some 112, _, _, _, _, _⟩) (v := .int .u64 (u.ep o : Int)) rfl (by kernel_rfl) (by kernel_rfl) (by kernel_rfl) (by kernel_rfl) (fun _ _ _ h => h) (Or.inl ⟨by rfl, fun W hW => by have q0 := hW.1.xv.xw.x0; have q1 := hW.1.xv.xw.x1; have q2 := hW.1.xv.xw.x2; have q3 := hW.1.xv.xw.row.atEp _ ho; go_simp; try (intro h; omega)⟩) hS ?_
      try simp only [Act.put, List.setIfInBounds_toArray, List.set_cons_zero, List.set_cons_succ]
      refine wpAnyT_take (i := 10) (oi := ⟨some 113, _, _, _, _, _⟩) (v := .pointer (some ⟨w.heap.size, 2, none⟩)) rfl (by kernel_rfl) (by kernel_rfl) (by kernel_rfl) (by kernel_rfl) (fun _ _ _ h => h) (Or.inl ⟨by rfl, fun W hW => by have q0 := hW.1.xv.xw.x0; have q1 := hW.1.xv.xw.x1; have q2 := hW.1.xv.xw.x2; have q3 := hW.1.xv.xw.row.atEp _ ho; go_simp; try (intro h; omega)⟩) hS ?_
      try simp only [Act.put, List.setIfInBounds_toArray, List.set_cons_zero, List.set_cons_succ]
      refine wpAnyT_take (i := 11) (oi := ⟨some 114, _, _, _, _, _⟩) (v := .int .u64 (u.cur : Int)) rfl (by kernel_rfl) (by kernel_rfl) (by kernel_rfl) (by kernel_rfl) (fun _ _ _ h => h) (Or.inl ⟨by rfl, fun W hW => by have q0 := hW.1.xv.xw.x0; have q1 := hW.1.xv.xw.x1; have q2 := hW.1.xv.xw.x2; have q3 := hW.1.xv.xw.row.atEp _ ho; go_simp; try (intro h; omega)⟩) hS ?_
      try simp only [Act.put, List.setIfInBounds_toArray, List.set_cons_zero, List.set_cons_succ]
      refine wpAnyT_take (i := 12) (oi := ⟨some 115, _, _, _, _, _⟩) (v := .pointer (some ⟨w.heap.size, 1, none⟩)) rfl (by kernel_rfl) (by kernel_rfl) (by kernel_rfl) (by kernel_rfl) (fun _ _ _ h => h) (Or.inl ⟨by rfl, fun W hW => by have q0 := hW.1.xv.xw.x0; have q1 := hW.1.xv.xw.x1; have q2 := hW.1.xv.xw.x2; have q3 := hW.1.xv.xw.row.atEp _ ho; go_simp; try (intro h; omega)⟩) hS ?_
      try simp only [Act.put, List.setIfInBounds_toArray, List.set_cons_zero, List.set_cons_succ]
      refine wpAnyT_take (i := 13) (oi := ⟨some 116, _, _, _, _, _⟩) (v := .slice (some ⟨g', 0, none⟩) 64 c') rfl (by kernel_rfl) (by kernel_rfl) (by kernel_rfl) (by kernel_rfl) (fun _ _ _ h => h) (Or.inl ⟨by rfl, fun W hW => by have q0 := hW.1.xv.xw.x0; have q1 := hW.1.xv.xw.x1; have q2 := hW.1.xv.xw.x2; have q3 := hW.1.xv.xw.row.atEp _ ho; go_simp; try (intro h; omega)⟩) hS ?_
      try simp only [Act.put, List.setIfInBounds_toArray, List.set_cons_zero, List.set_cons_succ]
      refine wpAnyT_take (i := 14) (oi := ⟨some 117, _, _, _, _, _⟩) (v := .int .i64 (o : Int)) rfl (by kernel_rfl) (by kernel_rfl) (by kernel_rfl) (by kernel_rfl) (fun _ _ _ h => h) (Or.inl ⟨by rfl, fun W hW => by have q0 := hW.1.xv.xw.x0; have q1 := hW.1.xv.xw.x1; have q2 := hW.1.xv.xw.x2; have q3 := hW.1.xv.xw.row.atEp _ ho; go_simp; try (intro h; omega)⟩) hS ?_
      try simp only [Act.put, List.setIfInBounds_toArray, List.set_cons_zero, List.set_cons_succ]
      refine wpAnyT_take (i := 15) (oi := ⟨some 118, _, _, _, _, _⟩) (v := .pointer (some ⟨g', o * 257, none⟩)) rfl (by kernel_rfl) (by kernel_rfl) (by kernel_rfl) (by kernel_rfl) (fun _ _ _ h => h) (Or.inl ⟨by rfl, fun W hW => by have q0 := hW.1.xv.xw.x0; have q1 := hW.1.xv.xw.x1; have q2 := hW.1.xv.xw.x2; have q3 := hW.1.xv.xw.row.atEp _ ho; go_simp; try (intro h; omega)⟩) hS ?_
      try simp only [Act.put, List.setIfInBounds_toArray, List.set_cons_zero, List.set_cons_succ]
      refine wpAnyT_take (i := 16) (oi := ⟨some 119, _, _, _, _, _⟩) (v := .pointer (some ⟨g', o * 257 + 1, none⟩)) rfl (by kernel_rfl) (by kernel_rfl) (by kernel_rfl) (by kernel_rfl) (fun _ _ _ h => h) (Or.inl ⟨by rfl, fun W hW => by have q0 := hW.1.xv.xw.x0; have q1 := hW.1.xv.xw.x1; have q2 := hW.1.xv.xw.x2; have q3 := hW.1.xv.xw.row.atEp _ ho; go_simp; try (intro h; omega)⟩) hS ?_
      try simp only [Act.put, List.setIfInBounds_toArray, List.set_cons_zero, List.set_cons_succ]
      refine wpAnyT_take (i := 17) (oi := ⟨some 120, _, _, _, _, _⟩) (v := .agg a5) rfl (by kernel_rfl) (by kernel_rfl) (by kernel_rfl) (by kernel_rfl) (fun _ _ _ h => h) (yields_mid (by rfl) 43 (.tmp 119) rfl g' (o * 257 + 1) rfl a5 _ (fun W h => h.2) Tryz.underlying43 rfl hia) hS ?_
      try simp only [Act.put, List.setIfInBounds_toArray, List.set_cons_zero, List.set_cons_succ]
      have hbd := build_pk ha.size (.int .i64 3) (.int .i64 (u.self : Int)) (.int .i64 (o : Int)) (.int .u64 (u.ep o : Int)) (.int .u64 (u.cur : Int))
      rw [ha.size] at hbd
      have hpk : PkIs (#[.int .i64 3, .int .i64 (u.self : Int), .int .i64 (o : Int), .int .u64 (u.ep o : Int), .int .u64 (u.cur : Int)] ++ a5) (trimP ⟨3, u.self, o, u.ep o, u.cur, u.cl o⟩) := ⟨a5, rfl, ha, hep, hc9⟩
      have has := ha.size
      generalize hc5 : #[Value.int .i64 3, .int .i64 (u.self : Int), .int .i64 (o : Int), .int .u64 (u.ep o : Int), .int .u64 (u.cur : Int)] ++ a5 = c5 at *
      have hc5 := Lib.hid hc5
      have hcs5 : c5.size = 261 := hpk.size
      replace hpk := Lib.hid hpk
      replace hS := Lib.hid hS
      replace hown := Lib.hid hown
      refine wpAnyT_one (i := 18) (o := ⟨some 121, _, _, _, _, _⟩) (by kernel_rfl) rfl (fun K hK => ?_)
      go_simp
      go_wp2_with fail
      refine hK.out _ _ (fun _ => hS.out) ?_
      clear hK K hbd
      try simp only [Act.put, List.setIfInBounds_toArray, List.set_cons_zero, List.set_cons_succ]
      have n6 := below_new' W4 (.cells c5 67)
      have hS6 : TX w g' c' ck u (W4.alloc (.cells c5 67)) ∧ (W4.alloc (.cells c5 67)).rangeAt g' (o * 257 + 1) a5.toList := ⟨hS.out.1.below n6, fun j v hj => (n6.cell (p := ⟨g', o * 257 + 1 + j, none⟩) hgW2).trans (hS.out.2 j v hj)⟩
      have hown6 := hown.out.alloc (.cells c5 67)
      replace hS6 := Lib.hid hS6
      replace hown6 := Lib.hid hown6
      replace n6 := Lib.hid n6
      refine wpAnyT_one (i := 19) (o := ⟨some 122, _, _, _, _, _⟩) (by kernel_rfl) rfl (fun K hK => ?_)
      refine wp_build1 (.tmp 121) c5 rfl rfl hcs5 ?_
      refine hK.out _ _ (fun _ => hS6.out) ?_
      clear hK K
      try simp only [Act.put, List.setIfInBounds_toArray, List.set_cons_zero, List.set_cons_succ]
      refine wpAnyT_one (i := 20) (o := ⟨some 123, _, _, _, _, _⟩) (by kernel_rfl) rfl (fun K hK => ?_)
      have hln : (W4.alloc (.cells c5 67)).heap.size = W4.heap.size + 1 := by simp
      have hll2 : (trimL l1).length ≤ 1 := by unfold trimL; rw [List.length_map]; exact hll
      refine wp_append_own _ (.tmp 103) (.tmp 122) 81 rfl (g' + 1) 67 i0 (.agg Tryz.zeroCells67) 261 2088 Tryz.underlying81 hi0 hz0 hz1 hz2 (zero_pk.size) (by decide) xl _ _ rfl hown6.out ⟨W4.heap.size, 0, none⟩ 1 1 c5.toList rfl (by rw [Array.length_toList, hcs5]) (news_row _ _ _) (one_row hpk.out.one) (by simp only [maxLen]; omega) (by omega) (by omega) ?_
      intro x' W7 hown7 hgr _
      have hb7 : Below (g' + 1) (W4.alloc (.cells c5 67)) W7 := (Below.refl _ _).grown hgr (by omega) (fun k hk => (hown6.out.lt k hk).1)
      have hS7 : TX w g' c' ck u W7 ∧ W7.rangeAt g' (o * 257 + 1) a5.toList := by
        have h9 := hS6.out
        have hb8 : ∀ k, k < g' + 1 → W7.heap[k]? = (W4.alloc (.cells c5 67)).heap[k]? := hb7.block
        obtain ⟨cr, hr1, hr2⟩ := h9.1.xv.xw.row
        exact ⟨⟨⟨⟨but_below (h9.1.but.trans (hb7.mono (by omega))) _, (hb8 _ (by omega)).trans h9.1.xv.xw.box, ⟨cr, (hb8 _ (by omega)).trans hr1, hr2⟩, h9.1.xv.xw.ne⟩, (hb8 _ (by omega)).trans h9.1.xv.rvb, h9.1.xv.rne, h9.1.xv.pne⟩, (hb8 _ (by omega)).trans h9.1.pb⟩, fun j v hj => (hb7.cell (p := ⟨g', o * 257 + 1 + j, none⟩) (by show g' < g' + 1; omega)).trans (h9.2 j v hj)⟩
      refine hK.out _ _ (fun _ => hS7) ?_
      clear hK K
      try simp only [Act.put, List.setIfInBounds_toArray, List.set_cons_zero, List.set_cons_succ]
      replace hS7 := Lib.hid hS7
      replace hown7 := Lib.hid hown7
      replace hgr := Lib.hid hgr
      replace hb7 := Lib.hid hb7
      refine wpAnyT_one (i := 21) (o := ⟨some 8, _, _, _, _, _⟩) (by kernel_rfl) rfl (fun K hK => ?_)
      go_simp
      go_wp2_with fail
      refine hK.out _ _ (fun h => absurd rfl h) ?_
      clear hK K
      try simp only [Act.put, List.setIfInBounds_toArray, List.set_cons_zero, List.set_cons_succ]
      refine wpAnyT_done (by kernel_rfl) ?_ _
      go_wp2_with fail
      refine ⟨_, TxA_mk, hS7.out.1, cs ++ [c5], ?_, ?_⟩
      · unfold trimL
        rw [List.map_append]
        exact hcs.snoc hpk.out
      · have hl9 : (trimL (l1 ++ [⟨3, u.self, o, u.ep o, u.cur, u.cl o⟩])).length = (trimL l1).length + 1 := by simp [trimL]
        rw [rowP_snoc, hl9]
        exact hown7.out
  clear hX hrow hgW W1
  intro u0 u1 u10 u11 u12 u13 u14 u15 u16 u17 u18 u19 u20 u21 u22 u23 u24 u25 u26 u27 u28 u29 u30 u31 u32 u33 u34 u35 u36 u37 u38 u39 u40 u41 u42 u43 u44 u45 u46 u47 u48 u49 u50 u51 u52 u53 u54 u55 u56 u57 u58 u59 u60 u61 u62 u63 u64 u65 u66 u67 u68 u69 u70 u71 u72 u73 u74 u75 u76 u77 u78 u79 u80 u81 u82 u83 u84 u85 u86 u87 u88 u89 u90 u91 u92 u93 u94 u95 u96 u97 u98 u99 u100 u101 u102 u103 u104 u105 u106 u107 u108 u109 u110 u111 u112 u113 u114 u115 u116 u117 u118 u119 u120 u121 u122 u123 u124 u125 xl W1 ⟨hX, hrow⟩
  obtain ⟨cs, hcs, hown⟩ := hrow
  obtain ⟨A9, d9, rfl⟩ := own_slice hown
  obtain ⟨y0, y1, y2, y3⟩ := hX.cells
  replace y3 := Lib.hid y3
  obtain ⟨q0, q1, q2, q3, q4, q5⟩ := rv_cells hX.xv.rvb
  obtain ⟨f1, f2, f3, f4⟩ := hX.fin (g0 := g) (Or.inr (by omega))
  have hown9 := own_but hown f3 (fun k hk => by omega)
  have f1 := Lib.hid f1
  have f2 := Lib.hid f2
  have f4 := Lib.hid f4
  replace hown9 := Lib.hid hown9
  clear hX f3 hown hans hll
  go_wp2_with fail
  refine bodyPost_ret (results_cell_row2 Tryz.results61 _ _ (w.heap.size + 1 + 1) 51 _ (0, 0) _ _ rfl rfl f1.out Tryz.underlying51 rfl (info51 _ _ _)) rfl ?_
  unfold XTPost
  rw [hH.out]
  exact ⟨g', c', _, rfl, ⟨cs, hcs, own_weaken hown9.out (by omega)⟩, f2.out, Or.inr (by omega), f4.out⟩
end Go.Proofs.YtgdcnenlelckhaaGreatDoor

namespace Go.Proofs.YtgdcnenlelckhaaGreatDoor
open Go.RowKit Go.Proofs.YtgdcnenlelckhaaGreatDoorW.PrintWords
open SlS SlT
theorem xTake_calls {g c : Nat} {x : XS} (w : World) (h : XR w g x) (ck : Array Value) (q : Pkt) (hq : PkIs ck q) (hs64 : x.self < 64) (hcur : x.cur + 1 < 18446744073709551616) : Calls Tryz.prog 61 #[.agg #[.int .i64 (x.self : Int), .slice (some ⟨g, 0, none⟩) 64 c, .int .u64 (x.cur : Int)], .agg ck] w (XTPost w g x q) := by
  cases h1 : rightP q with
  | false => exact xTake_idleA w h ck q hq h1
  | true =>
    by_cases h2 : 4611686018427387904 < q.cur
    · exact xTake_idleB w h ck q hq h1 h2
    · by_cases h3 : q.fr = (x.self : Int)
      · exact xTake_idleC w h ck q hq h1 (by omega) h3
      · by_cases h5 : q.kind = 3
        · by_cases h6 : q.of_ = (x.self : Int)
          · exact xTake_idleD w h ck q hq h1 (by omega) h3 h5 h6
          · exact xTake_update w h ck q hq h1 (by omega) h3 h5 h6 hs64 hcur
        · exact xTake_other w h ck q hq h1 (by omega) h3 h5 hs64 hcur
theorem encT_congr {a b : Pkt} (h : PktEq a b) : encT a = encT b := by
  have hh : printH (hasN a.cl) = printH (hasN b.cl) := printH_congr fun n hn => by
    unfold hasN
    rw [h.cl (n / 64) (by omega)]
  unfold encT rightP
  rw [h.kind, h.fr, h.of_, h.ep, h.cur, hh]
theorem trim_eq (q : Pkt) : PktEq (trimP q) q := ⟨rfl, rfl, rfl, rfl, rfl, fun i hi => by show (if i < 256 then q.cl i else 0) = q.cl i; rw [if_pos hi]⟩
theorem encT_trim (q : Pkt) : encT (trimP q) = encT q := encT_congr (trim_eq q)
theorem refEncode_pk {c : Array Value} {q : Pkt} (hq : PkIs c q) (w : World) (hE : Env w) : Calls Tryz.prog 45 #[.agg c] w fun r w' => ∃ x : Int, r = .returned (.tuple #[.string (encT q), .int .i64 x]) ∧ Below w.heap.size w w' := by
  obtain ⟨a, h⟩ := hq
  refine (refEncode_calls c _ _ _ _ _ a _ h w hE).mono ?_
  rintro r w' ⟨rfl, hb⟩
  unfold encR encT rightP
  cases rightV q.kind q.fr q.of_ q.ep q.cur with
  | true => exact ⟨0, rfl, hb⟩
  | false => exact ⟨140, rfl, hb⟩
theorem info_rout' : ∃ i0, Tryz.prog.info? 97 = some i0 ∧ i0.zero = some (.agg #[.int .i64 0, .string ⟨#[]⟩]) ∧ i0.size = 2 ∧ i0.bytes = 24 := info_parts (by kernel_rfl)
theorem out_one (l : List (Int × ByteArray)) : ∀ u ∈ outR l, u.oneCell' = true := by
  intro u hu
  unfold outR at hu
  obtain ⟨p, -, hp⟩ := List.mem_flatMap.1 hu
  rcases List.mem_cons.1 hp with rfl | h
  · rfl
  · rw [List.mem_singleton.1 h]; rfl
/-- a row of what goes out, set behind another -/
theorem wp_appO {o : Oper} {a : Act} {w : World} {K : Act → World → Prop} {Q : Exit → Act → World → Prop} (s x : Operand)
    (ho : o.op = .call { callee := .builtin .append, args := #[s, x], argTypes := #[55, 55] })
    (base base2 : Nat) (v v2 : Value) (n1 n2 : Nat) (l1 l2 : List (Int × ByteArray)) (hs : a.eval s = v) (hx : a.eval x = v2) (h1 : w.ownsRow base 97 2 v n1 (outR l1)) (h2 : w.ownsRow base2 97 2 v2 n2 (outR l2))
    (hl : n1 + n2 ≤ 4294967296) (hbase : base ≤ w.heap.size)
    (h : ∀ A c w', w'.ownsRow base 97 2 (.slice A (n1 + n2) c) (n1 + n2) (outR (l1 ++ l2)) → Below base w w' → K (a.put o.dst (.slice A (n1 + n2) c)) w') : o.wp Tryz.prog a w K Q := by
  obtain ⟨i0, hi0, hz0, hz1, hz2⟩ := info_rout'
  have fin : ∀ v' w', w'.ownsRow base 97 2 v' (n1 + n2) (outR l1 ++ outR l2) → Below base w w' → K (a.put o.dst v') w' := fun v' w' hown hb => by
    obtain ⟨A, c, rfl⟩ := own_slice hown
    rw [← outR_app] at hown
    exact h A c w' hown hb
  rcases h2.2 with ⟨rfl, hn⟩ | ⟨g2, cap2, cur2, rfl, -⟩
  · have hr := run_append_owned_none (P := Tryz.prog) (w := w) base 55 o.type 97 i0 2 Tryz.underlying55 hi0 v n1 (outR l1) h1
    subst hn
    have e0 : outR l2 = [] := List.length_eq_zero_iff.1 (by have := h2.1; omega)
    unfold Oper.wp execOp
    simp only [ho, resolve, invoke, builtin, Sem.run_bind, Sem.run_pure, Result.andThen_ok, List.map_toArray, List.map_cons, List.map_nil, hs, hx, hr]
    exact fin v w (by rw [e0, List.append_nil]; exact h1) (Below.refl _ _)
  · refine wp_append_own w s x 55 ho base 97 i0 _ 2 24 Tryz.underlying55 hi0 hz0 hz1 hz2 rfl (by decide) v n1 (outR l1) hs h1 ⟨g2, 0, none⟩ n2 cap2 (outR l2) hx h2.1 (h2.cells (g := g2) rfl) (out_one l2) (by simp only [maxLen]; omega) (by omega) hbase ?_
    intro v' w' hown hgrow hh
    exact fin v' w' hown ((Below.refl _ _).grown hgrow hbase fun k hk => (h1.lt k hk).1)
theorem wpList_appO {ops : Array Oper} {rest : List Oper} {o : Oper} {a : Act} {w : World} {Q : Exit → Act → World → Prop} (hgd : o.guard = none) (s x : Operand)
    (ho : o.op = .call { callee := .builtin .append, args := #[s, x], argTypes := #[55, 55] })
    (base base2 : Nat) (v v2 : Value) (n1 n2 : Nat) (l1 l2 : List (Int × ByteArray)) (hs : a.eval s = v) (hx : a.eval x = v2) (h1 : w.ownsRow base 97 2 v n1 (outR l1)) (h2 : w.ownsRow base2 97 2 v2 n2 (outR l2))
    (hl : n1 + n2 ≤ 4294967296) (hbase : base ≤ w.heap.size)
    (h : ∀ A c w', w'.ownsRow base 97 2 (.slice A (n1 + n2) c) (n1 + n2) (outR (l1 ++ l2)) → Below base w w' → wpList Tryz.prog ops Q rest (a.put o.dst (.slice A (n1 + n2) c)) w') : wpList Tryz.prog ops Q (o :: rest) a w :=
  wpList_plain hgd fun _ hK => wp_appO s x ho base base2 v v2 n1 n2 l1 l2 hs hx h1 h2 hl hbase fun A c w' h3 h4 => hK _ _ (h A c w' h3 h4)
/-- what stands while packets go out -/
structure LdW (w : World) (g c sf cu : Nat) (y : Value) (W : World) : Prop where
  bel : Below w.heap.size w W
  box : W.heap[w.heap.size]? = some (.cells #[.int .i64 (sf : Int), .slice (some ⟨g, 0, none⟩) 64 c, .int .u64 (cu : Int), y] 57 (0, 0))
  rvb : W.heap[w.heap.size + 1]? = some (.cells #[.int .i64 0, .slice none 0 0, .int .u64 0, .slice none 0 0] 57 (0, 0))
theorem LdW.keep {w : World} {g c sf cu : Nat} {y : Value} {W W' : World} (h : LdW w g c sf cu y W) (hb : Below (w.heap.size + 1 + 1) W W') : LdW w g c sf cu y W' :=
  ⟨h.bel.trans (hb.mono (by omega)), (hb.block _ (by omega)).trans h.box, (hb.block _ (by omega)).trans h.rvb⟩
set_option maxHeartbeats 4000000 in
set_option maxRecDepth 100000 in
theorem laid_calls {g c sf cu : Nat} {y : Value} {l : List (Int × ByteArray)} (w : World) (hE : Env w) (hown : w.ownsRow 0 97 2 y l.length (outR l)) (tgt : Int) (z : Value) (cs : List (Array Value)) (ps : List Pkt) (hcs : PksIs cs ps) (base : Nat)
    (hrow : w.ownsRow base 67 261 z ps.length (rowP cs)) (hps : ps.length ≤ 2) (hl : l.length ≤ 1000000000) :
    Calls Tryz.prog 59 #[.agg #[.int .i64 (sf : Int), .slice (some ⟨g, 0, none⟩) 64 c, .int .u64 (cu : Int), y], .int .i64 tgt, z] w fun r w' =>
      ∃ y', r = .returned (.agg #[.int .i64 (sf : Int), .slice (some ⟨g, 0, none⟩) 64 c, .int .u64 (cu : Int), y']) ∧ w'.ownsRow w.heap.size 97 2 y' (l ++ layL tgt ps).length (outR (l ++ layL tgt ps)) ∧ Below w.heap.size w w' := by
  obtain ⟨A, cc, rfl⟩ := own_slice hrow
  obtain ⟨Y, yc, rfl⟩ := own_slice hown
  obtain ⟨i0, hi0, hz0, hz1, hz2⟩ := info_rout'
  have hb1 := below_new' w (.cells #[.int .i64 (sf : Int), .slice (some ⟨g, 0, none⟩) 64 c, .int .u64 (cu : Int), .slice Y l.length yc] 57)
  have hX : LdW w g c sf cu (.slice Y l.length yc) ((w.alloc (.cells #[.int .i64 (sf : Int), .slice (some ⟨g, 0, none⟩) 64 c, .int .u64 (cu : Int), .slice Y l.length yc] 57)).alloc (.cells #[.int .i64 0, .slice none 0 0, .int .u64 0, .slice none 0 0] 57)) :=
    ⟨hb1.trans ((below_new' _ _).mono (by simp)), heap0 w _ _, heap1 w _ _⟩
  have hX := Lib.hid hX
  go_enter Tryz.func59, Tryz.ntmps59
  refine wp_cut (fun a W => a = ⟨#[.agg #[.int .i64 (sf : Int), .slice (some ⟨g, 0, none⟩) 64 c, .int .u64 (cu : Int), .slice Y l.length yc], .int .i64 tgt, .slice A ps.length cc, .pointer (some ⟨w.heap.size, 0, none⟩), undef, undef, .pointer (some ⟨w.heap.size + 1, 0, none⟩), undef, undef, undef, undef, undef, undef, undef, undef, undef, undef, undef, undef, undef, undef, undef, undef, undef, undef, undef, undef, undef, undef, undef, undef, undef, undef, undef, undef, undef, undef, undef], []⟩ ∧ LdW w g c sf cu (.slice Y l.length yc) W ∧ W.heap.size = w.heap.size + 1 + 1) ?_ ?_
  · go_wp2_with fail
    exact ⟨trivial, hX.out, by simp⟩
  clear hX hb1
  rintro _ W ⟨rfl, hX, hsz⟩
  have e3 : W.cell? ⟨w.heap.size, 3, none⟩ = some (.slice Y l.length yc) := by rw [cellBox hX.box]; rfl
  have hn := below_new' W (.cells #[] 97)
  have hX2 := hX.keep (hn.mono (by omega))
  have hN := heapN W (.cells #[] 97)
  rw [hsz] at hN
  have h0 : (W.alloc (.cells #[] 97)).ownsRow (w.heap.size + 1 + 1) 97 2 (.slice (some ⟨w.heap.size + 1 + 1, 0, none⟩) 0 0) 0 (outR []) := ⟨rfl, Or.inr ⟨w.heap.size + 1 + 1, 0, #[], rfl, by omega, hN, Nat.le_refl _, by decide, rfl, rfl⟩⟩
  have hown2 := own_keep hown (but_below hX2.bel (fun _ => False)) (fun _ _ h => h)
  have hown2 := Lib.hid hown2
  have hX2 := Lib.hid hX2
  have h0 := Lib.hid h0
  have hln : (W.alloc (.cells #[] 97)).heap.size = W.heap.size + 1 := by simp
  clear hX hn hN
  have hle1 : w.heap.size + 1 + 1 ≤ (W.alloc (.cells #[] 97)).heap.size := by omega
  go_wp2_with (at_builtin; refine wpList_appO rfl (.tmp 11) (.tmp 13) rfl (w.heap.size + 1 + 1) 0 _ _ 0 l.length [] l rfl rfl h0.out hown2.out (by omega) hle1 ?_; intro A1 c1 W1 hown1 hb1; simp only [Nat.zero_add] at hown1 ⊢; replace hown1 := Lib.hid hown1; replace hb1 := Lib.hid hb1)
  have hX1 := hX2.out.keep hb1.out
  clear hX2 hb1 h0 hown2 e3
  have hcells := PksIs.at hcs
  go_loopw [7, 8, 9, 10] (fun out i _ _ wr => ∃ k : Nat, k ≤ ps.length ∧ i = .int .i64 k ∧ wr.ownsRow (w.heap.size + 1 + 1) 97 2 out (l ++ layL tgt (ps.take k)).length (outR (l ++ layL tgt (ps.take k))) ∧ LdW w g c sf cu (.slice Y l.length yc) wr ∧ w.heap.size + 1 + 1 ≤ wr.heap.size) (fun _ i _ _ _ => ps.length - (intOf i).toNat)
  case atStart => exact ⟨0, by omega, rfl, by simpa [layL] using hown1.out, hX1, blk_lt hX1.rvb⟩
  case round =>
    clear hX1 hown1
    obtain ⟨k, hk, rfl, hown, hX, hws⟩ := hrel
    by_cases hkl : k < ps.length
    · obtain ⟨ck, q, hc, hq, hpk⟩ := hcells k hkl
      have hrow2 := own_keep hrow (but_below hX.bel (fun _ => False)) (fun _ _ h => h)
      obtain ⟨gA, cap, hgA, -, -⟩ := hrow2.form (by omega)
      obtain rfl : A = some ⟨gA, 0, none⟩ := by injection hgA
      have hgo : decide ((k : Int) < (ps.length : Int)) = true := decide_eq_true (by omega)
      have hrl := rowP_len hcs
      have hmid : wr.rangeAt gA (k * 261) ck.toList := fun j u hu => by
        have h1 := rowP_at hcs k ck hc j u hu
        have h2 : k * 261 + j < (rowP cs).length := (List.getElem?_eq_some_iff.1 h1).1
        rw [hrow2.cellAt _ (by omega)]
        exact h1
      have hil : (Tryz.prog.info? 67).map (·.size) = some ck.toList.length := by rw [Array.length_toList, hpk.size]; exact info26
      have hEnc := refEncode_pk hpk wr (hE.below hX.bel)
      have hstep : layL tgt (ps.take (k + 1)) = layL tgt (ps.take k) ++ [(tgt, encT q)] := by rw [List.take_add_one, hq]; simp [layL]
      have hlen : (l ++ layL tgt (ps.take k)).length ≤ 1000000002 := by simp [layL]; omega
      obtain ⟨A5, c5, rfl⟩ := own_slice hown
      replace hstep := Lib.hid hstep
      replace hX := Lib.hid hX
      replace hown := Lib.hid hown
      replace hEnc := Lib.hid hEnc
      have hrow := Lib.hid hrow
      have hcs := Lib.hid hcs
      have hcells := Lib.hid hcells
      clear hrow2 hrl hc hq hpk
      generalize encT q = T at *
      generalize hL : l ++ layL tgt (ps.take k) = L at *
      replace hL := Lib.hid hL
      go_wp2_with (refine wpList_load_mid rfl 67 _ rfl gA (k * 261) rfl ck.toList _ hmid Tryz.underlying67 rfl hil ?_; rw [Array.toArray_toList])
      refine hEnc.out.mono ?_
      rintro e W3 ⟨x9, rfl, hb3⟩
      have hX3 := hX.out.keep (hb3.mono hws)
      have hown3 := pw_own_below hown.out hb3
      have n3 := below_new' W3 (.cells #[.int .i64 tgt, .string T] 97)
      have hX4 := hX3.keep (n3.mono (by have := hb3.size; omega))
      have hown4 := hown3.alloc (.cells #[.int .i64 tgt, .string T] 97)
      have hnew : (W3.alloc (.cells #[.int .i64 tgt, .string T] 97)).ownsRow 0 97 2 (.slice (some ⟨W3.heap.size, 0, none⟩) 1 1) 1 (outR [(tgt, T)]) := ⟨rfl, Or.inr ⟨W3.heap.size, 1, #[.int .i64 tgt, .string T], rfl, Nat.zero_le _, heapN W3 _, Nat.le_refl _, by decide, rfl, rfl⟩⟩
      have hln3 : (W3.alloc (.cells #[.int .i64 tgt, .string T] 97)).heap.size = W3.heap.size + 1 := by simp
      have hws3 := hb3.size
      replace hX4 := Lib.hid hX4
      replace hown4 := Lib.hid hown4
      replace hnew := Lib.hid hnew
      clear hb3 hX3 hown3 n3 hEnc hX hown hmid
      have hle3 : w.heap.size + 1 + 1 ≤ (W3.alloc (.cells #[.int .i64 tgt, .string T] 97)).heap.size := by omega
      go_wp2_with (at_builtin; refine wpList_appO rfl (.tmp 29) (.tmp 33) rfl (w.heap.size + 1 + 1) 0 _ _ L.length 1 L [(tgt, T)] rfl rfl hown4.out hnew.out (by omega) hle3 ?_; intro A6 c6 W6 hown6 hb6; replace hown6 := Lib.hid hown6; replace hb6 := Lib.hid hb6)
      refine ⟨⟨k + 1, by omega, by go_num, ?_, hX4.out.keep hb6.out, by have := hb6.out.size; omega⟩, by simp [intOf]; omega⟩
      rw [hstep.out, ← List.append_assoc, hL.out, List.length_append]
      exact hown6.out
    · obtain rfl : k = ps.length := by omega
      have hgo : decide ((ps.length : Int) < (ps.length : Int)) = false := decide_eq_false (by omega)
      rw [List.take_length] at hown
      obtain ⟨A5, c5, rfl⟩ := own_slice hown
      have e0 : wr.cell? ⟨w.heap.size, 0, none⟩ = some (.int .i64 (sf : Int)) := by rw [cellBox hX.box]; rfl
      have e1 : wr.cell? ⟨w.heap.size, 1, none⟩ = some (.slice (some ⟨g, 0, none⟩) 64 c) := by rw [cellBox hX.box]; rfl
      have e2 : wr.cell? ⟨w.heap.size, 2, none⟩ = some (.int .u64 (cu : Int)) := by rw [cellBox hX.box]; rfl
      have e3 : wr.cell? ⟨w.heap.size, 3, none⟩ = some (.slice Y l.length yc) := by rw [cellBox hX.box]; rfl
      have e4 : wr.frozen? ⟨w.heap.size, 3, none⟩ = false := openBox hX.box
      have g1 : But (fun k => k = w.heap.size) wr (wr.setCell ⟨w.heap.size, 3, none⟩ (.slice A5 (l ++ layL tgt ps).length c5)) := (But.refl (fun k => k = w.heap.size) wr).set (p := ⟨w.heap.size, 3, none⟩) (fun _ => rfl) _
      have hrv := (g1.block (w.heap.size + 1) (by omega) (by omega)).trans hX.rvb
      have q0 : wr.cell? ⟨w.heap.size + 1, 0, none⟩ = some (.int .i64 0) := by rw [cellBox hX.rvb]; rfl
      have q1 : wr.cell? ⟨w.heap.size + 1, 1, none⟩ = some (.slice none 0 0) := by rw [cellBox hX.rvb]; rfl
      have q2 : wr.cell? ⟨w.heap.size + 1, 2, none⟩ = some (.int .u64 0) := by rw [cellBox hX.rvb]; rfl
      have q3 : wr.cell? ⟨w.heap.size + 1, 3, none⟩ = some (.slice none 0 0) := by rw [cellBox hX.rvb]; rfl
      have q4 : wr.frozen? ⟨w.heap.size + 1, 0, none⟩ = false := openBox hX.rvb
      have q5 : wr.frozen? ⟨w.heap.size + 1, 1, none⟩ = false := openBox hX.rvb
      have q6 : wr.frozen? ⟨w.heap.size + 1, 2, none⟩ = false := openBox hX.rvb
      have q7 : wr.frozen? ⟨w.heap.size + 1, 3, none⟩ = false := openBox hX.rvb
      have s1 := heap_setCell_same _ (w.heap.size + 1) 0 _ _ (.int .i64 (sf : Int)) hrv
      have s2 := heap_setCell_same _ (w.heap.size + 1) 1 _ _ (.slice (some ⟨g, 0, none⟩) 64 c) s1
      have s3 := heap_setCell_same _ (w.heap.size + 1) 2 _ _ (.int .u64 (cu : Int)) s2
      have s4 := heap_setCell_same _ (w.heap.size + 1) 3 _ _ (.slice A5 (l ++ layL tgt ps).length c5) s3
      have g2 := (((((But.refl (fun k => k = w.heap.size ∨ k = w.heap.size + 1) wr).set (p := ⟨w.heap.size, 3, none⟩) (fun _ => Or.inl rfl) (.slice A5 (l ++ layL tgt ps).length c5)).set (p := ⟨w.heap.size + 1, 0, none⟩) (fun _ => Or.inr rfl) (.int .i64 (sf : Int))).set (p := ⟨w.heap.size + 1, 1, none⟩) (fun _ => Or.inr rfl) (.slice (some ⟨g, 0, none⟩) 64 c)).set (p := ⟨w.heap.size + 1, 2, none⟩) (fun _ => Or.inr rfl) (.int .u64 (cu : Int))).set (p := ⟨w.heap.size + 1, 3, none⟩) (fun _ => Or.inr rfl) (.slice A5 (l ++ layL tgt ps).length c5)
      have hown9 := own_but hown g2 (fun k hk => by rcases hk with h | h <;> omega)
      have hbw := hX.bel.trans (g2.below (n := w.heap.size) (by omega) (fun i hi e => by rcases e with h | h <;> omega))
      have s4 := Lib.hid s4
      replace hown9 := Lib.hid hown9
      replace hbw := Lib.hid hbw
      have hrow := Lib.hid hrow
      have hcs := Lib.hid hcs
      have hcells := Lib.hid hcells
      clear hX hown g1 g2 hrv s1 s2 s3
      generalize hL : l ++ layL tgt ps = L at *
      replace hL := Lib.hid hL
      go_wp2_with fail
      refine bodyPost_ret (results_cell_row Tryz.results59 _ _ (w.heap.size + 1) 57 #[.int .i64 (sf : Int), .slice (some ⟨g, 0, none⟩) 64 c, .int .u64 (cu : Int), .slice A5 L.length c5] (0, 0) _ rfl (by simpa using s4.out) Tryz.underlying57 rfl (by kernel_rfl)) rfl ⟨_, rfl, by rw [hL.out]; exact own_weaken (base := w.heap.size + 1 + 1) (base' := w.heap.size) hown9.out (by omega), hbw.out⟩
end Go.Proofs.YtgdcnenlelckhaaGreatDoor

namespace Go.Proofs.YtgdcnenlelckhaaGreatDoor
open Go.RowKit Go.Proofs.YtgdcnenlelckhaaGreatDoorW.PrintWords
open SlS SlT
/-- a bus by value -/
structure XBus (W : World) (g : Nat) (y : Value) (x : XS) (l : List (Int × ByteArray)) : Prop where
  row : XR W g x
  outs : W.ownsRow 0 97 2 y l.length (outR l)
theorem XBus.below {W W' : World} {g : Nat} {y : Value} {x : XS} {l : List (Int × ByteArray)} (h : XBus W g y x l) (hb : Below W.heap.size W W') : XBus W' g y x l := ⟨h.row.below hb, pw_own_below h.outs hb⟩
theorem XBus.keep {S : Nat → Prop} {W W' : World} {g : Nat} {y : Value} {x : XS} {l : List (Int × ByteArray)} (h : XBus W g y x l) (hb : But S W W') (hg : ¬ S g) (hy : ∀ k, y.ownBlock = some k → ¬ S k) : XBus W' g y x l := ⟨h.row.keep hb hg, own_keep h.outs hb hy⟩
/-- a bus and something are answered -/
def XBRes (w : World) (x : XS) (l : List (Int × ByteArray)) (e : Value) (r : Ending) (w' : World) : Prop :=
  ∃ g' c' y', r = .returned (.tuple #[.agg #[.int .i64 (x.self : Int), .slice (some ⟨g', 0, none⟩) 64 c', .int .u64 (x.cur : Int), y'], e]) ∧ XBus w' g' y' x l ∧ Below w.heap.size w w'
def tellR (x : XS) (l : List (Int × ByteArray)) (kind tgt : Int) : List (Int × ByteArray) := if 0 ≤ tgt ∧ tgt < 64 ∧ tgt ≠ (x.self : Int) then l ++ layL tgt [tellX x kind] else l
def tellEr (x : XS) (tgt : Int) : Int := if 0 ≤ tgt ∧ tgt < 64 ∧ tgt ≠ (x.self : Int) then 0 else 150
theorem layL_trim (tgt : Int) : ∀ l : List Pkt, layL tgt (trimL l) = layL tgt l
  | [] => rfl
  | q :: l => by
    show (tgt, encT (trimP q)) :: layL tgt (trimL l) = (tgt, encT q) :: layL tgt l
    rw [encT_trim, layL_trim tgt l]
theorem info57 (a b c d : Value) : (Tryz.prog.info? 57).map (·.size) = some (#[a, b, c, d] : Array Value).size := by
  have : (Tryz.prog.info? 57).map (·.size) = some 4 := by kernel_rfl
  rw [this]; rfl
/-- what stands while a bus is worked on -/
structure BuW (w : World) (g c sf cu : Nat) (y : Value) (x : XS) (l : List (Int × ByteArray)) (W : World) : Prop where
  ld : LdW w g c sf cu y W
  bus : XBus W g y x l
theorem BuW.below {w : World} {g c sf cu : Nat} {y : Value} {x : XS} {l : List (Int × ByteArray)} {W W' : World} (h : BuW w g c sf cu y x l W) (hb : Below W.heap.size W W') : BuW w g c sf cu y x l W' := ⟨h.ld.keep (hb.mono (by have := blk_lt h.ld.rvb; omega)), h.bus.below hb⟩
theorem buW_start {w : World} {g c sf cu : Nat} {y : Value} {x : XS} {l : List (Int × ByteArray)} (h : XBus w g y x l) : BuW w g c sf cu y x l ((w.alloc (.cells #[.int .i64 (sf : Int), .slice (some ⟨g, 0, none⟩) 64 c, .int .u64 (cu : Int), y] 57)).alloc (.cells #[.int .i64 0, .slice none 0 0, .int .u64 0, .slice none 0 0] 57)) := by
  have hb1 := below_new' w (.cells #[.int .i64 (sf : Int), .slice (some ⟨g, 0, none⟩) 64 c, .int .u64 (cu : Int), y] 57)
  exact ⟨⟨hb1.trans ((below_new' _ _).mono (by simp)), heap0 w _ _, heap1 w _ _⟩, (h.below hb1).below (below_new' _ _)⟩
theorem LdW.cells {w : World} {g c sf cu : Nat} {y : Value} {W : World} (h : LdW w g c sf cu y W) : W.cell? ⟨w.heap.size, 0, none⟩ = some (.int .i64 (sf : Int)) ∧ W.cell? ⟨w.heap.size, 1, none⟩ = some (.slice (some ⟨g, 0, none⟩) 64 c) ∧ W.cell? ⟨w.heap.size, 2, none⟩ = some (.int .u64 (cu : Int)) ∧ W.cell? ⟨w.heap.size, 3, none⟩ = some y :=
  ⟨by rw [cellBox h.box]; rfl, by rw [cellBox h.box]; rfl, by rw [cellBox h.box]; rfl, by rw [cellBox h.box]; rfl⟩
theorem LdW.rv {w : World} {g c sf cu : Nat} {y : Value} {W : World} (h : LdW w g c sf cu y W) : W.cell? ⟨w.heap.size + 1, 0, none⟩ = some (.int .i64 0) ∧ W.cell? ⟨w.heap.size + 1, 1, none⟩ = some (.slice none 0 0) ∧ W.cell? ⟨w.heap.size + 1, 2, none⟩ = some (.int .u64 0) ∧ W.cell? ⟨w.heap.size + 1, 3, none⟩ = some (.slice none 0 0) ∧
    W.frozen? ⟨w.heap.size + 1, 0, none⟩ = false ∧ W.frozen? ⟨w.heap.size + 1, 1, none⟩ = false ∧ W.frozen? ⟨w.heap.size + 1, 2, none⟩ = false ∧ W.frozen? ⟨w.heap.size + 1, 3, none⟩ = false :=
  ⟨by rw [cellBox h.rvb]; rfl, by rw [cellBox h.rvb]; rfl, by rw [cellBox h.rvb]; rfl, by rw [cellBox h.rvb]; rfl, openBox h.rvb, openBox h.rvb, openBox h.rvb, openBox h.rvb⟩
theorem rv4 {W : World} {rv : Nat} {a0 b0 c0 d0 : Value} (h : W.heap[rv]? = some (.cells #[a0, b0, c0, d0] 57 (0, 0))) (a b c d : Value) :
    ((((W.setCell ⟨rv, 0, none⟩ a).setCell ⟨rv, 1, none⟩ b).setCell ⟨rv, 2, none⟩ c).setCell ⟨rv, 3, none⟩ d).heap[rv]? = some (.cells #[a, b, c, d] 57 (0, 0)) ∧ But (fun k => k = rv) W ((((W.setCell ⟨rv, 0, none⟩ a).setCell ⟨rv, 1, none⟩ b).setCell ⟨rv, 2, none⟩ c).setCell ⟨rv, 3, none⟩ d) := by
  have h1 := heap_setCell_same _ rv 0 _ _ a h
  have h2 := heap_setCell_same _ rv 1 _ _ b h1
  have h3 := heap_setCell_same _ rv 2 _ _ c h2
  have h4 := heap_setCell_same _ rv 3 _ _ d h3
  exact ⟨by simpa using h4, ((((But.refl (fun k => k = rv) W).set (p := ⟨rv, 0, none⟩) (fun _ => rfl) a).set (p := ⟨rv, 1, none⟩) (fun _ => rfl) b).set (p := ⟨rv, 2, none⟩) (fun _ => rfl) c).set (p := ⟨rv, 3, none⟩) (fun _ => rfl) d⟩
theorem box4 {W : World} {p : Nat} {a b c d : Value} (h : W.heap[p]? = some (.cells #[a, b, c, d] 57 (0, 0))) : W.cell? ⟨p, 0, none⟩ = some a ∧ W.cell? ⟨p, 1, none⟩ = some b ∧ W.cell? ⟨p, 2, none⟩ = some c ∧ W.cell? ⟨p, 3, none⟩ = some d :=
  ⟨by rw [cellBox h]; rfl, by rw [cellBox h]; rfl, by rw [cellBox h]; rfl, by rw [cellBox h]; rfl⟩
theorem one57 (sf : Int) (g c : Nat) (cu : Int) (Y : Option Addr) (n k : Nat) : (#[Value.int .i64 sf, .slice (some ⟨g, 0, none⟩) 64 c, .int .u64 cu, .slice Y n k]).all (·.oneCell') = true := by simp [Value.oneCell']
set_option maxHeartbeats 4000000 in
set_option maxRecDepth 100000 in
theorem rTell_calls {g c : Nat} {y : Value} {x : XS} {l : List (Int × ByteArray)} (w : World) (hE : Env w) (h : XBus w g y x l) (kind tgt : Int) (hs64 : x.self < 64) (hcu : x.cur < 18446744073709551616) (hl : l.length ≤ 1000000000) :
    Calls Tryz.prog 35 #[.agg #[.int .i64 (x.self : Int), .slice (some ⟨g, 0, none⟩) 64 c, .int .u64 (x.cur : Int), y], .int .i64 kind, .int .i64 tgt] w (XBRes w x (tellR x l kind tgt) (.int .i64 (tellEr x tgt))) := by
  obtain ⟨Y, yc, rfl⟩ := own_slice h.outs
  have idle : tellR x l kind tgt = l → tellEr x tgt = 150 → XBRes w x (tellR x l kind tgt) (.int .i64 (tellEr x tgt)) (.returned (.tuple #[.agg #[.int .i64 (x.self : Int), .slice (some ⟨g, 0, none⟩) 64 c, .int .u64 (x.cur : Int), .slice Y l.length yc], .int .i64 150])) ((w.alloc (.cells #[.int .i64 (x.self : Int), .slice (some ⟨g, 0, none⟩) 64 c, .int .u64 (x.cur : Int), .slice Y l.length yc] 57)).alloc (.cells #[.int .i64 (x.self : Int), .slice (some ⟨g, 0, none⟩) 64 c, .int .u64 (x.cur : Int), .slice Y l.length yc] 57)) := fun h1 h2 => by
    rw [h1, h2]
    exact ⟨g, c, _, rfl, (h.below (below_new' _ _)).below (below_new' _ _), (below_new' w _).trans ((below_new' _ _).mono (by simp))⟩
  by_cases h1 : tgt < 0
  · have hd : decide (tgt < 0) = true := decide_eq_true h1
    have hf := Lib.hid (idle (by unfold tellR; rw [if_neg (by omega)]) (by unfold tellEr; rw [if_neg (by omega)]))
    clear idle h
    go_enter Tryz.func35, Tryz.ntmps35
    go_wp2_with fail
    refine bodyPost_ret (results_cell_row2 Tryz.results35 _ _ (w.heap.size + 1) 57 _ (0, 0) _ _ rfl rfl (two_blk w _ _) Tryz.underlying57 rfl (info57 _ _ _ _)) rfl hf.out
  · have hd : decide (tgt < 0) = false := decide_eq_false h1
    by_cases h2 : 63 < tgt
    · have hd2 : decide (63 < tgt) = true := decide_eq_true h2
      have hf := Lib.hid (idle (by unfold tellR; rw [if_neg (by omega)]) (by unfold tellEr; rw [if_neg (by omega)]))
      clear idle h
      go_enter Tryz.func35, Tryz.ntmps35
      go_wp2_with fail
      refine bodyPost_ret (results_cell_row2 Tryz.results35 _ _ (w.heap.size + 1) 57 _ (0, 0) _ _ rfl rfl (two_blk w _ _) Tryz.underlying57 rfl (info57 _ _ _ _)) rfl hf.out
    · have hd2 : decide (63 < tgt) = false := decide_eq_false h2
      by_cases h3 : tgt = (x.self : Int)
      · have hd3 : (tgt == (x.self : Int)) = true := beq_iff_eq.2 h3
        have hf := Lib.hid (idle (by unfold tellR; rw [if_neg (by omega)]) (by unfold tellEr; rw [if_neg (by omega)]))
        replace h3 := Lib.hid h3
        clear idle h
        go_enter Tryz.func35, Tryz.ntmps35
        go_wp2_with fail
        refine bodyPost_ret (results_cell_row2 Tryz.results35 _ _ (w.heap.size + 1) 57 _ (0, 0) _ _ rfl rfl (two_blk w _ _) Tryz.underlying57 rfl (info57 _ _ _ _)) rfl hf.out
      · have hd3 : (tgt == (x.self : Int)) = false := beq_eq_false_iff_ne.2 h3
        have hR : tellR x l kind tgt = l ++ layL tgt [tellX x kind] := by unfold tellR; rw [if_pos ⟨by omega, by omega, h3⟩]
        have hEr : tellEr x tgt = 0 := by unfold tellEr; rw [if_pos ⟨by omega, by omega, h3⟩]
        rw [hR, hEr]
        clear idle hR hEr
        have hX := buW_start (c := c) (sf := x.self) (cu := x.cur) h
        replace hX := Lib.hid hX
        replace h3 := Lib.hid h3
        clear h
        go_enter Tryz.func35, Tryz.ntmps35
        go_wp2_with fail
        replace hX := hX.out.below (below_drew (Below.refl _ _))
        have hS := hX.ld.box
        refine wp_region_last (S := fun W => W.heap[w.heap.size]? = some (.cells #[.int .i64 (x.self : Int), .slice (some ⟨g, 0, none⟩) 64 c, .int .u64 (x.cur : Int), .slice Y l.length yc] 57 (0, 0))) 9 (by kernel_rfl) ?_
        generalize World.drew _ = W0 at *
        refine wpAnyT_take (i := 0) (oi := ⟨some 22, _, _, _, _, _⟩) (v := .agg #[.int .i64 (x.self : Int), .slice (some ⟨g, 0, none⟩) 64 c, .int .u64 (x.cur : Int), .slice Y l.length yc]) rfl (by kernel_rfl) (by kernel_rfl) (by kernel_rfl) (by kernel_rfl) (fun _ _ _ h => h) (Or.inl ⟨by rfl, fun W hW => by have q0 := (box4 hW).1; have q1 := (box4 hW).2.1; have q2 := (box4 hW).2.2.1; have q3 := (box4 hW).2.2.2; go_simp⟩) hS ?_
        try simp only [Act.put, List.setIfInBounds_toArray, List.set_cons_zero, List.set_cons_succ]
        refine wpAnyT_take (i := 1) (oi := ⟨some 23, _, _, _, _, _⟩) (v := .int .i64 tgt) rfl (by kernel_rfl) (by kernel_rfl) (by kernel_rfl) (by kernel_rfl) (fun _ _ _ h => h) (Or.inl ⟨by rfl, fun W hW => by have q0 := (box4 hW).1; have q1 := (box4 hW).2.1; have q2 := (box4 hW).2.2.1; have q3 := (box4 hW).2.2.2; go_simp⟩) hS ?_
        try simp only [Act.put, List.setIfInBounds_toArray, List.set_cons_zero, List.set_cons_succ]
        refine wpAnyT_take (i := 2) (oi := ⟨some 24, _, _, _, _, _⟩) (v := .pointer (some ⟨w.heap.size, 0, none⟩)) rfl (by kernel_rfl) (by kernel_rfl) (by kernel_rfl) (by kernel_rfl) (fun _ _ _ h => h) (Or.inl ⟨by rfl, fun W hW => by have q0 := (box4 hW).1; have q1 := (box4 hW).2.1; have q2 := (box4 hW).2.2.1; have q3 := (box4 hW).2.2.2; go_simp⟩) hS ?_
        try simp only [Act.put, List.setIfInBounds_toArray, List.set_cons_zero, List.set_cons_succ]
        refine wpAnyT_take (i := 3) (oi := ⟨some 25, _, _, _, _, _⟩) (v := .agg #[.int .i64 (x.self : Int), .slice (some ⟨g, 0, none⟩) 64 c, .int .u64 (x.cur : Int)]) rfl (by kernel_rfl) (by kernel_rfl) (by kernel_rfl) (by kernel_rfl) (fun _ _ _ h => h) (Or.inl ⟨by rfl, fun W hW => by have q0 := (box4 hW).1; have q1 := (box4 hW).2.1; have q2 := (box4 hW).2.2.1; have q3 := (box4 hW).2.2.2; go_simp⟩) hS ?_
        try simp only [Act.put, List.setIfInBounds_toArray, List.set_cons_zero, List.set_cons_succ]
        refine wpAnyT_take (i := 4) (oi := ⟨some 26, _, _, _, _, _⟩) (v := .int .i64 kind) rfl (by kernel_rfl) (by kernel_rfl) (by kernel_rfl) (by kernel_rfl) (fun _ _ _ h => h) (Or.inl ⟨by rfl, fun W hW => by have q0 := (box4 hW).1; have q1 := (box4 hW).2.1; have q2 := (box4 hW).2.2.1; have q3 := (box4 hW).2.2.2; go_simp⟩) hS ?_
        try simp only [Act.put, List.setIfInBounds_toArray, List.set_cons_zero, List.set_cons_succ]
        have hT := Lib.hid (xTell_calls (c := c) W0 hX.bus.row hs64 hcu kind)
        replace hX := Lib.hid hX
        replace hS := Lib.hid hS
        refine wpAnyT_one (i := 5) (o := ⟨some 27, _, _, _, _, _⟩) (by kernel_rfl) rfl (fun K hK => ?_)
        go_simp
        refine hT.out.mono ?_
        rintro e W2 ⟨k5, rfl, hpk, hb⟩
        have hX2 := hX.out.below hb
        have n3 := below_new' W2 (.cells k5 67)
        have hX3 := hX2.below n3
        have hks := hpk.size
        have hS2 := Lib.hid hX2.ld.box
        have hN := heapN W2 (.cells k5 67)
        have hlay := laid_calls (g := g) (c := c) (sf := x.self) (cu := x.cur) _ (hE.below hX3.ld.bel) hX3.bus.outs tgt (.slice (some ⟨W2.heap.size, 0, none⟩) 1 1) [k5] [trimP (tellX x kind)] (.cons hpk .nil) 0 ⟨by simp [rowP, hks], Or.inr ⟨W2.heap.size, 1, k5, rfl, Nat.zero_le _, hN, Nat.le_refl _, by decide, by rw [hks], by simp only [rowP, List.flatMap_cons, List.flatMap_nil, List.append_nil, List.length_singleton]; rw [List.take_of_length_le (by simp [hks])]⟩⟩ (by simp) hl
        have hl2 : layL tgt [trimP (tellX x kind)] = layL tgt [tellX x kind] := layL_trim tgt [tellX x kind]
        rw [hl2] at hlay
        replace hlay := Lib.hid hlay
        replace hX3 := Lib.hid hX3
        clear hT hX hS hX2 n3 hN hb hl2
        go_wp2_with fail
        refine hK.out _ _ (fun _ => hS2.out) ?_
        clear hK K
        try simp only [Act.put, List.setIfInBounds_toArray, List.set_cons_zero, List.set_cons_succ]
        refine wpAnyT_one (i := 6) (o := ⟨some 28, _, _, _, _, _⟩) (by kernel_rfl) rfl (fun K hK => ?_)
        refine wp_build1 (.tmp 27) k5 rfl rfl hks ?_
        refine hK.out _ _ (fun _ => hX3.out.ld.box) ?_
        clear hK K
        try simp only [Act.put, List.setIfInBounds_toArray, List.set_cons_zero, List.set_cons_succ]
        refine wpAnyT_one (i := 7) (o := ⟨some 29, _, _, _, _, _⟩) (by kernel_rfl) rfl (fun K hK => ?_)
        go_simp
        refine hlay.out.mono ?_
        rintro e W5 ⟨y5, rfl, hown5, hb5⟩
        have hX5 := hX3.out.below hb5
        obtain ⟨A5, c5, rfl⟩ := own_slice hown5
        have hrv5 := hX5.ld.rvb
        have hb6 : But (fun k => k = w.heap.size + 1) W5 (W5.setRow (w.heap.size + 1) #[.int .i64 (x.self : Int), .slice (some ⟨g, 0, none⟩) 64 c, .int .u64 (x.cur : Int), .slice A5 (l ++ layL tgt [tellX x kind]).length c5]) := by
          have h9 := below_setRow (g := w.heap.size + 1) (Below.refl (w.heap.size + 1) W5) (Nat.le_refl _) #[.int .i64 (x.self : Int), .slice (some ⟨g, 0, none⟩) 64 c, .int .u64 (x.cur : Int), .slice A5 (l ++ layL tgt [tellX x kind]).length c5]
          exact ⟨h9.os, h9.tape, h9.output, h9.size, fun k _ hn => setRow_other _ _ _ _ (fun e => hn e)⟩
        have hsz3 := blk_lt hX3.out.ld.rvb
        have hfin : XBRes w x (l ++ layL tgt [tellX x kind]) (.int .i64 0) (.returned (.tuple #[.agg #[.int .i64 (x.self : Int), .slice (some ⟨g, 0, none⟩) 64 c, .int .u64 (x.cur : Int), .slice A5 (l ++ layL tgt [tellX x kind]).length c5], .int .i64 0])) (W5.setRow (w.heap.size + 1) #[.int .i64 (x.self : Int), .slice (some ⟨g, 0, none⟩) 64 c, .int .u64 (x.cur : Int), .slice A5 (l ++ layL tgt [tellX x kind]).length c5]) :=
          ⟨g, c, _, rfl, ⟨hX5.bus.row.keep hb6 (by intro e; have h9 := hX5.bus.row; rw [e] at h9; obtain ⟨cr, hcr, -⟩ := h9; rw [hrv5] at hcr; injection hcr with hcr; injection hcr with q1 q2 q3; exact absurd q2 (by decide)), own_weaken (base' := 0) (own_keep hown5 hb6 (fun k hk e => by have := (hown5.lt k hk).1; omega)) (Nat.zero_le _)⟩, hX5.ld.bel.trans (hb6.below (n := w.heap.size) (by have := hX5.ld.bel.size; omega) (fun i hi e => by omega))⟩
        have hrow5 := Lib.hid (setRow_heap _ _ _ (#[.int .i64 (x.self : Int), .slice (some ⟨g, 0, none⟩) 64 c, .int .u64 (x.cur : Int), .slice A5 (l ++ layL tgt [tellX x kind]).length c5] : Array Value) _ _ hrv5)
        have hbx6 := Lib.hid ((hb6.block _ (blk_lt hX5.ld.box) (by omega)).trans hX5.ld.box)
        have hfin := Lib.hid hfin
        have hbx5 := Lib.hid hX5.ld.box
        replace hrv5 := Lib.hid hrv5
        clear hX5 hX3 hlay hown5 hb5 hb6 hS2
        generalize hL : l ++ layL tgt [tellX x kind] = L at *
        replace hL := Lib.hid hL
        go_wp2_with fail
        refine hK.out _ _ (fun _ => hbx5.out) ?_
        clear hK K
        try simp only [Act.put, List.setIfInBounds_toArray, List.set_cons_zero, List.set_cons_succ]
        refine wpAnyT_one (i := 8) (o := ⟨none, _, _, _, _, _⟩) (by kernel_rfl) rfl (fun K hK => ?_)
        refine wp_store_row 57 _ _ rfl (w.heap.size + 1) #[.int .i64 (x.self : Int), .slice (some ⟨g, 0, none⟩) 64 c, .int .u64 (x.cur : Int), .slice A5 L.length c5] rfl rfl 57 _ hrv5.out (info57 _ _ _ _) rfl (one57 _ _ _ _ _ _ _) (hK.out _ _ (fun _ => hbx6.out) ?_)
        clear hK K
        try simp only [Act.put, List.setIfInBounds_toArray, List.set_cons_zero, List.set_cons_succ]
        refine wpAnyT_one (i := 9) (o := ⟨some 7, _, _, _, _, _⟩) (by kernel_rfl) rfl (fun K hK => ?_)
        go_simp
        go_wp2_with fail
        refine hK.out _ _ (fun h => absurd rfl h) ?_
        clear hK K
        try simp only [Act.put, List.setIfInBounds_toArray, List.set_cons_zero, List.set_cons_succ]
        refine wpAnyT_done (by kernel_rfl) ?_ _
        go_wp2_with fail
        refine bodyPost_ret (results_cell_row2 Tryz.results35 _ _ (w.heap.size + 1) 57 _ (0, 0) _ _ rfl rfl hrow5.out Tryz.underlying57 rfl (info57 _ _ _ _)) rfl ?_
        exact hfin.out
end Go.Proofs.YtgdcnenlelckhaaGreatDoor

namespace Go.Proofs.YtgdcnenlelckhaaGreatDoor
open Go.RowKit Go.Proofs.YtgdcnenlelckhaaGreatDoorW.PrintWords
open SlS SlT
/-- what the document's bus does with bytes -/
noncomputable def takeR (x : XS) (s : List UInt8) : XS × List (Int × ByteArray) × Bool := match decP s with
  | none => (x, [], false)
  | some q => if q.fr = (x.self : Int) then (x, [], false) else ((hearX x q true).1, layL q.fr (hearX x q true).2, true)
theorem hearX_len (x : XS) (q : Pkt) (r : Bool) : (hearX x q r).2.length ≤ 2 := by
  unfold hearX
  split
  · simp
  · split
    · simp
    · show (answX _ _).length ≤ 2
      unfold answX
      rw [List.length_append]
      split <;> split <;> simp
set_option maxHeartbeats 4000000 in
set_option maxRecDepth 100000 in
theorem rTake_calls {g c : Nat} {y : Value} {x : XS} {l : List (Int × ByteArray)} (w : World) (hE : Env w) (h : XBus w g y x l) (s : ByteArray) (hs : s.size ≤ 4294967296) (hs64 : x.self < 64) (hcur : x.cur + 1 < 18446744073709551616) (hl : l.length ≤ 1000000000) :
    Calls Tryz.prog 37 #[.agg #[.int .i64 (x.self : Int), .slice (some ⟨g, 0, none⟩) 64 c, .int .u64 (x.cur : Int), y], .string s] w (XBRes w (takeR x s.data.toList).1 (l ++ (takeR x s.data.toList).2.1) (.bool (takeR x s.data.toList).2.2)) := by
  obtain ⟨Y, yc, rfl⟩ := own_slice h.outs
  have idle : ∀ {W : World}, BuW w g c x.self x.cur (.slice Y l.length yc) x l W → ((((W.setCell ⟨w.heap.size + 1, 0, none⟩ (.int .i64 (x.self : Int))).setCell ⟨w.heap.size + 1, 1, none⟩ (.slice (some ⟨g, 0, none⟩) 64 c)).setCell ⟨w.heap.size + 1, 2, none⟩ (.int .u64 (x.cur : Int))).setCell ⟨w.heap.size + 1, 3, none⟩ (.slice Y l.length yc)).heap[w.heap.size + 1]? = some (.cells #[.int .i64 (x.self : Int), .slice (some ⟨g, 0, none⟩) 64 c, .int .u64 (x.cur : Int), .slice Y l.length yc] 57 (0, 0)) ∧ XBRes w x l (.bool false) (.returned (.tuple #[.agg #[.int .i64 (x.self : Int), .slice (some ⟨g, 0, none⟩) 64 c, .int .u64 (x.cur : Int), .slice Y l.length yc], .bool false])) ((((W.setCell ⟨w.heap.size + 1, 0, none⟩ (.int .i64 (x.self : Int))).setCell ⟨w.heap.size + 1, 1, none⟩ (.slice (some ⟨g, 0, none⟩) 64 c)).setCell ⟨w.heap.size + 1, 2, none⟩ (.int .u64 (x.cur : Int))).setCell ⟨w.heap.size + 1, 3, none⟩ (.slice Y l.length yc)) := fun {W} hX2 => by
    obtain ⟨f1, f2⟩ := rv4 hX2.ld.rvb (.int .i64 (x.self : Int)) (.slice (some ⟨g, 0, none⟩) 64 c) (.int .u64 (x.cur : Int)) (.slice Y l.length yc)
    have hne : w.heap.size + 1 ≠ g := by intro e; have h9 := hX2.bus.row; rw [← e] at h9; obtain ⟨cr, hcr, -⟩ := h9; rw [hX2.ld.rvb] at hcr; injection hcr with hcr; injection hcr with a1 a2 a3; exact absurd a2 (by decide)
    have hny : ∀ k, (Value.slice Y l.length yc).ownBlock = some k → k ≠ w.heap.size + 1 := fun k hk e => by
      rcases hX2.bus.outs.2 with ⟨hx0, -⟩ | ⟨gx, cap, cur, hx0, -, hgx, -⟩
      · rw [hx0] at hk; simp [Value.ownBlock] at hk
      · rw [hx0] at hk
        simp [Value.ownBlock] at hk
        rw [hk, e, hX2.ld.rvb] at hgx
        injection hgx with hgx
        injection hgx with a1 a2 a3
        exact absurd a2 (by decide)
    exact ⟨f1, g, c, _, rfl, hX2.bus.keep f2 (fun e => hne e.symm) (fun k hk e => hny k hk e), hX2.ld.bel.trans (f2.below (n := w.heap.size) hX2.ld.bel.size (fun i hi e => by omega))⟩
  have hX := Lib.hid (buW_start (c := c) (sf := x.self) (cu := x.cur) h)
  clear h
  go_enter Tryz.func37, Tryz.ntmps37
  refine wp_cut (fun a W => a = ⟨#[.agg #[.int .i64 (x.self : Int), .slice (some ⟨g, 0, none⟩) 64 c, .int .u64 (x.cur : Int), .slice Y l.length yc], .string s, .pointer (some ⟨w.heap.size, 0, none⟩), undef, .pointer (some ⟨w.heap.size + 1, 0, none⟩), .bool false, undef, undef, undef, undef, undef, undef, undef, undef, undef, undef, undef, undef, undef, undef, undef, undef, undef, undef, undef, undef, undef, undef, undef, undef, undef, undef, undef, undef, undef, undef, undef, undef, undef, undef], []⟩ ∧ BuW w g c x.self x.cur (.slice Y l.length yc) x l W) ?_ ?_
  · go_wp2_with fail
    exact ⟨trivial, hX.out⟩
  clear hX
  rintro _ W ⟨rfl, hX⟩
  have hD := Lib.hid (refDecode_calls s hs W (hE.below hX.ld.bel))
  have hws := blk_lt hX.ld.rvb
  replace hX := Lib.hid hX
  go_wp2_with fail
  refine hD.out.mono ?_
  intro r w1 hd
  obtain ⟨k, x9, rfl, hres, hcs, hone, hb1⟩ := dc_res hd
  have hi : (Tryz.prog.info? 67).map (·.size) = some k.size := by rw [hcs]; exact info26
  have hZ : Tryz.zeroCells67.size = k.size := by rw [hcs]; exact zero_pk.size
  have hN := heapN w1 (.cells Tryz.zeroCells67 67)
  have hst : Below w1.heap.size w1 ((w1.alloc (.cells Tryz.zeroCells67 67)).setRow w1.heap.size k) := below_setRow (below_new' w1 _) (Nat.le_refl _) _
  have hX2 := (hX.out.below hb1).below hst
  have hbox := setRow_heap _ _ _ k _ _ hN
  have hws1 := hb1.size
  replace hres := Lib.hid hres
  replace hX2 := Lib.hid hX2
  replace hbox := Lib.hid hbox
  clear hd hb1 hst hD hX
  unfold DcRes at hres
  cases hdp : decP s.data.toList with
  | none =>
    rw [hdp] at hres
    obtain ⟨rfl, hcz⟩ := hres.out
    have hdp := Lib.hid hdp
    obtain ⟨e0, e1, e2, e3⟩ := hX2.out.ld.cells
    obtain ⟨q0, q1, q2, q3, q4, q5, q6, q7⟩ := hX2.out.ld.rv
    obtain ⟨f1, hfin⟩ := idle hX2.out
    have f1 := Lib.hid f1
    have hfin := Lib.hid hfin
    clear hres hcz hX2 idle
    generalize hW2 : (w1.alloc (.cells Tryz.zeroCells67 67)).setRow w1.heap.size k = W2 at *
    go_wp2_with (refine wpList_store_row rfl 67 _ _ rfl w1.heap.size k rfl rfl 67 Tryz.zeroCells67 hN hi hZ hone ?_)
    refine bodyPost_ret (results_cell_row2 Tryz.results37 _ _ (w.heap.size + 1) 57 _ (0, 0) _ _ rfl rfl f1.out Tryz.underlying57 rfl (info57 _ _ _ _)) rfl ?_
    unfold takeR
    rw [hdp.out]
    simp only [List.append_nil]
    exact hfin.out
  | some q =>
    rw [hdp] at hres
    obtain ⟨rfl, hpk⟩ := hres.out
    have hright := (decP_some hdp).right
    have hat := hpk.at
    have hdp := Lib.hid hdp
    obtain ⟨e0, e1, e2, e3⟩ := hX2.out.ld.cells
    obtain ⟨q0, q1, q2, q3, q4, q5, q6, q7⟩ := hX2.out.ld.rv
    clear hres
    generalize hW2 : (w1.alloc (.cells Tryz.zeroCells67 67)).setRow w1.heap.size k = W2 at *
    have hk1 : W2.cell? ⟨w1.heap.size, 1, none⟩ = some (.int .i64 q.fr) := by rw [cellBox hbox.out]; exact hat.2.1
    by_cases hme : q.fr = (x.self : Int)
    · have hme2 : (q.fr == (x.self : Int)) = true := beq_iff_eq.2 hme
      have hme := Lib.hid hme
      obtain ⟨f1, hfin⟩ := idle hX2.out
      clear hX2 hright hat hcs hpk
      have f1 := Lib.hid f1
      have hfin := Lib.hid hfin
      go_wp2_with (first | refine wpList_store_row rfl 67 _ _ rfl w1.heap.size k rfl rfl 67 Tryz.zeroCells67 hN hi hZ hone ?_)
      refine bodyPost_ret (results_cell_row2 Tryz.results37 _ _ (w.heap.size + 1) 57 _ (0, 0) _ _ rfl rfl f1.out Tryz.underlying57 rfl (info57 _ _ _ _)) rfl ?_
      unfold takeR
      rw [hdp.out]
      simp only [if_pos hme.out, List.append_nil]
      exact hfin.out
    · have hme2 : (q.fr == (x.self : Int)) = false := beq_eq_false_iff_ne.2 hme
      have hme := Lib.hid hme
      have hXT := Lib.hid (xTake_calls (c := c) W2 hX2.out.bus.row k q hpk hs64 hcur)
      have hat := Lib.hid hat
      have hcs := Lib.hid hcs
      have hpl := blk_lt hbox.out
      clear idle
      go_wp2_with (first | refine wpList_store_row rfl 67 _ _ rfl w1.heap.size k rfl rfl 67 Tryz.zeroCells67 hN hi hZ hone ?_ | refine wpList_load_row_g (by first | rfl | simp [Region.wanted, yielded]) 67 (.tmp 6) rfl w1.heap.size rfl 67 k (0, 0) _ hbox.out Tryz.underlying67 rfl hi ?_)
      refine hXT.out.mono ?_
      rintro e w4 ⟨g', c', z, rfl, ⟨ks, hks, hown⟩, hr4, hg4, hb4⟩
      rw [hright] at hks hown hr4
      have hX4 := hX2.out.below hb4
      have hk4 : w4.cell? ⟨w1.heap.size, 1, none⟩ = some (.int .i64 q.fr) := (hb4.cell (p := ⟨w1.heap.size, 1, none⟩) hpl).trans hk1
      obtain ⟨e0', e1', e2', e3'⟩ := hX4.ld.cells
      have hsz4 := hb4.size
      have hlt4 : w.heap.size < w4.heap.size := blk_lt hX4.ld.box
      have hlt5 : w.heap.size + 1 < w4.heap.size := blk_lt hX4.ld.rvb
      have hlt6 : w1.heap.size < w4.heap.size := by omega
      have z0 : w4.frozen? ⟨w.heap.size, 0, none⟩ = false := openBox hX4.ld.box
      have z1 : w4.frozen? ⟨w.heap.size, 1, none⟩ = false := openBox hX4.ld.box
      have z2 : w4.frozen? ⟨w.heap.size, 2, none⟩ = false := openBox hX4.ld.box
      clear hXT hX2 hbox e0 e1 e2 e3 hk1 q0 q1 q2 q3 q4 q5 q6 q7
      generalize hu : (hearX x q true).1 = u at *
      generalize hL1 : (hearX x q true).2 = L1 at *
      have c5 : But (fun k => k = w.heap.size) w4 (((w4.setCell ⟨w.heap.size, 0, none⟩ (.int .i64 (u.self : Int))).setCell ⟨w.heap.size, 1, none⟩ (.slice (some ⟨g', 0, none⟩) 64 c')).setCell ⟨w.heap.size, 2, none⟩ (.int .u64 (u.cur : Int))) := (((But.refl (fun k => k = w.heap.size) w4).set (p := ⟨w.heap.size, 0, none⟩) (fun _ => rfl) _).set (p := ⟨w.heap.size, 1, none⟩) (fun _ => rfl) _).set (p := ⟨w.heap.size, 2, none⟩) (fun _ => rfl) _
      have hgb : g' ≠ w.heap.size := by intro e; have h9 := hr4; rw [e] at h9; obtain ⟨cr, hcr, -⟩ := h9; rw [hX4.ld.box] at hcr; injection hcr with hcr; injection hcr with a1 a2 a3; exact absurd a2 (by decide)
      have hgr : g' ≠ w.heap.size + 1 := by intro e; have h9 := hr4; rw [e] at h9; obtain ⟨cr, hcr, -⟩ := h9; rw [hX4.ld.rvb] at hcr; injection hcr with hcr; injection hcr with a1 a2 a3; exact absurd a2 (by decide)
      have hny : ∀ k, (Value.slice Y l.length yc).ownBlock = some k → k ≠ w.heap.size := fun k hk e => by
        rcases hX4.bus.outs.2 with ⟨hx0, -⟩ | ⟨gx, cap, cur, hx0, -, hgx, -⟩
        · rw [hx0] at hk; simp [Value.ownBlock] at hk
        · rw [hx0] at hk
          simp [Value.ownBlock] at hk
          rw [hk, e, hX4.ld.box] at hgx
          injection hgx with hgx
          injection hgx with a1 a2 a3
          exact absurd a2 (by decide)
      have hr5 : XR (((w4.setCell ⟨w.heap.size, 0, none⟩ (.int .i64 (u.self : Int))).setCell ⟨w.heap.size, 1, none⟩ (.slice (some ⟨g', 0, none⟩) 64 c')).setCell ⟨w.heap.size, 2, none⟩ (.int .u64 (u.cur : Int))) g' u := hr4.keep c5 hgb
      have ho5 := own_keep hX4.bus.outs c5 hny
      have hk5 := own_keep hown c5 (fun k hk e => by have := (hown.lt k hk).1; omega)
      have hv5 := (c5.block _ hlt5 (by omega)).trans hX4.ld.rvb
      have hbl5 : Below w.heap.size w (((w4.setCell ⟨w.heap.size, 0, none⟩ (.int .i64 (u.self : Int))).setCell ⟨w.heap.size, 1, none⟩ (.slice (some ⟨g', 0, none⟩) 64 c')).setCell ⟨w.heap.size, 2, none⟩ (.int .u64 (u.cur : Int))) := hX4.ld.bel.trans (c5.below (n := w.heap.size) hX4.ld.bel.size (fun i hi e => by omega))
      have n5 := below_new' (((w4.setCell ⟨w.heap.size, 0, none⟩ (.int .i64 (u.self : Int))).setCell ⟨w.heap.size, 1, none⟩ (.slice (some ⟨g', 0, none⟩) 64 c')).setCell ⟨w.heap.size, 2, none⟩ (.int .u64 (u.cur : Int))) (.cells #[.int .i64 (u.self : Int), .slice (some ⟨g', 0, none⟩) 64 c', .int .u64 (u.cur : Int)] 51)
      have hs5 : (((w4.setCell ⟨w.heap.size, 0, none⟩ (.int .i64 (u.self : Int))).setCell ⟨w.heap.size, 1, none⟩ (.slice (some ⟨g', 0, none⟩) 64 c')).setCell ⟨w.heap.size, 2, none⟩ (.int .u64 (u.cur : Int))).heap.size = w4.heap.size := by simp
      have hlay := laid_calls (g := g') (c := c') (sf := u.self) (cu := u.cur) _ (hE.below (hbl5.trans (n5.mono hbl5.size))) (pw_own_below ho5 n5) q.fr z ks _ hks _ (pw_own_below hk5 n5) (by unfold trimL; rw [List.length_map, <- hL1]; exact hearX_len x q true) hl
      have hr6 := hr5.below n5
      have hv6 := (n5.block _ (by omega)).trans hv5
      have hbl6 := hbl5.trans (n5.mono hbl5.size)
      have hs6 : w4.heap.size ≤ ((((w4.setCell ⟨w.heap.size, 0, none⟩ (.int .i64 (u.self : Int))).setCell ⟨w.heap.size, 1, none⟩ (.slice (some ⟨g', 0, none⟩) 64 c')).setCell ⟨w.heap.size, 2, none⟩ (.int .u64 (u.cur : Int))).alloc (.cells #[.int .i64 (u.self : Int), .slice (some ⟨g', 0, none⟩) 64 c', .int .u64 (u.cur : Int)] 51)).heap.size := by have := n5.size; omega
      replace hlay := Lib.hid hlay
      replace hr6 := Lib.hid hr6
      replace hv6 := Lib.hid hv6
      replace hbl6 := Lib.hid hbl6
      replace hs6 := Lib.hid hs6
      clear c5 hgb hny hr5 ho5 hk5 hv5 hbl5 n5 hs5
      replace hX4 := Lib.hid hX4
      replace hr4 := Lib.hid hr4
      rw [hright]
      rw [hu]
      go_wp2_with fail
      refine hlay.out.mono ?_
      rintro e w6 ⟨y6, rfl, hown6, hb6⟩
      rw [layL_trim] at hown6
      obtain ⟨A6, c6, rfl⟩ := own_slice hown6
      have hw6 := hs6.out
      have hr7 := hr6.out.below hb6
      have hv7 := (hb6.block _ (by omega)).trans hv6.out
      have hbl7 := hbl6.out.trans (hb6.mono hbl6.out.size)
      obtain ⟨p0, p1, p2, p3⟩ := box4 hv7
      have o0 : w6.frozen? ⟨w.heap.size + 1, 0, none⟩ = false := openBox hv7
      have o1 : w6.frozen? ⟨w.heap.size + 1, 1, none⟩ = false := openBox hv7
      have o2 : w6.frozen? ⟨w.heap.size + 1, 2, none⟩ = false := openBox hv7
      have o3 : w6.frozen? ⟨w.heap.size + 1, 3, none⟩ = false := openBox hv7
      obtain ⟨f1, f2⟩ := rv4 hv7 (.int .i64 (u.self : Int)) (.slice (some ⟨g', 0, none⟩) 64 c') (.int .u64 (u.cur : Int)) (.slice A6 (l ++ layL q.fr L1).length c6)
      have hfin : XBRes w u (l ++ layL q.fr L1) (.bool true) (.returned (.tuple #[.agg #[.int .i64 (u.self : Int), .slice (some ⟨g', 0, none⟩) 64 c', .int .u64 (u.cur : Int), .slice A6 (l ++ layL q.fr L1).length c6], .bool true])) _ :=
        ⟨g', c', _, rfl, ⟨hr7.keep f2 (fun e => hgr e), own_weaken (own_keep hown6 f2 (fun k hk e => by have := (hown6.lt k hk).1; omega)) (Nat.zero_le _)⟩, hbl7.trans (f2.below (n := w.heap.size) hbl7.size (fun i hi e => by omega))⟩
      replace f1 := Lib.hid f1
      replace hfin := Lib.hid hfin
      clear f2 hr7 hbl7 hv7 hown6 hb6 hr6 hv6 hbl6 hlay hw6 hs6
      generalize hL : l ++ layL q.fr L1 = L at *
      replace hL := Lib.hid hL
      go_wp2_with fail
      refine bodyPost_ret (results_cell_row2 Tryz.results37 _ _ (w.heap.size + 1) 57 _ (0, 0) _ _ rfl rfl f1.out Tryz.underlying57 rfl (info57 _ _ _ _)) rfl ?_
      unfold takeR
      rw [hdp.out]
      simp only [if_neg hme.out]
      rw [hu, hL1, hL.out]
      exact hfin.out
end Go.Proofs.YtgdcnenlelckhaaGreatDoor

namespace Go.Proofs.YtgdcnenlelckhaaGreatDoor
structure HN (C : Nat → Nat → Bool) (i : Nat) (v : VS) : Prop where
  hon : Honest C i v
  top : i + 1 ≤ v.cur
structure Told (C : Nat → Nat → Bool) (j : Nat) (q : Pkt) : Prop where
  fair : Fair C j q
  no : q.of_ = 0
  top : j + 1 ≤ q.cur
  lt : ∀ i, q.cl i < 18446744073709551616
theorem told_of {C : Nat → Nat → Bool} {i : Nat} {v : VS} (h : HN C i v) (kind : Int) (hk : kind = 1 ∨ kind = 2) : Told C i (tellV v kind) :=
  ⟨tell_fair h.hon kind hk, rfl, h.top, fun k => wordV_lt v v.self k⟩
theorem told_right {C : Nat → Nat → Bool} {j : Nat} {q : Pkt} (hj : j < 64) (h : Told C j q) : rightP q = true := by
  have h1 := h.fair.fr
  have h2 := h.fair.ep
  have h3 := h.top
  unfold rightP rightV
  have hk3 : ¬ q.kind = 3 := by rcases h.fair.kind with h | h <;> rw [h] <;> decide
  rw [if_neg hk3]
  have hk : 1 ≤ q.kind ∧ q.kind ≤ 4 := by rcases h.fair.kind with h | h <;> rw [h] <;> decide
  simp only [Bool.and_eq_true, decide_eq_true_eq]
  refine ⟨⟨⟨⟨⟨hk.1, hk.2⟩, h.no⟩, by omega⟩, by omega⟩, by omega⟩
theorem told_bytes {C : Nat → Nat → Bool} {j : Nat} {q : Pkt} (hj : j < 64) (h : Told C j q) : ∃ q', decP (encT q).data.toList = some q' ∧ Told C j q' ∧ q'.kind = q.kind := by
  have hr := told_right hj h
  have h2 := h.fair.ep
  have h3 := h.fair.cur
  obtain ⟨q', h4, h5, h6, h7⟩ := decP_of (s := (encT q).data.toList) (q := q) ⟨hr, by omega, by omega, h.lt, by unfold encT; rw [if_pos hr]⟩
  refine ⟨q', h4, ⟨⟨by rw [← h5.kind]; exact h.fair.kind, by rw [← h5.fr]; exact h.fair.fr, by rw [← h5.ep]; exact h2, by rw [← h5.cur]; exact h3, fun s hs => by rw [← h6 s hs]; exact h.fair.cl s hs⟩, by rw [← h5.of_]; exact h.no, by rw [← h5.cur]; exact h.top, h7.cl⟩, h5.kind.symm⟩
theorem hear_form {C : Nat → Nat → Bool} (hC : ∀ s j k : Nat, C j s = true → C k s = true → j = k) {i j : Nat} {v : VS} {q : Pkt} (hj : j < 64) (hij : j ≠ i) (h : Honest C i v) (hq : Fair C j q) :
    hearV v q true = (takenV v q, if q.kind = 1 then [tellV (takenV v q) 2] else []) := by
  obtain ⟨h1, hO⟩ := taken_honest hC hj hij h hq
  have hk3 : ¬ q.kind = 3 := by rcases hq.kind with h | h <;> rw [h] <;> decide
  have hk4 : ¬ q.kind = 4 := by rcases hq.kind with h | h <;> rw [h] <;> decide
  have hidle : ¬ idleP v.self q true := by
    rintro (h2 | h2 | h2 | h2)
    · cases h2
    · have := hq.cur
      omega
    · rw [hq.fr, h.self] at h2
      omega
    · exact hk3 h2.1
  have hn : nodeOf q = j := by
    unfold nodeOf
    rw [if_neg hk3, hq.fr]
    rfl
  have hL : liftV (takenV v q) q = takenV v q := by
    unfold liftV
    rw [if_neg]
    rintro ⟨h2, -⟩
    rw [h1.self, h1.mine, hq.ep] at h2
    omega
  have hB : beatV (takenV v q) q.fr q.ep q.cl = -1 := by
    unfold beatV
    have : ((List.range 16384).filter (hasN q.cl)).find? (fun s => decide ((takenV v q).own s ≠ -1 ∧ (takenV v q).own s ≠ q.fr ∧ q.ep < (takenV v q).ep ((takenV v q).own s).toNat)) = none := by
      rw [List.find?_eq_none]
      intro s hs hd
      obtain ⟨h2, h3⟩ := List.mem_filter.1 hs
      have h4 := List.mem_range.1 h2
      rw [hq.cl s h4] at h3
      have h5 := (of_decide_eq_true hd).2.1
      rw [hO s h4, if_pos h3, hq.fr] at h5
      exact h5 rfl
    rw [this]
  unfold hearV
  rw [if_neg hidle, if_neg hk3, hL]
  unfold answV
  rw [hB, if_pos rfl, List.append_nil]
  simp only [hk4, or_false]
/-- a node takes what another one says -/
theorem takeB_told {C : Nat → Nat → Bool} (hC : ∀ s j k : Nat, C j s = true → C k s = true → j = k) {i j : Nat} {v : VS} {q : Pkt} (hj : j < 64) (hij : j ≠ i) (h : HN C i v) (hq : Told C j q) :
    ∃ v' ps, takeB v (encT q).data.toList = (v', layL (j : Int) ps, true) ∧ HN C i v' ∧ (∀ p ∈ ps, Told C i p) ∧ ps.length = (if q.kind = 1 then 1 else 0) ∧ (∀ s, s < 16384 → v'.own s = if C j s = true then (j : Int) else v.own s) := by
  obtain ⟨q', hd, hq', hk⟩ := told_bytes hj hq
  obtain ⟨h1, h2, h3⟩ := hear_honest hC hj hij h.hon hq'.fair
  have hf := hear_form hC hj hij h.hon hq'.fair
  have hne : ¬ q'.fr = (v.self : Int) := by rw [hq'.fair.fr, h.hon.self]; omega
  refine ⟨(hearV v q' true).1, (hearV v q' true).2, ?_, ?_, ?_, ?_, h3⟩
  · unfold takeB
    rw [hd]
    simp only [if_neg hne]
    rw [hq'.fair.fr]
  · refine ⟨h1, ?_⟩
    rw [hf]
    show _ ≤ (takenV v q').cur
    rw [taken_cur]
    have := h.top
    omega
  · have hn : HN C i (takenV v q') := ⟨by have := h1; rw [hf] at this; exact this, by rw [taken_cur]; have := h.top; omega⟩
    rw [hf]
    intro p hp
    by_cases h9 : q'.kind = 1
    · have hp' : p ∈ (if q'.kind = 1 then [tellV (takenV v q') 2] else []) := hp
      rw [if_pos h9] at hp'
      have : p = tellV (takenV v q') 2 := by simpa using hp'
      rw [this]
      exact told_of hn 2 (Or.inr rfl)
    · have hp' : p ∈ (if q'.kind = 1 then [tellV (takenV v q') 2] else []) := hp
      rw [if_neg h9] at hp'
      cases hp'
  · rw [hf, hk]
    show List.length (if q.kind = 1 then _ else _) = _
    split <;> rfl
theorem new_honest {C : Nat → Nat → Bool} (i : Nat) (hi : i < 64) (p : Nat → Nat) (hp : ∀ s, s < 16384 → hasN p s = C i s) : HN C i (newV i (i + 1) p) := by
  refine ⟨⟨rfl, by show i + 1 ≤ 64; omega, by show (if i = i then i + 1 else 0) = _; rw [if_pos rfl], fun j hj => ?_, fun s hs => ?_, fun s hs hc => ?_⟩, Nat.le_refl _⟩
  · show (if j = i then i + 1 else 0) = 0 ∨ (if j = i then i + 1 else 0) = j + 1
    by_cases h : j = i
    · rw [if_pos h]; omega
    · rw [if_neg h]; exact Or.inl rfl
  · show (if hasN p s = true then (i : Int) else -1) = -1 ∨ ∃ j : Nat, j < 64 ∧ (if hasN p s = true then (i : Int) else -1) = (j : Int) ∧ C j s = true
    rw [hp s hs]
    by_cases h : C i s = true
    · rw [if_pos h]; exact Or.inr ⟨i, hi, rfl, h⟩
    · rw [if_neg h]; exact Or.inl rfl
  · show (if hasN p s = true then (i : Int) else -1) = (i : Int)
    rw [hp s hs, if_pos hc]
end Go.Proofs.YtgdcnenlelckhaaGreatDoor

namespace Go.Proofs.YtgdcnenlelckhaaGreatDoor
open Go.RowKit Go.Proofs.YtgdcnenlelckhaaGreatDoorW.PrintWords
open SlS SlT
def winVR (v : VS) (s : Int) (least : Nat) : VS := if (0 ≤ s ∧ s < 16384) ∧ least ≤ 4611686018427387904 then winV v s.toNat least else v
def giveVR (v : VS) (s n : Int) : VS := if 0 ≤ s ∧ s < 16384 then (if 0 ≤ n ∧ n < 64 then giveV v s.toNat n.toNat else v) else v
theorem BB.view' {w w' : World} {b g : Nat} {x : Value} {v v' : VS} {l : List (Int × ByteArray)} (h : BB w b g x v l) (hb : But (fun k => k = g) w w') (hv : VB w' g v') : BusPost w b g x v' l w' :=
  ⟨x, ⟨(hb.block _ h.lt.1 h.ne).trans h.box, hv, h.ne, own_keep h.outs hb (fun k hk e => h.ng (by rw [hk, e])), h.nb, h.ng⟩, hb.weak (fun k _ e => Or.inr (Or.inl e)), fun k hk => Or.inl hk⟩
theorem bWin_calls {b g : Nat} {x : Value} {v : VS} {l : List (Int × ByteArray)} (w : World) (h : BB w b g x v l) (s : Int) (least : Nat) (hc : v.cur + 1 < 18446744073709551616) :
    Calls Tryz.prog 39 #[.pointer (some ⟨b, 0, none⟩), .int .i64 s, .int .u64 least] w fun e w' => e = .returned (.int .i64 (winE s least)) ∧ BusPost w b g x (winVR v s least) l w' := by
  have c0 := h.c0
  have hW := vWin_calls w h.view s least hc
  have hB := Lib.hid h
  clear h
  unfold winE winVR
  by_cases h1 : (0 ≤ s ∧ s < 16384) ∧ least ≤ 4611686018427387904
  · simp only [if_pos h1] at hW ⊢
    replace hW := Lib.hid hW
    clear h1
    go_enter Tryz.func39, Tryz.ntmps39
    go_wp2_with fail
    refine hW.out.mono ?_
    rintro e w2 ⟨hb, rfl, hv⟩
    have hP := Lib.hid (hB.out.view' hb hv)
    clear hB hb hv
    go_wp2_with fail
    go_ret
    exact ⟨rfl, hP.out⟩
  · simp only [if_neg h1] at hW ⊢
    replace hW := Lib.hid hW
    clear h1
    go_enter Tryz.func39, Tryz.ntmps39
    go_wp2_with fail
    refine hW.out.mono ?_
    rintro e w2 ⟨hb, rfl, hv⟩
    have hP := Lib.hid (hB.out.view' hb hv)
    clear hB hb hv
    go_wp2_with fail
    go_ret
    exact ⟨rfl, hP.out⟩
theorem vGive_form {g : Nat} {v : VS} (w : World) (h : VB w g v) (s n : Int) : Calls Tryz.prog 66 #[.pointer (some ⟨g, 0, none⟩), .int .i64 s, .int .i64 n] w fun e w' => But (fun k => k = g) w w' ∧ e = .returned (.int .i64 (giveE s n)) ∧ VB w' g (giveVR v s n) := by
  refine (vGive_calls w h s n).mono ?_
  rintro e w' ⟨hb, hi⟩
  refine ⟨hb, ?_⟩
  unfold giveE giveVR
  by_cases h1 : 0 ≤ s ∧ s < 16384
  · by_cases h2 : 0 ≤ n ∧ n < 64
    · simpa only [if_pos h1, if_pos h2] using hi
    · simpa only [if_pos h1, if_neg h2] using hi
  · simpa only [if_neg h1] using hi
theorem bGive_calls {b g : Nat} {x : Value} {v : VS} {l : List (Int × ByteArray)} (w : World) (h : BB w b g x v l) (s n : Int) :
    Calls Tryz.prog 41 #[.pointer (some ⟨b, 0, none⟩), .int .i64 s, .int .i64 n] w fun e w' => e = .returned (.int .i64 (giveE s n)) ∧ BusPost w b g x (giveVR v s n) l w' := by
  have c0 := h.c0
  have hW := Lib.hid (vGive_form w h.view s n)
  have hB := Lib.hid h
  clear h
  generalize hge : giveE s n = ge at *
  generalize hgv : giveVR v s n = gv at *
  clear hge hgv
  go_enter Tryz.func41, Tryz.ntmps41
  go_wp2_with fail
  refine hW.out.mono ?_
  rintro e w2 ⟨hb, rfl, hv⟩
  have hP := Lib.hid (hB.out.view' hb hv)
  clear hB hb hv
  go_wp2_with fail
  go_ret
  exact ⟨rfl, hP.out⟩
/-- a bus and what is known of it -/
structure BX where
  b : Nat
  g : Nat
  x : Value
  v : VS
  l : List (Int × ByteArray)
def BX.ft (β : BX) (k : Nat) : Prop := foot β.b β.g β.x k
/-- some buses, apart from one another, above where w0 ends -/
structure AllB (w0 : World) (W : World) (L : List BX) : Prop where
  env : Env w0
  bel : Below w0.heap.size w0 W
  all : ∀ (i : Nat) (β : BX), L[i]? = some β → BB W β.b β.g β.x β.v β.l
  low : ∀ (i : Nat) (β : BX), L[i]? = some β → ∀ k, β.ft k → w0.heap.size ≤ k
  sep : ∀ (i j : Nat) (α β : BX), L[i]? = some α → L[j]? = some β → i ≠ j → ∀ k, α.ft k → ¬ β.ft k
theorem ft_lt {W : World} {β : BX} (h : BB W β.b β.g β.x β.v β.l) : ∀ k, β.ft k → k < W.heap.size := by
  rintro k (h1 | h1 | h1)
  · rw [h1]; exact h.lt.1
  · rw [h1]; exact h.lt.2.1
  · exact h.lt.2.2 k h1
theorem AllB.nil {w : World} (h : Env w) : AllB w w [] := ⟨h, Below.refl _ _, fun i β h => by simp at h, fun i β h => by simp at h, fun i j α β h => by simp at h⟩
theorem AllB.below {w0 W W' : World} {L : List BX} (h : AllB w0 W L) (hb : Below W.heap.size W W') : AllB w0 W' L :=
  ⟨h.env, h.bel.trans (hb.mono h.bel.size), fun i β hi => (h.all i β hi).below hb, h.low, h.sep⟩
theorem AllB.envs {w0 W : World} {L : List BX} (h : AllB w0 W L) {i : Nat} {β : BX} (hi : L[i]? = some β) : ∀ W', But (foot β.b β.g β.x) W W' → Env W' := fun W' hb =>
  h.env.below (h.bel.trans (hb.below h.bel.size fun k hk hf => by have := h.low i β hi k hf; omega))
theorem AllB.envW {w0 W : World} {L : List BX} (h : AllB w0 W L) : Env W := h.env.below h.bel
theorem AllB.put {w0 W W' : World} {L : List BX} (h : AllB w0 W L) {i : Nat} {β γ : BX} (hi : L[i]? = some β) (hb : But β.ft W W') (hB : BB W' γ.b γ.g γ.x γ.v γ.l) (hft : ∀ k, γ.ft k → β.ft k ∨ W.heap.size ≤ k) : AllB w0 W' (L.set i γ) := by
  have hil : i < L.length := (List.getElem?_eq_some_iff.1 hi).1
  have hsz := h.bel.size
  refine ⟨h.env, h.bel.trans (hb.below hsz fun k hk hf => by have := h.low i β hi k hf; omega), ?_, ?_, ?_⟩
  · intro j α hj
    by_cases e : i = j
    · subst e
      rw [List.getElem?_set_self hil] at hj
      injection hj with hj
      subst hj
      exact hB
    · rw [List.getElem?_set_ne e] at hj
      exact (h.all j α hj).keep hb (fun k hk hf => h.sep j i α β hj hi (fun q => e q.symm) k hk hf)
  · intro j α hj k hk
    by_cases e : i = j
    · subst e
      rw [List.getElem?_set_self hil] at hj
      injection hj with hj
      subst hj
      rcases hft k hk with h1 | h1
      · exact h.low i β hi k h1
      · omega
    · rw [List.getElem?_set_ne e] at hj
      exact h.low j α hj k hk
  · intro j m α δ hj hm hne k hk hk2
    by_cases e : i = j
    · subst e
      rw [List.getElem?_set_self hil] at hj
      rw [List.getElem?_set_ne hne] at hm
      injection hj with hj
      subst hj
      rcases hft k hk with h1 | h1
      · exact h.sep i m β δ hi hm hne k h1 hk2
      · have := ft_lt (h.all m δ hm) k hk2
        omega
    · rw [List.getElem?_set_ne e] at hj
      by_cases e2 : i = m
      · subst e2
        rw [List.getElem?_set_self hil] at hm
        injection hm with hm
        subst hm
        rcases hft k hk2 with h1 | h1
        · exact h.sep i j β α hi hj (fun q => hne q.symm) k h1 hk
        · have := ft_lt (h.all j α hj) k hk
          omega
      · rw [List.getElem?_set_ne e2] at hm
        exact h.sep j m α δ hj hm hne k hk hk2
theorem AllB.post {w0 W W' : World} {L : List BX} (h : AllB w0 W L) {i : Nat} {β : BX} (hi : L[i]? = some β) {v : VS} {l : List (Int × ByteArray)} (hp : BusPost W β.b β.g β.x v l W') :
    ∃ x' : Value, AllB w0 W' (L.set i ⟨β.b, β.g, x', v, l⟩) ∧ But β.ft W W' ∧ ∀ k, x'.ownBlock = some k → β.ft k ∨ W.heap.size ≤ k := by
  obtain ⟨x', h1, h2, h3⟩ := hp
  refine ⟨x', h.put hi h2 h1 ?_, h2, fun k hk => ?_⟩
  · rintro k (h4 | h4 | h4)
    · exact Or.inl (Or.inl h4)
    · exact Or.inl (Or.inr (Or.inl h4))
    · rcases h3 k h4 with h5 | h5
      · exact Or.inl (Or.inr (Or.inr h5))
      · exact Or.inr h5
  · rcases h3 k hk with h5 | h5
    · exact Or.inl (Or.inr (Or.inr h5))
    · exact Or.inr h5
theorem AllB.outs {w0 W W' : World} {L : List BX} (h : AllB w0 W L) {i : Nat} {β : BX} (hi : L[i]? = some β) (hB : BB W' β.b β.g (.slice none 0 0) β.v []) (hb : But (fun k => k = β.b) W W') :
    AllB w0 W' (L.set i ⟨β.b, β.g, .slice none 0 0, β.v, []⟩) := by
  refine h.put hi (hb.weak fun k _ e => Or.inl e) hB ?_
  rintro k (h4 | h4 | h4)
  · exact Or.inl (Or.inl h4)
  · exact Or.inl (Or.inr (Or.inl h4))
  · simp [Value.ownBlock] at h4
theorem AllB.add {w0 W W' : World} {L : List BX} (h : AllB w0 W L) (hb : Below W.heap.size W W') {b g : Nat} {v : VS} (h1 : W.heap.size ≤ b) (h2 : W.heap.size ≤ g) (hB : BB W' b g (.slice none 0 0) v []) : AllB w0 W' (L ++ [⟨b, g, .slice none 0 0, v, []⟩]) := by
  have hsz := h.bel.size
  have hf : ∀ k, BX.ft ⟨b, g, .slice none 0 0, v, []⟩ k → W.heap.size ≤ k := by
    rintro k (h4 | h4 | h4)
    · rw [show k = b from h4]; exact h1
    · rw [show k = g from h4]; exact h2
    · simp [Value.ownBlock] at h4
  have key : ∀ (i : Nat) (β : BX), (L ++ [⟨b, g, .slice none 0 0, v, []⟩])[i]? = some β → (i < L.length ∧ L[i]? = some β) ∨ (i = L.length ∧ β = ⟨b, g, .slice none 0 0, v, []⟩) := by
    intro i β hi
    rcases Nat.lt_or_ge i L.length with hl | hl
    · rw [List.getElem?_append_left hl] at hi
      exact Or.inl ⟨hl, hi⟩
    · rw [List.getElem?_append_right hl] at hi
      rcases Nat.eq_zero_or_pos (i - L.length) with h0 | h0
      · rw [h0] at hi
        exact Or.inr ⟨by omega, by simpa using hi.symm⟩
      · rw [List.getElem?_eq_none (by show 1 ≤ i - L.length; exact h0)] at hi
        cases hi
  refine ⟨h.env, h.bel.trans (hb.mono hsz), ?_, ?_, ?_⟩
  · intro i β hi
    rcases key i β hi with ⟨-, hi⟩ | ⟨-, rfl⟩
    · exact (h.all i β hi).below hb
    · exact hB
  · intro i β hi k hk
    rcases key i β hi with ⟨-, hi⟩ | ⟨-, rfl⟩
    · exact h.low i β hi k hk
    · exact Nat.le_trans hsz (hf k hk)
  · intro i j α β hi hj hne k hk hk2
    rcases key i α hi with ⟨hl, hi⟩ | ⟨e1, rfl⟩
    · rcases key j β hj with ⟨hl2, hj⟩ | ⟨e2, rfl⟩
      · exact h.sep i j α β hi hj hne k hk hk2
      · have := ft_lt (h.all i α hi) k hk
        have := hf k hk2
        omega
    · rcases key j β hj with ⟨hl2, hj⟩ | ⟨e2, rfl⟩
      · have := ft_lt (h.all j β hj) k hk2
        have := hf k hk
        omega
      · omega
end Go.Proofs.YtgdcnenlelckhaaGreatDoor

namespace Go.Proofs.YtgdcnenlelckhaaGreatDoor
open Go.RowKit Go.Proofs.YtgdcnenlelckhaaGreatDoorW.PrintWords
open SlS SlT
theorem outR_get : ∀ (l : List (Int × ByteArray)) (i : Nat) (p : Int × ByteArray), l[i]? = some p → (outR l)[i * 2]? = some (.int .i64 p.1) ∧ (outR l)[i * 2 + 1]? = some (.string p.2)
  | [], i, p, h => by simp at h
  | q :: l, 0, p, h => by
    have : q = p := by simpa using h
    subst this
    exact ⟨rfl, rfl⟩
  | q :: l, i + 1, p, h => by
    have := outR_get l i p (by simpa using h)
    have e : outR (q :: l) = [.int .i64 q.1, .string q.2] ++ outR l := by simp [outR]
    rw [e, List.getElem?_append_right (by show 2 ≤ _; omega), List.getElem?_append_right (by show 2 ≤ _; omega)]
    exact ⟨by rw [show (i + 1) * 2 - [Value.int .i64 q.1, .string q.2].length = i * 2 by show (i + 1) * 2 - 2 = _; omega]; exact this.1, by rw [show (i + 1) * 2 + 1 - [Value.int .i64 q.1, .string q.2].length = i * 2 + 1 by show (i + 1) * 2 + 1 - 2 = _; omega]; exact this.2⟩
theorem out_cells {W : World} {e : TypeId} {A : Option Addr} {c b : Nat} {l : List (Int × ByteArray)} (h : W.ownsRow b e 2 (.slice A l.length c) l.length (outR l)) : l.length ≤ c ∧ ∀ i p, l[i]? = some p → ∃ g, A = some ⟨g, 0, none⟩ ∧ g < W.heap.size ∧ W.cell? ⟨g, i * 2, none⟩ = some (.int .i64 p.1) ∧ W.cell? ⟨g, i * 2 + 1, none⟩ = some (.string p.2) := by
  rcases h with ⟨hl, ⟨he, hn⟩ | ⟨g, cap, cur, he, hb, hh, hc, hm, hs, ht⟩⟩
  · injection he with h1 h2 h3
    refine ⟨by omega, fun i p hp => ?_⟩
    have := (List.getElem?_eq_some_iff.1 hp).1
    omega
  · injection he with h1 h2 h3
    subst h1 h3
    refine ⟨hc, fun i p hp => ⟨g, rfl, (Array.getElem?_eq_some_iff.1 hh).1, ?_⟩⟩
    have hi := (List.getElem?_eq_some_iff.1 hp).1
    obtain ⟨e1, e2⟩ := outR_get l i p hp
    have key : ∀ j, j < l.length * 2 → W.cell? ⟨g, j, none⟩ = (outR l)[j]? := fun j hj => by
      rw [cellBox hh, ← ht, List.getElem?_take_of_lt hj, Array.getElem?_toList]
    exact ⟨by rw [key _ (by omega)]; exact e1, by rw [key _ (by omega)]; exact e2⟩
theorem encT_size (q : Pkt) : (encT q).size ≤ 65413 := by
  unfold encT
  split
  · show (encV _ _ _ _ _ _).toArray.size ≤ _
    rw [List.size_toArray, encV_len]
    have := print_len (hasN q.cl)
    have e : (printH (hasN q.cl)).length = (printV (rangesV ((List.range 16384).filter (hasN q.cl)))).length := rfl
    omega
  · decide
/-- a call on the bus i left this -/
def Left (w0 W : World) (L : List BX) (i : Nat) (β : BX) (v : VS) (l : List (Int × ByteArray)) (W' : World) : Prop :=
  ∃ x' : Value, AllB w0 W' (L.set i ⟨β.b, β.g, x', v, l⟩) ∧ But β.ft W W' ∧ ∀ k, x'.ownBlock = some k → β.ft k ∨ W.heap.size ≤ k
theorem left_of {w0 W W' : World} {L : List BX} (h : AllB w0 W L) {i : Nat} {β : BX} (hi : L[i]? = some β) {v : VS} {l : List (Int × ByteArray)} (hp : BusPost W β.b β.g β.x v l W') : Left w0 W L i β v l W' := h.post hi hp
theorem aPing_calls {w0 W : World} {L : List BX} (h : AllB w0 W L) {i : Nat} {β : BX} (hi : L[i]? = some β) (tgt : Int) (hl : β.l.length ≤ 1000000000) :
    Calls Tryz.prog 9 #[.pointer (some ⟨β.b, 0, none⟩), .int .i64 tgt] W fun e W' => ∃ n : Int, e = .returned (.int .i64 n) ∧ Left w0 W L i β β.v (if 0 ≤ tgt ∧ tgt < 64 ∧ tgt ≠ (β.v.self : Int) then β.l ++ layL tgt [tellV β.v 1] else β.l) W' := by
  refine (bPing_calls W (h.all i β hi) (h.envs hi) tgt hl).mono ?_
  intro e W' hT
  unfold TellPost at hT
  by_cases h1 : 0 ≤ tgt ∧ tgt < 64 ∧ tgt ≠ (β.v.self : Int)
  · rw [if_pos h1] at hT ⊢
    exact ⟨0, hT.1, left_of h hi hT.2⟩
  · rw [if_neg h1] at hT ⊢
    exact ⟨150, hT.1, left_of h hi hT.2⟩
theorem aTake_calls {w0 W : World} {L : List BX} (h : AllB w0 W L) {i : Nat} {β : BX} (hi : L[i]? = some β) (hl : β.l.length ≤ 1000000000)
    {C : Nat → Nat → Bool} (hC : ∀ s j k : Nat, C j s = true → C k s = true → j = k) {n j : Nat} (hn : HN C n β.v) (hj : j < 64) (hjn : j ≠ n) {q : Pkt} (hq : Told C j q) :
    Calls Tryz.prog 11 #[.pointer (some ⟨β.b, 0, none⟩), .string (encT q)] W fun e W' => e = .returned (.bool true) ∧
      ∃ v' ps, HN C n v' ∧ (∀ p ∈ ps, Told C n p) ∧ ps.length = (if q.kind = 1 then 1 else 0) ∧ (∀ s, s < 16384 → v'.own s = if C j s = true then (j : Int) else β.v.own s) ∧ Left w0 W L i β v' (β.l ++ layL (j : Int) ps) W' := by
  obtain ⟨v', ps, he, h1, h2, h3, h4⟩ := takeB_told hC hj hjn hn hq
  have hc := hn.hon.cur
  refine (bTake_calls W (h.all i β hi) (h.envs hi) (encT q) (Nat.le_trans (encT_size q) (by decide)) (by omega) hl).mono ?_
  rintro e W' ⟨rfl, hB⟩
  rw [he] at hB ⊢
  exact ⟨rfl, v', ps, h1, h2, h3, h4, left_of h hi hB⟩
theorem aOuts_calls {w0 W : World} {L : List BX} (h : AllB w0 W L) {i : Nat} {β : BX} (hi : L[i]? = some β) :
    Calls Tryz.prog 10 #[.pointer (some ⟨β.b, 0, none⟩)] W fun e W' => ∃ Y c, e = .returned (.slice Y β.l.length c) ∧ AllB w0 W' (L.set i ⟨β.b, β.g, .slice none 0 0, β.v, []⟩) ∧ W'.ownsRow 0 35 2 (.slice Y β.l.length c) β.l.length (outR β.l) ∧
      (∀ k, (Value.slice Y β.l.length c).ownBlock = some k → ∀ (j : Nat) (γ : BX), (L.set i ⟨β.b, β.g, .slice none 0 0, β.v, []⟩)[j]? = some γ → ¬ γ.ft k) := by
  have hB := h.all i β hi
  have hil : i < L.length := (List.getElem?_eq_some_iff.1 hi).1
  refine (bOuts_calls W hB).mono ?_
  rintro e W' ⟨rfl, h1, h2, h3⟩
  obtain ⟨Y, c, hx⟩ := own_slice h2
  have haw : ∀ k, β.x.ownBlock = some k → ∀ (j : Nat) (γ : BX), (L.set i ⟨β.b, β.g, .slice none 0 0, β.v, []⟩)[j]? = some γ → ¬ γ.ft k := by
    intro k hk j γ hj hf
    by_cases e : i = j
    · subst e
      rw [List.getElem?_set_self hil] at hj
      injection hj with hj
      subst hj
      rcases hf with hf | hf | hf
      · exact hB.nb (by rw [hk, hf])
      · exact hB.ng (by rw [hk, hf])
      · simp [Value.ownBlock] at hf
    · rw [List.getElem?_set_ne e] at hj
      exact h.sep i j β γ hi hj e k (Or.inr (Or.inr hk)) hf
  refine ⟨Y, c, by rw [hx], h.outs hi h1 h3, by rw [← hx]; exact h2, by rw [← hx]; exact haw⟩
theorem aView_calls {w0 W : World} {L : List BX} (h : AllB w0 W L) {i : Nat} {β : BX} (hi : L[i]? = some β) :
    Calls Tryz.prog 19 #[.pointer (some ⟨β.b, 0, none⟩)] W fun e W' => ∃ g', e = .returned (.pointer (some ⟨g', 0, none⟩)) ∧ VB W' g' β.v ∧ AllB w0 W' L ∧ Below W.heap.size W W' := by
  refine (bView_calls W (h.all i β hi)).mono ?_
  rintro e W' ⟨g', rfl, h1, h2, h3⟩
  exact ⟨g', rfl, h2, h.below h3, h3⟩
end Go.Proofs.YtgdcnenlelckhaaGreatDoor

namespace Go.Proofs.YtgdcnenlelckhaaGreatDoor
open Go.RowKit Go.Proofs.YtgdcnenlelckhaaGreatDoorW.PrintWords
open SlS SlT
/-- who claims what -/
def C0 (j s : Nat) : Bool := (j == 0 && decide (s < 5)) || (j == 1 && s == 5)
theorem c0_one : ∀ s j k : Nat, C0 j s = true → C0 k s = true → j = k := by
  intro s j k h1 h2
  unfold C0 at h1 h2
  simp only [Bool.or_eq_true, Bool.and_eq_true, beq_iff_eq, decide_eq_true_eq] at h1 h2
  omega
theorem bits_one (x : Nat) (hx : x < 18446744073709551616) : Words (Tryz.zeroCells43.setIfInBounds 0 (.int .u64 x)) (fun k => if k = 0 then x else 0) := by
  exact zero_words.set 0 (by decide) x hx
theorem has31 : ∀ s, s < 16384 → hasN (fun k => if k = 0 then 31 else 0) s = C0 0 s := by
  intro s hs
  unfold hasN C0
  by_cases h : s < 64
  · have : ∀ s, s < 64 → (if s / 64 = 0 then 31 else 0 : Nat).testBit (s % 64) = ((0 == 0 && decide (s < 5)) || ((0:Nat) == 1 && s == 5)) := by decide
    exact this s h
  · have e : ¬ s / 64 = 0 := by omega
    have e2 : ¬ s < 5 := by omega
    simp [e, e2]
theorem has32 : ∀ s, s < 16384 → hasN (fun k => if k = 0 then 32 else 0) s = C0 1 s := by
  intro s hs
  unfold hasN C0
  by_cases h : s < 64
  · have : ∀ s, s < 64 → (if s / 64 = 0 then 32 else 0 : Nat).testBit (s % 64) = (((1:Nat) == 0 && decide (s < 5)) || (1 == 1 && s == 5)) := by decide
    exact this s h
  · have e : ¬ s / 64 = 0 := by omega
    have e2 : ¬ s = 5 := by omega
    simp [e, e2]
set_option maxHeartbeats 2000000 in
set_option maxRecDepth 100000 in
theorem alive_calls (w : World) (hE : Env w) : Calls Tryz.prog 8 #[] w fun e w' => e = .returned (.bool true) ∧ Below w.heap.size w w' := by
  have n0 : ∀ W, _ := fun W => bNew_calls 0 _ _ (bits_one 31 (by decide)) 1 (by decide) W
  have n1 : ∀ W, _ := fun W => bNew_calls 1 _ _ (bits_one 32 (by decide)) 2 (by decide) W
  unfold BNewPost at n0 n1
  simp only [show (0 : Int) ≤ 0 ∧ (0 : Int) < 64 from by decide, show (0 : Int) ≤ 1 ∧ (1 : Int) < 64 from by decide, show 1 ≤ 4611686018427387904 from by decide, show 2 ≤ 4611686018427387904 from by decide, and_self, if_true] at n0 n1
  have hv0 : HN C0 0 (newV (0 : Int).toNat 1 (fun k => if k = 0 then 31 else 0)) := new_honest 0 (by decide) _ has31
  have hv1 : HN C0 1 (newV (1 : Int).toNat 2 (fun k => if k = 0 then 32 else 0)) := new_honest 1 (by decide) _ has32
  generalize newV (0 : Int).toNat 1 (fun k => if k = 0 then 31 else 0) = va at *
  generalize newV (1 : Int).toNat 2 (fun k => if k = 0 then 32 else 0) = vb at *
  have hA0 := AllB.nil hE
  have s0 : va.self = 0 := hv0.hon.self
  have s1 : vb.self = 1 := hv1.hon.self
  have n0 := Lib.hid n0
  have n1 := Lib.hid n1
  have hv0 := Lib.hid hv0
  have hv1 := Lib.hid hv1
  have s0 := Lib.hid s0
  have s1 := Lib.hid s1
  go_enter Tryz.func8, Tryz.ntmps8
  go_wp2_with fail
  refine (n0.out w).mono ?_
  rintro e w1 ⟨hb1, b0, g0, rfl, hl1, hl2, hB1⟩
  have hA1 : AllB w w1 [⟨b0, g0, .slice none 0 0, va, []⟩] := hA0.add hb1 hl1 hl2 hB1
  have hA1 := Lib.hid hA1
  clear hA0 hb1 hl1 hl2 hB1
  go_wp2_with fail
  refine (n1.out w1).mono ?_
  rintro e w2 ⟨hb1, b1, g1, rfl, hl1, hl2, hB1⟩
  have hA2 : AllB w w2 [⟨b0, g0, .slice none 0 0, va, []⟩, ⟨b1, g1, .slice none 0 0, vb, []⟩] := hA1.out.add hb1 hl1 hl2 hB1
  have hA2 := Lib.hid hA2
  clear hA1 hb1 hl1 hl2 hB1
  go_wp2_with fail
  refine (aPing_calls hA2.out (i := 0) rfl 1 (Nat.zero_le _)).mono ?_
  rintro e w3 ⟨k3, rfl, x3, h3, -⟩
  rw [if_pos (by show (0:Int) ≤ 1 ∧ (1:Int) < 64 ∧ (1:Int) ≠ ((va.self : Nat) : Int); rw [s0.out]; decide)] at h3
  have hA3 : AllB w w3 [⟨b0, g0, x3, va, layL 1 [tellV va 1]⟩, ⟨b1, g1, .slice none 0 0, vb, []⟩] := h3
  have hA3 := Lib.hid hA3
  clear hA2 h3
  go_wp2_with fail
  refine (aOuts_calls hA3.out (i := 0) rfl).mono ?_
  rintro e w4 ⟨Y4, c4, rfl, h4, hr4, -⟩
  have hA4 : AllB w w4 [⟨b0, g0, .slice none 0 0, va, []⟩, ⟨b1, g1, .slice none 0 0, vb, []⟩] := h4
  obtain ⟨hc4, hq4⟩ := out_cells hr4
  obtain ⟨y4, rfl, -, p4, q4⟩ := hq4 0 (1, encT (tellV va 1)) rfl
  have hA4 := Lib.hid hA4
  clear hA3 h4 hr4 hc4 hq4
  have ht := Lib.hid (told_of hv0.out 1 (Or.inl rfl))
  have hl4 : (layL 1 [tellV va 1]).length = 1 := rfl
  go_wp2_with fail
  refine (aTake_calls hA4.out (i := 1) rfl (Nat.zero_le _) c0_one hv1.out (by decide) (by decide) ht.out).mono ?_
  rintro e w5 ⟨rfl, vc, ps, hvc, hps, hln, hown, x5, h5, -⟩
  rw [if_pos (show (tellV va 1).kind = 1 from rfl)] at hln
  obtain ⟨p, rfl⟩ := List.length_eq_one_iff.1 hln
  have hA5 : AllB w w5 [⟨b0, g0, .slice none 0 0, va, []⟩, ⟨b1, g1, x5, vc, layL 0 [p]⟩] := h5
  have hp := Lib.hid (hps p (by simp))
  have hA5 := Lib.hid hA5
  clear hA4 h5 hln hown hps p4 q4 hl4
  go_wp2_with fail
  refine (aOuts_calls hA5.out (i := 1) rfl).mono ?_
  rintro e w6 ⟨Y6, c6, rfl, h6, hr6, -⟩
  have hA6 : AllB w w6 [⟨b0, g0, .slice none 0 0, va, []⟩, ⟨b1, g1, .slice none 0 0, vc, []⟩] := h6
  obtain ⟨hc6, hq6⟩ := out_cells hr6
  obtain ⟨y6, rfl, -, p6, q6⟩ := hq6 0 (0, encT p) rfl
  have hl6 : (layL 0 [p]).length = 1 := rfl
  have hA6 := Lib.hid hA6
  clear hA5 h6 hr6 hc6 hq6
  go_wp2_with fail
  refine (aTake_calls hA6.out (i := 0) rfl (Nat.zero_le _) c0_one hv0.out (by decide) (by decide) hp.out).mono ?_
  rintro e w7 ⟨rfl, vd, ps7, hvd, -, -, hown7, x7, h7, -⟩
  have ho5 : vd.own 5 = 1 := by rw [hown7 5 (by decide), if_pos (by decide)]; rfl
  have hA7 : AllB w w7 [⟨b0, g0, x7, vd, layL 1 ps7⟩, ⟨b1, g1, .slice none 0 0, vc, []⟩] := h7
  have hA7 := Lib.hid hA7
  have ho5 := Lib.hid ho5
  clear hA6 h7 hown7
  go_wp2_with fail
  refine (aView_calls hA7.out (i := 0) rfl).mono ?_
  rintro e w8 ⟨g8, rfl, hv8, h8, -⟩
  have hA8 := Lib.hid h8
  clear hA7 hv8 h8
  go_wp2_with fail
  refine (aView_calls hA8.out (i := 0) rfl).mono ?_
  rintro e w9 ⟨g9, rfl, hv9, h9, -⟩
  have hV := vOwner_calls w9 hv9 5 (by decide)
  rw [show vd.own 5 = 1 from ho5.out] at hV
  have hV := Lib.hid hV
  have hA9 := Lib.hid h9
  clear hA8 hv9 h9
  go_wp2_with fail
  refine hV.out.mono ?_
  rintro e w10 ⟨rfl, rfl⟩
  clear hV
  go_wp2_with fail
  go_ret
  exact ⟨rfl, hA9.out.bel⟩
end Go.Proofs.YtgdcnenlelckhaaGreatDoor

namespace Go.Proofs.YtgdcnenlelckhaaGreatDoor
open Go.RowKit Go.Proofs.YtgdcnenlelckhaaGreatDoorW.PrintWords
open SlS SlT
/-- a call of a script -/
structure OpV where
  kind : Int
  n : Int
  slot : Int
  least : Nat
  s : ByteArray
instance : Inhabited OpV := ⟨⟨0, 0, 0, 0, ⟨#[]⟩⟩⟩
def opC (O : OpV) : List Value := [.int .i64 O.kind, .int .i64 O.n, .int .i64 O.slot, .int .u64 O.least, .string O.s]
/-- a script, as a row -/
def Ops (W : World) (A : Option Addr) (l : List OpV) : Prop := ∀ (i : Nat) (O : OpV), l[i]? = some O → O.least < 18446744073709551616 ∧ ∃ g o, A = some ⟨g, o, none⟩ ∧ g < W.heap.size ∧ ∀ (k : Nat) (v : Value), (opC O)[k]? = some v → W.cell? ⟨g, o + i * 5 + k, none⟩ = some v
theorem Ops.below {w w' : World} {A : Option Addr} {l : List OpV} (h : Ops w A l) (hb : Below w.heap.size w w') : Ops w' A l := fun i O hO => by
  obtain ⟨h1, g, o, hA, hg, hc⟩ := h i O hO
  exact ⟨h1, g, o, hA, Nat.lt_of_lt_of_le hg hb.size, fun k v hk => (hb.cell (p := ⟨g, o + i * 5 + k, none⟩) hg).trans (hc k v hk)⟩
theorem Ops.at {W : World} {A : Option Addr} {l : List OpV} (h : Ops W A l) {i : Nat} {O : OpV} (hO : l[i]? = some O) : ∃ g o, A = some ⟨g, o, none⟩ ∧ g < W.heap.size ∧ W.cell? ⟨g, o + i * 5, none⟩ = some (.int .i64 O.kind) ∧ W.cell? ⟨g, o + i * 5 + 1, none⟩ = some (.int .i64 O.n) ∧ W.cell? ⟨g, o + i * 5 + 2, none⟩ = some (.int .i64 O.slot) ∧ W.cell? ⟨g, o + i * 5 + 3, none⟩ = some (.int .u64 O.least) ∧ W.cell? ⟨g, o + i * 5 + 4, none⟩ = some (.string O.s) := by
  obtain ⟨-, g, o, hA, hg, hc⟩ := h i O hO
  exact ⟨g, o, hA, hg, hc 0 _ rfl, hc 1 _ rfl, hc 2 _ rfl, hc 3 _ rfl, hc 4 _ rfl⟩
/-- how a bus begins, by value -/
structure BegIs (c : Array Value) (sf : Int) (ep : Nat) (a : Array Value) (f : Nat → Nat) : Prop where
  cells : c = (#[.int .i64 sf] ++ a) ++ #[.int .u64 ep]
  words : Words a f
  he : ep < 18446744073709551616
theorem BegIs.size {c : Array Value} {sf : Int} {ep : Nat} {a : Array Value} {f : Nat → Nat} (h : BegIs c sf ep a f) : c.size = 258 := by
  rw [h.cells, Array.size_append, Array.size_append, h.words.size]; rfl
theorem BegIs.at {c : Array Value} {sf : Int} {ep : Nat} {a : Array Value} {f : Nat → Nat} (h : BegIs c sf ep a f) {W : World} {b : Nat} (hb : W.heap[b]? = some (.cells c 45 (0, 0))) :
    W.cell? ⟨b, 0, none⟩ = some (.int .i64 sf) ∧ W.cell? ⟨b, 257, none⟩ = some (.int .u64 ep) ∧ W.rangeAt b 1 a.toList := by
  refine ⟨?_, ?_, fun j u hj => ?_⟩
  · rw [cellBox hb, h.cells, Array.getElem?_append_left (by simp [h.words.size]), Array.getElem?_append_left (by simp)]; rfl
  · rw [cellBox hb, h.cells, Array.getElem?_append_right (by simp [h.words.size])]
    have e : 257 - (#[Value.int .i64 sf] ++ a).size = 0 := by simp [h.words.size]
    rw [e]; rfl
  · have hjl : j < a.toList.length := (List.getElem?_eq_some_iff.1 hj).1
    rw [Array.length_toList] at hjl
    rw [cellBox hb, h.cells, Array.getElem?_append_left (by simp; omega), Array.getElem?_append_right (by simp)]
    have e : 1 + j - (#[Value.int .i64 sf] : Array Value).size = j := by simp
    rw [e]
    rw [Array.getElem?_toList] at hj
    exact hj
theorem wpList_load_mid_g {P : Program} {ops : Array Oper} {rest : List Oper} {o : Oper} {a : Act} {w : World} {Q : Exit → Act → World → Prop} (hw : Region.wanted o (yielded ops a.tmps) = true) (ty : TypeId) (x : Operand) (ho : o.op = .load ty x)
    (b k : Nat) (hx : a.eval x = .pointer (some ⟨b, k, none⟩)) (cs : List Value) (d : TypeDesc) (hc : w.rangeAt b k cs)
    (hu : P.underlying ty = some d) (hd : d.isRow = true) (hi : (P.info? ty).map (·.size) = some cs.length)
    (h : wpList P ops Q rest (a.put o.dst (.agg cs.toArray)) w) : wpList P ops Q (o :: rest) a w :=
  wpList_step fun K hK => by rw [if_pos hw]; exact wp_load_mid ty x ho b k hx cs d hc hu hd hi (hK _ _ h)
theorem dcres_pk {s : List UInt8} {k : Array Value} {x : Int} (h : DcRes s k x) : ∃ q, PkIs k q := by
  unfold DcRes at h
  cases hd : decP s with
  | none => rw [hd] at h; exact ⟨⟨0, 0, 0, 0, 0, fun _ => 0⟩, by rw [h.2]; exact ⟨_, zero_pk⟩⟩
  | some q => rw [hd] at h; exact ⟨q, h.2⟩
def Few (l : List OpV) : Prop := l.length ≤ 40 ∧ ∀ (i : Nat) (O : OpV), l[i]? = some O → O.s.size ≤ 2000
set_option maxHeartbeats 4000000 in
set_option maxRecDepth 100000 in
theorem few_calls (w : World) (hE : Env w) (cB : Array Value) (sf : Int) (ep : Nat) (a : Array Value) (f : Nat → Nat) (hB : BegIs cB sf ep a f) (A : Option Addr) (c : Nat) (l : List OpV) (hl : Ops w A l) (hc : l.length ≤ c) (hcm : c ≤ 9223372036854775807)
    (hsz : ∀ (i : Nat) (O : OpV), l[i]? = some O → O.s.size ≤ 4294967296) :
    Calls Tryz.prog 15 #[.agg cB, .slice A l.length c] w fun e w' => ∃ r, e = .returned (.bool r) ∧ (r = true → Few l) ∧ Below w.heap.size w w' := by
  have hb1 := below_new' w (.cells cB 45)
  obtain ⟨-, -, hr1⟩ := hB.at (heapN w (.cells cB 45))
  have hia := info43l hB.words
  have hR := Lib.hid (fun W => refRanges_calls a f hB.words W)
  clear hB
  by_cases hn : 40 < l.length
  · have hgo : decide ((40 : Int) < (l.length : Int)) = true := decide_eq_true (by omega)
    have hb1 := Lib.hid hb1
    clear hr1
    go_enter Tryz.func15, Tryz.ntmps15
    go_wp2_with fail
    go_ret
    exact ⟨false, rfl, (fun h => nomatch h), hb1.out⟩
  · have hgo : decide ((40 : Int) < (l.length : Int)) = false := decide_eq_false (by omega)
    replace hb1 := Lib.hid hb1
    go_enter Tryz.func15, Tryz.ntmps15
    go_wp2_with (refine wpList_load_mid_g (by first | rfl | simp [Region.wanted, yielded]) 43 _ rfl w.heap.size 1 rfl a.toList _ hr1 Tryz.underlying43 rfl hia ?_; rw [Array.toArray_toList])
    refine (hR.out _).mono ?_
    rintro e w2 ⟨v, rfl, hown, hb2⟩
    obtain ⟨Y, c2, rfl⟩ := own_slice hown
    have hbw2 := hb1.out.trans (hb2.mono hb1.out.size)
    clear hown hr1 hb1 hb2 hR
    generalize (rangesV (upto f 16384)).length = R at *
    by_cases hR3 : 300 < R
    · have hgo2 : decide ((300 : Int) < (R : Int)) = true := decide_eq_true (by omega)
      have hbw2 := Lib.hid hbw2
      go_wp2_with fail
      go_ret
      exact ⟨false, rfl, (fun h => nomatch h), hbw2.out⟩
    · have hgo2 : decide ((300 : Int) < (R : Int)) = false := decide_eq_false (by omega)
      replace hbw2 := Lib.hid hbw2
      go_wp2_with fail
      have hln : l.length ≤ 40 := by omega
      go_loopw [21] (fun s21 wr => ∃ i : Nat, i ≤ l.length ∧ s21 = .int .i64 i ∧ (∀ j O, j < i → l[j]? = some O → O.s.size ≤ 2000) ∧ Below w.heap.size w wr) (fun s21 _ => l.length - (intOf s21).toNat)
      case atStart => exact ⟨0, by omega, rfl, fun j O hj => by omega, hbw2.out⟩
      case round =>
        obtain ⟨i, hi, rfl, hbf, hb⟩ := hrel
        by_cases hil : i < l.length
        · have hgo3 : decide ((i : Int) < (l.length : Int)) = true := decide_eq_true (by omega)
          have hi0 : (0 : Int) ≤ (i : Int) := by omega
          obtain ⟨O, hO⟩ : ∃ O, l[i]? = some O := ⟨l[i], List.getElem?_eq_getElem hil⟩
          obtain ⟨b, o, rfl, hbl, u0, u1, u2, u3, u4⟩ := hl.at hO
          have hblr : b < wr.heap.size := Nat.lt_of_lt_of_le hbl hb.size
          replace u0 := (hb.cell (p := ⟨b, o + i * 5, none⟩) hbl).trans u0
          replace u1 := (hb.cell (p := ⟨b, o + i * 5 + 1, none⟩) hbl).trans u1
          replace u2 := (hb.cell (p := ⟨b, o + i * 5 + 2, none⟩) hbl).trans u2
          replace u3 := (hb.cell (p := ⟨b, o + i * 5 + 3, none⟩) hbl).trans u3
          replace u4 := (hb.cell (p := ⟨b, o + i * 5 + 4, none⟩) hbl).trans u4
          have hos := hsz i O hO
          replace hb := Lib.hid hb
          replace hbf := Lib.hid hbf
          replace hO := Lib.hid hO
          replace hbw2 := Lib.hid hbw2
          go_wp2_with fail
          have n1 := below_new' wr (.cells (opC O).toArray 59)
          have hbx := heapN wr (.cells (opC O).toArray 59)
          refine (refDecode_calls O.s hos _ (hE.below (hb.out.trans (n1.mono hb.out.size)))).mono ?_
          intro e w3 hd
          obtain ⟨k, x9, rfl, hres, hcs, hone, hb3⟩ := dc_res hd
          obtain ⟨q, hpk⟩ := dcres_pk hres
          have hN := heapN w3 (.cells Tryz.zeroCells67 67)
          have hrw : wr.heap.size < w3.heap.size := Nat.lt_of_lt_of_le (by show wr.heap.size < (wr.alloc _).heap.size; simp) hb3.size
          have m4 : (w3.alloc (.cells Tryz.zeroCells67 67)).cell? ⟨wr.heap.size, 4, none⟩ = some (.string O.s) := by
            rw [World.cell?_of_block ((below_new' w3 _).block _ hrw), World.cell?_of_block (hb3.block _ (by show wr.heap.size < (wr.alloc _).heap.size; simp)), cellBox hbx]; rfl
          have hbz := setRow_heap _ _ _ k _ _ hN
          have m4 : ((w3.alloc (.cells Tryz.zeroCells67 67)).setRow w3.heap.size k).cell? ⟨wr.heap.size, 4, none⟩ = some (.string O.s) := by
            rw [World.cell?_of_block (setRow_other _ _ _ _ (Nat.ne_of_lt hrw))]; exact m4
          obtain ⟨a7, ha7, hr7⟩ := hpk.row hbz
          have hR7 := Lib.hid (fun W => refAll_calls a7 q.cl ha7 W)
          have hia7 := info43l ha7
          have hi : (Tryz.prog.info? 67).map (·.size) = some k.size := by rw [hcs]; exact info26
          have hZ : Tryz.zeroCells67.size = k.size := by rw [hcs]; exact zero_pk.size
          have hb4 : Below w.heap.size w ((w3.alloc (.cells Tryz.zeroCells67 67)).setRow w3.heap.size k) :=
            (hb.out.trans (n1.mono hb.out.size)).trans ((below_setRow (hb3.trans ((below_new' w3 _).mono hb3.size)) hb3.size k).mono (Nat.le_trans hb.out.size n1.size))
          replace hb4 := Lib.hid hb4
          replace hcs := Lib.hid hcs
          clear n1 hbx hd hres hb3 hpk ha7 hbz u0 u1 u2 u3 u4
          generalize hW4 : (w3.alloc (.cells Tryz.zeroCells67 67)).setRow w3.heap.size k = W4 at *
          by_cases h20 : O.s.size ≤ 2000
          · have d20 : decide ((2000 : Int) < (O.s.size : Int)) = false := decide_eq_false (by omega)
            go_wp2_with (first | (refine wpList_store_row rfl 67 _ _ rfl w3.heap.size k rfl rfl 67 Tryz.zeroCells67 hN hi hZ hone ?_) | (refine wpList_load_mid_g (by first | rfl | simp [Region.wanted, yielded]) 43 (.tmp 36) rfl w3.heap.size 5 rfl a7.toList _ hr7 Tryz.underlying43 rfl hia7 ?_; rw [Array.toArray_toList]))
            refine (hR7.out _).mono ?_
            rintro e w5 ⟨v, rfl, hown, hb5⟩
            obtain ⟨Y, c5, rfl⟩ := own_slice hown
            have hbw5 := hb4.out.trans (hb5.mono hb4.out.size)
            replace hbw5 := Lib.hid hbw5
            clear hown hb4 hb5 hR7
            generalize (upto q.cl 16384).length = R7 at *
            by_cases h60 : 600 < R7
            · have d60 : decide ((600 : Int) < (R7 : Int)) = true := decide_eq_true (by omega)
              go_wp2_with fail
              go_ret
              exact ⟨false, rfl, (fun h => nomatch h), hbw5.out⟩
            · have d60 : decide ((600 : Int) < (R7 : Int)) = false := decide_eq_false (by omega)
              go_wp2_with fail
              refine ⟨⟨i + 1, by omega, by go_num, fun j O' hj hO' => ?_, hbw5.out⟩, by simp [intOf]; omega⟩
              by_cases hji : j < i
              · exact hbf.out j O' hji hO'
              · obtain rfl : j = i := by omega
                rw [hO.out] at hO'
                injection hO' with hO'
                subst hO'
                exact h20
          · have d20 : decide ((2000 : Int) < (O.s.size : Int)) = true := decide_eq_true (by omega)
            go_wp2_with (first | (refine wpList_store_row rfl 67 _ _ rfl w3.heap.size k rfl rfl 67 Tryz.zeroCells67 hN hi hZ hone ?_) | fail)
            go_ret
            exact ⟨false, rfl, (fun h => nomatch h), hb4.out⟩
        · obtain rfl : i = l.length := by omega
          have hgo3 : decide ((l.length : Int) < (l.length : Int)) = false := decide_eq_false (by omega)
          replace hb := Lib.hid hb
          replace hbf := Lib.hid hbf
          go_wp2_with fail
          go_ret
          exact ⟨true, rfl, fun _ => ⟨hln, fun j O hO => hbf.out j O (List.getElem?_eq_some_iff.1 hO).1 hO⟩, hb.out⟩
end Go.Proofs.YtgdcnenlelckhaaGreatDoor
