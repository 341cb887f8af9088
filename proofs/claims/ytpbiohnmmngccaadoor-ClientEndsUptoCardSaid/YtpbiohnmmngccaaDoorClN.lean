/- A call is sent. Conditions: none. -/
import Derived.Test.YtpbiohnmmngccaaDoorClM
import Derived.Test.YtpbiohnmmngccaaDoorRsT
set_option linter.unusedVariables false
set_option linter.unusedSimpArgs false
namespace Go.Proofs.YtpbiohnmmngccaaDoor
open Go Go.RowKit Go.Maps Go.Proofs.YtpbiohnmmngccaaDoorW.PrintWords
/-- what a client does next, as cells -/
def outC (dst lk ln : Int) (args : Value) (asking : Int) (send : Bool) (rk ri : Int) (rt : ByteArray) (rl : Value) (done : Bool) : Array Value :=
  #[.int .i64 dst, .int .i64 lk, .int .i64 ln, .int .i64 0, .int .i64 0, .string ⟨#[]⟩, .string ⟨#[]⟩, args, .int .i64 0, .int .i64 0, .string ⟨#[]⟩, .slice none 0 0, .bool false, .int .i64 asking, .bool send, .int .i64 rk, .int .i64 ri, .string rt, rl, .bool done]
def out0 : Array Value := outC 0 0 0 (.slice none 0 0) 0 false 0 0 ⟨#[]⟩ (.slice none 0 0) false
def SentPost (m g : Nat) (s : CS) (dst asking : Int) (w : World) (e : Ending) (w' : World) : Prop :=
  ∃ A' c', e = .returned (.agg (outC dst 1 (s.num + 1) (.slice A' s.args.length c') asking true 0 0 ⟨#[]⟩ (.slice none 0 0) false)) ∧ Cl m g { s with num := s.num + 1 } w' ∧ Keep2 m g w w'
structure SS (g B : Nat) (bx : Array Value) (w1 W : World) : Prop where
  box : W.heap[g]? = some (.cells bx 51 (0, 0))
  out : W.heap[B]? = some (.cells out0 32 (0, 0))
  below : Below w1.heap.size w1 W
theorem SS.step {g B : Nat} {bx : Array Value} {w1 W W' : World} (h : SS g B bx w1 W) (hb : Below W.heap.size W W') : SS g B bx w1 W' :=
  ⟨(hb.block _ (Array.getElem?_eq_some_iff.1 h.box).1).trans h.box, (hb.block _ (Array.getElem?_eq_some_iff.1 h.out).1).trans h.out, h.below.trans (hb.mono h.below.size)⟩
theorem box_cells {g : Nat} {a b c d e : Value} {t : TypeId} {W : World} (h : W.heap[g]? = some (.cells #[a, b, c, d, e] t (0, 0))) :
    W.cell? ⟨g, 0, none⟩ = some a ∧ W.cell? ⟨g, 1, none⟩ = some b ∧ W.cell? ⟨g, 2, none⟩ = some c ∧ W.cell? ⟨g, 3, none⟩ = some d ∧ W.cell? ⟨g, 4, none⟩ = some e := by
  refine ⟨?_, ?_, ?_, ?_, ?_⟩ <;> (rw [cell_of_box h]; rfl)
theorem box_open {g i : Nat} {cs : Array Value} {t : TypeId} {W : World} (h : W.heap[g]? = some (.cells cs t (0, 0))) : W.frozen? ⟨g, i, none⟩ = false := by
  unfold World.frozen?
  rw [h]
  simp
theorem info32 : (Tryd.prog.info? 32).map (·.size) = some 20 := by kernel_rfl
theorem out_one (dst lk ln : Int) (A : Option Addr) (n c : Nat) (asking : Int) (send : Bool) (rk ri : Int) (rt : ByteArray) (B : Option Addr) (k d : Nat) (done : Bool) : (outC dst lk ln (.slice A n c) asking send rk ri rt (.slice B k d) done).all (·.oneCell') = true := by
  simp [outC, Value.oneCell']
theorem results_cell1 {P : Program} {fn : Func} {p : Tmp} {ty : TypeId} (h : fn.results = #[.cell p ty]) (tmps : Array Value) (w : World) (g : Nat) (t : TypeId) (cs : Array Value) (fr : Nat × Nat) (d : TypeDesc)
    (hp : tmps.getD p undef = .pointer (some ⟨g, 0, none⟩)) (hg : w.heap[g]? = some (.cells cs t fr))
    (hu : P.underlying ty = some d) (hd : (match d with | .struct _ | .array _ _ => true | _ => false) = true) (hi : (P.info? ty).map (·.size) = some cs.size) :
    (results fn tmps).run P w = .ok (.agg cs) w := by
  have hp' : tmps[p]?.getD undef = .pointer (some ⟨g, 0, none⟩) := by simpa using hp
  simp [results, h, hp', asAddr, run_loadVar_row w g t ty cs fr d hg hu hd hi]
/-- an own block of another kind is written -/
theorem Cl.row {m g B : Nat} {s : CS} {W : World} (h : Cl m g s W) {old cs : Array Value} {t : TypeId} {fr : Nat × Nat} (hB : W.heap[B]? = some (.cells old t fr)) (ht : t ≠ 9) (hm : m ≠ B) (hg : g ≠ B) : Cl m g s (W.setRow B cs) := by
  obtain ⟨A, c, h1, h2, h3, h8⟩ := h.box
  obtain ⟨n, D, ⟨es, ck, h4, h5⟩, h6, h7⟩ := h.map
  have hk : ∀ (k : Nat) (cs' : Array Value) (fr : Nat × Nat), W.heap[k]? = some (Obj.cells cs' 9 fr) → (W.setRow B cs).heap[k]? = W.heap[k]? := fun k cs' fr' hc => setRow_other _ _ _ _ (by
    rintro rfl
    rw [hB] at hc
    injection hc with hc
    injection hc with _ hc
    exact ht hc)
  exact ⟨⟨A, c, (setRow_other _ _ _ _ hg).trans h1, strs_keep h2 h8 hk, h3, T9.keep h8 hk⟩, ⟨n, D, ⟨es, ck, (setRow_other _ _ _ _ hm).trans h4, h5⟩, h6, h7⟩, h.ne⟩
set_option maxHeartbeats 4000000 in
set_option maxRecDepth 100000 in
theorem send_calls (m g : Nat) (s : CS) (dst asking : Int) (hn : 0 ≤ s.num ∧ s.num ≤ 1000000000) (hl : s.args.length ≤ 1000000) (w : World) (h : Cl m g s w) :
    Calls Tryd.prog 17 #[.pointer (some ⟨g, 0, none⟩), .int .i64 dst, .int .i64 asking] w (SentPost m g s dst asking w) := by
  obtain ⟨A, c, hb, hr, hc, hT⟩ := h.box
  replace hT := Lib.hid hT
  obtain ⟨c0, c1, c2, c3, c4⟩ := cl_cells hb
  have hg := h.lt.2
  have hw : IntKind.i64.wrap (s.num + 1) = s.num + 1 := by simp [IntKind.wrap, IntKind.bits, IntKind.signed]; omega
  have f3w : w.frozen? ⟨g, 3, none⟩ = false := box_open hb
  have hx0 : (w.setCell ⟨g, 3, none⟩ (.int .i64 (s.num + 1))).heap[g]? = some (.cells #[.int .i64 s.home, .map (some m), .slice A s.args.length c, .int .i64 (s.num + 1), .int .i64 s.bud] 51 (0, 0)) := heap_setCell_same _ g 3 _ _ _ hb
  have hb0 : Below (w.setCell ⟨g, 3, none⟩ (.int .i64 (s.num + 1))).heap.size (w.setCell ⟨g, 3, none⟩ (.int .i64 (s.num + 1))) ((w.setCell ⟨g, 3, none⟩ (.int .i64 (s.num + 1))).alloc (.cells out0 32)) := below_alloc (Below.refl _ _) _
  have hz1 : ((w.setCell ⟨g, 3, none⟩ (.int .i64 (s.num + 1))).alloc (.cells out0 32)).heap[w.heap.size]? = some (.cells out0 32 (0, 0)) := by
    have := heap_alloc_new (w.setCell ⟨g, 3, none⟩ (.int .i64 (s.num + 1))) (.cells out0 32)
    rwa [World.size_setCell] at this
  have hx1 := (hb0.block g (by rw [World.size_setCell]; exact hg)).trans hx0
  have hk1 : Keep2 m g w ((w.setCell ⟨g, 3, none⟩ (.int .i64 (s.num + 1))).alloc (.cells out0 32)) :=
    (⟨rfl, rfl, rfl, by rw [World.size_setCell]; exact Nat.le_refl _, fun k hk h1 h2 => Below.heap_setCell _ _ _ k h2⟩ : Keep2 m g w (w.setCell ⟨g, 3, none⟩ (.int .i64 (s.num + 1)))).below (hb0.mono (by rw [World.size_setCell]; exact Nat.le_refl _))
  have hm1 : ((w.setCell ⟨g, 3, none⟩ (.int .i64 (s.num + 1))).alloc (.cells out0 32)).heap[m]? = w.heap[m]? := (hb0.block m (by rw [World.size_setCell]; exact h.lt.1)).trans (Below.heap_setCell _ _ _ m h.ne)
  replace hm1 := Lib.hid hm1
  replace hx0 := Lib.hid hx0
  replace hb0 := Lib.hid hb0
  replace hx1 := Lib.hid hx1
  replace hz1 := Lib.hid hz1
  replace hk1 := Lib.hid hk1
  replace hb := Lib.hid hb
  replace hr := Lib.hid hr
  replace h := Lib.hid h
  go_enter Tryd.func17, Tryd.ntmps17
  go_wp2_with fail
  change Code.wp _ _ _ _ ((w.setCell ⟨g, 3, none⟩ (.int .i64 (s.num + 1))).alloc (.cells out0 32))
  generalize ((w.setCell ⟨g, 3, none⟩ (.int .i64 (s.num + 1))).alloc (.cells out0 32)) = W1 at *
  have hS : SS g w.heap.size #[.int .i64 s.home, .map (some m), .slice A s.args.length c, .int .i64 (s.num + 1), .int .i64 s.bud] W1 W1.drew := (SS.mk hx1.out hz1.out (Below.refl _ _)).step ⟨rfl, rfl, rfl, Nat.le_refl _, fun _ _ => rfl⟩
  refine wp_region_last (S := SS g w.heap.size #[.int .i64 s.home, .map (some m), .slice A s.args.length c, .int .i64 (s.num + 1), .int .i64 s.bud] W1) 13 (by kernel_rfl) ?_
  refine wpAnyT_take (i := 0) (oi := ⟨some 14, _, _, _, _, _⟩) (v := .int .i64 dst) rfl (by kernel_rfl) (by kernel_rfl) (by kernel_rfl) (by kernel_rfl) (fun _ _ _ h => h) (Or.inl ⟨by rfl, fun W hW => by go_simp⟩) (by assumption) ?_
  try simp only [Act.put, List.setIfInBounds_toArray, List.set_cons_zero, List.set_cons_succ]
  refine wpAnyT_take (i := 1) (oi := ⟨some 15, _, _, _, _, _⟩) (v := .pointer (some ⟨g, 0, none⟩)) rfl (by kernel_rfl) (by kernel_rfl) (by kernel_rfl) (by kernel_rfl) (fun _ _ _ h => h) (Or.inl ⟨by rfl, fun W hW => by go_simp⟩) (by assumption) ?_
  try simp only [Act.put, List.setIfInBounds_toArray, List.set_cons_zero, List.set_cons_succ]
  refine wpAnyT_take (i := 2) (oi := ⟨some 16, _, _, _, _, _⟩) (v := .pointer (some ⟨g, 0, none⟩)) rfl (by kernel_rfl) (by kernel_rfl) (by kernel_rfl) (by kernel_rfl) (fun _ _ _ h => h) (Or.inl ⟨by rfl, fun W hW => by go_simp⟩) (by assumption) ?_
  try simp only [Act.put, List.setIfInBounds_toArray, List.set_cons_zero, List.set_cons_succ]
  refine wpAnyT_take (i := 3) (oi := ⟨some 17, _, _, _, _, _⟩) (v := .pointer (some ⟨g, 3, none⟩)) rfl (by kernel_rfl) (by kernel_rfl) (by kernel_rfl) (by kernel_rfl) (fun _ _ _ h => h) (Or.inl ⟨by rfl, fun W hW => by go_simp⟩) (by assumption) ?_
  try simp only [Act.put, List.setIfInBounds_toArray, List.set_cons_zero, List.set_cons_succ]
  refine wpAnyT_take (i := 4) (oi := ⟨some 18, _, _, _, _, _⟩) (v := .int .i64 (s.num + 1)) rfl (by kernel_rfl) (by kernel_rfl) (by kernel_rfl) (by kernel_rfl) (fun _ _ _ h => h) (Or.inl ⟨by rfl, fun W hW => by obtain ⟨q0, q1, q2, q3, q4⟩ := box_cells hW.box; go_simp⟩) (by assumption) ?_
  try simp only [Act.put, List.setIfInBounds_toArray, List.set_cons_zero, List.set_cons_succ]
  refine wpAnyT_take (i := 5) (oi := ⟨some 19, _, _, _, _, _⟩) (v := .pointer (some ⟨g, 0, none⟩)) rfl (by kernel_rfl) (by kernel_rfl) (by kernel_rfl) (by kernel_rfl) (fun _ _ _ h => h) (Or.inl ⟨by rfl, fun W hW => by go_simp⟩) (by assumption) ?_
  try simp only [Act.put, List.setIfInBounds_toArray, List.set_cons_zero, List.set_cons_succ]
  refine wpAnyT_take (i := 6) (oi := ⟨some 20, _, _, _, _, _⟩) (v := .pointer (some ⟨g, 0, none⟩)) rfl (by kernel_rfl) (by kernel_rfl) (by kernel_rfl) (by kernel_rfl) (fun _ _ _ h => h) (Or.inl ⟨by rfl, fun W hW => by go_simp⟩) (by assumption) ?_
  try simp only [Act.put, List.setIfInBounds_toArray, List.set_cons_zero, List.set_cons_succ]
  refine wpAnyT_take (i := 7) (oi := ⟨some 21, _, _, _, _, _⟩) (v := .pointer (some ⟨g, 2, none⟩)) rfl (by kernel_rfl) (by kernel_rfl) (by kernel_rfl) (by kernel_rfl) (fun _ _ _ h => h) (Or.inl ⟨by rfl, fun W hW => by go_simp⟩) (by assumption) ?_
  try simp only [Act.put, List.setIfInBounds_toArray, List.set_cons_zero, List.set_cons_succ]
  refine wpAnyT_take (i := 8) (oi := ⟨some 22, _, _, _, _, _⟩) (v := .slice A s.args.length c) rfl (by kernel_rfl) (by kernel_rfl) (by kernel_rfl) (by kernel_rfl) (fun _ _ _ h => h) (Or.inl ⟨by rfl, fun W hW => by obtain ⟨q0, q1, q2, q3, q4⟩ := box_cells hW.box; go_simp⟩) (by assumption) ?_
  try simp only [Act.put, List.setIfInBounds_toArray, List.set_cons_zero, List.set_cons_succ]
  refine wpAnyT_take (i := 10) (oi := ⟨some 24, _, _, _, _, _⟩) (v := .int .i64 asking) rfl (by kernel_rfl) (by kernel_rfl) (by kernel_rfl) (by kernel_rfl) (fun _ _ _ h => h) (Or.inl ⟨by rfl, fun W hW => by go_simp⟩) (by assumption) ?_
  try simp only [Act.put, List.setIfInBounds_toArray, List.set_cons_zero, List.set_cons_succ]
  refine wpAnyT_one (i := 9) (o := ⟨some 23, _, _, _, _, _⟩) (by kernel_rfl) rfl (fun K hK => ?_)
  go_simp
  have hkd : Keep2 m g w W1.drew := hk1.out.below ⟨rfl, rfl, rfl, Nat.le_refl _, fun _ _ => rfl⟩
  have hmap : ∃ es ck, w.heap[m]? = some (.map es ck) := by
    obtain ⟨n, D, ⟨es, ck, h4, -⟩, -, -⟩ := h.out.map
    exact ⟨es, ck, h4⟩
  have hbx : ∃ c fr, w.heap[g]? = some (.cells c 51 fr) := ⟨_, _, hb.out⟩
  have hrd := strs_keep hr.out hT.out (hkd.str hbx hmap)
  refine (Clone_calls A c s.args hl W1.drew hrd hc).mono ?_
  rintro e w2 ⟨A', c', rfl, hC', hc', hT', hb2⟩
  have hS2 := hS.step hb2
  refine hK.out _ _ (fun _ => hS2) ?_
  clear hK K
  try simp only [Act.put, List.setIfInBounds_toArray, List.set_cons_zero, List.set_cons_succ]
  refine wpAnyT_take (i := 11) (oi := ⟨some 25, _, _, _, _, _⟩) (v := .agg #[.int .i64 1, .int .i64 (s.num + 1), .int .i64 0, .int .i64 0, .string ⟨#[]⟩, .string ⟨#[]⟩, .slice A' s.args.length c', .int .i64 0, .int .i64 0, .string ⟨#[]⟩, .slice none 0 0, .bool false, .int .i64 asking]) rfl (by kernel_rfl) (by kernel_rfl) (by kernel_rfl) (by kernel_rfl) (fun _ _ _ h => h) (Or.inl ⟨by rfl, fun W hW => by go_simp⟩) hS2 ?_
  try simp only [Act.put, List.setIfInBounds_toArray, List.set_cons_zero, List.set_cons_succ]
  refine wpAnyT_take (i := 12) (oi := ⟨some 26, _, _, _, _, _⟩) (v := .agg (outC dst 1 (s.num + 1) (.slice A' s.args.length c') asking true 0 0 ⟨#[]⟩ (.slice none 0 0) false)) rfl (by kernel_rfl) (by kernel_rfl) (by kernel_rfl) (by kernel_rfl) (fun _ _ _ h => h) (Or.inl ⟨by rfl, fun W hW => by go_simp; rfl⟩) hS2 ?_
  try simp only [Act.put, List.setIfInBounds_toArray, List.set_cons_zero, List.set_cons_succ]
  refine wpAnyT_one (i := 13) (o := ⟨none, _, _, _, _, _⟩) (by kernel_rfl) rfl (fun K hK => ?_)
  have hlt2 : w.heap.size < w2.heap.size := (Array.getElem?_eq_some_iff.1 hS2.out).1
  have hne : w.heap.size ≠ g := by omega
  refine wp_store_row 32 _ _ rfl w.heap.size (outC dst 1 (s.num + 1) (.slice A' s.args.length c') asking true 0 0 ⟨#[]⟩ (.slice none 0 0) false) rfl rfl 32 out0 hS2.out info32 rfl (out_one _ _ _ _ _ _ _ _ _ _ _ _ _ _ _) (hK.out _ _ (fun h => absurd rfl h) ?_)
  clear hK K
  try simp only [Act.put, List.setIfInBounds_toArray, List.set_cons_zero, List.set_cons_succ]
  refine wpAnyT_done (by kernel_rfl) ?_ _
  go_wp2_with fail
  refine bodyPost_ret (results_cell1 Tryd.results17 _ _ w.heap.size 32 (outC dst 1 (s.num + 1) (.slice A' s.args.length c') asking true 0 0 ⟨#[]⟩ (.slice none 0 0) false) (0, 0) _ rfl (setRow_heap _ _ _ _ _ _ hS2.out) Tryd.underlying32 rfl info32) rfl ⟨A', c', rfl, ?_, ?_⟩
  · have hbf : Below w.heap.size w2 (w2.setRow w.heap.size (outC dst 1 (s.num + 1) (.slice A' s.args.length c') asking true 0 0 ⟨#[]⟩ (.slice none 0 0) false)) := below_setRow (Below.refl _ _) (Nat.le_refl _) _
    have hkf : Keep2 m g w (w2.setRow w.heap.size (outC dst 1 (s.num + 1) (.slice A' s.args.length c') asking true 0 0 ⟨#[]⟩ (.slice none 0 0) false)) := (hkd.below (hb2.mono hkd.size)).below hbf
    have hgf : (w2.setRow w.heap.size (outC dst 1 (s.num + 1) (.slice A' s.args.length c') asking true 0 0 ⟨#[]⟩ (.slice none 0 0) false)).heap[g]? = _ := (hbf.block g hg).trans hS2.box
    obtain ⟨n, D, ⟨es, ck, h4, h5⟩, h6, h7⟩ := h.out.map
    have hmf : (w2.setRow w.heap.size (outC dst 1 (s.num + 1) (.slice A' s.args.length c') asking true 0 0 ⟨#[]⟩ (.slice none 0 0) false)).heap[m]? = some (.map es ck) := ((hbf.block m h.out.lt.1).trans (hb2.block m (Nat.lt_of_lt_of_le h.out.lt.1 hkd.size))).trans (hm1.out.trans h4)
    exact ⟨⟨A, c, hgf, strs_keep hr.out hT.out (hkf.str hbx hmap), hc, T9.keep hT.out (hkf.str hbx hmap)⟩, ⟨n, D, ⟨es, ck, hmf, h5⟩, h6, h7⟩, h.out.ne⟩
  · exact (hkd.below (hb2.mono hkd.size)).below (below_setRow (Below.refl _ _) (Nat.le_refl _) _)
end Go.Proofs.YtpbiohnmmngccaaDoor
