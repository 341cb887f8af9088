/- Bytes brought to a parser; how many are left; a new one. Conditions: none. -/
import Derived.Test.YtmdekodoicnmbaaDoorRsI
import Derived.Test.YtmdekodoicnmbaaDoorRsT
set_option linter.unusedVariables false
set_option linter.unusedSimpArgs false
namespace Go.Proofs.YtmdekodoicnmbaaDoor
open Go.RowKit Go.Proofs.YtmdekodoicnmbaaDoorW.PrintWords
/-- the whole of a slice, and no more room -/
theorem cut_all (A : Option Addr) (c n : Nat) (hc : n ≤ c) :
    ∀ W : World, (Instr.slice 26 (.slice A n c) none (some (.int .i64 (n : Int))) (some (.int .i64 (n : Int)))).run Tryd.prog W = .ok (.slice A n n) W := by
  intro W
  obtain ⟨i, hi, hs⟩ := info_b
  have hel : Tryd.prog.elem 26 = 5 := by simp [Program.elem, Tryd.underlying26]
  have hu : Tryd.prog.underlying 26 = some (.slice (Tryd.prog.elem 26)) := by rw [hel]; exact Tryd.underlying26
  rw [run_slice_hm W 26 A n c hu .i64 .i64 (n : Int) (n : Int) (by omega) (by omega) (by omega), hel]
  have ha : Option.map (fun x : Addr => x.add 0) A = A := by
    cases A with
    | none => rfl
    | some x => simp [Addr.add]
  simp [sizeOf, typeInfo, hi, hs, sliced, Result.andThen, ha]
theorem wp_feed {o : Oper} {a : Act} {W : World} {K : Act → World → Prop} {Q : Exit → Act → World → Prop} (s x : Operand) (ho : o.op = .call { callee := .builtin .append, args := #[s, x], argTypes := #[26, 26] }) (hty : o.type = 26)
    (A : Option Addr) (c : Nat) (l : List UInt8) (gb ob c2 : Nat) (l2 : List UInt8) (hs : a.eval s = .slice A l.length l.length) (hx : a.eval x = .slice (some ⟨gb, ob, none⟩) l2.length c2) (h1 : RdB W A c l) (h2 : RdB W (some ⟨gb, ob, none⟩) c2 l2) (hlen : l.length + l2.length ≤ 140737488355328)
    (h : ∀ A' c' W', Below W.heap.size W W' → RdB W' A' c' (l ++ l2) → (T5 W A → T5 W' A') → K (a.put o.dst (.slice A' (l ++ l2).length c')) W') : o.wp Tryd.prog a W K Q := by
  obtain ⟨A', c', W', hr, hb, hrd, hT⟩ := run_feed W A c l gb ob c2 l2 h1 h2 hlen
  unfold Oper.wp execOp
  simp only [ho, hty, resolve, invoke, builtin, Sem.run_bind, Sem.run_pure, Result.andThen_ok, List.map_toArray, List.map_cons, List.map_nil, hs, hx, hr]
  exact h A' c' W' hb hrd hT
/-- a parser as it stands -/
def Par (g : Nat) (b : List UInt8) (k : Int) (W : World) : Prop := ∃ A c, W.heap[g]? = some (.cells #[.slice A b.length c, .int .i64 k] 39 (0, 0)) ∧ RdB W A c b ∧ g < W.heap.size
theorem Par.pr {g : Nat} {b : List UInt8} {k : Int} {W : World} (h : Par g b k W) : ∃ A c, Pr W W g A c b k W := by
  obtain ⟨A, c, h1, h2, h3⟩ := h
  exact ⟨A, c, h1, h2, Keeps.refl _ _, Keeps.refl _ _, h3⟩
theorem Pr.par {w we : World} {g : Nat} {A : Option Addr} {c : Nat} {b : List UInt8} {k k0 : Int} {v : Value} {W : World} (h : Pr w we g A c b k W) (hg : w.heap[g]? = some (.cells #[v, .int .i64 k0] 39 (0, 0))) (hv : ∀ z, v ≠ .int .u8 z) : Par g b k W :=
  ⟨A, c, h.box, h.rd.keeps hg hv (h.old.trans h.keeps), Nat.lt_of_lt_of_le h.lt h.keeps.size⟩
theorem T5.keeps {w W : World} {g : Nat} {A : Option Addr} {v : Value} {k : Int} (h : T5 w A) (hg : w.heap[g]? = some (.cells #[v, .int .i64 k] 39 (0, 0))) (hk : Keeps g w W) : T5 W A := by
  intro ad hA
  obtain ⟨cs, fr, hc⟩ := h ad hA
  refine ⟨cs, fr, ?_⟩
  rw [hk.block ad.block (Array.getElem?_eq_some_iff.1 hc).1 (fun e => by rw [e, hg] at hc; cases hc)]
  exact hc
theorem T5.below {w W : World} {A : Option Addr} (h : T5 w A) (hb : Below w.heap.size w W) : T5 W A := by
  intro ad hA
  obtain ⟨cs, fr, hc⟩ := h ad hA
  exact ⟨cs, fr, (hb.block _ (Array.getElem?_eq_some_iff.1 hc).1).trans hc⟩
set_option maxHeartbeats 4000000 in
set_option maxRecDepth 100000 in
theorem FeedA_calls (w : World) (g : Nat) (b : List UInt8) (k : Int) (A : Option Addr) (c : Nat) (hP : Pr w w g A c b k w) (gb ob c2 : Nat) (l2 : List UInt8) (h2 : RdB w (some ⟨gb, ob, none⟩) c2 l2) (hlen : b.length + l2.length ≤ 140737488355328) :
    Calls Tryd.prog 9 #[.pointer (some ⟨g, 0, none⟩), .slice (some ⟨gb, ob, none⟩) l2.length c2] w fun e w' => e = .returned (.tuple #[]) ∧ (∃ A' c', w'.heap[g]? = some (.cells #[.slice A' (if k = 0 then b ++ l2 else b).length c', .int .i64 k] 39 (0, 0)) ∧ RdB w' A' c' (if k = 0 then b ++ l2 else b) ∧ g < w'.heap.size ∧ (T5 w A → T5 w' A')) ∧ Keeps g w w' := by
  obtain ⟨c0, c1, z0, z1⟩ := hP.cells
  by_cases hk : k = 0
  · subst hk
    rw [if_pos rfl]
    have hcut := cut_all A c b.length hP.rd.1
    have hn : (b.length : Int) ≤ (c : Int) := by have := hP.rd.1; omega
    have hbox := hP.box
    go_enter Tryd.func9, Tryd.ntmps9
    go_wp2_with fail
    refine wp_region_last (S := Pr w w g A c b 0) 20 (by kernel_rfl) ?_
    have hS0 : Pr w w g A c b 0 w.drew := hP.below (below_drew (Below.refl _ _))
    have hx2 : RdB w.drew (some ⟨gb, ob, none⟩) c2 l2 := h2.below (below_drew (Below.refl _ _))
    have hT0 : T5 w A → T5 w.drew A := fun h => h
    generalize w.drew = v0 at *
    clear c0 c1 z0 z1
    replace hbox := Lib.hid hbox
    refine wpAnyT_take (i := 0) (oi := ⟨some 9, _, _, _, _, _⟩) (v := .pointer (some ⟨g, 0, none⟩)) rfl (by kernel_rfl) (by kernel_rfl) (by kernel_rfl) (by kernel_rfl) (fun _ _ _ h => h) (Or.inl ⟨by rfl, fun W hW => by go_simp⟩) (by assumption) ?_
    try simp only [Act.put, List.setIfInBounds_toArray, List.set_cons_zero, List.set_cons_succ]
    refine wpAnyT_take (i := 1) (oi := ⟨some 10, _, _, _, _, _⟩) (v := .pointer (some ⟨g, 0, none⟩)) rfl (by kernel_rfl) (by kernel_rfl) (by kernel_rfl) (by kernel_rfl) (fun _ _ _ h => h) (Or.inl ⟨by rfl, fun W hW => by go_simp⟩) (by assumption) ?_
    try simp only [Act.put, List.setIfInBounds_toArray, List.set_cons_zero, List.set_cons_succ]
    refine wpAnyT_take (i := 2) (oi := ⟨some 11, _, _, _, _, _⟩) (v := .pointer (some ⟨g, 0, none⟩)) rfl (by kernel_rfl) (by kernel_rfl) (by kernel_rfl) (by kernel_rfl) (fun _ _ _ h => h) (Or.inl ⟨by rfl, fun W hW => by go_simp⟩) (by assumption) ?_
    try simp only [Act.put, List.setIfInBounds_toArray, List.set_cons_zero, List.set_cons_succ]
    refine wpAnyT_take (i := 3) (oi := ⟨some 12, _, _, _, _, _⟩) (v := .pointer (some ⟨g, 0, none⟩)) rfl (by kernel_rfl) (by kernel_rfl) (by kernel_rfl) (by kernel_rfl) (fun _ _ _ h => h) (Or.inl ⟨by rfl, fun W hW => by go_simp⟩) (by assumption) ?_
    try simp only [Act.put, List.setIfInBounds_toArray, List.set_cons_zero, List.set_cons_succ]
    refine wpAnyT_take (i := 4) (oi := ⟨some 13, _, _, _, _, _⟩) (v := .slice A b.length c) rfl (by kernel_rfl) (by kernel_rfl) (by kernel_rfl) (by kernel_rfl) (fun _ _ _ h => h) (Or.inl ⟨by rfl, fun W hW => by have c0 := hW.cells.1; go_simp⟩) (by assumption) ?_
    try simp only [Act.put, List.setIfInBounds_toArray, List.set_cons_zero, List.set_cons_succ]
    refine wpAnyT_take (i := 5) (oi := ⟨some 14, _, _, _, _, _⟩) (v := .pointer (some ⟨g, 0, none⟩)) rfl (by kernel_rfl) (by kernel_rfl) (by kernel_rfl) (by kernel_rfl) (fun _ _ _ h => h) (Or.inl ⟨by rfl, fun W hW => by go_simp⟩) (by assumption) ?_
    try simp only [Act.put, List.setIfInBounds_toArray, List.set_cons_zero, List.set_cons_succ]
    refine wpAnyT_take (i := 6) (oi := ⟨some 15, _, _, _, _, _⟩) (v := .pointer (some ⟨g, 0, none⟩)) rfl (by kernel_rfl) (by kernel_rfl) (by kernel_rfl) (by kernel_rfl) (fun _ _ _ h => h) (Or.inl ⟨by rfl, fun W hW => by go_simp⟩) (by assumption) ?_
    try simp only [Act.put, List.setIfInBounds_toArray, List.set_cons_zero, List.set_cons_succ]
    refine wpAnyT_take (i := 7) (oi := ⟨some 16, _, _, _, _, _⟩) (v := .pointer (some ⟨g, 0, none⟩)) rfl (by kernel_rfl) (by kernel_rfl) (by kernel_rfl) (by kernel_rfl) (fun _ _ _ h => h) (Or.inl ⟨by rfl, fun W hW => by go_simp⟩) (by assumption) ?_
    try simp only [Act.put, List.setIfInBounds_toArray, List.set_cons_zero, List.set_cons_succ]
    refine wpAnyT_take (i := 8) (oi := ⟨some 17, _, _, _, _, _⟩) (v := .slice A b.length c) rfl (by kernel_rfl) (by kernel_rfl) (by kernel_rfl) (by kernel_rfl) (fun _ _ _ h => h) (Or.inl ⟨by rfl, fun W hW => by have c0 := hW.cells.1; go_simp⟩) (by assumption) ?_
    try simp only [Act.put, List.setIfInBounds_toArray, List.set_cons_zero, List.set_cons_succ]
    refine wpAnyT_take (i := 9) (oi := ⟨some 18, _, _, _, _, _⟩) (v := .int .i64 (b.length : Int)) rfl (by kernel_rfl) (by kernel_rfl) (by kernel_rfl) (by kernel_rfl) (fun _ _ _ h => h) (Or.inl ⟨by rfl, fun W hW => by go_simp⟩) (by assumption) ?_
    try simp only [Act.put, List.setIfInBounds_toArray, List.set_cons_zero, List.set_cons_succ]
    refine wpAnyT_take (i := 10) (oi := ⟨some 19, _, _, _, _, _⟩) (v := .pointer (some ⟨g, 0, none⟩)) rfl (by kernel_rfl) (by kernel_rfl) (by kernel_rfl) (by kernel_rfl) (fun _ _ _ h => h) (Or.inl ⟨by rfl, fun W hW => by go_simp⟩) (by assumption) ?_
    try simp only [Act.put, List.setIfInBounds_toArray, List.set_cons_zero, List.set_cons_succ]
    refine wpAnyT_take (i := 11) (oi := ⟨some 20, _, _, _, _, _⟩) (v := .pointer (some ⟨g, 0, none⟩)) rfl (by kernel_rfl) (by kernel_rfl) (by kernel_rfl) (by kernel_rfl) (fun _ _ _ h => h) (Or.inl ⟨by rfl, fun W hW => by go_simp⟩) (by assumption) ?_
    try simp only [Act.put, List.setIfInBounds_toArray, List.set_cons_zero, List.set_cons_succ]
    refine wpAnyT_take (i := 12) (oi := ⟨some 21, _, _, _, _, _⟩) (v := .pointer (some ⟨g, 0, none⟩)) rfl (by kernel_rfl) (by kernel_rfl) (by kernel_rfl) (by kernel_rfl) (fun _ _ _ h => h) (Or.inl ⟨by rfl, fun W hW => by go_simp⟩) (by assumption) ?_
    try simp only [Act.put, List.setIfInBounds_toArray, List.set_cons_zero, List.set_cons_succ]
    refine wpAnyT_take (i := 13) (oi := ⟨some 22, _, _, _, _, _⟩) (v := .slice A b.length c) rfl (by kernel_rfl) (by kernel_rfl) (by kernel_rfl) (by kernel_rfl) (fun _ _ _ h => h) (Or.inl ⟨by rfl, fun W hW => by have c0 := hW.cells.1; go_simp⟩) (by assumption) ?_
    try simp only [Act.put, List.setIfInBounds_toArray, List.set_cons_zero, List.set_cons_succ]
    refine wpAnyT_take (i := 14) (oi := ⟨some 23, _, _, _, _, _⟩) (v := .int .i64 (b.length : Int)) rfl (by kernel_rfl) (by kernel_rfl) (by kernel_rfl) (by kernel_rfl) (fun _ _ _ h => h) (Or.inl ⟨by rfl, fun W hW => by go_simp⟩) (by assumption) ?_
    try simp only [Act.put, List.setIfInBounds_toArray, List.set_cons_zero, List.set_cons_succ]
    refine wpAnyT_take (i := 15) (oi := ⟨some 24, _, _, _, _, _⟩) (v := .slice A b.length b.length) rfl (by kernel_rfl) (by kernel_rfl) (by kernel_rfl) (by kernel_rfl) (fun _ _ _ h => h) (Or.inl ⟨by rfl, fun W hW => by go_simp⟩) (by assumption) ?_
    try simp only [Act.put, List.setIfInBounds_toArray, List.set_cons_zero, List.set_cons_succ]
    refine wpAnyT_take (i := 16) (oi := ⟨some 25, _, _, _, _, _⟩) (v := .slice (some ⟨gb, ob, none⟩) l2.length c2) rfl (by kernel_rfl) (by kernel_rfl) (by kernel_rfl) (by kernel_rfl) (fun _ _ _ h => h) (Or.inl ⟨by rfl, fun W hW => by go_simp⟩) (by assumption) ?_
    try simp only [Act.put, List.setIfInBounds_toArray, List.set_cons_zero, List.set_cons_succ]
    refine wpAnyT_one (i := 17) (o := ⟨some 26, _, _, _, _, _⟩) (by kernel_rfl) rfl (fun K hK => ?_)
    show Oper.wp Tryd.prog _ _ _ K _
    refine wp_feed (.tmp 24) (.tmp 25) rfl rfl A c b gb ob c2 l2 rfl rfl (hS0.rd.keeps hbox.out (fun z h => by cases h) hS0.keeps) hx2 hlen ?_
    intro A' c' v1 hb1 hrd1 hT1
    have hS1 := hS0.below (hb1.mono hS0.keeps.size)
    refine hK.out _ _ (fun _ => hS1) ?_
    clear hK K
    try simp only [Act.put, List.setIfInBounds_toArray, List.set_cons_zero, List.set_cons_succ]
    refine wpAnyT_one (i := 18) (o := ⟨some 27, _, _, _, _, _⟩) (by kernel_rfl) rfl (fun K hK => ?_)
    go_simp
    refine hK.out _ _ (fun _ => hS1) ?_
    clear hK K
    try simp only [Act.put, List.setIfInBounds_toArray, List.set_cons_zero, List.set_cons_succ]
    refine wpAnyT_take (i := 19) (oi := ⟨some 28, _, _, _, _, _⟩) (v := .pointer (some ⟨g, 0, none⟩)) rfl (by kernel_rfl) (by kernel_rfl) (by kernel_rfl) (by kernel_rfl) (fun _ _ _ h => h) (Or.inl ⟨by rfl, fun W hW => by go_simp⟩) (by assumption) ?_
    try simp only [Act.put, List.setIfInBounds_toArray, List.set_cons_zero, List.set_cons_succ]
    refine wpAnyT_one (i := 20) (o := ⟨none, _, _, _, _, _⟩) (by kernel_rfl) rfl (fun K hK => ?_)
    obtain ⟨c0, c1, z0, z1⟩ := hS1.cells
    go_simp
    have hK1 : Keeps g w (v1.setCell ⟨g, 0, none⟩ (.slice A' (b.length + l2.length) c')) := hS1.keeps.set 0 _
    have hbox1 : (v1.setCell ⟨g, 0, none⟩ (.slice A' (b.length + l2.length) c')).heap[g]? = some (.cells #[.slice A' (b ++ l2).length c', .int .i64 0] 39 (0, 0)) := by
      rw [heap_setCell_same v1 g 0 _ 39 _ hS1.box, List.length_append]
      rfl
    have hrd2 : RdB (v1.setCell ⟨g, 0, none⟩ (.slice A' (b.length + l2.length) c')) A' c' (b ++ l2) := hrd1.keeps hS1.box (fun z h => by cases h) ((Keeps.refl g v1).set 0 _)
    have hlt : g < (v1.setCell ⟨g, 0, none⟩ (.slice A' (b.length + l2.length) c')).heap.size := by
      have := hS1.keeps.size
      have := hS1.lt
      simp
      omega
    refine hK.out _ _ (fun h => absurd rfl h) ?_
    clear hK K
    try simp only [Act.put, List.setIfInBounds_toArray, List.set_cons_zero, List.set_cons_succ]
    refine wpAnyT_done (by kernel_rfl) ?_ _
    go_wp2_with fail
    go_end0
    exact ⟨rfl, ⟨A', c', hbox1, hrd2, hlt, fun h => (hT1 (hT0 h)).keeps hS1.box ((Keeps.refl g v1).set 0 _)⟩, hK1⟩
  · rw [if_neg hk]
    have hk1 : (k == 0) = false := by simp [hk]
    have hk2 : (k != 0) = true := by simp [hk]
    go_enter Tryd.func9, Tryd.ntmps9
    go_wp2_with fail
    go_end0
    exact ⟨rfl, ⟨A, c, hP.box, hP.rd, hP.lt, fun h => h⟩, Keeps.refl _ _⟩
theorem Feed_calls (w : World) (g : Nat) (b : List UInt8) (k : Int) (hp : Par g b k w) (gb ob c2 : Nat) (l2 : List UInt8) (h2 : RdB w (some ⟨gb, ob, none⟩) c2 l2) (hlen : b.length + l2.length ≤ 140737488355328) :
    Calls Tryd.prog 9 #[.pointer (some ⟨g, 0, none⟩), .slice (some ⟨gb, ob, none⟩) l2.length c2] w fun e w' => e = .returned (.tuple #[]) ∧ Par g (if k = 0 then b ++ l2 else b) k w' ∧ Keeps g w w' := by
  obtain ⟨A, c, hP⟩ := hp.pr
  refine (FeedA_calls w g b k A c hP gb ob c2 l2 h2 hlen).mono ?_
  rintro e w' ⟨rfl, ⟨A', c', h1, h3, h4, -⟩, h5⟩
  exact ⟨rfl, ⟨A', c', h1, h3, h4⟩, h5⟩
/-- a parser whose bytes lie in a block of bytes -/
def Par5 (g : Nat) (b : List UInt8) (W : World) : Prop := ∃ A c, W.heap[g]? = some (.cells #[.slice A b.length c, .int .i64 0] 39 (0, 0)) ∧ RdB W A c b ∧ g < W.heap.size ∧ T5 W A
theorem Par5.par {g : Nat} {b : List UInt8} {W : World} (h : Par5 g b W) : Par g b 0 W := by
  obtain ⟨A, c, h1, h2, h3, -⟩ := h
  exact ⟨A, c, h1, h2, h3⟩
theorem Par5.keep {g : Nat} {b : List UInt8} {W W' : World} (h : Par5 g b W) (hb : Below W.heap.size W W') : Par5 g b W' := by
  obtain ⟨A, c, h1, h2, h3, h4⟩ := h
  exact ⟨A, c, (hb.block _ h3).trans h1, h2.below hb, Nat.lt_of_lt_of_le h3 hb.size, h4.below hb⟩
theorem Feed5_calls (w : World) (g : Nat) (b : List UInt8) (hp : Par5 g b w) (gb ob c2 : Nat) (l2 : List UInt8) (h2 : RdB w (some ⟨gb, ob, none⟩) c2 l2) (hlen : b.length + l2.length ≤ 140737488355328) :
    Calls Tryd.prog 9 #[.pointer (some ⟨g, 0, none⟩), .slice (some ⟨gb, ob, none⟩) l2.length c2] w fun e w' => e = .returned (.tuple #[]) ∧ Par5 g (b ++ l2) w' ∧ Keeps g w w' := by
  obtain ⟨A, c, h1, h3, h4, h5⟩ := hp
  refine (FeedA_calls w g b 0 A c ⟨h1, h3, Keeps.refl _ _, Keeps.refl _ _, h4⟩ gb ob c2 l2 h2 hlen).mono ?_
  rintro e w' ⟨rfl, ⟨A', c', q1, q2, q3, q4⟩, q5⟩
  rw [if_pos rfl] at q1 q2
  exact ⟨rfl, ⟨A', c', q1, q2, q3, q4 h5⟩, q5⟩
theorem New5_calls (w : World) : Calls Tryd.prog 7 #[] w fun e w' => e = .returned (.pointer (some ⟨w.heap.size, 0, none⟩)) ∧ Par5 w.heap.size [] w' ∧ Below w.heap.size w w' := by
  go_enter Tryd.func7, Tryd.ntmps7
  go_wp2_with fail
  go_ret
  exact ⟨rfl, ⟨none, 0, heap_alloc_new w _, RdB.nil _, by simp, fun ad h => by cases h⟩, below_alloc (Below.refl _ _) _⟩
theorem Left_calls (w : World) (g : Nat) (b : List UInt8) (k : Int) (hp : Par g b k w) : Calls Tryd.prog 11 #[.pointer (some ⟨g, 0, none⟩)] w fun e w' => e = .returned (.int .i64 (b.length : Int)) ∧ w = w' := by
  obtain ⟨A, c, hP⟩ := hp.pr
  obtain ⟨c0, c1, z0, z1⟩ := hP.cells
  go_enter Tryd.func11, Tryd.ntmps11
  go_wp2_with fail
  go_ret
  exact ⟨rfl, rfl⟩
theorem New_calls (w : World) : Calls Tryd.prog 7 #[] w fun e w' => e = .returned (.pointer (some ⟨w.heap.size, 0, none⟩)) ∧ Par w.heap.size [] 0 w' ∧ Below w.heap.size w w' := by
  go_enter Tryd.func7, Tryd.ntmps7
  go_wp2_with fail
  go_ret
  exact ⟨rfl, ⟨none, 0, heap_alloc_new w _, RdB.nil _, by simp⟩, below_alloc (Below.refl _ _) _⟩
end Go.Proofs.YtmdekodoicnmbaaDoor
