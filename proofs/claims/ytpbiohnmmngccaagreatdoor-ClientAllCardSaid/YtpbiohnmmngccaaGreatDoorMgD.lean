/- The reference's client: an answer is taken. A step of a script at both clients: what it leaves. Whatever is begun, and whatever comes, a client does what the document says. Conditions: the listed variables as laid; texts of at most 2^20 bytes; the listed variables as laid. -/
import Derived.Test.YtpbiohnmmngccaaGreatDoorMgK
import Derived.Laws.AppendOwn
import Derived.Test.YtpbiohnmmngccaaGreatDoorMgA
set_option linter.unusedVariables false
set_option linter.unusedSimpArgs false
namespace Go.Proofs.YtpbiohnmmngccaaGreatDoor
open Go Go.RowKit Go.Proofs.YtpbiohnmmngccaaGreatDoorW.PrintWords
open RtS
structure Six (w : World) (X L Y Z : Array Value) (W : World) : Prop where
  own : W.heap[w.heap.size]? = some (.cells X 28 (0, 0))
  let_ : W.heap[w.heap.size + 1]? = some (.cells L 35 (0, 0))
  one : W.heap[w.heap.size + 1 + 1]? = some (.cells Y 28 (0, 0))
  two : W.heap[w.heap.size + 1 + 1 + 1]? = some (.cells Z 40 (0, 0))
  below : Below w.heap.size w W
theorem Six.step {w W W' : World} {X L Y Z : Array Value} (h : Six w X L Y Z W) (hb : Below W.heap.size W W') : Six w X L Y Z W' :=
  ⟨(hb.block _ (Array.getElem?_eq_some_iff.1 h.own).1).trans h.own, (hb.block _ (Array.getElem?_eq_some_iff.1 h.let_).1).trans h.let_, (hb.block _ (Array.getElem?_eq_some_iff.1 h.one).1).trans h.one, (hb.block _ (Array.getElem?_eq_some_iff.1 h.two).1).trans h.two, h.below.trans (hb.mono h.below.size)⟩
theorem Six.lt {w W : World} {X L Y Z : Array Value} (h : Six w X L Y Z W) : w.heap.size + 1 + 1 + 1 < W.heap.size := (Array.getElem?_eq_some_iff.1 h.two).1
theorem Six.cell {w W : World} {X X' L Y Z : Array Value} (h : Six w X L Y Z W) (i : Nat) (u : Value) (hx : (W.setCell ⟨w.heap.size, i, none⟩ u).heap[w.heap.size]? = some (.cells X' 28 (0, 0))) : Six w X' L Y Z (W.setCell ⟨w.heap.size, i, none⟩ u) :=
  ⟨hx, (Below.heap_setCell _ _ _ _ (by simp)).trans h.let_, (Below.heap_setCell _ _ _ _ (by simp; omega)).trans h.one, (Below.heap_setCell _ _ _ _ (by simp; omega)).trans h.two,
    ⟨h.below.os, h.below.tape, h.below.output, by rw [World.size_setCell]; exact h.below.size, fun k hk => (Below.heap_setCell _ _ _ k (by simp; omega)).trans (h.below.block k hk)⟩⟩
theorem four_boxes (w : World) (X L : Array Value) : Six w X L #[.int .i64 0, .slice none 0 0, .slice none 0 0, .int .i64 0, .int .i64 0] #[.int .i64 0, .int .i64 0, .int .i64 0, .int .i64 0, .int .i64 0, .string ⟨#[]⟩, .string ⟨#[]⟩, .slice none 0 0, .int .i64 0, .int .i64 0, .string ⟨#[]⟩, .slice none 0 0, .bool false, .int .i64 0, .bool false, .int .i64 0, .int .i64 0, .string ⟨#[]⟩, .slice none 0 0, .bool false] ((((w.alloc (.cells X 28)).alloc (.cells L 35)).alloc (.cells #[.int .i64 0, .slice none 0 0, .slice none 0 0, .int .i64 0, .int .i64 0] 28)).alloc (.cells #[.int .i64 0, .int .i64 0, .int .i64 0, .int .i64 0, .int .i64 0, .string ⟨#[]⟩, .string ⟨#[]⟩, .slice none 0 0, .int .i64 0, .int .i64 0, .string ⟨#[]⟩, .slice none 0 0, .bool false, .int .i64 0, .bool false, .int .i64 0, .int .i64 0, .string ⟨#[]⟩, .slice none 0 0, .bool false] 40)) := by
  have b3 : Below (w.heap.size + 1 + 1) ((w.alloc (.cells X 28)).alloc (.cells L 35)) (((w.alloc (.cells X 28)).alloc (.cells L 35)).alloc (.cells #[.int .i64 0, .slice none 0 0, .slice none 0 0, .int .i64 0, .int .i64 0] 28)) := by
    have := below_alloc (Below.refl ((w.alloc (.cells X 28)).alloc (.cells L 35)).heap.size _) (.cells #[.int .i64 0, .slice none 0 0, .slice none 0 0, .int .i64 0, .int .i64 0] 28)
    rwa [World.size_alloc, World.size_alloc] at this
  have b4 : Below (w.heap.size + 1 + 1 + 1) (((w.alloc (.cells X 28)).alloc (.cells L 35)).alloc (.cells #[.int .i64 0, .slice none 0 0, .slice none 0 0, .int .i64 0, .int .i64 0] 28)) ((((w.alloc (.cells X 28)).alloc (.cells L 35)).alloc (.cells #[.int .i64 0, .slice none 0 0, .slice none 0 0, .int .i64 0, .int .i64 0] 28)).alloc (.cells #[.int .i64 0, .int .i64 0, .int .i64 0, .int .i64 0, .int .i64 0, .string ⟨#[]⟩, .string ⟨#[]⟩, .slice none 0 0, .int .i64 0, .int .i64 0, .string ⟨#[]⟩, .slice none 0 0, .bool false, .int .i64 0, .bool false, .int .i64 0, .int .i64 0, .string ⟨#[]⟩, .slice none 0 0, .bool false] 40)) := by
    have := below_alloc (Below.refl (((w.alloc (.cells X 28)).alloc (.cells L 35)).alloc (.cells #[.int .i64 0, .slice none 0 0, .slice none 0 0, .int .i64 0, .int .i64 0] 28)).heap.size _) (.cells #[.int .i64 0, .int .i64 0, .int .i64 0, .int .i64 0, .int .i64 0, .string ⟨#[]⟩, .string ⟨#[]⟩, .slice none 0 0, .int .i64 0, .int .i64 0, .string ⟨#[]⟩, .slice none 0 0, .bool false, .int .i64 0, .bool false, .int .i64 0, .int .i64 0, .string ⟨#[]⟩, .slice none 0 0, .bool false] 40)
    rwa [World.size_alloc, World.size_alloc, World.size_alloc] at this
  have a3 := heap_alloc_new ((w.alloc (.cells X 28)).alloc (.cells L 35)) (.cells #[.int .i64 0, .slice none 0 0, .slice none 0 0, .int .i64 0, .int .i64 0] 28)
  rw [World.size_alloc, World.size_alloc] at a3
  have a4 := heap_alloc_new (((w.alloc (.cells X 28)).alloc (.cells L 35)).alloc (.cells #[.int .i64 0, .slice none 0 0, .slice none 0 0, .int .i64 0, .int .i64 0] 28)) (.cells #[.int .i64 0, .int .i64 0, .int .i64 0, .int .i64 0, .int .i64 0, .string ⟨#[]⟩, .string ⟨#[]⟩, .slice none 0 0, .int .i64 0, .int .i64 0, .string ⟨#[]⟩, .slice none 0 0, .bool false, .int .i64 0, .bool false, .int .i64 0, .int .i64 0, .string ⟨#[]⟩, .slice none 0 0, .bool false] 40)
  rw [World.size_alloc, World.size_alloc, World.size_alloc] at a4
  exact ⟨(b4.block _ (by omega)).trans ((b3.block _ (by omega)).trans (heap0 _ _ _)), (b4.block _ (by omega)).trans ((b3.block _ (by omega)).trans (heap1 _ _ _)), (b4.block _ (by omega)).trans a3, a4, below_alloc (below_alloc (below_alloc (below_alloc (Below.refl _ _) _) _) _) _⟩
theorem infoD : (Tryz.prog.info? 60).map (·.size) = some 4 := by kernel_rfl
theorem dec_one (a b c d : Int) : (#[.int .i64 a, .int .i64 b, .int .i64 c, .int .i64 d] : Array Value).all (·.oneCell') = true := by
  simp [Value.oneCell']
theorem infoK : ∃ i0, Tryz.prog.info? 65 = some i0 ∧ i0.zero = some (.agg #[.int .i64 0, .int .i64 0]) ∧ i0.size = 2 ∧ i0.bytes = 16 := info_parts (by kernel_rfl)
theorem own_empty (W : World) (m n : Nat) (hm : W.heap.size = m) (hn : n ≤ m) : (W.alloc (.cells #[] 65)).ownsRow n 65 2 (.slice (some ⟨m, 0, none⟩) 0 0) 0 (flatK []) := by
  subst hm
  exact ⟨rfl, Or.inr ⟨W.heap.size, 0, #[], rfl, hn, heap_alloc_new _ _, Nat.le_refl _, Nat.zero_le _, rfl, rfl⟩⟩
/-- one row of what is known set behind another -/
theorem wpList_appK {ops : Array Oper} {rest : List Oper} {o : Oper} {a : Act} {w : World} {Q : Exit → Act → World → Prop} (hgd : o.guard = none) (s x : Operand)
    (ho : o.op = .call { callee := .builtin .append, args := #[s, x], argTypes := #[25, 25] })
    (v v2 : Value) (hs : a.eval s = v) (hx : a.eval x = v2) (base base2 : Nat) (l1 l2 : List (Int × Int)) (n : Nat) (hn : n = l1.length + l2.length) (h1 : w.ownsRow base 65 2 v l1.length (flatK l1)) (h2 : w.ownsRow base2 65 2 v2 l2.length (flatK l2))
    (hl : l1.length + l2.length ≤ 4294967296) (hbase : base ≤ w.heap.size)
    (h : ∀ A c w', w'.ownsRow base 65 2 (.slice A n c) n (flatK (l1 ++ l2)) → Below base w w' → wpList Tryz.prog ops Q rest (a.put o.dst (.slice A n c)) w') : wpList Tryz.prog ops Q (o :: rest) a w := by
  subst hn
  obtain ⟨i0, hi0, hz0, hz1, hz2⟩ := infoK
  have fin : ∀ v' w', w'.ownsRow base 65 2 v' (l1.length + l2.length) (flatK l1 ++ flatK l2) → Below base w w' → wpList Tryz.prog ops Q rest (a.put o.dst v') w' := fun v' w' hown hb => by
    obtain ⟨A, c, rfl⟩ := own_slice hown
    rw [← flatK_app] at hown
    exact h A c w' hown hb
  refine wpList_plain hgd fun K hK => ?_
  rcases h2.2 with ⟨rfl, hn⟩ | ⟨g2, cap2, cur2, rfl, -⟩
  · have hr := run_append_owned_none (P := Tryz.prog) (w := w) base 25 o.type 65 i0 2 Tryz.underlying25 hi0 v l1.length (flatK l1) h1
    have e0 : l2 = [] := List.length_eq_zero_iff.1 hn
    subst e0
    unfold Oper.wp execOp
    simp only [ho, resolve, invoke, builtin, Sem.run_bind, Sem.run_pure, Result.andThen_ok, List.map_toArray, List.map_cons, List.map_nil, hs, hx, hr]
    exact hK _ _ (fin v w (by simpa [flatK] using h1) (Below.refl _ _))
  · refine wp_append_own w s x 25 ho base 65 i0 _ 2 16 Tryz.underlying25 hi0 hz0 hz1 hz2 rfl (by decide) v l1.length (flatK l1) hs h1 ⟨g2, 0, none⟩ l2.length cap2 (flatK l2) hx h2.1 (h2.cells (g := g2) rfl) (flatK_one l2) (by simp only [maxLen]; omega) (by omega) hbase ?_
    intro v' w' hown hgrow hh
    exact hK _ _ (fin v' w' hown ((Below.refl _ _).grown hgrow hbase fun k hk => (h1.lt k hk).1))
/-- the box of what was read -/
theorem dec_box (w5 : World) (k sl nd tk : Int) : ∀ (i : Nat) (v : Value), ([.int .i64 k, .int .i64 sl, .int .i64 nd, .int .i64 tk] : List Value)[i]? = some v → (w5.alloc (.cells #[.int .i64 k, .int .i64 sl, .int .i64 nd, .int .i64 tk] 60)).cell? ⟨w5.heap.size, i, none⟩ = some v := fun i v h => by
  rw [cell_of_box (heap_alloc_new _ _)]
  simpa using h

theorem dec_keep (w6 : World) (p : Addr) (u : Value) {DB : Nat} (h : DB ≠ p.block) (i : Nat) : (w6.setCell p u).cell? ⟨DB, i, none⟩ = w6.cell? ⟨DB, i, none⟩ := by
  unfold World.cell?
  rw [Below.heap_setCell _ _ _ _ h]
theorem hold {p : Prop} (h : Hid p) : p := h.out
theorem own_low0 {W W2 : World} {e : TypeId} {size n : Nat} {v : Value} {xs : List Value} (h : W.ownsRow 0 e size v n xs) (hb : Below W.heap.size W W2) : W2.ownsRow 0 e size v n xs := pw_own_below h hb
theorem own_lit9 (w9 : World) (sl nd : Int) (n m : Nat) (v : Value) (hn : n ≤ w9.heap.size) (hm : m = w9.heap.size := by first | rfl | assumption) (hv : v = .slice (some ⟨m, 0, none⟩) 1 1 := by rfl) : (w9.alloc (.cells #[.int .i64 sl, .int .i64 nd] 65)).ownsRow n 65 2 v 1 (flatK [(sl, nd)]) := by
  subst hm hv
  exact World.ownsRow_lit (base := n) (e := 65) (size := 2) (w := w9) #[.int .i64 sl, .int .i64 nd] 1 hn (by decide) rfl
theorem own_low {w W : World} {e : TypeId} {size n : Nat} {v : Value} {xs : List Value} (h : w.ownsRow 0 e size v n xs) (hb : Below w.heap.size w W) : W.ownsRow 0 e size v n xs := pw_own_below h hb
set_option maxHeartbeats 16000000 in
set_option maxRecDepth 100000 in
theorem refTake_calls (s : CS) (r : RS) (L : LV) (hn : 0 ≤ s.num ∧ s.num ≤ 1000000000) (hl : s.args.length ≤ 1000) (hbig : ∀ x ∈ s.args, x.size ≤ 9223372036854775807) (hbu : 0 ≤ s.bud ∧ s.bud ≤ 16) (hrt : L.rt.size ≤ 1048576) (w : World) (h : RefOk w s r) (hc9 : r.kl.length ≤ 1000000) (hE : Env w) :
    Calls Tryz.prog 10 #[.agg (rcC s r), .agg (lcells L)] w (RefPost (takeV s L) [(r.aA, s.args), (none, [])] w) := by
  by_cases hz : s.args.length = 0
  · have d1 : ((s.args.length : Int) == 0) = true := by rw [beq_iff_eq]; omega
    have hv : takeV s L = (s, .none) := by unfold takeV; rw [if_pos (Or.inl (by omega))]
    rw [hv]
    clear hv hz
    have hT4 := four_boxes w #[.int .i64 s.home, .slice r.kA r.kl.length r.kc, .slice r.aA s.args.length r.ac, .int .i64 s.num, .int .i64 s.bud] #[.int .i64 L.kind, .int .i64 L.num, .int .i64 L.slot, .int .i64 L.ends, .string L.key, .string L.text, .slice L.args.1 L.args.2.1 L.args.2.2, .int .i64 L.rk, .int .i64 L.ri, .string L.rt, .slice L.rl.1 L.rl.2.1 L.rl.2.2, .bool L.good, .int .i64 L.asking]
    unfold rcC lcells
    obtain ⟨W2, hW2⟩ : ∃ W2, W2 = World.setRow ((((w.alloc (.cells #[.int .i64 s.home, .slice r.kA r.kl.length r.kc, .slice r.aA s.args.length r.ac, .int .i64 s.num, .int .i64 s.bud] 28)).alloc (.cells #[.int .i64 L.kind, .int .i64 L.num, .int .i64 L.slot, .int .i64 L.ends, .string L.key, .string L.text, .slice L.args.1 L.args.2.1 L.args.2.2, .int .i64 L.rk, .int .i64 L.ri, .string L.rt, .slice L.rl.1 L.rl.2.1 L.rl.2.2, .bool L.good, .int .i64 L.asking] 35)).alloc (.cells #[.int .i64 0, .slice none 0 0, .slice none 0 0, .int .i64 0, .int .i64 0] 28)).alloc (.cells #[.int .i64 0, .int .i64 0, .int .i64 0, .int .i64 0, .int .i64 0, .string ⟨#[]⟩, .string ⟨#[]⟩, .slice none 0 0, .int .i64 0, .int .i64 0, .string ⟨#[]⟩, .slice none 0 0, .bool false, .int .i64 0, .bool false, .int .i64 0, .int .i64 0, .string ⟨#[]⟩, .slice none 0 0, .bool false] 40)) (w.heap.size + 1 + 1) #[.int .i64 s.home, .slice r.kA r.kl.length r.kc, .slice r.aA s.args.length r.ac, .int .i64 s.num, .int .i64 s.bud] := ⟨_, rfl⟩
    have h1 : W2.heap[w.heap.size + 1 + 1]? = some (.cells #[.int .i64 s.home, .slice r.kA r.kl.length r.kc, .slice r.aA s.args.length r.ac, .int .i64 s.num, .int .i64 s.bud] 28 (0, 0)) := by rw [hW2]; exact setRow_heap _ _ _ _ _ _ hT4.one
    have h2 : W2.heap[w.heap.size + 1 + 1 + 1]? = some (.cells #[.int .i64 0, .int .i64 0, .int .i64 0, .int .i64 0, .int .i64 0, .string ⟨#[]⟩, .string ⟨#[]⟩, .slice none 0 0, .int .i64 0, .int .i64 0, .string ⟨#[]⟩, .slice none 0 0, .bool false, .int .i64 0, .bool false, .int .i64 0, .int .i64 0, .string ⟨#[]⟩, .slice none 0 0, .bool false] 40 (0, 0)) := by rw [hW2]; exact (setRow_other _ _ _ _ (by omega)).trans hT4.two
    have hbb : Below w.heap.size w W2 := by rw [hW2]; exact below_setRow hT4.below (by omega) _
    have hoo : out0.all (·.oneCell') = true := out_one _ _ _ _ _ _ _ _ _ _ _ _ _ _ _
    have hone1 := hT4.one
    replace hone1 := Lib.hid hone1
    replace hW2 := Lib.hid hW2
    replace h1 := Lib.hid h1
    replace h2 := Lib.hid h2
    replace hbb := Lib.hid hbb
    replace hoo := Lib.hid hoo
    replace h := Lib.hid h
    replace hT4 := Lib.hid hT4
    go_enter Tryz.func10, Tryz.ntmps10
    go_wp2_with (first | ((with_reducible refine store_at (ty := 28) (x := .tmp 4) (y := .tmp 25) ?_); refine ⟨(w.heap.size + 1 + 1), #[.int .i64 s.home, .slice r.kA r.kl.length r.kc, .slice r.aA s.args.length r.ac, .int .i64 s.num, .int .i64 s.bud], 28, #[.int .i64 0, .slice none 0 0, .slice none 0 0, .int .i64 0, .int .i64 0], rfl, rfl, hone1.out, infoR, rfl, rc_one _ _ _ _ _ _ _ _ _, ?_⟩; rw [← hW2.out]) | ((with_reducible refine store_at (ty := 40) (x := .tmp 5) (y := .tmp 26) ?_); refine ⟨(w.heap.size + 1 + 1 + 1), out0, 40, #[.int .i64 0, .int .i64 0, .int .i64 0, .int .i64 0, .int .i64 0, .string ⟨#[]⟩, .string ⟨#[]⟩, .slice none 0 0, .int .i64 0, .int .i64 0, .string ⟨#[]⟩, .slice none 0 0, .bool false, .int .i64 0, .bool false, .int .i64 0, .int .i64 0, .string ⟨#[]⟩, .slice none 0 0, .bool false], rfl, rfl, h2.out, infoRO, rfl, hoo.out, ?_⟩))
    refine bodyPost_ret (results_two Tryz.results10 _ _ (w.heap.size + 1 + 1) (w.heap.size + 1 + 1 + 1) #[.int .i64 s.home, .slice r.kA r.kl.length r.kc, .slice r.aA s.args.length r.ac, .int .i64 s.num, .int .i64 s.bud] out0 28 40 _ _ rfl rfl ((setRow_other _ _ _ _ (by omega)).trans h1.out) (setRow_heap _ _ _ _ _ _ h2.out) Tryz.underlying28 rfl infoR Tryz.underlying40 rfl infoRO) rfl ⟨r, rfl, h.out.below (below_setRow hbb.out (by omega) _), below_setRow hbb.out (by omega) _, by simp⟩
  have d1 : ((s.args.length : Int) == 0) = false := by rw [beq_eq_false_iff_ne]; omega
  by_cases hk : L.kind = 2
  case neg =>
    have d2 : (L.kind != 2) = true := by rw [bne_iff_ne]; exact hk
    have hv : takeV s L = (s, .none) := by unfold takeV; rw [if_pos (Or.inr (Or.inl hk))]
    rw [hv]
    clear hv hk hz
    have hT4 := four_boxes w #[.int .i64 s.home, .slice r.kA r.kl.length r.kc, .slice r.aA s.args.length r.ac, .int .i64 s.num, .int .i64 s.bud] #[.int .i64 L.kind, .int .i64 L.num, .int .i64 L.slot, .int .i64 L.ends, .string L.key, .string L.text, .slice L.args.1 L.args.2.1 L.args.2.2, .int .i64 L.rk, .int .i64 L.ri, .string L.rt, .slice L.rl.1 L.rl.2.1 L.rl.2.2, .bool L.good, .int .i64 L.asking]
    unfold rcC lcells
    obtain ⟨W2, hW2⟩ : ∃ W2, W2 = World.setRow ((((w.alloc (.cells #[.int .i64 s.home, .slice r.kA r.kl.length r.kc, .slice r.aA s.args.length r.ac, .int .i64 s.num, .int .i64 s.bud] 28)).alloc (.cells #[.int .i64 L.kind, .int .i64 L.num, .int .i64 L.slot, .int .i64 L.ends, .string L.key, .string L.text, .slice L.args.1 L.args.2.1 L.args.2.2, .int .i64 L.rk, .int .i64 L.ri, .string L.rt, .slice L.rl.1 L.rl.2.1 L.rl.2.2, .bool L.good, .int .i64 L.asking] 35)).alloc (.cells #[.int .i64 0, .slice none 0 0, .slice none 0 0, .int .i64 0, .int .i64 0] 28)).alloc (.cells #[.int .i64 0, .int .i64 0, .int .i64 0, .int .i64 0, .int .i64 0, .string ⟨#[]⟩, .string ⟨#[]⟩, .slice none 0 0, .int .i64 0, .int .i64 0, .string ⟨#[]⟩, .slice none 0 0, .bool false, .int .i64 0, .bool false, .int .i64 0, .int .i64 0, .string ⟨#[]⟩, .slice none 0 0, .bool false] 40)) (w.heap.size + 1 + 1) #[.int .i64 s.home, .slice r.kA r.kl.length r.kc, .slice r.aA s.args.length r.ac, .int .i64 s.num, .int .i64 s.bud] := ⟨_, rfl⟩
    have h1 : W2.heap[w.heap.size + 1 + 1]? = some (.cells #[.int .i64 s.home, .slice r.kA r.kl.length r.kc, .slice r.aA s.args.length r.ac, .int .i64 s.num, .int .i64 s.bud] 28 (0, 0)) := by rw [hW2]; exact setRow_heap _ _ _ _ _ _ hT4.one
    have h2 : W2.heap[w.heap.size + 1 + 1 + 1]? = some (.cells #[.int .i64 0, .int .i64 0, .int .i64 0, .int .i64 0, .int .i64 0, .string ⟨#[]⟩, .string ⟨#[]⟩, .slice none 0 0, .int .i64 0, .int .i64 0, .string ⟨#[]⟩, .slice none 0 0, .bool false, .int .i64 0, .bool false, .int .i64 0, .int .i64 0, .string ⟨#[]⟩, .slice none 0 0, .bool false] 40 (0, 0)) := by rw [hW2]; exact (setRow_other _ _ _ _ (by omega)).trans hT4.two
    have hbb : Below w.heap.size w W2 := by rw [hW2]; exact below_setRow hT4.below (by omega) _
    have hoo : out0.all (·.oneCell') = true := out_one _ _ _ _ _ _ _ _ _ _ _ _ _ _ _
    have hone1 := hT4.one
    replace hone1 := Lib.hid hone1
    replace hW2 := Lib.hid hW2
    replace h1 := Lib.hid h1
    replace h2 := Lib.hid h2
    replace hbb := Lib.hid hbb
    replace hoo := Lib.hid hoo
    replace h := Lib.hid h
    replace hT4 := Lib.hid hT4
    go_enter Tryz.func10, Tryz.ntmps10
    go_wp2_with (first | ((with_reducible refine store_at (ty := 28) (x := .tmp 4) (y := .tmp 25) ?_); refine ⟨(w.heap.size + 1 + 1), #[.int .i64 s.home, .slice r.kA r.kl.length r.kc, .slice r.aA s.args.length r.ac, .int .i64 s.num, .int .i64 s.bud], 28, #[.int .i64 0, .slice none 0 0, .slice none 0 0, .int .i64 0, .int .i64 0], rfl, rfl, hone1.out, infoR, rfl, rc_one _ _ _ _ _ _ _ _ _, ?_⟩; rw [← hW2.out]) | ((with_reducible refine store_at (ty := 40) (x := .tmp 5) (y := .tmp 26) ?_); refine ⟨(w.heap.size + 1 + 1 + 1), out0, 40, #[.int .i64 0, .int .i64 0, .int .i64 0, .int .i64 0, .int .i64 0, .string ⟨#[]⟩, .string ⟨#[]⟩, .slice none 0 0, .int .i64 0, .int .i64 0, .string ⟨#[]⟩, .slice none 0 0, .bool false, .int .i64 0, .bool false, .int .i64 0, .int .i64 0, .string ⟨#[]⟩, .slice none 0 0, .bool false], rfl, rfl, h2.out, infoRO, rfl, hoo.out, ?_⟩))
    refine bodyPost_ret (results_two Tryz.results10 _ _ (w.heap.size + 1 + 1) (w.heap.size + 1 + 1 + 1) #[.int .i64 s.home, .slice r.kA r.kl.length r.kc, .slice r.aA s.args.length r.ac, .int .i64 s.num, .int .i64 s.bud] out0 28 40 _ _ rfl rfl ((setRow_other _ _ _ _ (by omega)).trans h1.out) (setRow_heap _ _ _ _ _ _ h2.out) Tryz.underlying28 rfl infoR Tryz.underlying40 rfl infoRO) rfl ⟨r, rfl, h.out.below (below_setRow hbb.out (by omega) _), below_setRow hbb.out (by omega) _, by simp⟩
  have d2 : (L.kind != 2) = false := by rw [hk]; rfl
  by_cases hnn : L.num = s.num
  case neg =>
    have d3 : (L.num != s.num) = true := by rw [bne_iff_ne]; exact hnn
    have hv : takeV s L = (s, .none) := by unfold takeV; rw [if_pos (Or.inr (Or.inr hnn))]
    rw [hv]
    clear hv hk hnn hz
    have hT4 := four_boxes w #[.int .i64 s.home, .slice r.kA r.kl.length r.kc, .slice r.aA s.args.length r.ac, .int .i64 s.num, .int .i64 s.bud] #[.int .i64 L.kind, .int .i64 L.num, .int .i64 L.slot, .int .i64 L.ends, .string L.key, .string L.text, .slice L.args.1 L.args.2.1 L.args.2.2, .int .i64 L.rk, .int .i64 L.ri, .string L.rt, .slice L.rl.1 L.rl.2.1 L.rl.2.2, .bool L.good, .int .i64 L.asking]
    unfold rcC lcells
    obtain ⟨W2, hW2⟩ : ∃ W2, W2 = World.setRow ((((w.alloc (.cells #[.int .i64 s.home, .slice r.kA r.kl.length r.kc, .slice r.aA s.args.length r.ac, .int .i64 s.num, .int .i64 s.bud] 28)).alloc (.cells #[.int .i64 L.kind, .int .i64 L.num, .int .i64 L.slot, .int .i64 L.ends, .string L.key, .string L.text, .slice L.args.1 L.args.2.1 L.args.2.2, .int .i64 L.rk, .int .i64 L.ri, .string L.rt, .slice L.rl.1 L.rl.2.1 L.rl.2.2, .bool L.good, .int .i64 L.asking] 35)).alloc (.cells #[.int .i64 0, .slice none 0 0, .slice none 0 0, .int .i64 0, .int .i64 0] 28)).alloc (.cells #[.int .i64 0, .int .i64 0, .int .i64 0, .int .i64 0, .int .i64 0, .string ⟨#[]⟩, .string ⟨#[]⟩, .slice none 0 0, .int .i64 0, .int .i64 0, .string ⟨#[]⟩, .slice none 0 0, .bool false, .int .i64 0, .bool false, .int .i64 0, .int .i64 0, .string ⟨#[]⟩, .slice none 0 0, .bool false] 40)) (w.heap.size + 1 + 1) #[.int .i64 s.home, .slice r.kA r.kl.length r.kc, .slice r.aA s.args.length r.ac, .int .i64 s.num, .int .i64 s.bud] := ⟨_, rfl⟩
    have h1 : W2.heap[w.heap.size + 1 + 1]? = some (.cells #[.int .i64 s.home, .slice r.kA r.kl.length r.kc, .slice r.aA s.args.length r.ac, .int .i64 s.num, .int .i64 s.bud] 28 (0, 0)) := by rw [hW2]; exact setRow_heap _ _ _ _ _ _ hT4.one
    have h2 : W2.heap[w.heap.size + 1 + 1 + 1]? = some (.cells #[.int .i64 0, .int .i64 0, .int .i64 0, .int .i64 0, .int .i64 0, .string ⟨#[]⟩, .string ⟨#[]⟩, .slice none 0 0, .int .i64 0, .int .i64 0, .string ⟨#[]⟩, .slice none 0 0, .bool false, .int .i64 0, .bool false, .int .i64 0, .int .i64 0, .string ⟨#[]⟩, .slice none 0 0, .bool false] 40 (0, 0)) := by rw [hW2]; exact (setRow_other _ _ _ _ (by omega)).trans hT4.two
    have hbb : Below w.heap.size w W2 := by rw [hW2]; exact below_setRow hT4.below (by omega) _
    have hoo : out0.all (·.oneCell') = true := out_one _ _ _ _ _ _ _ _ _ _ _ _ _ _ _
    have hone1 := hT4.one
    replace hone1 := Lib.hid hone1
    replace hW2 := Lib.hid hW2
    replace h1 := Lib.hid h1
    replace h2 := Lib.hid h2
    replace hbb := Lib.hid hbb
    replace hoo := Lib.hid hoo
    replace h := Lib.hid h
    replace hT4 := Lib.hid hT4
    go_enter Tryz.func10, Tryz.ntmps10
    go_wp2_with (first | ((with_reducible refine store_at (ty := 28) (x := .tmp 4) (y := .tmp 25) ?_); refine ⟨(w.heap.size + 1 + 1), #[.int .i64 s.home, .slice r.kA r.kl.length r.kc, .slice r.aA s.args.length r.ac, .int .i64 s.num, .int .i64 s.bud], 28, #[.int .i64 0, .slice none 0 0, .slice none 0 0, .int .i64 0, .int .i64 0], rfl, rfl, hone1.out, infoR, rfl, rc_one _ _ _ _ _ _ _ _ _, ?_⟩; rw [← hW2.out]) | ((with_reducible refine store_at (ty := 40) (x := .tmp 5) (y := .tmp 26) ?_); refine ⟨(w.heap.size + 1 + 1 + 1), out0, 40, #[.int .i64 0, .int .i64 0, .int .i64 0, .int .i64 0, .int .i64 0, .string ⟨#[]⟩, .string ⟨#[]⟩, .slice none 0 0, .int .i64 0, .int .i64 0, .string ⟨#[]⟩, .slice none 0 0, .bool false, .int .i64 0, .bool false, .int .i64 0, .int .i64 0, .string ⟨#[]⟩, .slice none 0 0, .bool false], rfl, rfl, h2.out, infoRO, rfl, hoo.out, ?_⟩))
    refine bodyPost_ret (results_two Tryz.results10 _ _ (w.heap.size + 1 + 1) (w.heap.size + 1 + 1 + 1) #[.int .i64 s.home, .slice r.kA r.kl.length r.kc, .slice r.aA s.args.length r.ac, .int .i64 s.num, .int .i64 s.bud] out0 28 40 _ _ rfl rfl ((setRow_other _ _ _ _ (by omega)).trans h1.out) (setRow_heap _ _ _ _ _ _ h2.out) Tryz.underlying28 rfl infoR Tryz.underlying40 rfl infoRO) rfl ⟨r, rfl, h.out.below (below_setRow hbb.out (by omega) _), below_setRow hbb.out (by omega) _, by simp⟩
  have d3 : (L.num != s.num) = false := by rw [hnn]; simp
  have hno : ¬ (¬ 0 < s.args.length ∨ L.kind ≠ 2 ∨ L.num ≠ s.num) := by rintro (h1 | h1 | h1); exact h1 (by omega); exact h1 hk; exact h1 hnn
  have hv0 : takeV s L = (let d := readV L.rt.data.toList
      if d.2.2.2.2 = false ∨ L.rk ≠ 2 ∨ d.1 = 5 ∨ d.1 = 6 then ({ s with args := [] }, .done L.rk L.ri L.rt (.slice L.rl.1 L.rl.2.1 L.rl.2.2))
      else if s.bud = 0 then ({ s with args := [] }, .done 2 0 wrongT (.slice none 0 0))
      else
        let s1 := { s with bud := s.bud - 1 }
        if d.1 = 2 then ({ s1 with kn := fun k => if k = d.2.1 then some d.2.2.1 else s.kn k, num := s.num + 1, cnt := s.cnt + 1 }, .send d.2.2.1 0)
        else if d.1 = 3 then ({ s1 with num := s.num + 1 }, .send d.2.2.1 d.2.2.2.1)
        else ({ s1 with num := s.num + 1 }, .send (ownerV s1) 0)) := by unfold takeV; rw [if_neg hno]
  clear hk hnn hno hz
  replace hE := hE
  by_cases hrk : L.rk = 2
  case neg =>
    have d4 : (L.rk != 2) = true := by rw [bne_iff_ne]; exact hrk
    obtain ⟨k, sl, nd, tk, is, hrv⟩ : ∃ k sl nd tk is, readV L.rt.data.toList = (k, sl, nd, tk, is) := ⟨_, _, _, _, _, rfl⟩
    rw [hrv] at hv0
    simp only at hv0
    rw [if_pos (Or.inr (Or.inl hrk))] at hv0
    rw [hv0]
    clear hv0
    have hT4 := four_boxes w #[.int .i64 s.home, .slice r.kA r.kl.length r.kc, .slice r.aA s.args.length r.ac, .int .i64 s.num, .int .i64 s.bud] #[.int .i64 L.kind, .int .i64 L.num, .int .i64 L.slot, .int .i64 L.ends, .string L.key, .string L.text, .slice L.args.1 L.args.2.1 L.args.2.2, .int .i64 L.rk, .int .i64 L.ri, .string L.rt, .slice L.rl.1 L.rl.2.1 L.rl.2.2, .bool L.good, .int .i64 L.asking]
    replace hT4 := Lib.hid hT4
    replace h := Lib.hid h
    unfold rcC lcells
    go_enter Tryz.func10, Tryz.ntmps10
    go_wp2_with fail
    refine (refRead_calls L.rt hrt _).mono ?_
    rintro e w5 ⟨rfl, hb5⟩
    rw [RtR.refRead_eq, hrv]
    have hT5 := hT4.out.step hb5
    clear hT4 hb5
    have hb56 : Below w5.heap.size w5 (w5.alloc (.cells #[.int .i64 k, .int .i64 sl, .int .i64 nd, .int .i64 tk] 60)) := below_alloc (Below.refl _ _) _
    have hdb := dec_box w5 k sl nd tk
    have hT6 := hT5.step hb56
    have hlt6 : w5.heap.size < (w5.alloc (.cells #[.int .i64 k, .int .i64 sl, .int .i64 nd, .int .i64 tk] 60)).heap.size := by simp
    obtain ⟨w6, hw6⟩ : ∃ w6, w6 = w5.alloc (.cells #[.int .i64 k, .int .i64 sl, .int .i64 nd, .int .i64 tk] 60) := ⟨_, rfl⟩
    rw [← hw6] at hdb hT6 hlt6
    have hDB : (w.heap.size + 1 + 1 + 1) < w5.heap.size := hT5.lt
    have m0 := hdb 0 _ rfl
    have m1 := hdb 1 _ rfl
    have m2 := hdb 2 _ rfl
    have m3 := hdb 3 _ rfl
    clear hb56
    have y7 : w6.cell? ⟨w.heap.size + 1, 7, none⟩ = some (.int .i64 L.rk) := by rw [cell_of_box hT6.let_]; rfl
    have y8 : w6.cell? ⟨w.heap.size + 1, 8, none⟩ = some (.int .i64 L.ri) := by rw [cell_of_box hT6.let_]; rfl
    have y9 : w6.cell? ⟨w.heap.size + 1, 9, none⟩ = some (.string L.rt) := by rw [cell_of_box hT6.let_]; rfl
    have y10 : w6.cell? ⟨w.heap.size + 1, 10, none⟩ = some (.slice L.rl.1 L.rl.2.1 L.rl.2.2) := by rw [cell_of_box hT6.let_]; rfl
    have x2 : w6.cell? ⟨w.heap.size, 2, none⟩ = some (.slice r.aA s.args.length r.ac) := by rw [cell_of_box hT6.own]; rfl
    have x4 : w6.cell? ⟨w.heap.size, 4, none⟩ = some (.int .i64 s.bud) := by rw [cell_of_box hT6.own]; rfl
    have ff2 : w6.frozen? ⟨w.heap.size, 2, none⟩ = false := box_open hT6.own
    have ff4 : w6.frozen? ⟨w.heap.size, 4, none⟩ = false := box_open hT6.own
    replace hw6 := Lib.hid hw6
    replace hT6 := Lib.hid hT6
    clear hT5 hdb
    go_wp2_with ((with_reducible refine store_at (ty := 60) (x := .tmp 6) (y := .tmp 32) ?_); refine ⟨w5.heap.size, #[.int .i64 k, .int .i64 sl, .int .i64 nd, .int .i64 tk], 60, #[.int .i64 0, .int .i64 0, .int .i64 0, .int .i64 0], rfl, rfl, heap_alloc_new _ _, infoD, rfl, dec_one _ _ _ _, ?_⟩; rw [World.setRow_alloc_new, ← hw6.out])
    have hok : RefOk w { s with args := [] } ⟨r.kA, r.kc, r.kl, none, 0⟩ := ⟨h.out.known, Kd.C_of_reads (d := (⟨#[]⟩ : ByteArray)) ⟨rfl, Nat.zero_le _, fun h => absurd h (Nat.lt_irrefl 0)⟩, Nat.le_refl _, fun k => h.out.same k, h.out.few⟩
    have hx7 : (w6.setCell ⟨w.heap.size, 2, none⟩ (.slice none 0 0)).heap[w.heap.size]? = some (.cells #[.int .i64 s.home, .slice r.kA r.kl.length r.kc, .slice none 0 0, .int .i64 s.num, .int .i64 s.bud] 28 (0, 0)) := heap_setCell_same _ w.heap.size 2 _ _ _ hT6.out.own
    have hT7 := hT6.out.cell 2 (.slice none 0 0) hx7
    generalize w6.setCell ⟨w.heap.size, 2, none⟩ (.slice none 0 0) = w7 at *
    have hS := hT7.step (⟨rfl, rfl, rfl, Nat.le_refl _, fun _ _ => rfl⟩ : Below w7.heap.size w7 w7.drew)
    clear hT7 hx7 hT6 hw6
    refine wp_region_last (S := fun W9 => ∃ Y9, Six w #[.int .i64 s.home, .slice r.kA r.kl.length r.kc, .slice none 0 0, .int .i64 s.num, .int .i64 s.bud] #[.int .i64 L.kind, .int .i64 L.num, .int .i64 L.slot, .int .i64 L.ends, .string L.key, .string L.text, .slice L.args.1 L.args.2.1 L.args.2.2, .int .i64 L.rk, .int .i64 L.ri, .string L.rt, .slice L.rl.1 L.rl.2.1 L.rl.2.2, .bool L.good, .int .i64 L.asking] Y9 #[.int .i64 0, .int .i64 0, .int .i64 0, .int .i64 0, .int .i64 0, .string ⟨#[]⟩, .string ⟨#[]⟩, .slice none 0 0, .int .i64 0, .int .i64 0, .string ⟨#[]⟩, .slice none 0 0, .bool false, .int .i64 0, .bool false, .int .i64 0, .int .i64 0, .string ⟨#[]⟩, .slice none 0 0, .bool false] W9) 5 (by kernel_rfl) ?_
    refine wpAnyT_take (i := 0) (oi := ⟨some 48, _, _, _, _, _⟩) (v := .agg #[.int .i64 s.home, .slice r.kA r.kl.length r.kc, .slice none 0 0, .int .i64 s.num, .int .i64 s.bud]) rfl (by kernel_rfl) (by kernel_rfl) (by kernel_rfl) (by kernel_rfl) (fun _ _ _ h => h) (Or.inl ⟨by rfl, fun W9 hW => by obtain ⟨Y9, hW⟩ := hW; have q0 := cell_of_box hW.own 0; have q1 := cell_of_box hW.own 1; have q2 := cell_of_box hW.own 2; have q3 := cell_of_box hW.own 3; have q4 := cell_of_box hW.own 4; go_simp⟩) ⟨_, hS⟩ ?_
    try simp only [Act.put, List.setIfInBounds_toArray, List.set_cons_zero, List.set_cons_succ]
    refine wpAnyT_take (i := 1) (oi := ⟨some 49, _, _, _, _, _⟩) (v := .pointer (some ⟨w.heap.size + 1, 7, none⟩)) rfl (by kernel_rfl) (by kernel_rfl) (by kernel_rfl) (by kernel_rfl) (fun _ _ _ h => h) (Or.inl ⟨by rfl, fun W9 hW => by go_simp⟩) ⟨_, hS⟩ ?_
    try simp only [Act.put, List.setIfInBounds_toArray, List.set_cons_zero, List.set_cons_succ]
    refine wpAnyT_take (i := 2) (oi := ⟨some 50, _, _, _, _, _⟩) (v := .agg #[.int .i64 L.rk, .int .i64 L.ri, .string L.rt, .slice L.rl.1 L.rl.2.1 L.rl.2.2]) rfl (by kernel_rfl) (by kernel_rfl) (by kernel_rfl) (by kernel_rfl) (fun _ _ _ h => h) (Or.inl ⟨by rfl, fun W9 hW => by obtain ⟨Y9, hW⟩ := hW; have q0 := cell_of_box hW.let_ 7; have q1 := cell_of_box hW.let_ 8; have q2 := cell_of_box hW.let_ 9; have q3 := cell_of_box hW.let_ 10; go_simp⟩) ⟨_, hS⟩ ?_
    try simp only [Act.put, List.setIfInBounds_toArray, List.set_cons_zero, List.set_cons_succ]
    refine wpAnyT_take (i := 3) (oi := ⟨some 51, _, _, _, _, _⟩) (v := .agg (outC 0 0 0 (.slice none 0 0) 0 false L.rk L.ri L.rt (.slice L.rl.1 L.rl.2.1 L.rl.2.2) true)) rfl (by kernel_rfl) (by kernel_rfl) (by kernel_rfl) (by kernel_rfl) (fun _ _ _ h => h) (Or.inl ⟨by rfl, fun W9 hW => by go_simp; rfl⟩) ⟨_, hS⟩ ?_
    try simp only [Act.put, List.setIfInBounds_toArray, List.set_cons_zero, List.set_cons_succ]
    refine wpAnyT_one (i := 4) (o := ⟨none, _, _, _, _, _⟩) (by kernel_rfl) rfl (fun K hK => ?_)
    refine wp_store_row 28 _ _ rfl (w.heap.size + 1 + 1) #[.int .i64 s.home, .slice r.kA r.kl.length r.kc, .slice none 0 0, .int .i64 s.num, .int .i64 s.bud] rfl rfl 28 #[.int .i64 0, .slice none 0 0, .slice none 0 0, .int .i64 0, .int .i64 0] hS.one infoR rfl (rc_one _ _ _ _ _ _ _ _ _) (hK.out _ _ (fun _ => ?hs) ?_)
    case hs => exact ⟨_, ⟨(setRow_other _ _ _ _ (by omega)).trans hS.own, (setRow_other _ _ _ _ (by omega)).trans hS.let_, setRow_heap _ _ _ _ _ _ hS.one, (setRow_other _ _ _ _ (by omega)).trans hS.two, below_setRow hS.below (by omega) _⟩⟩
    clear hK K
    try simp only [Act.put, List.setIfInBounds_toArray, List.set_cons_zero, List.set_cons_succ]
    have h1 := setRow_heap _ _ _ #[.int .i64 s.home, .slice r.kA r.kl.length r.kc, .slice none 0 0, .int .i64 s.num, .int .i64 s.bud] _ _ hS.one
    have h2 := (setRow_other _ (w.heap.size + 1 + 1) (w.heap.size + 1 + 1 + 1) #[.int .i64 s.home, .slice r.kA r.kl.length r.kc, .slice none 0 0, .int .i64 s.num, .int .i64 s.bud] (by omega)).trans hS.two
    have hbb : Below w.heap.size w _ := below_setRow hS.below (by omega : w.heap.size ≤ (w.heap.size + 1 + 1)) #[.int .i64 s.home, .slice r.kA r.kl.length r.kc, .slice none 0 0, .int .i64 s.num, .int .i64 s.bud]
    generalize World.setRow w7.drew (w.heap.size + 1 + 1) #[.int .i64 s.home, .slice r.kA r.kl.length r.kc, .slice none 0 0, .int .i64 s.num, .int .i64 s.bud] = W2 at *
    refine wpAnyT_one (i := 5) (o := ⟨none, _, _, _, _, _⟩) (by kernel_rfl) rfl (fun K hK => ?_)
    refine wp_store_row 40 _ _ rfl (w.heap.size + 1 + 1 + 1) (outC 0 0 0 (.slice none 0 0) 0 false L.rk L.ri L.rt (.slice L.rl.1 L.rl.2.1 L.rl.2.2) true) rfl rfl 40 #[.int .i64 0, .int .i64 0, .int .i64 0, .int .i64 0, .int .i64 0, .string ⟨#[]⟩, .string ⟨#[]⟩, .slice none 0 0, .int .i64 0, .int .i64 0, .string ⟨#[]⟩, .slice none 0 0, .bool false, .int .i64 0, .bool false, .int .i64 0, .int .i64 0, .string ⟨#[]⟩, .slice none 0 0, .bool false] h2 infoRO rfl (out_one _ _ _ _ _ _ _ _ _ _ _ _ _ _ _) (hK.out _ _ (fun h => absurd rfl h) ?_)
    clear hK K
    try simp only [Act.put, List.setIfInBounds_toArray, List.set_cons_zero, List.set_cons_succ]
    refine wpAnyT_done (by kernel_rfl) ?_ _
    go_wp2_with fail
    refine bodyPost_ret (results_two Tryz.results10 _ _ (w.heap.size + 1 + 1) (w.heap.size + 1 + 1 + 1) #[.int .i64 s.home, .slice r.kA r.kl.length r.kc, .slice none 0 0, .int .i64 s.num, .int .i64 s.bud] (outC 0 0 0 (.slice none 0 0) 0 false L.rk L.ri L.rt (.slice L.rl.1 L.rl.2.1 L.rl.2.2) true) 28 40 _ _ rfl rfl ((setRow_other _ _ _ _ (by omega)).trans h1) (setRow_heap _ _ _ _ _ _ h2) Tryz.underlying28 rfl infoR Tryz.underlying40 rfl infoRO) rfl ⟨⟨r.kA, r.kc, r.kl, none, 0⟩, rfl, hok.below (below_setRow hbb (by omega) _), below_setRow hbb (by omega) _, by simp⟩
  have d4 : (L.rk != 2) = false := by rw [hrk]; rfl
  replace hrk := Lib.hid hrk
  rcases readV_sound L.rt.data.toList with hrv | ⟨k, sl, nd, tk, hrv, hvd, -⟩
  · rw [hrv] at hv0
    simp only [true_or, if_true] at hv0
    rw [hv0]
    clear hv0
    have hT4 := four_boxes w #[.int .i64 s.home, .slice r.kA r.kl.length r.kc, .slice r.aA s.args.length r.ac, .int .i64 s.num, .int .i64 s.bud] #[.int .i64 L.kind, .int .i64 L.num, .int .i64 L.slot, .int .i64 L.ends, .string L.key, .string L.text, .slice L.args.1 L.args.2.1 L.args.2.2, .int .i64 L.rk, .int .i64 L.ri, .string L.rt, .slice L.rl.1 L.rl.2.1 L.rl.2.2, .bool L.good, .int .i64 L.asking]
    replace hT4 := Lib.hid hT4
    replace h := Lib.hid h
    unfold rcC lcells
    go_enter Tryz.func10, Tryz.ntmps10
    go_wp2_with fail
    refine (refRead_calls L.rt hrt _).mono ?_
    rintro e w5 ⟨rfl, hb5⟩
    rw [RtR.refRead_eq, hrv]
    have hT5 := hT4.out.step hb5
    clear hT4 hb5
    have hb56 : Below w5.heap.size w5 (w5.alloc (.cells #[.int .i64 0, .int .i64 0, .int .i64 0, .int .i64 0] 60)) := below_alloc (Below.refl _ _) _
    have hdb := dec_box w5 0 0 0 0
    have hT6 := hT5.step hb56
    have hlt6 : w5.heap.size < (w5.alloc (.cells #[.int .i64 0, .int .i64 0, .int .i64 0, .int .i64 0] 60)).heap.size := by simp
    obtain ⟨w6, hw6⟩ : ∃ w6, w6 = w5.alloc (.cells #[.int .i64 0, .int .i64 0, .int .i64 0, .int .i64 0] 60) := ⟨_, rfl⟩
    rw [← hw6] at hdb hT6 hlt6
    have hDB : (w.heap.size + 1 + 1 + 1) < w5.heap.size := hT5.lt
    have m0 := hdb 0 _ rfl
    have m1 := hdb 1 _ rfl
    have m2 := hdb 2 _ rfl
    have m3 := hdb 3 _ rfl
    clear hb56
    have y7 : w6.cell? ⟨w.heap.size + 1, 7, none⟩ = some (.int .i64 L.rk) := by rw [cell_of_box hT6.let_]; rfl
    have y8 : w6.cell? ⟨w.heap.size + 1, 8, none⟩ = some (.int .i64 L.ri) := by rw [cell_of_box hT6.let_]; rfl
    have y9 : w6.cell? ⟨w.heap.size + 1, 9, none⟩ = some (.string L.rt) := by rw [cell_of_box hT6.let_]; rfl
    have y10 : w6.cell? ⟨w.heap.size + 1, 10, none⟩ = some (.slice L.rl.1 L.rl.2.1 L.rl.2.2) := by rw [cell_of_box hT6.let_]; rfl
    have x2 : w6.cell? ⟨w.heap.size, 2, none⟩ = some (.slice r.aA s.args.length r.ac) := by rw [cell_of_box hT6.own]; rfl
    have x4 : w6.cell? ⟨w.heap.size, 4, none⟩ = some (.int .i64 s.bud) := by rw [cell_of_box hT6.own]; rfl
    have ff2 : w6.frozen? ⟨w.heap.size, 2, none⟩ = false := box_open hT6.own
    have ff4 : w6.frozen? ⟨w.heap.size, 4, none⟩ = false := box_open hT6.own
    replace hw6 := Lib.hid hw6
    replace hT6 := Lib.hid hT6
    clear hT5 hdb
    go_wp2_with ((with_reducible refine store_at (ty := 60) (x := .tmp 6) (y := .tmp 32) ?_); refine ⟨w5.heap.size, #[.int .i64 0, .int .i64 0, .int .i64 0, .int .i64 0], 60, #[.int .i64 0, .int .i64 0, .int .i64 0, .int .i64 0], rfl, rfl, heap_alloc_new _ _, infoD, rfl, dec_one _ _ _ _, ?_⟩; rw [World.setRow_alloc_new, ← hw6.out])
    have hok : RefOk w { s with args := [] } ⟨r.kA, r.kc, r.kl, none, 0⟩ := ⟨h.out.known, Kd.C_of_reads (d := (⟨#[]⟩ : ByteArray)) ⟨rfl, Nat.zero_le _, fun h => absurd h (Nat.lt_irrefl 0)⟩, Nat.le_refl _, fun k => h.out.same k, h.out.few⟩
    have hx7 : (w6.setCell ⟨w.heap.size, 2, none⟩ (.slice none 0 0)).heap[w.heap.size]? = some (.cells #[.int .i64 s.home, .slice r.kA r.kl.length r.kc, .slice none 0 0, .int .i64 s.num, .int .i64 s.bud] 28 (0, 0)) := heap_setCell_same _ w.heap.size 2 _ _ _ hT6.out.own
    have hT7 := hT6.out.cell 2 (.slice none 0 0) hx7
    generalize w6.setCell ⟨w.heap.size, 2, none⟩ (.slice none 0 0) = w7 at *
    have hS := hT7.step (⟨rfl, rfl, rfl, Nat.le_refl _, fun _ _ => rfl⟩ : Below w7.heap.size w7 w7.drew)
    clear hT7 hx7 hT6 hw6
    refine wp_region_last (S := fun W9 => ∃ Y9, Six w #[.int .i64 s.home, .slice r.kA r.kl.length r.kc, .slice none 0 0, .int .i64 s.num, .int .i64 s.bud] #[.int .i64 L.kind, .int .i64 L.num, .int .i64 L.slot, .int .i64 L.ends, .string L.key, .string L.text, .slice L.args.1 L.args.2.1 L.args.2.2, .int .i64 L.rk, .int .i64 L.ri, .string L.rt, .slice L.rl.1 L.rl.2.1 L.rl.2.2, .bool L.good, .int .i64 L.asking] Y9 #[.int .i64 0, .int .i64 0, .int .i64 0, .int .i64 0, .int .i64 0, .string ⟨#[]⟩, .string ⟨#[]⟩, .slice none 0 0, .int .i64 0, .int .i64 0, .string ⟨#[]⟩, .slice none 0 0, .bool false, .int .i64 0, .bool false, .int .i64 0, .int .i64 0, .string ⟨#[]⟩, .slice none 0 0, .bool false] W9) 5 (by kernel_rfl) ?_
    refine wpAnyT_take (i := 0) (oi := ⟨some 48, _, _, _, _, _⟩) (v := .agg #[.int .i64 s.home, .slice r.kA r.kl.length r.kc, .slice none 0 0, .int .i64 s.num, .int .i64 s.bud]) rfl (by kernel_rfl) (by kernel_rfl) (by kernel_rfl) (by kernel_rfl) (fun _ _ _ h => h) (Or.inl ⟨by rfl, fun W9 hW => by obtain ⟨Y9, hW⟩ := hW; have q0 := cell_of_box hW.own 0; have q1 := cell_of_box hW.own 1; have q2 := cell_of_box hW.own 2; have q3 := cell_of_box hW.own 3; have q4 := cell_of_box hW.own 4; go_simp⟩) ⟨_, hS⟩ ?_
    try simp only [Act.put, List.setIfInBounds_toArray, List.set_cons_zero, List.set_cons_succ]
    refine wpAnyT_take (i := 1) (oi := ⟨some 49, _, _, _, _, _⟩) (v := .pointer (some ⟨w.heap.size + 1, 7, none⟩)) rfl (by kernel_rfl) (by kernel_rfl) (by kernel_rfl) (by kernel_rfl) (fun _ _ _ h => h) (Or.inl ⟨by rfl, fun W9 hW => by go_simp⟩) ⟨_, hS⟩ ?_
    try simp only [Act.put, List.setIfInBounds_toArray, List.set_cons_zero, List.set_cons_succ]
    refine wpAnyT_take (i := 2) (oi := ⟨some 50, _, _, _, _, _⟩) (v := .agg #[.int .i64 L.rk, .int .i64 L.ri, .string L.rt, .slice L.rl.1 L.rl.2.1 L.rl.2.2]) rfl (by kernel_rfl) (by kernel_rfl) (by kernel_rfl) (by kernel_rfl) (fun _ _ _ h => h) (Or.inl ⟨by rfl, fun W9 hW => by obtain ⟨Y9, hW⟩ := hW; have q0 := cell_of_box hW.let_ 7; have q1 := cell_of_box hW.let_ 8; have q2 := cell_of_box hW.let_ 9; have q3 := cell_of_box hW.let_ 10; go_simp⟩) ⟨_, hS⟩ ?_
    try simp only [Act.put, List.setIfInBounds_toArray, List.set_cons_zero, List.set_cons_succ]
    refine wpAnyT_take (i := 3) (oi := ⟨some 51, _, _, _, _, _⟩) (v := .agg (outC 0 0 0 (.slice none 0 0) 0 false L.rk L.ri L.rt (.slice L.rl.1 L.rl.2.1 L.rl.2.2) true)) rfl (by kernel_rfl) (by kernel_rfl) (by kernel_rfl) (by kernel_rfl) (fun _ _ _ h => h) (Or.inl ⟨by rfl, fun W9 hW => by go_simp; rfl⟩) ⟨_, hS⟩ ?_
    try simp only [Act.put, List.setIfInBounds_toArray, List.set_cons_zero, List.set_cons_succ]
    refine wpAnyT_one (i := 4) (o := ⟨none, _, _, _, _, _⟩) (by kernel_rfl) rfl (fun K hK => ?_)
    refine wp_store_row 28 _ _ rfl (w.heap.size + 1 + 1) #[.int .i64 s.home, .slice r.kA r.kl.length r.kc, .slice none 0 0, .int .i64 s.num, .int .i64 s.bud] rfl rfl 28 #[.int .i64 0, .slice none 0 0, .slice none 0 0, .int .i64 0, .int .i64 0] hS.one infoR rfl (rc_one _ _ _ _ _ _ _ _ _) (hK.out _ _ (fun _ => ?hs) ?_)
    case hs => exact ⟨_, ⟨(setRow_other _ _ _ _ (by omega)).trans hS.own, (setRow_other _ _ _ _ (by omega)).trans hS.let_, setRow_heap _ _ _ _ _ _ hS.one, (setRow_other _ _ _ _ (by omega)).trans hS.two, below_setRow hS.below (by omega) _⟩⟩
    clear hK K
    try simp only [Act.put, List.setIfInBounds_toArray, List.set_cons_zero, List.set_cons_succ]
    have h1 := setRow_heap _ _ _ #[.int .i64 s.home, .slice r.kA r.kl.length r.kc, .slice none 0 0, .int .i64 s.num, .int .i64 s.bud] _ _ hS.one
    have h2 := (setRow_other _ (w.heap.size + 1 + 1) (w.heap.size + 1 + 1 + 1) #[.int .i64 s.home, .slice r.kA r.kl.length r.kc, .slice none 0 0, .int .i64 s.num, .int .i64 s.bud] (by omega)).trans hS.two
    have hbb : Below w.heap.size w _ := below_setRow hS.below (by omega : w.heap.size ≤ (w.heap.size + 1 + 1)) #[.int .i64 s.home, .slice r.kA r.kl.length r.kc, .slice none 0 0, .int .i64 s.num, .int .i64 s.bud]
    generalize World.setRow w7.drew (w.heap.size + 1 + 1) #[.int .i64 s.home, .slice r.kA r.kl.length r.kc, .slice none 0 0, .int .i64 s.num, .int .i64 s.bud] = W2 at *
    refine wpAnyT_one (i := 5) (o := ⟨none, _, _, _, _, _⟩) (by kernel_rfl) rfl (fun K hK => ?_)
    refine wp_store_row 40 _ _ rfl (w.heap.size + 1 + 1 + 1) (outC 0 0 0 (.slice none 0 0) 0 false L.rk L.ri L.rt (.slice L.rl.1 L.rl.2.1 L.rl.2.2) true) rfl rfl 40 #[.int .i64 0, .int .i64 0, .int .i64 0, .int .i64 0, .int .i64 0, .string ⟨#[]⟩, .string ⟨#[]⟩, .slice none 0 0, .int .i64 0, .int .i64 0, .string ⟨#[]⟩, .slice none 0 0, .bool false, .int .i64 0, .bool false, .int .i64 0, .int .i64 0, .string ⟨#[]⟩, .slice none 0 0, .bool false] h2 infoRO rfl (out_one _ _ _ _ _ _ _ _ _ _ _ _ _ _ _) (hK.out _ _ (fun h => absurd rfl h) ?_)
    clear hK K
    try simp only [Act.put, List.setIfInBounds_toArray, List.set_cons_zero, List.set_cons_succ]
    refine wpAnyT_done (by kernel_rfl) ?_ _
    go_wp2_with fail
    refine bodyPost_ret (results_two Tryz.results10 _ _ (w.heap.size + 1 + 1) (w.heap.size + 1 + 1 + 1) #[.int .i64 s.home, .slice r.kA r.kl.length r.kc, .slice none 0 0, .int .i64 s.num, .int .i64 s.bud] (outC 0 0 0 (.slice none 0 0) 0 false L.rk L.ri L.rt (.slice L.rl.1 L.rl.2.1 L.rl.2.2) true) 28 40 _ _ rfl rfl ((setRow_other _ _ _ _ (by omega)).trans h1) (setRow_heap _ _ _ _ _ _ h2) Tryz.underlying28 rfl infoR Tryz.underlying40 rfl infoRO) rfl ⟨⟨r.kA, r.kc, r.kl, none, 0⟩, rfl, hok.below (below_setRow hbb (by omega) _), below_setRow hbb (by omega) _, by simp⟩
  rw [hrv] at hv0
  simp only [Bool.true_eq_false, false_or] at hv0
  have hkd := hvd.kind
  by_cases h56 : 4 < k
  · have d5 : decide ((4 : Int) < k) = true := decide_eq_true h56
    rw [if_pos (Or.inr (by omega))] at hv0
    rw [hv0]
    clear hv0
    have hT4 := four_boxes w #[.int .i64 s.home, .slice r.kA r.kl.length r.kc, .slice r.aA s.args.length r.ac, .int .i64 s.num, .int .i64 s.bud] #[.int .i64 L.kind, .int .i64 L.num, .int .i64 L.slot, .int .i64 L.ends, .string L.key, .string L.text, .slice L.args.1 L.args.2.1 L.args.2.2, .int .i64 L.rk, .int .i64 L.ri, .string L.rt, .slice L.rl.1 L.rl.2.1 L.rl.2.2, .bool L.good, .int .i64 L.asking]
    replace hT4 := Lib.hid hT4
    replace h := Lib.hid h
    unfold rcC lcells
    go_enter Tryz.func10, Tryz.ntmps10
    go_wp2_with fail
    refine (refRead_calls L.rt hrt _).mono ?_
    rintro e w5 ⟨rfl, hb5⟩
    rw [RtR.refRead_eq, hrv]
    have hT5 := hT4.out.step hb5
    clear hT4 hb5
    have hb56 : Below w5.heap.size w5 (w5.alloc (.cells #[.int .i64 k, .int .i64 sl, .int .i64 nd, .int .i64 tk] 60)) := below_alloc (Below.refl _ _) _
    have hdb := dec_box w5 k sl nd tk
    have hT6 := hT5.step hb56
    have hlt6 : w5.heap.size < (w5.alloc (.cells #[.int .i64 k, .int .i64 sl, .int .i64 nd, .int .i64 tk] 60)).heap.size := by simp
    obtain ⟨w6, hw6⟩ : ∃ w6, w6 = w5.alloc (.cells #[.int .i64 k, .int .i64 sl, .int .i64 nd, .int .i64 tk] 60) := ⟨_, rfl⟩
    rw [← hw6] at hdb hT6 hlt6
    have hDB : (w.heap.size + 1 + 1 + 1) < w5.heap.size := hT5.lt
    have m0 := hdb 0 _ rfl
    have m1 := hdb 1 _ rfl
    have m2 := hdb 2 _ rfl
    have m3 := hdb 3 _ rfl
    clear hb56
    have y7 : w6.cell? ⟨w.heap.size + 1, 7, none⟩ = some (.int .i64 L.rk) := by rw [cell_of_box hT6.let_]; rfl
    have y8 : w6.cell? ⟨w.heap.size + 1, 8, none⟩ = some (.int .i64 L.ri) := by rw [cell_of_box hT6.let_]; rfl
    have y9 : w6.cell? ⟨w.heap.size + 1, 9, none⟩ = some (.string L.rt) := by rw [cell_of_box hT6.let_]; rfl
    have y10 : w6.cell? ⟨w.heap.size + 1, 10, none⟩ = some (.slice L.rl.1 L.rl.2.1 L.rl.2.2) := by rw [cell_of_box hT6.let_]; rfl
    have x2 : w6.cell? ⟨w.heap.size, 2, none⟩ = some (.slice r.aA s.args.length r.ac) := by rw [cell_of_box hT6.own]; rfl
    have x4 : w6.cell? ⟨w.heap.size, 4, none⟩ = some (.int .i64 s.bud) := by rw [cell_of_box hT6.own]; rfl
    have ff2 : w6.frozen? ⟨w.heap.size, 2, none⟩ = false := box_open hT6.own
    have ff4 : w6.frozen? ⟨w.heap.size, 4, none⟩ = false := box_open hT6.own
    replace hw6 := Lib.hid hw6
    replace hT6 := Lib.hid hT6
    clear hT5 hdb
    go_wp2_with ((with_reducible refine store_at (ty := 60) (x := .tmp 6) (y := .tmp 32) ?_); refine ⟨w5.heap.size, #[.int .i64 k, .int .i64 sl, .int .i64 nd, .int .i64 tk], 60, #[.int .i64 0, .int .i64 0, .int .i64 0, .int .i64 0], rfl, rfl, heap_alloc_new _ _, infoD, rfl, dec_one _ _ _ _, ?_⟩; rw [World.setRow_alloc_new, ← hw6.out])
    have hok : RefOk w { s with args := [] } ⟨r.kA, r.kc, r.kl, none, 0⟩ := ⟨h.out.known, Kd.C_of_reads (d := (⟨#[]⟩ : ByteArray)) ⟨rfl, Nat.zero_le _, fun h => absurd h (Nat.lt_irrefl 0)⟩, Nat.le_refl _, fun k => h.out.same k, h.out.few⟩
    have hx7 : (w6.setCell ⟨w.heap.size, 2, none⟩ (.slice none 0 0)).heap[w.heap.size]? = some (.cells #[.int .i64 s.home, .slice r.kA r.kl.length r.kc, .slice none 0 0, .int .i64 s.num, .int .i64 s.bud] 28 (0, 0)) := heap_setCell_same _ w.heap.size 2 _ _ _ hT6.out.own
    have hT7 := hT6.out.cell 2 (.slice none 0 0) hx7
    generalize w6.setCell ⟨w.heap.size, 2, none⟩ (.slice none 0 0) = w7 at *
    have hS := hT7.step (⟨rfl, rfl, rfl, Nat.le_refl _, fun _ _ => rfl⟩ : Below w7.heap.size w7 w7.drew)
    clear hT7 hx7 hT6 hw6
    refine wp_region_last (S := fun W9 => ∃ Y9, Six w #[.int .i64 s.home, .slice r.kA r.kl.length r.kc, .slice none 0 0, .int .i64 s.num, .int .i64 s.bud] #[.int .i64 L.kind, .int .i64 L.num, .int .i64 L.slot, .int .i64 L.ends, .string L.key, .string L.text, .slice L.args.1 L.args.2.1 L.args.2.2, .int .i64 L.rk, .int .i64 L.ri, .string L.rt, .slice L.rl.1 L.rl.2.1 L.rl.2.2, .bool L.good, .int .i64 L.asking] Y9 #[.int .i64 0, .int .i64 0, .int .i64 0, .int .i64 0, .int .i64 0, .string ⟨#[]⟩, .string ⟨#[]⟩, .slice none 0 0, .int .i64 0, .int .i64 0, .string ⟨#[]⟩, .slice none 0 0, .bool false, .int .i64 0, .bool false, .int .i64 0, .int .i64 0, .string ⟨#[]⟩, .slice none 0 0, .bool false] W9) 5 (by kernel_rfl) ?_
    refine wpAnyT_take (i := 0) (oi := ⟨some 48, _, _, _, _, _⟩) (v := .agg #[.int .i64 s.home, .slice r.kA r.kl.length r.kc, .slice none 0 0, .int .i64 s.num, .int .i64 s.bud]) rfl (by kernel_rfl) (by kernel_rfl) (by kernel_rfl) (by kernel_rfl) (fun _ _ _ h => h) (Or.inl ⟨by rfl, fun W9 hW => by obtain ⟨Y9, hW⟩ := hW; have q0 := cell_of_box hW.own 0; have q1 := cell_of_box hW.own 1; have q2 := cell_of_box hW.own 2; have q3 := cell_of_box hW.own 3; have q4 := cell_of_box hW.own 4; go_simp⟩) ⟨_, hS⟩ ?_
    try simp only [Act.put, List.setIfInBounds_toArray, List.set_cons_zero, List.set_cons_succ]
    refine wpAnyT_take (i := 1) (oi := ⟨some 49, _, _, _, _, _⟩) (v := .pointer (some ⟨w.heap.size + 1, 7, none⟩)) rfl (by kernel_rfl) (by kernel_rfl) (by kernel_rfl) (by kernel_rfl) (fun _ _ _ h => h) (Or.inl ⟨by rfl, fun W9 hW => by go_simp⟩) ⟨_, hS⟩ ?_
    try simp only [Act.put, List.setIfInBounds_toArray, List.set_cons_zero, List.set_cons_succ]
    refine wpAnyT_take (i := 2) (oi := ⟨some 50, _, _, _, _, _⟩) (v := .agg #[.int .i64 L.rk, .int .i64 L.ri, .string L.rt, .slice L.rl.1 L.rl.2.1 L.rl.2.2]) rfl (by kernel_rfl) (by kernel_rfl) (by kernel_rfl) (by kernel_rfl) (fun _ _ _ h => h) (Or.inl ⟨by rfl, fun W9 hW => by obtain ⟨Y9, hW⟩ := hW; have q0 := cell_of_box hW.let_ 7; have q1 := cell_of_box hW.let_ 8; have q2 := cell_of_box hW.let_ 9; have q3 := cell_of_box hW.let_ 10; go_simp⟩) ⟨_, hS⟩ ?_
    try simp only [Act.put, List.setIfInBounds_toArray, List.set_cons_zero, List.set_cons_succ]
    refine wpAnyT_take (i := 3) (oi := ⟨some 51, _, _, _, _, _⟩) (v := .agg (outC 0 0 0 (.slice none 0 0) 0 false L.rk L.ri L.rt (.slice L.rl.1 L.rl.2.1 L.rl.2.2) true)) rfl (by kernel_rfl) (by kernel_rfl) (by kernel_rfl) (by kernel_rfl) (fun _ _ _ h => h) (Or.inl ⟨by rfl, fun W9 hW => by go_simp; rfl⟩) ⟨_, hS⟩ ?_
    try simp only [Act.put, List.setIfInBounds_toArray, List.set_cons_zero, List.set_cons_succ]
    refine wpAnyT_one (i := 4) (o := ⟨none, _, _, _, _, _⟩) (by kernel_rfl) rfl (fun K hK => ?_)
    refine wp_store_row 28 _ _ rfl (w.heap.size + 1 + 1) #[.int .i64 s.home, .slice r.kA r.kl.length r.kc, .slice none 0 0, .int .i64 s.num, .int .i64 s.bud] rfl rfl 28 #[.int .i64 0, .slice none 0 0, .slice none 0 0, .int .i64 0, .int .i64 0] hS.one infoR rfl (rc_one _ _ _ _ _ _ _ _ _) (hK.out _ _ (fun _ => ?hs) ?_)
    case hs => exact ⟨_, ⟨(setRow_other _ _ _ _ (by omega)).trans hS.own, (setRow_other _ _ _ _ (by omega)).trans hS.let_, setRow_heap _ _ _ _ _ _ hS.one, (setRow_other _ _ _ _ (by omega)).trans hS.two, below_setRow hS.below (by omega) _⟩⟩
    clear hK K
    try simp only [Act.put, List.setIfInBounds_toArray, List.set_cons_zero, List.set_cons_succ]
    have h1 := setRow_heap _ _ _ #[.int .i64 s.home, .slice r.kA r.kl.length r.kc, .slice none 0 0, .int .i64 s.num, .int .i64 s.bud] _ _ hS.one
    have h2 := (setRow_other _ (w.heap.size + 1 + 1) (w.heap.size + 1 + 1 + 1) #[.int .i64 s.home, .slice r.kA r.kl.length r.kc, .slice none 0 0, .int .i64 s.num, .int .i64 s.bud] (by omega)).trans hS.two
    have hbb : Below w.heap.size w _ := below_setRow hS.below (by omega : w.heap.size ≤ (w.heap.size + 1 + 1)) #[.int .i64 s.home, .slice r.kA r.kl.length r.kc, .slice none 0 0, .int .i64 s.num, .int .i64 s.bud]
    generalize World.setRow w7.drew (w.heap.size + 1 + 1) #[.int .i64 s.home, .slice r.kA r.kl.length r.kc, .slice none 0 0, .int .i64 s.num, .int .i64 s.bud] = W2 at *
    refine wpAnyT_one (i := 5) (o := ⟨none, _, _, _, _, _⟩) (by kernel_rfl) rfl (fun K hK => ?_)
    refine wp_store_row 40 _ _ rfl (w.heap.size + 1 + 1 + 1) (outC 0 0 0 (.slice none 0 0) 0 false L.rk L.ri L.rt (.slice L.rl.1 L.rl.2.1 L.rl.2.2) true) rfl rfl 40 #[.int .i64 0, .int .i64 0, .int .i64 0, .int .i64 0, .int .i64 0, .string ⟨#[]⟩, .string ⟨#[]⟩, .slice none 0 0, .int .i64 0, .int .i64 0, .string ⟨#[]⟩, .slice none 0 0, .bool false, .int .i64 0, .bool false, .int .i64 0, .int .i64 0, .string ⟨#[]⟩, .slice none 0 0, .bool false] h2 infoRO rfl (out_one _ _ _ _ _ _ _ _ _ _ _ _ _ _ _) (hK.out _ _ (fun h => absurd rfl h) ?_)
    clear hK K
    try simp only [Act.put, List.setIfInBounds_toArray, List.set_cons_zero, List.set_cons_succ]
    refine wpAnyT_done (by kernel_rfl) ?_ _
    go_wp2_with fail
    refine bodyPost_ret (results_two Tryz.results10 _ _ (w.heap.size + 1 + 1) (w.heap.size + 1 + 1 + 1) #[.int .i64 s.home, .slice r.kA r.kl.length r.kc, .slice none 0 0, .int .i64 s.num, .int .i64 s.bud] (outC 0 0 0 (.slice none 0 0) 0 false L.rk L.ri L.rt (.slice L.rl.1 L.rl.2.1 L.rl.2.2) true) 28 40 _ _ rfl rfl ((setRow_other _ _ _ _ (by omega)).trans h1) (setRow_heap _ _ _ _ _ _ h2) Tryz.underlying28 rfl infoR Tryz.underlying40 rfl infoRO) rfl ⟨⟨r.kA, r.kc, r.kl, none, 0⟩, rfl, hok.below (below_setRow hbb (by omega) _), below_setRow hbb (by omega) _, by simp⟩
  have d5 : decide ((4 : Int) < k) = false := decide_eq_false h56
  rw [if_neg (by rintro (h1 | h1 | h1); exact h1 hrk.out; omega; omega)] at hv0
  by_cases hb : s.bud = 0
  · have d6 : (s.bud == 0) = true := by rw [beq_iff_eq]; exact hb
    rw [if_pos hb] at hv0
    rw [hv0]
    clear hv0 hb
    have hT4 := four_boxes w #[.int .i64 s.home, .slice r.kA r.kl.length r.kc, .slice r.aA s.args.length r.ac, .int .i64 s.num, .int .i64 s.bud] #[.int .i64 L.kind, .int .i64 L.num, .int .i64 L.slot, .int .i64 L.ends, .string L.key, .string L.text, .slice L.args.1 L.args.2.1 L.args.2.2, .int .i64 L.rk, .int .i64 L.ri, .string L.rt, .slice L.rl.1 L.rl.2.1 L.rl.2.2, .bool L.good, .int .i64 L.asking]
    replace hT4 := Lib.hid hT4
    replace h := Lib.hid h
    unfold rcC lcells
    go_enter Tryz.func10, Tryz.ntmps10
    go_wp2_with fail
    refine (refRead_calls L.rt hrt _).mono ?_
    rintro e w5 ⟨rfl, hb5⟩
    rw [RtR.refRead_eq, hrv]
    have hT5 := hT4.out.step hb5
    clear hT4 hb5
    have hb56 : Below w5.heap.size w5 (w5.alloc (.cells #[.int .i64 k, .int .i64 sl, .int .i64 nd, .int .i64 tk] 60)) := below_alloc (Below.refl _ _) _
    have hdb := dec_box w5 k sl nd tk
    have hT6 := hT5.step hb56
    have hlt6 : w5.heap.size < (w5.alloc (.cells #[.int .i64 k, .int .i64 sl, .int .i64 nd, .int .i64 tk] 60)).heap.size := by simp
    obtain ⟨w6, hw6⟩ : ∃ w6, w6 = w5.alloc (.cells #[.int .i64 k, .int .i64 sl, .int .i64 nd, .int .i64 tk] 60) := ⟨_, rfl⟩
    rw [← hw6] at hdb hT6 hlt6
    have hDB : (w.heap.size + 1 + 1 + 1) < w5.heap.size := hT5.lt
    have m0 := hdb 0 _ rfl
    have m1 := hdb 1 _ rfl
    have m2 := hdb 2 _ rfl
    have m3 := hdb 3 _ rfl
    clear hb56
    have y7 : w6.cell? ⟨w.heap.size + 1, 7, none⟩ = some (.int .i64 L.rk) := by rw [cell_of_box hT6.let_]; rfl
    have y8 : w6.cell? ⟨w.heap.size + 1, 8, none⟩ = some (.int .i64 L.ri) := by rw [cell_of_box hT6.let_]; rfl
    have y9 : w6.cell? ⟨w.heap.size + 1, 9, none⟩ = some (.string L.rt) := by rw [cell_of_box hT6.let_]; rfl
    have y10 : w6.cell? ⟨w.heap.size + 1, 10, none⟩ = some (.slice L.rl.1 L.rl.2.1 L.rl.2.2) := by rw [cell_of_box hT6.let_]; rfl
    have x2 : w6.cell? ⟨w.heap.size, 2, none⟩ = some (.slice r.aA s.args.length r.ac) := by rw [cell_of_box hT6.own]; rfl
    have x4 : w6.cell? ⟨w.heap.size, 4, none⟩ = some (.int .i64 s.bud) := by rw [cell_of_box hT6.own]; rfl
    have ff2 : w6.frozen? ⟨w.heap.size, 2, none⟩ = false := box_open hT6.own
    have ff4 : w6.frozen? ⟨w.heap.size, 4, none⟩ = false := box_open hT6.own
    replace hw6 := Lib.hid hw6
    replace hT6 := Lib.hid hT6
    clear hT5 hdb
    have hok : RefOk w { s with args := [] } ⟨r.kA, r.kc, r.kl, none, 0⟩ := ⟨h.out.known, Kd.C_of_reads (d := (⟨#[]⟩ : ByteArray)) ⟨rfl, Nat.zero_le _, fun h => absurd h (Nat.lt_irrefl 0)⟩, Nat.le_refl _, fun k => h.out.same k, h.out.few⟩
    have hx7 : (w6.setCell ⟨w.heap.size, 2, none⟩ (.slice none 0 0)).heap[w.heap.size]? = some (.cells #[.int .i64 s.home, .slice r.kA r.kl.length r.kc, .slice none 0 0, .int .i64 s.num, .int .i64 s.bud] 28 (0, 0)) := heap_setCell_same _ w.heap.size 2 _ _ _ hT6.out.own
    have hT7 := hT6.out.cell 2 (.slice none 0 0) hx7
    have z0 : (w6.setCell ⟨w.heap.size, 2, none⟩ (.slice none 0 0)).cell? ⟨w.heap.size, 0, none⟩ = some (.int .i64 s.home) := by rw [cell_of_box hx7]; rfl
    have z1 : (w6.setCell ⟨w.heap.size, 2, none⟩ (.slice none 0 0)).cell? ⟨w.heap.size, 1, none⟩ = some (.slice r.kA r.kl.length r.kc) := by rw [cell_of_box hx7]; rfl
    have z2 : (w6.setCell ⟨w.heap.size, 2, none⟩ (.slice none 0 0)).cell? ⟨w.heap.size, 2, none⟩ = some (.slice none 0 0) := by rw [cell_of_box hx7]; rfl
    have z3 : (w6.setCell ⟨w.heap.size, 2, none⟩ (.slice none 0 0)).cell? ⟨w.heap.size, 3, none⟩ = some (.int .i64 s.num) := by rw [cell_of_box hx7]; rfl
    have z4 : (w6.setCell ⟨w.heap.size, 2, none⟩ (.slice none 0 0)).cell? ⟨w.heap.size, 4, none⟩ = some (.int .i64 s.bud) := by rw [cell_of_box hx7]; rfl
    obtain ⟨W2, hW2⟩ : ∃ W2, W2 = World.setRow (w6.setCell ⟨w.heap.size, 2, none⟩ (.slice none 0 0)) (w.heap.size + 1 + 1) #[.int .i64 s.home, .slice r.kA r.kl.length r.kc, .slice none 0 0, .int .i64 s.num, .int .i64 s.bud] := ⟨_, rfl⟩
    have h1 : W2.heap[w.heap.size + 1 + 1]? = some (.cells #[.int .i64 s.home, .slice r.kA r.kl.length r.kc, .slice none 0 0, .int .i64 s.num, .int .i64 s.bud] 28 (0, 0)) := by rw [hW2]; exact setRow_heap _ _ _ _ _ _ hT7.one
    have h2 : W2.heap[w.heap.size + 1 + 1 + 1]? = some (.cells #[.int .i64 0, .int .i64 0, .int .i64 0, .int .i64 0, .int .i64 0, .string ⟨#[]⟩, .string ⟨#[]⟩, .slice none 0 0, .int .i64 0, .int .i64 0, .string ⟨#[]⟩, .slice none 0 0, .bool false, .int .i64 0, .bool false, .int .i64 0, .int .i64 0, .string ⟨#[]⟩, .slice none 0 0, .bool false] 40 (0, 0)) := by rw [hW2]; exact (setRow_other _ _ _ _ (by omega)).trans hT7.two
    have hbb : Below w.heap.size w W2 := by rw [hW2]; exact below_setRow hT7.below (by omega) _
    have hoo : (outC 0 0 0 (.slice none 0 0) 0 false 2 0 wrongT (.slice none 0 0) true).all (·.oneCell') = true := out_one _ _ _ _ _ _ _ _ _ _ _ _ _ _ _
    have hone1 := hT7.one
    replace hone1 := Lib.hid hone1
    replace hW2 := Lib.hid hW2
    replace h1 := Lib.hid h1
    replace h2 := Lib.hid h2
    replace hbb := Lib.hid hbb
    replace hoo := Lib.hid hoo
    go_wp2_with (first | ((with_reducible refine store_at (ty := 60) (x := .tmp 6) (y := .tmp 32) ?_); refine ⟨w5.heap.size, #[.int .i64 k, .int .i64 sl, .int .i64 nd, .int .i64 tk], 60, #[.int .i64 0, .int .i64 0, .int .i64 0, .int .i64 0], rfl, rfl, heap_alloc_new _ _, infoD, rfl, dec_one _ _ _ _, ?_⟩; rw [World.setRow_alloc_new, ← hw6.out]) | ((with_reducible refine store_at (ty := 28) (x := .tmp 4) (y := .tmp 56) ?_); refine ⟨(w.heap.size + 1 + 1), #[.int .i64 s.home, .slice r.kA r.kl.length r.kc, .slice none 0 0, .int .i64 s.num, .int .i64 s.bud], 28, #[.int .i64 0, .slice none 0 0, .slice none 0 0, .int .i64 0, .int .i64 0], rfl, rfl, hone1.out, infoR, rfl, rc_one _ _ _ _ _ _ _ _ _, ?_⟩; rw [← hW2.out]) | ((with_reducible refine store_at (ty := 40) (x := .tmp 5) (y := .tmp 58) ?_); refine ⟨(w.heap.size + 1 + 1 + 1), (outC 0 0 0 (.slice none 0 0) 0 false 2 0 wrongT (.slice none 0 0) true), 40, #[.int .i64 0, .int .i64 0, .int .i64 0, .int .i64 0, .int .i64 0, .string ⟨#[]⟩, .string ⟨#[]⟩, .slice none 0 0, .int .i64 0, .int .i64 0, .string ⟨#[]⟩, .slice none 0 0, .bool false, .int .i64 0, .bool false, .int .i64 0, .int .i64 0, .string ⟨#[]⟩, .slice none 0 0, .bool false], rfl, rfl, h2.out, infoRO, rfl, hoo.out, ?_⟩))
    refine bodyPost_ret (results_two Tryz.results10 _ _ (w.heap.size + 1 + 1) (w.heap.size + 1 + 1 + 1) #[.int .i64 s.home, .slice r.kA r.kl.length r.kc, .slice none 0 0, .int .i64 s.num, .int .i64 s.bud] (outC 0 0 0 (.slice none 0 0) 0 false 2 0 wrongT (.slice none 0 0) true) 28 40 _ _ rfl rfl ((setRow_other _ _ _ _ (by omega)).trans h1.out) (setRow_heap _ _ _ _ _ _ h2.out) Tryz.underlying28 rfl infoR Tryz.underlying40 rfl infoRO) rfl ⟨⟨r.kA, r.kc, r.kl, none, 0⟩, rfl, hok.below (below_setRow hbb.out (by omega) _), below_setRow hbb.out (by omega) _, by simp⟩
  have d6 : (s.bud == 0) = false := by rw [beq_eq_false_iff_ne]; exact hb
  rw [if_neg hb] at hv0
  have hwb : IntKind.i64.wrap (s.bud - 1) = s.bud - 1 := by simp [IntKind.wrap, IntKind.bits, IntKind.signed]; omega
  clear hb
  by_cases h3 : k = 3
  · subst h3
    simp only [show ((3 : Int) = 2) = False from by simp, if_false, if_true] at hv0
    rw [hv0]
    clear hv0
    have hT4 := four_boxes w #[.int .i64 s.home, .slice r.kA r.kl.length r.kc, .slice r.aA s.args.length r.ac, .int .i64 s.num, .int .i64 s.bud] #[.int .i64 L.kind, .int .i64 L.num, .int .i64 L.slot, .int .i64 L.ends, .string L.key, .string L.text, .slice L.args.1 L.args.2.1 L.args.2.2, .int .i64 L.rk, .int .i64 L.ri, .string L.rt, .slice L.rl.1 L.rl.2.1 L.rl.2.2, .bool L.good, .int .i64 L.asking]
    replace hT4 := Lib.hid hT4
    replace h := Lib.hid h
    unfold rcC lcells
    go_enter Tryz.func10, Tryz.ntmps10
    go_wp2_with fail
    refine (refRead_calls L.rt hrt _).mono ?_
    rintro e w5 ⟨rfl, hb5⟩
    rw [RtR.refRead_eq, hrv]
    have hT5 := hT4.out.step hb5
    clear hT4 hb5
    have hb56 : Below w5.heap.size w5 (w5.alloc (.cells #[.int .i64 3, .int .i64 sl, .int .i64 nd, .int .i64 tk] 60)) := below_alloc (Below.refl _ _) _
    have hdb := dec_box w5 3 sl nd tk
    have hT6 := hT5.step hb56
    have hlt6 : w5.heap.size < (w5.alloc (.cells #[.int .i64 3, .int .i64 sl, .int .i64 nd, .int .i64 tk] 60)).heap.size := by simp
    obtain ⟨w6, hw6⟩ : ∃ w6, w6 = w5.alloc (.cells #[.int .i64 3, .int .i64 sl, .int .i64 nd, .int .i64 tk] 60) := ⟨_, rfl⟩
    rw [← hw6] at hdb hT6 hlt6
    have hDB : (w.heap.size + 1 + 1 + 1) < w5.heap.size := hT5.lt
    have m0 := hdb 0 _ rfl
    have m1 := hdb 1 _ rfl
    have m2 := hdb 2 _ rfl
    have m3 := hdb 3 _ rfl
    clear hb56
    have y7 : w6.cell? ⟨w.heap.size + 1, 7, none⟩ = some (.int .i64 L.rk) := by rw [cell_of_box hT6.let_]; rfl
    have y8 : w6.cell? ⟨w.heap.size + 1, 8, none⟩ = some (.int .i64 L.ri) := by rw [cell_of_box hT6.let_]; rfl
    have y9 : w6.cell? ⟨w.heap.size + 1, 9, none⟩ = some (.string L.rt) := by rw [cell_of_box hT6.let_]; rfl
    have y10 : w6.cell? ⟨w.heap.size + 1, 10, none⟩ = some (.slice L.rl.1 L.rl.2.1 L.rl.2.2) := by rw [cell_of_box hT6.let_]; rfl
    have x2 : w6.cell? ⟨w.heap.size, 2, none⟩ = some (.slice r.aA s.args.length r.ac) := by rw [cell_of_box hT6.own]; rfl
    have x4 : w6.cell? ⟨w.heap.size, 4, none⟩ = some (.int .i64 s.bud) := by rw [cell_of_box hT6.own]; rfl
    have ff2 : w6.frozen? ⟨w.heap.size, 2, none⟩ = false := box_open hT6.own
    have ff4 : w6.frozen? ⟨w.heap.size, 4, none⟩ = false := box_open hT6.own
    replace hw6 := Lib.hid hw6
    replace hT6 := Lib.hid hT6
    clear hT5 hdb
    have hx7 : (w6.setCell ⟨w.heap.size, 4, none⟩ (.int .i64 (s.bud - 1))).heap[w.heap.size]? = some (.cells #[.int .i64 s.home, .slice r.kA r.kl.length r.kc, .slice r.aA s.args.length r.ac, .int .i64 s.num, .int .i64 (s.bud - 1)] 28 (0, 0)) := heap_setCell_same _ w.heap.size 4 _ _ _ hT6.out.own
    have hT7 := hT6.out.cell 4 (.int .i64 (s.bud - 1)) hx7
    have n0 : (w6.setCell ⟨w.heap.size, 4, none⟩ (.int .i64 (s.bud - 1))).cell? ⟨w5.heap.size, 0, none⟩ = _ := (dec_keep w6 _ _ (show w5.heap.size ≠ w.heap.size by omega) 0).trans m0
    have n1 : (w6.setCell ⟨w.heap.size, 4, none⟩ (.int .i64 (s.bud - 1))).cell? ⟨w5.heap.size, 1, none⟩ = _ := (dec_keep w6 _ _ (show w5.heap.size ≠ w.heap.size by omega) 1).trans m1
    have n2 : (w6.setCell ⟨w.heap.size, 4, none⟩ (.int .i64 (s.bud - 1))).cell? ⟨w5.heap.size, 2, none⟩ = _ := (dec_keep w6 _ _ (show w5.heap.size ≠ w.heap.size by omega) 2).trans m2
    have n3 : (w6.setCell ⟨w.heap.size, 4, none⟩ (.int .i64 (s.bud - 1))).cell? ⟨w5.heap.size, 3, none⟩ = _ := (dec_keep w6 _ _ (show w5.heap.size ≠ w.heap.size by omega) 3).trans m3
    have z0 : (w6.setCell ⟨w.heap.size, 4, none⟩ (.int .i64 (s.bud - 1))).cell? ⟨w.heap.size, 0, none⟩ = some (.int .i64 s.home) := by rw [cell_of_box hx7]; rfl
    have z1 : (w6.setCell ⟨w.heap.size, 4, none⟩ (.int .i64 (s.bud - 1))).cell? ⟨w.heap.size, 1, none⟩ = some (.slice r.kA r.kl.length r.kc) := by rw [cell_of_box hx7]; rfl
    have z2 : (w6.setCell ⟨w.heap.size, 4, none⟩ (.int .i64 (s.bud - 1))).cell? ⟨w.heap.size, 2, none⟩ = some (.slice r.aA s.args.length r.ac) := by rw [cell_of_box hx7]; rfl
    have z3 : (w6.setCell ⟨w.heap.size, 4, none⟩ (.int .i64 (s.bud - 1))).cell? ⟨w.heap.size, 3, none⟩ = some (.int .i64 s.num) := by rw [cell_of_box hx7]; rfl
    have z4 : (w6.setCell ⟨w.heap.size, 4, none⟩ (.int .i64 (s.bud - 1))).cell? ⟨w.heap.size, 4, none⟩ = some (.int .i64 (s.bud - 1)) := by rw [cell_of_box hx7]; rfl
    have hok : RefOk w { s with bud := s.bud - 1, num := s.num + 1 } r := ⟨h.out.known, h.out.args, h.out.cap, fun k => h.out.same k, h.out.few⟩
    have hSe := refSend_calls { s with bud := s.bud - 1 } r nd tk hn (w6.setCell ⟨w.heap.size, 4, none⟩ (.int .i64 (s.bud - 1)))
    replace hT7 := Lib.hid hT7
    clear hx7
    go_wp2_with ((with_reducible refine store_at (ty := 60) (x := .tmp 6) (y := .tmp 32) ?_); refine ⟨w5.heap.size, #[.int .i64 3, .int .i64 sl, .int .i64 nd, .int .i64 tk], 60, #[.int .i64 0, .int .i64 0, .int .i64 0, .int .i64 0], rfl, rfl, heap_alloc_new _ _, infoD, rfl, dec_one _ _ _ _, ?_⟩; rw [World.setRow_alloc_new, ← hw6.out])
    refine hSe.mono ?_
    rintro e w8 ⟨rfl, hb8⟩
    have hT8 := hT7.out.step hb8
    dsimp only [rcC, refOutC]
    clear hb8 hT7 hSe z0 z1 z2 z3 z4 n0 n1 n2 n3 m0 m1 m2 m3 y7 y8 y9 y10 x4 x2
    obtain ⟨W2, hW2⟩ : ∃ W2, W2 = World.setRow (w8) (w.heap.size + 1 + 1) #[.int .i64 s.home, .slice r.kA r.kl.length r.kc, .slice r.aA s.args.length r.ac, .int .i64 (s.num + 1), .int .i64 (s.bud - 1)] := ⟨_, rfl⟩
    have h1 : W2.heap[w.heap.size + 1 + 1]? = some (.cells #[.int .i64 s.home, .slice r.kA r.kl.length r.kc, .slice r.aA s.args.length r.ac, .int .i64 (s.num + 1), .int .i64 (s.bud - 1)] 28 (0, 0)) := by rw [hW2]; exact setRow_heap _ _ _ _ _ _ hT8.one
    have h2 : W2.heap[w.heap.size + 1 + 1 + 1]? = some (.cells #[.int .i64 0, .int .i64 0, .int .i64 0, .int .i64 0, .int .i64 0, .string ⟨#[]⟩, .string ⟨#[]⟩, .slice none 0 0, .int .i64 0, .int .i64 0, .string ⟨#[]⟩, .slice none 0 0, .bool false, .int .i64 0, .bool false, .int .i64 0, .int .i64 0, .string ⟨#[]⟩, .slice none 0 0, .bool false] 40 (0, 0)) := by rw [hW2]; exact (setRow_other _ _ _ _ (by omega)).trans hT8.two
    have hbb : Below w.heap.size w W2 := by rw [hW2]; exact below_setRow hT8.below (by omega) _
    have hoo : (outC nd 1 (s.num + 1) (.slice r.aA s.args.length r.ac) tk true 0 0 ⟨#[]⟩ (.slice none 0 0) false).all (·.oneCell') = true := out_one _ _ _ _ _ _ _ _ _ _ _ _ _ _ _
    have hone1 := hT8.one
    replace hone1 := Lib.hid hone1
    replace hW2 := Lib.hid hW2
    replace h1 := Lib.hid h1
    replace h2 := Lib.hid h2
    replace hbb := Lib.hid hbb
    replace hoo := Lib.hid hoo
    go_wp2_with (first | ((with_reducible refine store_at (ty := 28) (x := .tmp 4) (y := .tmp 94) ?_); refine ⟨(w.heap.size + 1 + 1), #[.int .i64 s.home, .slice r.kA r.kl.length r.kc, .slice r.aA s.args.length r.ac, .int .i64 (s.num + 1), .int .i64 (s.bud - 1)], 28, #[.int .i64 0, .slice none 0 0, .slice none 0 0, .int .i64 0, .int .i64 0], rfl, rfl, hone1.out, infoR, rfl, rc_one _ _ _ _ _ _ _ _ _, ?_⟩; rw [← hW2.out]) | ((with_reducible refine store_at (ty := 40) (x := .tmp 5) (y := .tmp 95) ?_); refine ⟨(w.heap.size + 1 + 1 + 1), (outC nd 1 (s.num + 1) (.slice r.aA s.args.length r.ac) tk true 0 0 ⟨#[]⟩ (.slice none 0 0) false), 40, #[.int .i64 0, .int .i64 0, .int .i64 0, .int .i64 0, .int .i64 0, .string ⟨#[]⟩, .string ⟨#[]⟩, .slice none 0 0, .int .i64 0, .int .i64 0, .string ⟨#[]⟩, .slice none 0 0, .bool false, .int .i64 0, .bool false, .int .i64 0, .int .i64 0, .string ⟨#[]⟩, .slice none 0 0, .bool false], rfl, rfl, h2.out, infoRO, rfl, hoo.out, ?_⟩))
    refine bodyPost_ret (results_two Tryz.results10 _ _ (w.heap.size + 1 + 1) (w.heap.size + 1 + 1 + 1) #[.int .i64 s.home, .slice r.kA r.kl.length r.kc, .slice r.aA s.args.length r.ac, .int .i64 (s.num + 1), .int .i64 (s.bud - 1)] (outC nd 1 (s.num + 1) (.slice r.aA s.args.length r.ac) tk true 0 0 ⟨#[]⟩ (.slice none 0 0) false) 28 40 _ _ rfl rfl ((setRow_other _ _ _ _ (by omega)).trans h1.out) (setRow_heap _ _ _ _ _ _ h2.out) Tryz.underlying28 rfl infoR Tryz.underlying40 rfl infoRO) rfl ⟨r, rfl, hok.below (below_setRow hbb.out (by omega) _), below_setRow hbb.out (by omega) _, by simp⟩
  by_cases h4 : k = 4
  · subst h4
    simp only [show ((4 : Int) = 2) = False from by simp, show ((4 : Int) = 3) = False from by simp, if_false] at hv0
    rw [hv0]
    clear hv0
    have hT4 := four_boxes w #[.int .i64 s.home, .slice r.kA r.kl.length r.kc, .slice r.aA s.args.length r.ac, .int .i64 s.num, .int .i64 s.bud] #[.int .i64 L.kind, .int .i64 L.num, .int .i64 L.slot, .int .i64 L.ends, .string L.key, .string L.text, .slice L.args.1 L.args.2.1 L.args.2.2, .int .i64 L.rk, .int .i64 L.ri, .string L.rt, .slice L.rl.1 L.rl.2.1 L.rl.2.2, .bool L.good, .int .i64 L.asking]
    replace hT4 := Lib.hid hT4
    replace h := Lib.hid h
    unfold rcC lcells
    go_enter Tryz.func10, Tryz.ntmps10
    go_wp2_with fail
    refine (refRead_calls L.rt hrt _).mono ?_
    rintro e w5 ⟨rfl, hb5⟩
    rw [RtR.refRead_eq, hrv]
    have hT5 := hT4.out.step hb5
    clear hT4 hb5
    have hb56 : Below w5.heap.size w5 (w5.alloc (.cells #[.int .i64 4, .int .i64 sl, .int .i64 nd, .int .i64 tk] 60)) := below_alloc (Below.refl _ _) _
    have hdb := dec_box w5 4 sl nd tk
    have hT6 := hT5.step hb56
    have hlt6 : w5.heap.size < (w5.alloc (.cells #[.int .i64 4, .int .i64 sl, .int .i64 nd, .int .i64 tk] 60)).heap.size := by simp
    obtain ⟨w6, hw6⟩ : ∃ w6, w6 = w5.alloc (.cells #[.int .i64 4, .int .i64 sl, .int .i64 nd, .int .i64 tk] 60) := ⟨_, rfl⟩
    rw [← hw6] at hdb hT6 hlt6
    have hDB : (w.heap.size + 1 + 1 + 1) < w5.heap.size := hT5.lt
    have m0 := hdb 0 _ rfl
    have m1 := hdb 1 _ rfl
    have m2 := hdb 2 _ rfl
    have m3 := hdb 3 _ rfl
    clear hb56
    have y7 : w6.cell? ⟨w.heap.size + 1, 7, none⟩ = some (.int .i64 L.rk) := by rw [cell_of_box hT6.let_]; rfl
    have y8 : w6.cell? ⟨w.heap.size + 1, 8, none⟩ = some (.int .i64 L.ri) := by rw [cell_of_box hT6.let_]; rfl
    have y9 : w6.cell? ⟨w.heap.size + 1, 9, none⟩ = some (.string L.rt) := by rw [cell_of_box hT6.let_]; rfl
    have y10 : w6.cell? ⟨w.heap.size + 1, 10, none⟩ = some (.slice L.rl.1 L.rl.2.1 L.rl.2.2) := by rw [cell_of_box hT6.let_]; rfl
    have x2 : w6.cell? ⟨w.heap.size, 2, none⟩ = some (.slice r.aA s.args.length r.ac) := by rw [cell_of_box hT6.own]; rfl
    have x4 : w6.cell? ⟨w.heap.size, 4, none⟩ = some (.int .i64 s.bud) := by rw [cell_of_box hT6.own]; rfl
    have ff2 : w6.frozen? ⟨w.heap.size, 2, none⟩ = false := box_open hT6.own
    have ff4 : w6.frozen? ⟨w.heap.size, 4, none⟩ = false := box_open hT6.own
    replace hw6 := Lib.hid hw6
    replace hT6 := Lib.hid hT6
    clear hT5 hdb
    have hx7 : (w6.setCell ⟨w.heap.size, 4, none⟩ (.int .i64 (s.bud - 1))).heap[w.heap.size]? = some (.cells #[.int .i64 s.home, .slice r.kA r.kl.length r.kc, .slice r.aA s.args.length r.ac, .int .i64 s.num, .int .i64 (s.bud - 1)] 28 (0, 0)) := heap_setCell_same _ w.heap.size 4 _ _ _ hT6.out.own
    have hT7 := hT6.out.cell 4 (.int .i64 (s.bud - 1)) hx7
    have n0 : (w6.setCell ⟨w.heap.size, 4, none⟩ (.int .i64 (s.bud - 1))).cell? ⟨w5.heap.size, 0, none⟩ = _ := (dec_keep w6 _ _ (show w5.heap.size ≠ w.heap.size by omega) 0).trans m0
    have n1 : (w6.setCell ⟨w.heap.size, 4, none⟩ (.int .i64 (s.bud - 1))).cell? ⟨w5.heap.size, 1, none⟩ = _ := (dec_keep w6 _ _ (show w5.heap.size ≠ w.heap.size by omega) 1).trans m1
    have n2 : (w6.setCell ⟨w.heap.size, 4, none⟩ (.int .i64 (s.bud - 1))).cell? ⟨w5.heap.size, 2, none⟩ = _ := (dec_keep w6 _ _ (show w5.heap.size ≠ w.heap.size by omega) 2).trans m2
    have n3 : (w6.setCell ⟨w.heap.size, 4, none⟩ (.int .i64 (s.bud - 1))).cell? ⟨w5.heap.size, 3, none⟩ = _ := (dec_keep w6 _ _ (show w5.heap.size ≠ w.heap.size by omega) 3).trans m3
    have z0 : (w6.setCell ⟨w.heap.size, 4, none⟩ (.int .i64 (s.bud - 1))).cell? ⟨w.heap.size, 0, none⟩ = some (.int .i64 s.home) := by rw [cell_of_box hx7]; rfl
    have z1 : (w6.setCell ⟨w.heap.size, 4, none⟩ (.int .i64 (s.bud - 1))).cell? ⟨w.heap.size, 1, none⟩ = some (.slice r.kA r.kl.length r.kc) := by rw [cell_of_box hx7]; rfl
    have z2 : (w6.setCell ⟨w.heap.size, 4, none⟩ (.int .i64 (s.bud - 1))).cell? ⟨w.heap.size, 2, none⟩ = some (.slice r.aA s.args.length r.ac) := by rw [cell_of_box hx7]; rfl
    have z3 : (w6.setCell ⟨w.heap.size, 4, none⟩ (.int .i64 (s.bud - 1))).cell? ⟨w.heap.size, 3, none⟩ = some (.int .i64 s.num) := by rw [cell_of_box hx7]; rfl
    have z4 : (w6.setCell ⟨w.heap.size, 4, none⟩ (.int .i64 (s.bud - 1))).cell? ⟨w.heap.size, 4, none⟩ = some (.int .i64 (s.bud - 1)) := by rw [cell_of_box hx7]; rfl
    have hok1 : RefOk w { s with bud := s.bud - 1 } r := ⟨h.out.known, h.out.args, h.out.cap, fun k => h.out.same k, h.out.few⟩
    have hok : RefOk w { s with bud := s.bud - 1, num := s.num + 1 } r := ⟨h.out.known, h.out.args, h.out.cap, fun k => h.out.same k, h.out.few⟩
    have hOw := fun W (hb : Below w.heap.size w W) => refOwner_calls { s with bud := s.bud - 1 } r hbig hl W (hok1.below hb) hc9 (hE.below hb)
    have hSe := fun d W => refSend_calls { s with bud := s.bud - 1 } r d 0 hn W
    generalize ownerV { s with bud := s.bud - 1 } = ow at *
    rw [show rcC { s with bud := s.bud - 1 } r = #[.int .i64 s.home, .slice r.kA r.kl.length r.kc, .slice r.aA s.args.length r.ac, .int .i64 s.num, .int .i64 (s.bud - 1)] from rfl] at hOw hSe
    replace hOw := Lib.hid hOw
    replace hSe := Lib.hid hSe
    replace hT7 := Lib.hid hT7
    clear hx7 hok1
    go_wp2_with ((with_reducible refine store_at (ty := 60) (x := .tmp 6) (y := .tmp 32) ?_); refine ⟨w5.heap.size, #[.int .i64 4, .int .i64 sl, .int .i64 nd, .int .i64 tk], 60, #[.int .i64 0, .int .i64 0, .int .i64 0, .int .i64 0], rfl, rfl, heap_alloc_new _ _, infoD, rfl, dec_one _ _ _ _, ?_⟩; rw [World.setRow_alloc_new, ← hw6.out])
    have hT7 := hT7.out
    clear z0 z1 z2 z3 z4 n0 n1 n2 n3 m0 m1 m2 m3 y7 y8 y9 y10 x4 x2 hT6 hw6 ff2 ff4
    generalize w6.setCell ⟨w.heap.size, 4, none⟩ (.int .i64 (s.bud - 1)) = w7 at *
    have hS := hT7.step (⟨rfl, rfl, rfl, Nat.le_refl _, fun _ _ => rfl⟩ : Below w7.heap.size w7 w7.drew)
    clear hT7
    refine wp_region_last (S := fun W9 => ∃ Y9, Six w #[.int .i64 s.home, .slice r.kA r.kl.length r.kc, .slice r.aA s.args.length r.ac, .int .i64 s.num, .int .i64 (s.bud - 1)] #[.int .i64 L.kind, .int .i64 L.num, .int .i64 L.slot, .int .i64 L.ends, .string L.key, .string L.text, .slice L.args.1 L.args.2.1 L.args.2.2, .int .i64 L.rk, .int .i64 L.ri, .string L.rt, .slice L.rl.1 L.rl.2.1 L.rl.2.2, .bool L.good, .int .i64 L.asking] Y9 #[.int .i64 0, .int .i64 0, .int .i64 0, .int .i64 0, .int .i64 0, .string ⟨#[]⟩, .string ⟨#[]⟩, .slice none 0 0, .int .i64 0, .int .i64 0, .string ⟨#[]⟩, .slice none 0 0, .bool false, .int .i64 0, .bool false, .int .i64 0, .int .i64 0, .string ⟨#[]⟩, .slice none 0 0, .bool false] W9) 7 (by kernel_rfl) ?_
    refine wpAnyT_take (i := 0) (oi := ⟨some 96, _, _, _, _, _⟩) (v := .agg #[.int .i64 s.home, .slice r.kA r.kl.length r.kc, .slice r.aA s.args.length r.ac, .int .i64 s.num, .int .i64 (s.bud - 1)]) rfl (by kernel_rfl) (by kernel_rfl) (by kernel_rfl) (by kernel_rfl) (fun _ _ _ h => h) (Or.inl ⟨by rfl, fun W9 hW => by obtain ⟨Y9, hW⟩ := hW; have q0 := cell_of_box hW.own 0; have q1 := cell_of_box hW.own 1; have q2 := cell_of_box hW.own 2; have q3 := cell_of_box hW.own 3; have q4 := cell_of_box hW.own 4; go_simp⟩) ⟨_, hS⟩ ?_
    try simp only [Act.put, List.setIfInBounds_toArray, List.set_cons_zero, List.set_cons_succ]
    refine wpAnyT_take (i := 1) (oi := ⟨some 97, _, _, _, _, _⟩) (v := .agg #[.int .i64 s.home, .slice r.kA r.kl.length r.kc, .slice r.aA s.args.length r.ac, .int .i64 s.num, .int .i64 (s.bud - 1)]) rfl (by kernel_rfl) (by kernel_rfl) (by kernel_rfl) (by kernel_rfl) (fun _ _ _ h => h) (Or.inl ⟨by rfl, fun W9 hW => by obtain ⟨Y9, hW⟩ := hW; have q0 := cell_of_box hW.own 0; have q1 := cell_of_box hW.own 1; have q2 := cell_of_box hW.own 2; have q3 := cell_of_box hW.own 3; have q4 := cell_of_box hW.own 4; go_simp⟩) ⟨_, hS⟩ ?_
    try simp only [Act.put, List.setIfInBounds_toArray, List.set_cons_zero, List.set_cons_succ]
    refine wpAnyT_one (i := 2) (o := ⟨some 98, _, _, _, _, _⟩) (by kernel_rfl) rfl (fun K hK => ?_)
    go_simp
    refine (hOw.out _ hS.below).mono ?_
    rintro e w8 ⟨rfl, hb8⟩
    have hS8 := hS.step hb8
    refine hK.out _ _ (fun _ => ⟨_, hS8⟩) ?_
    clear hK K hS
    try simp only [Act.put, List.setIfInBounds_toArray, List.set_cons_zero, List.set_cons_succ]
    refine wpAnyT_one (i := 3) (o := ⟨some 99, _, _, _, _, _⟩) (by kernel_rfl) rfl (fun K hK => ?_)
    go_simp
    refine (hSe.out _ w8).mono ?_
    rintro e w9 ⟨rfl, hb9⟩
    have hS := hS8.step hb9
    clear hS8
    dsimp only [rcC, refOutC]
    refine hK.out _ _ (fun _ => ⟨_, hS⟩) ?_
    clear hK K hb8 hb9
    try simp only [Act.put, List.setIfInBounds_toArray, List.set_cons_zero, List.set_cons_succ]
    refine wpAnyT_take (i := 4) (oi := ⟨some 100, _, _, _, _, _⟩) (v := .agg #[.int .i64 s.home, .slice r.kA r.kl.length r.kc, .slice r.aA s.args.length r.ac, .int .i64 (s.num + 1), .int .i64 (s.bud - 1)]) rfl (by kernel_rfl) (by kernel_rfl) (by kernel_rfl) (by kernel_rfl) (fun _ _ _ h => h) (Or.inl ⟨by rfl, fun W9 hW => by go_simp⟩) ⟨_, hS⟩ ?_
    try simp only [Act.put, List.setIfInBounds_toArray, List.set_cons_zero, List.set_cons_succ]
    refine wpAnyT_take (i := 5) (oi := ⟨some 101, _, _, _, _, _⟩) (v := .agg (outC ow 1 (s.num + 1) (.slice r.aA s.args.length r.ac) 0 true 0 0 ⟨#[]⟩ (.slice none 0 0) false)) rfl (by kernel_rfl) (by kernel_rfl) (by kernel_rfl) (by kernel_rfl) (fun _ _ _ h => h) (Or.inl ⟨by rfl, fun W9 hW => by go_simp⟩) ⟨_, hS⟩ ?_
    try simp only [Act.put, List.setIfInBounds_toArray, List.set_cons_zero, List.set_cons_succ]
    refine wpAnyT_one (i := 6) (o := ⟨none, _, _, _, _, _⟩) (by kernel_rfl) rfl (fun K hK => ?_)
    refine wp_store_row 28 _ _ rfl (w.heap.size + 1 + 1) #[.int .i64 s.home, .slice r.kA r.kl.length r.kc, .slice r.aA s.args.length r.ac, .int .i64 (s.num + 1), .int .i64 (s.bud - 1)] rfl rfl 28 #[.int .i64 0, .slice none 0 0, .slice none 0 0, .int .i64 0, .int .i64 0] hS.one infoR rfl (rc_one _ _ _ _ _ _ _ _ _) (hK.out _ _ (fun _ => ?hs) ?_)
    case hs => exact ⟨_, ⟨(setRow_other _ _ _ _ (by omega)).trans hS.own, (setRow_other _ _ _ _ (by omega)).trans hS.let_, setRow_heap _ _ _ _ _ _ hS.one, (setRow_other _ _ _ _ (by omega)).trans hS.two, below_setRow hS.below (by omega) _⟩⟩
    clear hK K
    try simp only [Act.put, List.setIfInBounds_toArray, List.set_cons_zero, List.set_cons_succ]
    have h1 := setRow_heap _ _ _ #[.int .i64 s.home, .slice r.kA r.kl.length r.kc, .slice r.aA s.args.length r.ac, .int .i64 (s.num + 1), .int .i64 (s.bud - 1)] _ _ hS.one
    have h2 := (setRow_other _ (w.heap.size + 1 + 1) (w.heap.size + 1 + 1 + 1) #[.int .i64 s.home, .slice r.kA r.kl.length r.kc, .slice r.aA s.args.length r.ac, .int .i64 (s.num + 1), .int .i64 (s.bud - 1)] (by omega)).trans hS.two
    have hbb : Below w.heap.size w _ := below_setRow hS.below (by omega : w.heap.size ≤ (w.heap.size + 1 + 1)) #[.int .i64 s.home, .slice r.kA r.kl.length r.kc, .slice r.aA s.args.length r.ac, .int .i64 (s.num + 1), .int .i64 (s.bud - 1)]
    generalize World.setRow w9 (w.heap.size + 1 + 1) #[.int .i64 s.home, .slice r.kA r.kl.length r.kc, .slice r.aA s.args.length r.ac, .int .i64 (s.num + 1), .int .i64 (s.bud - 1)] = W2 at *
    refine wpAnyT_one (i := 7) (o := ⟨none, _, _, _, _, _⟩) (by kernel_rfl) rfl (fun K hK => ?_)
    refine wp_store_row 40 _ _ rfl (w.heap.size + 1 + 1 + 1) (outC ow 1 (s.num + 1) (.slice r.aA s.args.length r.ac) 0 true 0 0 ⟨#[]⟩ (.slice none 0 0) false) rfl rfl 40 #[.int .i64 0, .int .i64 0, .int .i64 0, .int .i64 0, .int .i64 0, .string ⟨#[]⟩, .string ⟨#[]⟩, .slice none 0 0, .int .i64 0, .int .i64 0, .string ⟨#[]⟩, .slice none 0 0, .bool false, .int .i64 0, .bool false, .int .i64 0, .int .i64 0, .string ⟨#[]⟩, .slice none 0 0, .bool false] h2 infoRO rfl (out_one _ _ _ _ _ _ _ _ _ _ _ _ _ _ _) (hK.out _ _ (fun h => absurd rfl h) ?_)
    clear hK K
    try simp only [Act.put, List.setIfInBounds_toArray, List.set_cons_zero, List.set_cons_succ]
    refine wpAnyT_done (by kernel_rfl) ?_ _
    go_wp2_with fail
    refine bodyPost_ret (results_two Tryz.results10 _ _ (w.heap.size + 1 + 1) (w.heap.size + 1 + 1 + 1) #[.int .i64 s.home, .slice r.kA r.kl.length r.kc, .slice r.aA s.args.length r.ac, .int .i64 (s.num + 1), .int .i64 (s.bud - 1)] (outC ow 1 (s.num + 1) (.slice r.aA s.args.length r.ac) 0 true 0 0 ⟨#[]⟩ (.slice none 0 0) false) 28 40 _ _ rfl rfl ((setRow_other _ _ _ _ (by omega)).trans h1) (setRow_heap _ _ _ _ _ _ h2) Tryz.underlying28 rfl infoR Tryz.underlying40 rfl infoRO) rfl ⟨r, rfl, hok.below (below_setRow hbb (by omega) _), below_setRow hbb (by omega) _, by simp⟩
  obtain rfl : k = 2 := by omega
  simp only [if_true] at hv0
  rw [hv0]
  clear hv0
  have hT4 := four_boxes w #[.int .i64 s.home, .slice r.kA r.kl.length r.kc, .slice r.aA s.args.length r.ac, .int .i64 s.num, .int .i64 s.bud] #[.int .i64 L.kind, .int .i64 L.num, .int .i64 L.slot, .int .i64 L.ends, .string L.key, .string L.text, .slice L.args.1 L.args.2.1 L.args.2.2, .int .i64 L.rk, .int .i64 L.ri, .string L.rt, .slice L.rl.1 L.rl.2.1 L.rl.2.2, .bool L.good, .int .i64 L.asking]
  replace hT4 := Lib.hid hT4
  replace h := Lib.hid h
  unfold rcC lcells
  go_enter Tryz.func10, Tryz.ntmps10
  go_wp2_with fail
  refine (refRead_calls L.rt hrt _).mono ?_
  rintro e w5 ⟨rfl, hb5⟩
  rw [RtR.refRead_eq, hrv]
  have hT5 := hT4.out.step hb5
  clear hT4 hb5
  have hb56 : Below w5.heap.size w5 (w5.alloc (.cells #[.int .i64 2, .int .i64 sl, .int .i64 nd, .int .i64 tk] 60)) := below_alloc (Below.refl _ _) _
  have hdb := dec_box w5 2 sl nd tk
  have hT6 := hT5.step hb56
  have hlt6 : w5.heap.size < (w5.alloc (.cells #[.int .i64 2, .int .i64 sl, .int .i64 nd, .int .i64 tk] 60)).heap.size := by simp
  obtain ⟨w6, hw6⟩ : ∃ w6, w6 = w5.alloc (.cells #[.int .i64 2, .int .i64 sl, .int .i64 nd, .int .i64 tk] 60) := ⟨_, rfl⟩
  rw [← hw6] at hdb hT6 hlt6
  have hDB : (w.heap.size + 1 + 1 + 1) < w5.heap.size := hT5.lt
  have m0 := hdb 0 _ rfl
  have m1 := hdb 1 _ rfl
  have m2 := hdb 2 _ rfl
  have m3 := hdb 3 _ rfl
  clear hb56
  have y7 : w6.cell? ⟨w.heap.size + 1, 7, none⟩ = some (.int .i64 L.rk) := by rw [cell_of_box hT6.let_]; rfl
  have y8 : w6.cell? ⟨w.heap.size + 1, 8, none⟩ = some (.int .i64 L.ri) := by rw [cell_of_box hT6.let_]; rfl
  have y9 : w6.cell? ⟨w.heap.size + 1, 9, none⟩ = some (.string L.rt) := by rw [cell_of_box hT6.let_]; rfl
  have y10 : w6.cell? ⟨w.heap.size + 1, 10, none⟩ = some (.slice L.rl.1 L.rl.2.1 L.rl.2.2) := by rw [cell_of_box hT6.let_]; rfl
  have x2 : w6.cell? ⟨w.heap.size, 2, none⟩ = some (.slice r.aA s.args.length r.ac) := by rw [cell_of_box hT6.own]; rfl
  have x4 : w6.cell? ⟨w.heap.size, 4, none⟩ = some (.int .i64 s.bud) := by rw [cell_of_box hT6.own]; rfl
  have ff2 : w6.frozen? ⟨w.heap.size, 2, none⟩ = false := box_open hT6.own
  have ff4 : w6.frozen? ⟨w.heap.size, 4, none⟩ = false := box_open hT6.own
  replace hw6 := Lib.hid hw6
  replace hT6 := Lib.hid hT6
  clear hT5 hdb
  have hx7 : (w6.setCell ⟨w.heap.size, 4, none⟩ (.int .i64 (s.bud - 1))).heap[w.heap.size]? = some (.cells #[.int .i64 s.home, .slice r.kA r.kl.length r.kc, .slice r.aA s.args.length r.ac, .int .i64 s.num, .int .i64 (s.bud - 1)] 28 (0, 0)) := heap_setCell_same _ w.heap.size 4 _ _ _ hT6.out.own
  have hT7 := hT6.out.cell 4 (.int .i64 (s.bud - 1)) hx7
  have n0 : (w6.setCell ⟨w.heap.size, 4, none⟩ (.int .i64 (s.bud - 1))).cell? ⟨w5.heap.size, 0, none⟩ = _ := (dec_keep w6 _ _ (show w5.heap.size ≠ w.heap.size by omega) 0).trans m0
  have n1 : (w6.setCell ⟨w.heap.size, 4, none⟩ (.int .i64 (s.bud - 1))).cell? ⟨w5.heap.size, 1, none⟩ = _ := (dec_keep w6 _ _ (show w5.heap.size ≠ w.heap.size by omega) 1).trans m1
  have n2 : (w6.setCell ⟨w.heap.size, 4, none⟩ (.int .i64 (s.bud - 1))).cell? ⟨w5.heap.size, 2, none⟩ = _ := (dec_keep w6 _ _ (show w5.heap.size ≠ w.heap.size by omega) 2).trans m2
  have n3 : (w6.setCell ⟨w.heap.size, 4, none⟩ (.int .i64 (s.bud - 1))).cell? ⟨w5.heap.size, 3, none⟩ = _ := (dec_keep w6 _ _ (show w5.heap.size ≠ w.heap.size by omega) 3).trans m3
  have z0 : (w6.setCell ⟨w.heap.size, 4, none⟩ (.int .i64 (s.bud - 1))).cell? ⟨w.heap.size, 0, none⟩ = some (.int .i64 s.home) := by rw [cell_of_box hx7]; rfl
  have z1 : (w6.setCell ⟨w.heap.size, 4, none⟩ (.int .i64 (s.bud - 1))).cell? ⟨w.heap.size, 1, none⟩ = some (.slice r.kA r.kl.length r.kc) := by rw [cell_of_box hx7]; rfl
  have z2 : (w6.setCell ⟨w.heap.size, 4, none⟩ (.int .i64 (s.bud - 1))).cell? ⟨w.heap.size, 2, none⟩ = some (.slice r.aA s.args.length r.ac) := by rw [cell_of_box hx7]; rfl
  have z3 : (w6.setCell ⟨w.heap.size, 4, none⟩ (.int .i64 (s.bud - 1))).cell? ⟨w.heap.size, 3, none⟩ = some (.int .i64 s.num) := by rw [cell_of_box hx7]; rfl
  have z4 : (w6.setCell ⟨w.heap.size, 4, none⟩ (.int .i64 (s.bud - 1))).cell? ⟨w.heap.size, 4, none⟩ = some (.int .i64 (s.bud - 1)) := by rw [cell_of_box hx7]; rfl
  replace hT7 := Lib.hid hT7
  clear hx7
  have hb78 : Below (w6.setCell ⟨w.heap.size, 4, none⟩ (.int .i64 (s.bud - 1))).heap.size (w6.setCell ⟨w.heap.size, 4, none⟩ (.int .i64 (s.bud - 1))) ((w6.setCell ⟨w.heap.size, 4, none⟩ (.int .i64 (s.bud - 1))).alloc (.cells #[] 65)) := below_alloc (Below.refl _ _) _
  have hT8 := hT7.out.step hb78
  have zz1 : ((w6.setCell ⟨w.heap.size, 4, none⟩ (.int .i64 (s.bud - 1))).alloc (.cells #[] 65)).cell? ⟨w.heap.size, 1, none⟩ = some (.slice r.kA r.kl.length r.kc) := by rw [cell_of_box hT8.own]; rfl
  have hd8 : w5.heap.size < (w6.setCell ⟨w.heap.size, 4, none⟩ (.int .i64 (s.bud - 1))).heap.size := by rw [World.size_setCell]; exact hlt6
  have nn1 := (hb78.cell (p := ⟨w5.heap.size, 1, none⟩) hd8).trans n1
  have nn2 := (hb78.cell (p := ⟨w5.heap.size, 2, none⟩) hd8).trans n2
  have hk8 : World.ownsRow ((w6.setCell ⟨w.heap.size, 4, none⟩ (.int .i64 (s.bud - 1))).alloc (.cells #[] 65)) 0 65 2 (.slice r.kA r.kl.length r.kc) r.kl.length (flatK r.kl) := own_low h.out.known hT8.below
  replace hT8 := Lib.hid hT8
  replace hb78 := Lib.hid hb78
  replace hk8 := Lib.hid hk8
  clear z0 z1 z2 z3 z4 n0 n3
  obtain ⟨N, hN⟩ : ∃ N, N = r.kl.length + 1 := ⟨_, rfl⟩
  replace hN := Lib.hid hN
  go_wp2_with (first | ((with_reducible refine store_at (ty := 60) (x := .tmp 6) (y := .tmp 32) ?_); refine ⟨w5.heap.size, #[.int .i64 2, .int .i64 sl, .int .i64 nd, .int .i64 tk], 60, #[.int .i64 0, .int .i64 0, .int .i64 0, .int .i64 0], rfl, rfl, heap_alloc_new _ _, infoD, rfl, dec_one _ _ _ _, ?_⟩; rw [World.setRow_alloc_new, ← hw6.out]) | (at_builtin; refine hold ?_))
  refine Lib.hid ?_
  refine wpList_appK rfl (.tmp 66) (.tmp 68) rfl _ _ rfl rfl w6.heap.size 0 [] r.kl r.kl.length (by simp) (own_empty _ _ _ (by first | rfl | exact World.size_setCell _ _ _) (by first | exact Nat.le_refl _ | (rw [World.size_setCell]; exact Nat.le_refl _))) hk8.out (by simp; omega) (by simp) ?_
  intro A8 c8 w9 hown9 hb9
  have hb79 : Below w6.heap.size (w6.setCell ⟨w.heap.size, 4, none⟩ (.int .i64 (s.bud - 1))) w9 := Below.trans (by rw [← World.size_setCell w6]; exact hb78.out) hb9
  have hT9 := hT7.out.step (by rw [World.size_setCell]; exact hb79)
  have nn1 := (hb79.cell (p := ⟨w5.heap.size, 1, none⟩) hlt6).trans n1
  have nn2 := (hb79.cell (p := ⟨w5.heap.size, 2, none⟩) hlt6).trans n2
  replace hown9 := Lib.hid hown9
  replace hb79 := Lib.hid hb79
  replace hT9 := Lib.hid hT9
  clear hb9
  go_wp2_with (at_builtin; refine hold ?_)
  refine Lib.hid ?_
  refine wpList_appK rfl (.tmp 70) (.tmp 76) rfl _ _ rfl rfl w6.heap.size w6.heap.size r.kl [(sl, nd)] N hN.out (hown9.out.alloc _) (own_lit9 w9 sl nd w6.heap.size _ _ (by have := hb79.out.size; rw [World.size_setCell] at this; exact this)) (by simp; omega) (by have := hb79.out.size; rw [World.size_setCell] at this; rw [World.size_alloc]; omega) ?_
  intro A9 c9 w10 hown10 hb10
  have hb710 : Below w6.heap.size (w6.setCell ⟨w.heap.size, 4, none⟩ (.int .i64 (s.bud - 1))) w10 := hb79.out.trans (Below.trans ((below_alloc (Below.refl w9.heap.size w9) _).mono (by have := hb79.out.size; rw [World.size_setCell] at this; exact this)) hb10)
  have hT10 := hT7.out.step (by rw [World.size_setCell]; exact hb710)
  have x1 : w10.cell? ⟨w.heap.size, 1, none⟩ = some (.slice r.kA r.kl.length r.kc) := (by rw [cell_of_box hT10.own]; rfl)
  have ff1 : w10.frozen? ⟨w.heap.size, 1, none⟩ = false := box_open hT10.own
  have hx11 : (w10.setCell ⟨w.heap.size, 1, none⟩ (.slice A9 N c9)).heap[w.heap.size]? = some (.cells #[.int .i64 s.home, .slice A9 N c9, .slice r.aA s.args.length r.ac, .int .i64 s.num, .int .i64 (s.bud - 1)] 28 (0, 0)) := heap_setCell_same _ w.heap.size 1 _ _ _ hT10.own
  have hT11 := hT10.cell 1 (.slice A9 N c9) hx11
  have u0 : (w10.setCell ⟨w.heap.size, 1, none⟩ (.slice A9 N c9)).cell? ⟨w.heap.size, 0, none⟩ = some (.int .i64 s.home) := (by rw [cell_of_box hx11]; rfl)
  have u1 : (w10.setCell ⟨w.heap.size, 1, none⟩ (.slice A9 N c9)).cell? ⟨w.heap.size, 1, none⟩ = some (.slice A9 N c9) := (by rw [cell_of_box hx11]; rfl)
  have u2 : (w10.setCell ⟨w.heap.size, 1, none⟩ (.slice A9 N c9)).cell? ⟨w.heap.size, 2, none⟩ = some (.slice r.aA s.args.length r.ac) := (by rw [cell_of_box hx11]; rfl)
  have u3 : (w10.setCell ⟨w.heap.size, 1, none⟩ (.slice A9 N c9)).cell? ⟨w.heap.size, 3, none⟩ = some (.int .i64 s.num) := (by rw [cell_of_box hx11]; rfl)
  have u4 : (w10.setCell ⟨w.heap.size, 1, none⟩ (.slice A9 N c9)).cell? ⟨w.heap.size, 4, none⟩ = some (.int .i64 (s.bud - 1)) := (by rw [cell_of_box hx11]; rfl)
  have u5 : (w10.setCell ⟨w.heap.size, 1, none⟩ (.slice A9 N c9)).cell? ⟨w5.heap.size, 2, none⟩ = some (.int .i64 nd) := (dec_keep w10 _ _ (show w5.heap.size ≠ w.heap.size by omega) 2).trans ((hb710.cell (p := ⟨w5.heap.size, 2, none⟩) hlt6).trans n2)
  have hk11 : World.ownsRow (w10.setCell ⟨w.heap.size, 1, none⟩ (.slice A9 N c9)) w6.heap.size 65 2 (.slice A9 N c9) N (flatK (r.kl ++ [(sl, nd)])) := own_move hown10 (fun q hq => Below.heap_setCell _ _ _ q (by have := own_base hown10 q hq; show q ≠ w.heap.size; omega))
  replace hk11 := Lib.hid hk11
  replace hT11 := Lib.hid hT11
  clear hown10 hb10 hx11 hT10
  go_wp2_with fail
  have hSe := refSend_calls (⟨s.home, fun k => if k = sl then some nd else s.kn k, s.args, s.num, s.bud - 1, s.cnt + 1⟩ : CS) ⟨A9, c9, r.kl ++ [(sl, nd)], r.aA, r.ac⟩ nd 0 hn (w10.setCell ⟨w.heap.size, 1, none⟩ (.slice A9 N c9))
  have eL : (r.kl ++ [(sl, nd)]).length = N := by rw [hN.out]; simp
  dsimp only [rcC, refOutC] at hSe
  rw [eL] at hSe
  refine hSe.mono ?_
  rintro e w12 ⟨rfl, hb12⟩
  have hT12 := hT11.out.step hb12
  have hk12 := pw_own_below hk11.out hb12
  have hargs := Kd.C_below h.out.args (hT12.below)
  have hsame : ∀ k, lastK (r.kl ++ [(sl, nd)]) s.home k = whereV (⟨s.home, fun k => if k = sl then some nd else s.kn k, s.args, s.num + 1, s.bud - 1, s.cnt + 1⟩ : CS) k := fun k => by
    rw [lastK_snoc, h.out.same k]
    unfold whereV
    by_cases e : k = sl
    · simp [e]
    · simp [e]
  have hfew : (r.kl ++ [(sl, nd)]).length ≤ s.cnt + 1 := by have := h.out.few; simp; omega
  have hk12' : World.ownsRow w12 w6.heap.size 65 2 (.slice A9 (r.kl ++ [(sl, nd)]).length c9) (r.kl ++ [(sl, nd)]).length (flatK (r.kl ++ [(sl, nd)])) := by rw [eL]; exact hk12
  replace hargs := Lib.hid hargs
  replace hsame := Lib.hid hsame
  replace hk12' := Lib.hid hk12'
  clear hSe u0 u1 u2 u3 u4 u5 x1 ff1 nn1 nn2 n1 n2 m0 m1 m2 m3 y7 y8 y9 y10 x2 x4 ff2 ff4 hk12 hb12
  obtain ⟨W2, hW2⟩ : ∃ W2, W2 = World.setRow (w12) (w.heap.size + 1 + 1) #[.int .i64 s.home, .slice A9 N c9, .slice r.aA s.args.length r.ac, .int .i64 (s.num + 1), .int .i64 (s.bud - 1)] := ⟨_, rfl⟩
  have h1 : W2.heap[w.heap.size + 1 + 1]? = some (.cells #[.int .i64 s.home, .slice A9 N c9, .slice r.aA s.args.length r.ac, .int .i64 (s.num + 1), .int .i64 (s.bud - 1)] 28 (0, 0)) := by rw [hW2]; exact setRow_heap _ _ _ _ _ _ hT12.one
  have h2 : W2.heap[w.heap.size + 1 + 1 + 1]? = some (.cells #[.int .i64 0, .int .i64 0, .int .i64 0, .int .i64 0, .int .i64 0, .string ⟨#[]⟩, .string ⟨#[]⟩, .slice none 0 0, .int .i64 0, .int .i64 0, .string ⟨#[]⟩, .slice none 0 0, .bool false, .int .i64 0, .bool false, .int .i64 0, .int .i64 0, .string ⟨#[]⟩, .slice none 0 0, .bool false] 40 (0, 0)) := by rw [hW2]; exact (setRow_other _ _ _ _ (by omega)).trans hT12.two
  have hbb : Below w.heap.size w W2 := by rw [hW2]; exact below_setRow hT12.below (by omega) _
  have hoo : (outC nd 1 (s.num + 1) (.slice r.aA s.args.length r.ac) 0 true 0 0 ⟨#[]⟩ (.slice none 0 0) false).all (·.oneCell') = true := out_one _ _ _ _ _ _ _ _ _ _ _ _ _ _ _
  have hone1 := hT12.one
  replace hone1 := Lib.hid hone1
  replace hW2 := Lib.hid hW2
  replace h1 := Lib.hid h1
  replace h2 := Lib.hid h2
  replace hbb := Lib.hid hbb
  replace hoo := Lib.hid hoo
  go_wp2_with (first | ((with_reducible refine store_at (ty := 28) (x := .tmp 4) (y := .tmp 83) ?_); refine ⟨(w.heap.size + 1 + 1), #[.int .i64 s.home, .slice A9 N c9, .slice r.aA s.args.length r.ac, .int .i64 (s.num + 1), .int .i64 (s.bud - 1)], 28, #[.int .i64 0, .slice none 0 0, .slice none 0 0, .int .i64 0, .int .i64 0], rfl, rfl, hone1.out, infoR, rfl, rc_one _ _ _ _ _ _ _ _ _, ?_⟩; rw [← hW2.out]) | ((with_reducible refine store_at (ty := 40) (x := .tmp 5) (y := .tmp 84) ?_); refine ⟨(w.heap.size + 1 + 1 + 1), (outC nd 1 (s.num + 1) (.slice r.aA s.args.length r.ac) 0 true 0 0 ⟨#[]⟩ (.slice none 0 0) false), 40, #[.int .i64 0, .int .i64 0, .int .i64 0, .int .i64 0, .int .i64 0, .string ⟨#[]⟩, .string ⟨#[]⟩, .slice none 0 0, .int .i64 0, .int .i64 0, .string ⟨#[]⟩, .slice none 0 0, .bool false, .int .i64 0, .bool false, .int .i64 0, .int .i64 0, .string ⟨#[]⟩, .slice none 0 0, .bool false], rfl, rfl, h2.out, infoRO, rfl, hoo.out, ?_⟩))
  refine bodyPost_ret (results_two Tryz.results10 _ _ (w.heap.size + 1 + 1) (w.heap.size + 1 + 1 + 1) #[.int .i64 s.home, .slice A9 N c9, .slice r.aA s.args.length r.ac, .int .i64 (s.num + 1), .int .i64 (s.bud - 1)] (outC nd 1 (s.num + 1) (.slice r.aA s.args.length r.ac) 0 true 0 0 ⟨#[]⟩ (.slice none 0 0) false) 28 40 _ _ rfl rfl ((setRow_other _ _ _ _ (by omega)).trans h1.out) (setRow_heap _ _ _ _ _ _ h2.out) Tryz.underlying28 rfl infoR Tryz.underlying40 rfl infoRO) rfl ⟨⟨A9, c9, r.kl ++ [(sl, nd)], r.aA, r.ac⟩, by dsimp only [rcC, refNext]; rw [eL], ⟨own_weaken (own_move hk12'.out (fun q hq => (setRow_other _ _ _ _ (by have := own_base hk12'.out q hq; omega)).trans (by rw [hW2.out]; exact setRow_other _ _ _ _ (by have := own_base hk12'.out q hq; omega)))) (Nat.zero_le _), Kd.C_below h.out.args (below_setRow hbb.out (by omega) _), h.out.cap, hsame.out, hfew⟩, below_setRow hbb.out (by omega) _, by simp⟩
end Go.Proofs.YtpbiohnmmngccaaGreatDoor

namespace Go.Proofs.YtpbiohnmmngccaaGreatDoor
open Go Go.RowKit Go.Maps Go.Proofs.YtpbiohnmmngccaaGreatDoorW.PrintWords
open RtS
theorem yields_row {P : Program} {ops : Array Oper} {S : World → Prop} {o : Oper} {a : Act} (hw : Region.wanted o (yielded ops a.tmps) = true) (ty : TypeId) (x : Operand) (ho : o.op = .load ty x)
    (g : Nat) (hx : a.eval x = .pointer (some ⟨g, 0, none⟩)) (t : TypeId) (cs : Array Value) (fr : Nat × Nat) (d : TypeDesc) (hS : ∀ W, S W → W.heap[g]? = some (.cells cs t fr))
    (hu : P.underlying ty = some d) (hd : (match d with | .struct _ | .array _ _ => true | _ => false) = true) (hi : (P.info? ty).map (·.size) = some cs.size) : YieldsIf P ops S o (.agg cs) a :=
  .inl ⟨hw, fun W hW => by
    unfold execOp
    simp only [ho, hx, Instr.loadAt, Instr.sureAddr, Sem.run_bind, Sem.run_pure, Result.andThen_ok, run_loadVar_row W g t ty cs fr d (hS W hW) hu hd hi]⟩
structure OF where
  d : Int
  k : Int
  num : Int
  ask : Int
  rk : Int
  ri : Int
  send : Bool
  done : Bool
  rt : ByteArray
  rl : Option Addr × Nat × Nat
def ofC (f : OF) (A : Option Addr) (n c : Nat) : Array Value := outC f.d f.k f.num (.slice A n c) f.ask f.send f.rk f.ri f.rt (.slice f.rl.1 f.rl.2.1 f.rl.2.2) f.done
theorem of_one (f : OF) (A : Option Addr) (n c : Nat) : (ofC f A n c).all (·.oneCell') = true := out_one _ _ _ _ _ _ _ _ _ _ _ _ _ _ _
theorem nil_strs (W : World) : Kd.string.C W none ([] : List ByteArray).length [] := Kd.C_of_reads (d := (⟨#[]⟩ : ByteArray)) ⟨rfl, Nat.zero_le _, fun h => absurd h (Nat.lt_irrefl 0)⟩
/-- a row of texts in a block of texts -/
def SR (W : World) (A : Option Addr) (l : List ByteArray) : Prop := Kd.string.C W A l.length l ∧ T9 W A
theorem SR.below {W W' : World} {A : Option Addr} {l : List ByteArray} (h : SR W A l) (hb : Below W.heap.size W W') : SR W' A l := ⟨Kd.C_below h.1 hb, T9.below h.2 hb⟩
theorem SR.row {W : World} {A : Option Addr} {l : List ByteArray} {B : Nat} {old cs : Array Value} {t : TypeId} {fr : Nat × Nat} (h : SR W A l) (hB : W.heap[B]? = some (.cells old t fr)) (ht : t ≠ 9) : SR (W.setRow B cs) A l := by
  have hk : ∀ (k : Nat) (c2 : Array Value) (fr : Nat × Nat), W.heap[k]? = some (Obj.cells c2 9 fr) → (W.setRow B cs).heap[k]? = W.heap[k]? := fun k c2 fr hc => setRow_other _ _ _ _ (by
    rintro rfl
    rw [hB] at hc
    injection hc with hc
    injection hc with _ hc
    exact ht hc)
  exact ⟨strs_keep h.1 h.2 hk, T9.keep h.2 hk⟩
theorem sr_nil (W : World) : SR W none [] := ⟨nil_strs W, fun ad h => by cases h⟩
theorem take_args (s : CS) (L : LV) : (takeV s L).1.args = s.args ∨ (takeV s L).1.args = [] := by
  rcases take_ways s L with e | ⟨k, i, t, l, e⟩ | ⟨s', d, a, e, hb, e1, e2, e3, e4, e5⟩ <;> rw [e]
  · exact Or.inl rfl
  · exact Or.inr rfl
  · exact Or.inl e2
theorem out_form {s : CS} {x : Next} {e : Ending} {w' : World} (h : OutOk s x e w') (hr : Rowed x) :
    ∃ (f : OF) (A : Option Addr) (c : Nat) (ll : List ByteArray), e = .returned (.agg (ofC f A ll.length c)) ∧ SR w' A ll ∧ ll.length ≤ c ∧ (ll = s.args ∨ ll = []) ∧ (f.rl = (none, 0, 0) ∨ ∃ k i t, x = .done k i t (.slice f.rl.1 f.rl.2.1 f.rl.2.2)) ∧
      ∀ (r : RS) (W : World), Kd.string.C W r.aA s.args.length s.args → s.args.length ≤ r.ac → ∃ (B : Option Addr) (e2 : Nat), refNext (s, x) r = ofC f B ll.length e2 ∧ Kd.string.C W B ll.length ll ∧ ll.length ≤ e2 := by
  cases x with
  | none => exact ⟨⟨0, 0, 0, 0, 0, 0, false, false, ⟨#[]⟩, (none, 0, 0)⟩, none, 0, [], h, sr_nil _, Nat.le_refl _, Or.inr rfl, Or.inl rfl, fun r W h1 h2 => ⟨none, 0, rfl, nil_strs _, Nat.le_refl _⟩⟩
  | send d a =>
    obtain ⟨A', c', he, h1, h2, h9⟩ := h
    exact ⟨⟨d, 1, s.num, a, 0, 0, true, false, ⟨#[]⟩, (none, 0, 0)⟩, A', c', s.args, he, ⟨h1, h9⟩, h2, Or.inl rfl, Or.inl rfl, fun r W h3 h4 => ⟨r.aA, r.ac, rfl, h3, h4⟩⟩
  | done k i t l =>
    obtain ⟨B, n, d, rfl⟩ := hr k i t l rfl
    exact ⟨⟨0, 0, 0, 0, k, i, false, true, t, (B, n, d)⟩, none, 0, [], h, sr_nil _, Nat.le_refl _, Or.inr rfl, Or.inr ⟨k, i, t, rfl⟩, fun r W h1 h2 => ⟨none, 0, rfl, nil_strs _, Nat.le_refl _⟩⟩
theorem take_rl (s : CS) (L : LV) (k i : Int) (t : ByteArray) (rl : Option Addr × Nat × Nat) (h : (takeV s L).2 = .done k i t (.slice rl.1 rl.2.1 rl.2.2)) : rl = L.rl ∨ rl = (none, 0, 0) := by
  unfold takeV at h
  split at h
  · cases h
  · simp only at h
    split at h
    · injection h with _ _ _ h
      injection h with h1 h2 h3
      exact Or.inl (Prod.ext h1.symm (Prod.ext h2.symm h3.symm))
    · split at h
      · injection h with _ _ _ h
        injection h with h1 h2 h3
        exact Or.inr (Prod.ext h1.symm (Prod.ext h2.symm h3.symm))
      · split at h
        · cases h
        · split at h <;> cases h
theorem begin_rl (s : CS) (args : List ByteArray) (k i : Int) (t : ByteArray) (l : Value) (h : (beginV s args).2 = .done k i t l) : False := by
  rcases begin_ways s args with e | ⟨d, e⟩ <;> rw [e] at h <;> cases h
/-- what is known stays where rows of its kind stay -/
theorem RefOk.to {w W W' : World} {s : CS} {r : RS} (h : RefOk W s r) (hb : Below w.heap.size w W') (ha : Kd.string.C w r.aA s.args.length s.args) (hk : ∀ (k : Nat) (cs : Array Value), W.heap[k]? = some (.cells cs 65 (0, 0)) → W'.heap[k]? = W.heap[k]?) : RefOk W' s r :=
  ⟨own_move h.known (fun q hq => by obtain ⟨cs, hc⟩ := own_typed h.known q hq; exact hk q cs hc), Kd.C_below ha hb, h.cap, h.same, h.few⟩
theorem Keep2.known {m g : Nat} {s : CS} {w W : World} (hk : Keep2 m g w W) (hc : Cl m g s w) (k : Nat) (cs : Array Value) (h : w.heap[k]? = some (.cells cs 65 (0, 0))) : W.heap[k]? = w.heap[k]? := by
  refine hk.block k (Array.getElem?_eq_some_iff.1 h).1 ?_ ?_
  · rintro rfl
    obtain ⟨n, D, ⟨es, ck, h4, -⟩, -, -⟩ := hc.map
    rw [h4] at h
    cases h
  · rintro rfl
    obtain ⟨A, c, h4, -, -, -⟩ := hc.box
    rw [h4] at h
    injection h with h
    injection h with _ h
    exact absurd h (by decide)
theorem row_known {W : World} {B : Nat} {old cs : Array Value} {t : TypeId} {fr : Nat × Nat} (hB : W.heap[B]? = some (.cells old t fr)) (ht : t ≠ 65) (k : Nat) (c2 : Array Value) (h : W.heap[k]? = some (.cells c2 65 (0, 0))) : (W.setRow B cs).heap[k]? = W.heap[k]? := setRow_other _ _ _ _ (by
  rintro rfl
  rw [hB] at h
  injection h with h
  injection h with _ h
  exact ht h)
theorem op_cnt_begin (s : CS) (args : List ByteArray) : (beginV s args).1.args = s.args ∨ (beginV s args).1.args = args := by
  rcases begin_ways s args with e | ⟨d, e⟩ <;> rw [e]
  · exact Or.inl rfl
  · exact Or.inr rfl
/-- where a step's arguments are read in the first world -/
theorem base_args {w : World} {Ps : List (Option Addr × List ByteArray)} (h : ∀ p ∈ Ps, Kd.string.C w p.1 p.2.length p.2) {A : Option Addr} {l : List ByteArray} (hm : (A, l) ∈ Ps) : Kd.string.C w A l.length l := h _ hm
end Go.Proofs.YtpbiohnmmngccaaGreatDoor

namespace Go.Proofs.YtpbiohnmmngccaaGreatDoor
open Go Go.RowKit Go.Maps Go.Proofs.YtpbiohnmmngccaaGreatDoorW.PrintWords
open RtS
set_option maxHeartbeats 32000000 in
set_option maxRecDepth 100000 in
theorem ClientAll_walk (home slot : Int) (hsl : I64 slot) (A : Option Addr) (c : Nat) (l : List OV) (w : World) (hE : Env w) (hl : Steps w A l) (hrp : ∀ O ∈ l, ∃ n, RepsOk w n O.let_.rl) (hc : l.length ≤ c) (hcm : c ≤ 9223372036854775807) :
    Calls Tryz.prog 3 #[.int .i64 home, .slice A l.length c, .int .i64 slot] w fun e w' => e = .returned (.bool true) ∧ Below w.heap.size w w' := by
  go_enter Tryz.func3, Tryz.ntmps3
  go_wp2_with fail
  refine (New_calls home w).mono ?_
  rintro e w1 ⟨rfl, hc1, hb1⟩
  have hb12 : Below w1.heap.size w1 (w1.alloc (.cells #[.int .i64 home, .slice none 0 0, .slice none 0 0, .int .i64 0, .int .i64 0] 28)) := below_alloc (Below.refl _ _) _
  have hx2 : (w1.alloc (.cells #[.int .i64 home, .slice none 0 0, .slice none 0 0, .int .i64 0, .int .i64 0] 28)).heap[w1.heap.size]? = some (.cells #[.int .i64 home, .slice none 0 0, .slice none 0 0, .int .i64 0, .int .i64 0] 28 (0, 0)) := heap_alloc_new _ _
  have hlt1 := hc1.lt
  have hc2 := hc1.below hb12
  have hb2 := hb1.trans (hb12.mono hb1.size)
  obtain ⟨w2, hw2⟩ : ∃ w2, w2 = w1.alloc (.cells #[.int .i64 home, .slice none 0 0, .slice none 0 0, .int .i64 0, .int .i64 0] 28) := ⟨_, rfl⟩
  rw [← hw2] at hx2 hc2 hb2
  replace hw2 := Lib.hid hw2
  replace hx2 := Lib.hid hx2
  replace hc2 := Lib.hid hc2
  replace hb2 := Lib.hid hb2
  clear hc1 hb1 hb12
  go_wp2_with ((with_reducible refine store_at (ty := 28) (x := .tmp 8) (y := .tmp 16) ?_); refine ⟨w1.heap.size, #[.int .i64 home, .slice none 0 0, .slice none 0 0, .int .i64 0, .int .i64 0], 28, #[.int .i64 0, .slice none 0 0, .slice none 0 0, .int .i64 0, .int .i64 0], rfl, rfl, heap_alloc_new _ _, infoR, rfl, rc_one _ _ _ _ _ _ _ _ _, ?_⟩; rw [World.setRow_alloc_new, ← hw2.out])
  refine (few_calls A c l w2 (hl.below hb2.out) hc hcm).mono ?_
  rintro e w3 ⟨rfl, hb3⟩
  have hx3 := (hb3.block _ (Array.getElem?_eq_some_iff.1 hx2.out).1).trans hx2.out
  have hc3 := hc2.out.below hb3
  have hb3w := hb2.out.trans (hb3.mono hb2.out.size)
  replace hx3 := Lib.hid hx3
  replace hc3 := Lib.hid hc3
  replace hb3w := Lib.hid hb3w
  clear hx2 hc2 hw2 hb3
  have hR : w.heap.size < w1.heap.size ∧ w.heap.size + 1 < w1.heap.size := hlt1
  clear hlt1
  generalize w1.heap.size = R at *
  cases hfew : fewV l with
  | false =>
    go_wp2_with fail
    refine (alive_calls _ (hE.below hb3w.out)).mono ?_
    rintro e w4 ⟨rfl, hb4⟩
    have hb4' := hb3w.out.trans (hb4.mono hb3w.out.size)
    go_wp2_with fail
    go_ret
    exact ⟨rfl, hb4'⟩
  | true =>
    obtain ⟨hl200, hlo⟩ := few_open hfew
    replace hlo := Lib.hid hlo
    go_wp2_with fail
    go_loopw [31] (fun s31 wr => ∃ (i : Nat) (s : CS) (r : RS), i ≤ l.length ∧ s31 = .int .i64 i ∧ Cl w.heap.size (w.heap.size + 1) s wr ∧ wr.heap[R]? = some (.cells (rcC s r) 28 (0, 0)) ∧ RefOk wr s r ∧ Kd.string.C w r.aA s.args.length s.args ∧ s.args.length ≤ 64 ∧ Fine s i ∧ Below w.heap.size w wr) (fun s31 _ => l.length - (intOf s31).toNat)
    case atStart => exact ⟨0, ⟨home, fun _ => none, [], 0, 0, 0⟩, ⟨none, 0, [], none, 0⟩, by omega, rfl, hc3.out, hx3.out, ⟨World.ownsRow_nil _ _ _ _, nil_strs _, Nat.le_refl _, fun k => rfl, Nat.le_refl _⟩, nil_strs _, Nat.zero_le _, ⟨⟨Int.le_refl 0, Int.le_refl 0⟩, ⟨Int.le_refl 0, (by decide : (0 : Int) ≤ 16)⟩, Nat.le_refl 0, Nat.zero_le _, fun x hx => by simp at hx⟩, hb3w.out⟩
    case round =>
      obtain ⟨i, s, r, hi, rfl, hcl, hxr, hokr, hargs, hl64, hfi, hb⟩ := hrel
      clear hc3 hx3 hb3w
      by_cases hil : i < l.length
      · have hgo2 : decide ((i : Int) < (l.length : Int)) = true := decide_eq_true (by omega)
        have hi0 : (0 : Int) ≤ (i : Int) := by omega
        obtain ⟨O, hO⟩ : ∃ O, l[i]? = some O := ⟨l[i], List.getElem?_eq_getElem hil⟩
        obtain ⟨ho64, ho10⟩ := hlo.out O (List.mem_of_getElem? hO)
        have hrpO := hrp O (List.mem_of_getElem? hO)
        have hnum : 0 ≤ s.num ∧ s.num ≤ 1000000000 := ⟨hfi.num.1, by have := hfi.num.2; omega⟩
        have hcnt : s.cnt ≤ i := hfi.cnt
        have hbud := hfi.bud
        have hlt := hcl.lt
        obtain ⟨hOk, b, o, rfl, hbl, hcs⟩ := hl i O hO
        have hblr : b < wr.heap.size := Nat.lt_of_lt_of_le hbl hb.size
        have e0 : wr.cell? ⟨b, o + i * 15, none⟩ = some (.int .i64 O.kind) := (hb.cell (p := ⟨b, o + i * 15, none⟩) hbl).trans (hcs 0 _ rfl)
        have e1 : wr.cell? ⟨b, o + i * 15 + 1, none⟩ = some (.slice O.at_ O.args.length O.cap) := (hb.cell (p := ⟨b, o + i * 15 + 1, none⟩) hbl).trans (hcs 1 _ rfl)
        have e2 : wr.cell? ⟨b, o + i * 15 + 2, none⟩ = some (.int .i64 O.let_.kind) := (hb.cell (p := ⟨b, o + i * 15 + 2, none⟩) hbl).trans (hcs 2 _ rfl)
        have e3 : wr.cell? ⟨b, o + i * 15 + 3, none⟩ = some (.int .i64 O.let_.num) := (hb.cell (p := ⟨b, o + i * 15 + 3, none⟩) hbl).trans (hcs 3 _ rfl)
        have e4 : wr.cell? ⟨b, o + i * 15 + 4, none⟩ = some (.int .i64 O.let_.slot) := (hb.cell (p := ⟨b, o + i * 15 + 4, none⟩) hbl).trans (hcs 4 _ rfl)
        have e5 : wr.cell? ⟨b, o + i * 15 + 5, none⟩ = some (.int .i64 O.let_.ends) := (hb.cell (p := ⟨b, o + i * 15 + 5, none⟩) hbl).trans (hcs 5 _ rfl)
        have e6 : wr.cell? ⟨b, o + i * 15 + 6, none⟩ = some (.string O.let_.key) := (hb.cell (p := ⟨b, o + i * 15 + 6, none⟩) hbl).trans (hcs 6 _ rfl)
        have e7 : wr.cell? ⟨b, o + i * 15 + 7, none⟩ = some (.string O.let_.text) := (hb.cell (p := ⟨b, o + i * 15 + 7, none⟩) hbl).trans (hcs 7 _ rfl)
        have e8 : wr.cell? ⟨b, o + i * 15 + 8, none⟩ = some (.slice O.let_.args.1 O.let_.args.2.1 O.let_.args.2.2) := (hb.cell (p := ⟨b, o + i * 15 + 8, none⟩) hbl).trans (hcs 8 _ rfl)
        have e9 : wr.cell? ⟨b, o + i * 15 + 9, none⟩ = some (.int .i64 O.let_.rk) := (hb.cell (p := ⟨b, o + i * 15 + 9, none⟩) hbl).trans (hcs 9 _ rfl)
        have e10 : wr.cell? ⟨b, o + i * 15 + 10, none⟩ = some (.int .i64 O.let_.ri) := (hb.cell (p := ⟨b, o + i * 15 + 10, none⟩) hbl).trans (hcs 10 _ rfl)
        have e11 : wr.cell? ⟨b, o + i * 15 + 11, none⟩ = some (.string O.let_.rt) := (hb.cell (p := ⟨b, o + i * 15 + 11, none⟩) hbl).trans (hcs 11 _ rfl)
        have e12 : wr.cell? ⟨b, o + i * 15 + 12, none⟩ = some (.slice O.let_.rl.1 O.let_.rl.2.1 O.let_.rl.2.2) := (hb.cell (p := ⟨b, o + i * 15 + 12, none⟩) hbl).trans (hcs 12 _ rfl)
        have e13 : wr.cell? ⟨b, o + i * 15 + 13, none⟩ = some (.bool O.let_.good) := (hb.cell (p := ⟨b, o + i * 15 + 13, none⟩) hbl).trans (hcs 13 _ rfl)
        have e14 : wr.cell? ⟨b, o + i * 15 + 14, none⟩ = some (.int .i64 O.let_.asking) := (hb.cell (p := ⟨b, o + i * 15 + 14, none⟩) hbl).trans (hcs 14 _ rfl)
        clear hcs hO
        have hRlt : R < wr.heap.size := (Array.getElem?_eq_some_iff.1 hxr).1
        have hb3 : Below wr.heap.size wr (wr.alloc (.cells (ocells O).toArray 37)) := below_alloc (Below.refl _ _) _
        have hO3 : (wr.alloc (.cells (ocells O).toArray 37)).heap[wr.heap.size]? = some (.cells (ocells O).toArray 37 (0, 0)) := heap_alloc_new _ _
        have hR3 := (hb3.block R hRlt).trans hxr
        have hbw3 := hb.trans (hb3.mono hb.size)
        have hc3 := hcl.below hb3
        have hok3 := hokr.below hb3
        obtain ⟨w3, hw3⟩ : ∃ w3, w3 = wr.alloc (.cells (ocells O).toArray 37) := ⟨_, rfl⟩
        rw [← hw3] at hb3 hO3 hR3 hbw3 hc3 hok3
        have hlt3 : wr.heap.size < w3.heap.size := (Array.getElem?_eq_some_iff.1 hO3).1
        have hb34 : Below w3.heap.size w3 ((w3.alloc (.cells #[.int .i64 0, .int .i64 0, .int .i64 0, .int .i64 0, .int .i64 0, .string ⟨#[]⟩, .string ⟨#[]⟩, .slice none 0 0, .int .i64 0, .int .i64 0, .string ⟨#[]⟩, .slice none 0 0, .bool false, .int .i64 0, .bool false, .int .i64 0, .int .i64 0, .string ⟨#[]⟩, .slice none 0 0, .bool false] 39)).alloc (.cells #[.int .i64 0, .int .i64 0, .int .i64 0, .int .i64 0, .int .i64 0, .string ⟨#[]⟩, .string ⟨#[]⟩, .slice none 0 0, .int .i64 0, .int .i64 0, .string ⟨#[]⟩, .slice none 0 0, .bool false, .int .i64 0, .bool false, .int .i64 0, .int .i64 0, .string ⟨#[]⟩, .slice none 0 0, .bool false] 40)) := by
          have h1 : Below w3.heap.size w3 (w3.alloc (.cells #[.int .i64 0, .int .i64 0, .int .i64 0, .int .i64 0, .int .i64 0, .string ⟨#[]⟩, .string ⟨#[]⟩, .slice none 0 0, .int .i64 0, .int .i64 0, .string ⟨#[]⟩, .slice none 0 0, .bool false, .int .i64 0, .bool false, .int .i64 0, .int .i64 0, .string ⟨#[]⟩, .slice none 0 0, .bool false] 39)) := below_alloc (Below.refl _ _) _
          exact below_alloc h1 _
        have hO4 := (hb34.block _ hlt3).trans hO3
        have hm : ∀ (k : Nat) (v : Value), (ocells O)[k]? = some v → ((w3.alloc (.cells #[.int .i64 0, .int .i64 0, .int .i64 0, .int .i64 0, .int .i64 0, .string ⟨#[]⟩, .string ⟨#[]⟩, .slice none 0 0, .int .i64 0, .int .i64 0, .string ⟨#[]⟩, .slice none 0 0, .bool false, .int .i64 0, .bool false, .int .i64 0, .int .i64 0, .string ⟨#[]⟩, .slice none 0 0, .bool false] 39)).alloc (.cells #[.int .i64 0, .int .i64 0, .int .i64 0, .int .i64 0, .int .i64 0, .string ⟨#[]⟩, .string ⟨#[]⟩, .slice none 0 0, .int .i64 0, .int .i64 0, .string ⟨#[]⟩, .slice none 0 0, .bool false, .int .i64 0, .bool false, .int .i64 0, .int .i64 0, .string ⟨#[]⟩, .slice none 0 0, .bool false] 40)).cell? ⟨wr.heap.size, k, none⟩ = some v := fun k v h => by rw [cell_of_box hO4]; simpa using h
        have hR4 := (hb34.block R (by omega)).trans hR3
        have hB1 := heap0 w3 (.cells #[.int .i64 0, .int .i64 0, .int .i64 0, .int .i64 0, .int .i64 0, .string ⟨#[]⟩, .string ⟨#[]⟩, .slice none 0 0, .int .i64 0, .int .i64 0, .string ⟨#[]⟩, .slice none 0 0, .bool false, .int .i64 0, .bool false, .int .i64 0, .int .i64 0, .string ⟨#[]⟩, .slice none 0 0, .bool false] 39) (.cells #[.int .i64 0, .int .i64 0, .int .i64 0, .int .i64 0, .int .i64 0, .string ⟨#[]⟩, .string ⟨#[]⟩, .slice none 0 0, .int .i64 0, .int .i64 0, .string ⟨#[]⟩, .slice none 0 0, .bool false, .int .i64 0, .bool false, .int .i64 0, .int .i64 0, .string ⟨#[]⟩, .slice none 0 0, .bool false] 40)
        have hB2 := heap1 w3 (.cells #[.int .i64 0, .int .i64 0, .int .i64 0, .int .i64 0, .int .i64 0, .string ⟨#[]⟩, .string ⟨#[]⟩, .slice none 0 0, .int .i64 0, .int .i64 0, .string ⟨#[]⟩, .slice none 0 0, .bool false, .int .i64 0, .bool false, .int .i64 0, .int .i64 0, .string ⟨#[]⟩, .slice none 0 0, .bool false] 39) (.cells #[.int .i64 0, .int .i64 0, .int .i64 0, .int .i64 0, .int .i64 0, .string ⟨#[]⟩, .string ⟨#[]⟩, .slice none 0 0, .int .i64 0, .int .i64 0, .string ⟨#[]⟩, .slice none 0 0, .bool false, .int .i64 0, .bool false, .int .i64 0, .int .i64 0, .string ⟨#[]⟩, .slice none 0 0, .bool false] 40)
        have hc4 := hc3.below hb34
        have hok4 := hok3.below hb34
        have hbw4 := hbw3.trans (hb34.mono hbw3.size)
        have hone := op_one O
        replace hw3 := Lib.hid hw3
        replace hO4 := Lib.hid hO4
        replace hR4 := Lib.hid hR4
        replace hB1 := Lib.hid hB1
        replace hB2 := Lib.hid hB2
        replace hc4 := Lib.hid hc4
        replace hok4 := Lib.hid hok4
        replace hbw4 := Lib.hid hbw4
        replace hone := Lib.hid hone
        replace hfi := Lib.hid hfi
        clear hb3 hO3 hR3 hbw3 hc3 hok3 hb34 hcl hxr hokr hb
        by_cases hk0 : O.kind = 0
        · have hk0' : (O.kind == 0) = true := by rw [beq_iff_eq]; exact hk0
          have m0 : ((w3.alloc (.cells #[.int .i64 0, .int .i64 0, .int .i64 0, .int .i64 0, .int .i64 0, .string ⟨#[]⟩, .string ⟨#[]⟩, .slice none 0 0, .int .i64 0, .int .i64 0, .string ⟨#[]⟩, .slice none 0 0, .bool false, .int .i64 0, .bool false, .int .i64 0, .int .i64 0, .string ⟨#[]⟩, .slice none 0 0, .bool false] 39)).alloc (.cells #[.int .i64 0, .int .i64 0, .int .i64 0, .int .i64 0, .int .i64 0, .string ⟨#[]⟩, .string ⟨#[]⟩, .slice none 0 0, .int .i64 0, .int .i64 0, .string ⟨#[]⟩, .slice none 0 0, .bool false, .int .i64 0, .bool false, .int .i64 0, .int .i64 0, .string ⟨#[]⟩, .slice none 0 0, .bool false] 40)).cell? ⟨wr.heap.size, 0, none⟩ = some (.int .i64 O.kind) := hm 0 _ rfl
          have m1 : ((w3.alloc (.cells #[.int .i64 0, .int .i64 0, .int .i64 0, .int .i64 0, .int .i64 0, .string ⟨#[]⟩, .string ⟨#[]⟩, .slice none 0 0, .int .i64 0, .int .i64 0, .string ⟨#[]⟩, .slice none 0 0, .bool false, .int .i64 0, .bool false, .int .i64 0, .int .i64 0, .string ⟨#[]⟩, .slice none 0 0, .bool false] 39)).alloc (.cells #[.int .i64 0, .int .i64 0, .int .i64 0, .int .i64 0, .int .i64 0, .string ⟨#[]⟩, .string ⟨#[]⟩, .slice none 0 0, .int .i64 0, .int .i64 0, .string ⟨#[]⟩, .slice none 0 0, .bool false, .int .i64 0, .bool false, .int .i64 0, .int .i64 0, .string ⟨#[]⟩, .slice none 0 0, .bool false] 40)).cell? ⟨wr.heap.size, 1, none⟩ = some (.slice O.at_ O.args.length O.cap) := hm 1 _ rfl
          have hT := Begin_calls w.heap.size (w.heap.size + 1) s O.at_ O.cap O.args hnum (by omega) hOk.2.2 _ hc4.out (Kd.C_below hOk.1 hbw4.out) hOk.2.1 w hE hbw4.out (Nat.le_refl _) (Nat.le_succ _)
          clear hm hk0
          go_wp2_with ((with_reducible refine store_at (ty := 37) (x := .tmp 10) (y := .tmp 34) ?_); refine ⟨wr.heap.size, (ocells O).toArray, 37, op0, rfl, rfl, heap_alloc_new _ _, info40, rfl, hone.out, ?_⟩; rw [World.setRow_alloc_new, ← hw3.out])
          refine hT.mono ?_
          rintro e w5 ⟨ho, hc5, hk5⟩
          obtain ⟨f, A5, c5, ll, rfl, hA5, hll, hlla, hrl, href⟩ := out_form ho (begin_rowed s O.args)
          have hnn : ∃ nn, RepsOk w nn f.rl := by
            rcases hrl with h | ⟨k, i9, t, h⟩
            · exact ⟨0, by rw [h]; exact reps_nil w 0⟩
            · exact (begin_rl _ _ _ _ _ _ h).elim
          obtain ⟨nn, hnn⟩ := hnn
          have hlt4 := hc4.out.lt
          have hbw5 := Keep2.base hbw4.out (Nat.le_refl _) (Nat.le_succ _) hk5
          have hB15 := (hk5.block w3.heap.size (Array.getElem?_eq_some_iff.1 hB1.out).1 (by omega) (by omega)).trans hB1.out
          have hB25 := (hk5.block (w3.heap.size + 1) (Array.getElem?_eq_some_iff.1 hB2.out).1 (by omega) (by omega)).trans hB2.out
          have hR5 := (hk5.block R (Array.getElem?_eq_some_iff.1 hR4.out).1 (by omega) (by omega)).trans hR4.out
          have hO5 := (hk5.block wr.heap.size (Array.getElem?_eq_some_iff.1 hO4.out).1 (by omega) (by omega)).trans hO4.out
          have hok5 := hok4.out.to hbw5 hargs (Keep2.known hk5 hc4.out)
          obtain ⟨OUT, hO⟩ : ∃ OUT, OUT = ofC f A5 ll.length c5 := ⟨_, rfl⟩
          rw [← hO]
          have hone5 : OUT.all (·.oneCell') = true := by rw [hO]; exact of_one _ _ _ _
          have hsz5 : OUT.size = 20 := by rw [hO]; rfl
          have hB16 : (w5.setRow w3.heap.size OUT).heap[w3.heap.size]? = some (.cells OUT 39 (0, 0)) := setRow_heap _ _ _ _ _ _ hB15
          have hB26 : (w5.setRow w3.heap.size OUT).heap[w3.heap.size + 1]? = some (.cells #[.int .i64 0, .int .i64 0, .int .i64 0, .int .i64 0, .int .i64 0, .string ⟨#[]⟩, .string ⟨#[]⟩, .slice none 0 0, .int .i64 0, .int .i64 0, .string ⟨#[]⟩, .slice none 0 0, .bool false, .int .i64 0, .bool false, .int .i64 0, .int .i64 0, .string ⟨#[]⟩, .slice none 0 0, .bool false] 40 (0, 0)) := (setRow_other _ _ _ _ (by omega)).trans hB25
          have hR6 : (w5.setRow w3.heap.size OUT).heap[R]? = some (.cells (rcC s r) 28 (0, 0)) := (setRow_other _ _ _ _ (by omega)).trans hR5
          have hO6 : (w5.setRow w3.heap.size OUT).heap[wr.heap.size]? = some (.cells (ocells O).toArray 37 (0, 0)) := (setRow_other _ _ _ _ (by omega)).trans hO5
          have hbw6 : Below w.heap.size w (w5.setRow w3.heap.size OUT) := below_setRow hbw5 (by omega) _
          have hc6 := hc5.row (cs := OUT) hB15 (by decide) (by omega) (by omega)
          have hok6 := hok5.to hbw6 hargs (row_known (cs := OUT) hB15 (by decide))
          have hA6 : SR (w5.setRow w3.heap.size OUT) A5 ll := hA5.row hB15 (by decide)
          obtain ⟨w6, hw6⟩ : ∃ w6, w6 = w5.setRow w3.heap.size OUT := ⟨_, rfl⟩
          rw [← hw6] at hB16 hB26 hR6 hO6 hbw6 hc6 hok6 hA6
          have n0 : w6.cell? ⟨wr.heap.size, 0, none⟩ = some (.int .i64 O.kind) := by rw [cell_of_box hO6]; rfl
          have n1 : w6.cell? ⟨wr.heap.size, 1, none⟩ = some (.slice O.at_ O.args.length O.cap) := by rw [cell_of_box hO6]; rfl
          have r0 : w6.cell? ⟨R, 0, none⟩ = some (.int .i64 s.home) := by rw [cell_of_box hR6]; rfl
          have r1 : w6.cell? ⟨R, 1, none⟩ = some (.slice r.kA r.kl.length r.kc) := by rw [cell_of_box hR6]; rfl
          have r2 : w6.cell? ⟨R, 2, none⟩ = some (.slice r.aA s.args.length r.ac) := by rw [cell_of_box hR6]; rfl
          have r3 : w6.cell? ⟨R, 3, none⟩ = some (.int .i64 s.num) := by rw [cell_of_box hR6]; rfl
          have r4 : w6.cell? ⟨R, 4, none⟩ = some (.int .i64 s.bud) := by rw [cell_of_box hR6]; rfl
          have hRf := refBegin_calls s r O.at_ O.cap O.args hnum (by omega) hOk.2.2 w6 hok6 (by have := hok6.few; omega) (Kd.C_below hOk.1 hbw6) hOk.2.1 (hE.below hbw6)
          rw [show rcC s r = #[.int .i64 s.home, .slice r.kA r.kl.length r.kc, .slice r.aA s.args.length r.ac, .int .i64 s.num, .int .i64 s.bud] from rfl] at hRf
          replace hw6 := Lib.hid hw6
          replace hB16 := Lib.hid hB16
          replace hB26 := Lib.hid hB26
          replace hR6 := Lib.hid hR6
          replace hO6 := Lib.hid hO6
          replace hbw6 := Lib.hid hbw6
          replace hc6 := Lib.hid hc6
          replace hok6 := Lib.hid hok6
          replace hA6 := Lib.hid hA6
          replace hone5 := Lib.hid hone5
          replace hsz5 := Lib.hid hsz5
          replace hB15 := Lib.hid hB15
          replace hO := Lib.hid hO
          clear hT hk5 hok5 hR5 hB25 hO5 hc5 hA5 e0 e1 e2 e3 e4 e5 e6 e7 e8 e9 e10 e11 e12 e13 e14 m0 m1
          go_wp2_with ((with_reducible refine store_at (ty := 39) (x := .tmp 11) (y := .tmp 41) ?_); refine ⟨w3.heap.size, OUT, 39, #[.int .i64 0, .int .i64 0, .int .i64 0, .int .i64 0, .int .i64 0, .string ⟨#[]⟩, .string ⟨#[]⟩, .slice none 0 0, .int .i64 0, .int .i64 0, .string ⟨#[]⟩, .slice none 0 0, .bool false, .int .i64 0, .bool false, .int .i64 0, .int .i64 0, .string ⟨#[]⟩, .slice none 0 0, .bool false], rfl, rfl, hB15.out, (by rw [hsz5.out]; exact info32), hsz5.out.symm, hone5.out, ?_⟩; rw [← hw6.out])
          refine hRf.mono ?_
          rintro e w7 ⟨r2, rfl, hok7, hb67, hmem⟩
          have hargs2 : Kd.string.C w r2.aA (beginV s O.args).1.args.length (beginV s O.args).1.args := base_args (Ps := [(r.aA, s.args), (O.at_, O.args)]) (by intro p hp; simp only [List.mem_cons, List.not_mem_nil, or_false] at hp; rcases hp with rfl | rfl; exact hargs; exact hOk.1) hmem
          obtain ⟨B9, c9, hnx, hB9, hlc9⟩ := href r2 w hargs2 hok7.cap
          have hfn : Fine (beginV s O.args).1 (i + 1) := begin_fine hfi.out (by omega) hOk.2.2
          rw [show refNext (beginV s O.args) r2 = ofC f B9 ll.length c9 from hnx]
          have hl642 : (beginV s O.args).1.args.length ≤ 64 := by rcases op_cnt_begin s O.args with h | h <;> rw [h] <;> first | exact hl64 | exact ho64 | exact Nat.zero_le _
          generalize (beginV s O.args).1 = s2 at *
          have hlt6 := hc6.out.lt
          have hR7 := (hb67.block R (Array.getElem?_eq_some_iff.1 hR6.out).1).trans hR6.out
          have hB17 := (hb67.block _ (Array.getElem?_eq_some_iff.1 hB16.out).1).trans hB16.out
          have hB27 := (hb67.block _ (Array.getElem?_eq_some_iff.1 hB26.out).1).trans hB26.out
          have hc7 := hc6.out.below hb67
          have hbw7 := hbw6.out.trans (hb67.mono hbw6.out.size)
          have hA7 := hA6.out.below hb67
          have hR8 : (w7.setRow R (rcC s2 r2)).heap[R]? = some (.cells (rcC s2 r2) 28 (0, 0)) := setRow_heap _ _ _ _ _ _ hR7
          have hB18 : (w7.setRow R (rcC s2 r2)).heap[w3.heap.size]? = some (.cells OUT 39 (0, 0)) := (setRow_other _ _ _ _ (by omega)).trans hB17
          have hB28 : (w7.setRow R (rcC s2 r2)).heap[w3.heap.size + 1]? = some (.cells #[.int .i64 0, .int .i64 0, .int .i64 0, .int .i64 0, .int .i64 0, .string ⟨#[]⟩, .string ⟨#[]⟩, .slice none 0 0, .int .i64 0, .int .i64 0, .string ⟨#[]⟩, .slice none 0 0, .bool false, .int .i64 0, .bool false, .int .i64 0, .int .i64 0, .string ⟨#[]⟩, .slice none 0 0, .bool false] 40 (0, 0)) := (setRow_other _ _ _ _ (by omega)).trans hB27
          have hc8 := hc7.row (cs := rcC s2 r2) hR7 (by decide) (by omega) (by omega)
          have hbw8 : Below w.heap.size w (w7.setRow R (rcC s2 r2)) := below_setRow hbw7 (by omega) _
          have hok8 := hok7.to hbw8 hargs2 (row_known (cs := rcC s2 r2) hR7 (by decide))
          have hA8 : SR (w7.setRow R (rcC s2 r2)) A5 ll := hA7.row hR7 (by decide)
          obtain ⟨w8, hw8⟩ : ∃ w8, w8 = w7.setRow R (rcC s2 r2) := ⟨_, rfl⟩
          rw [← hw8] at hR8 hB18 hB28 hc8 hbw8 hok8 hA8
          have hR9 : (w8.setRow (w3.heap.size + 1) (ofC f B9 ll.length c9)).heap[R]? = some (.cells (rcC s2 r2) 28 (0, 0)) := (setRow_other _ _ _ _ (by omega)).trans hR8
          have hB19 : (w8.setRow (w3.heap.size + 1) (ofC f B9 ll.length c9)).heap[w3.heap.size]? = some (.cells OUT 39 (0, 0)) := (setRow_other _ _ _ _ (by omega)).trans hB18
          have hB29 : (w8.setRow (w3.heap.size + 1) (ofC f B9 ll.length c9)).heap[w3.heap.size + 1]? = some (.cells (ofC f B9 ll.length c9) 40 (0, 0)) := setRow_heap _ _ _ _ _ _ hB28
          have hc9 := hc8.row (cs := ofC f B9 ll.length c9) hB28 (by decide) (by omega) (by omega)
          have hbw9 : Below w.heap.size w (w8.setRow (w3.heap.size + 1) (ofC f B9 ll.length c9)) := below_setRow hbw8 (by omega) _
          have hok9 := hok8.to hbw9 hargs2 (row_known (cs := ofC f B9 ll.length c9) hB28 (by decide))
          have hA9 : SR (w8.setRow (w3.heap.size + 1) (ofC f B9 ll.length c9)) A5 ll := hA8.row hB28 (by decide)
          obtain ⟨w9, hw9⟩ : ∃ w9, w9 = w8.setRow (w3.heap.size + 1) (ofC f B9 ll.length c9) := ⟨_, rfl⟩
          rw [← hw9] at hR9 hB19 hB29 hc9 hbw9 hok9 hA9
          have hone9 := of_one f B9 ll.length c9
          replace hw8 := Lib.hid hw8
          replace hw9 := Lib.hid hw9
          replace hR7 := Lib.hid hR7
          replace hB28 := Lib.hid hB28
          replace hR9 := Lib.hid hR9
          replace hB19 := Lib.hid hB19
          replace hB29 := Lib.hid hB29
          replace hc9 := Lib.hid hc9
          replace hbw9 := Lib.hid hbw9
          replace hok9 := Lib.hid hok9
          replace hA9 := Lib.hid hA9
          replace hone9 := Lib.hid hone9
          clear hR8 hB18 hc8 hbw8 hok8 hA8 hB17 hB27 hc7 hbw7 hA7 hok7 hb67 hRf
          go_wp2_with (first | ((with_reducible refine store_at (ty := 28) (x := .tmp 8) (y := .tmp 47) ?_); refine ⟨R, rcC s2 r2, 28, rcC s r, rfl, rfl, hR7.out, infoR, rfl, rc_one _ _ _ _ _ _ _ _ _, ?_⟩; rw [← hw8.out]) | ((with_reducible refine store_at (ty := 40) (x := .tmp 12) (y := .tmp 48) ?_); refine ⟨w3.heap.size + 1, ofC f B9 ll.length c9, 40, #[.int .i64 0, .int .i64 0, .int .i64 0, .int .i64 0, .int .i64 0, .string ⟨#[]⟩, .string ⟨#[]⟩, .slice none 0 0, .int .i64 0, .int .i64 0, .string ⟨#[]⟩, .slice none 0 0, .bool false, .int .i64 0, .bool false, .int .i64 0, .int .i64 0, .string ⟨#[]⟩, .slice none 0 0, .bool false], rfl, rfl, hB28.out, infoRO, rfl, hone9.out, ?_⟩; rw [← hw9.out]))
          have hl1 : w3.heap.size < w9.heap.size := (Array.getElem?_eq_some_iff.1 hB19.out).1
          have hl2 : w3.heap.size + 1 < w9.heap.size := (Array.getElem?_eq_some_iff.1 hB29.out).1
          have hlR : R < w9.heap.size := (Array.getElem?_eq_some_iff.1 hR9.out).1
          have hB1x : w9.heap[w3.heap.size]? = some (.cells (ofC f A5 ll.length c5) 39 (0, 0)) := by rw [← hO.out]; exact hB19.out
          have x0 : w9.cell? ⟨R, 0, none⟩ = some (.int .i64 s2.home) := by rw [cell_of_box hR9.out]; rfl
          have x1 : w9.cell? ⟨R, 1, none⟩ = some (.slice r2.kA r2.kl.length r2.kc) := by rw [cell_of_box hR9.out]; rfl
          have x2 : w9.cell? ⟨R, 2, none⟩ = some (.slice r2.aA s2.args.length r2.ac) := by rw [cell_of_box hR9.out]; rfl
          have x3 : w9.cell? ⟨R, 3, none⟩ = some (.int .i64 s2.num) := by rw [cell_of_box hR9.out]; rfl
          have x4 : w9.cell? ⟨R, 4, none⟩ = some (.int .i64 s2.bud) := by rw [cell_of_box hR9.out]; rfl
          replace x0 := Lib.hid x0
          replace x1 := Lib.hid x1
          replace x2 := Lib.hid x2
          replace x3 := Lib.hid x3
          replace x4 := Lib.hid x4
          have hll9 : ll.length ≤ 1000000 := by
            rcases hlla with h | h
            · rw [h]; omega
            · rw [h]; exact Nat.zero_le _
          obtain ⟨bz, hbz⟩ : ∃ bz, decide (0 < s2.args.length) = bz := ⟨_, rfl⟩
          have hbz2 : decide ((0 : Int) < (s2.args.length : Int)) = bz := by rw [← hbz, decide_eq_decide]; omega
          have hr0 : Below w9.heap.size w9 w9.drew := ⟨rfl, rfl, rfl, Nat.le_refl _, fun _ _ => rfl⟩
          refine wp_region_held_drew (S := fun W9 => Below w9.heap.size w9 W9) (by kernel_rfl) hr0 (fun _ => ?_)
          refine wpAnyH_take (i := 0) (oi := ⟨some 60, _, _, _, _, _⟩) (v := .agg (ofC f A5 ll.length c5)) rfl (by kernel_rfl) (by kernel_rfl) (by kernel_rfl) (fun _ _ _ h => h) (yields_row (by rfl) 39 (.tmp 11) rfl w3.heap.size rfl 39 (ofC f A5 ll.length c5) (0, 0) _ (fun W9 hW => (hW.block _ hl1).trans hB1x) Tryz.underlying39 rfl info32) hr0 ?_
          try simp only [Act.put, List.setIfInBounds_toArray, List.set_cons_zero, List.set_cons_succ]
          refine wpAnyH_take (i := 1) (oi := ⟨some 61, _, _, _, _, _⟩) (v := .agg (ofC f B9 ll.length c9)) rfl (by kernel_rfl) (by kernel_rfl) (by kernel_rfl) (fun _ _ _ h => h) (yields_row (by rfl) 40 (.tmp 12) rfl (w3.heap.size + 1) rfl 40 (ofC f B9 ll.length c9) (0, 0) _ (fun W9 hW => (hW.block _ hl2).trans hB29.out) Tryz.underlying40 rfl infoRO) hr0 ?_
          try simp only [Act.put, List.setIfInBounds_toArray, List.set_cons_zero, List.set_cons_succ]
          refine wpAnyH_ready (rs := [2]) (by kernel_rfl) (by simp) ?_
          refine AllReadyH.cons (o := ⟨some 62, _, _, _, _, _⟩) rfl (fun K hK => ?_) AllReadyH.nil
          go_simp
          have hbd := hbw9.out.trans (hr0.mono hbw9.out.size)
          refine (same_calls f.d f.k f.num f.ask f.rk f.ri f.send f.done f.rt f.rl nn A5 B9 c5 c9 ll hll9 _ (hA9.out.below hr0).1 hll (Kd.C_below hB9 hbd) hlc9 (RepsOk.below hbd nn _ hnn)).mono ?_
          rintro e w10 ⟨rfl, hb10⟩
          have hr1 := hr0.trans (hb10.mono hr0.size)
          refine hK.out _ _ hr1 (fun _ => ?_)
          clear hK K
          try simp only [Act.put, List.setIfInBounds_toArray, List.set_cons_zero, List.set_cons_succ]
          refine wpAnyH_take (i := 3) (oi := ⟨some 63, _, _, _, _, _⟩) (v := .bool false) rfl (by kernel_rfl) (by kernel_rfl) (by kernel_rfl) (fun _ _ _ h => h) (Or.inl ⟨by rfl, fun W9 hW => by go_simp⟩) hr1 ?_
          try simp only [Act.put, List.setIfInBounds_toArray, List.set_cons_zero, List.set_cons_succ]
          refine wpAnyH_take (i := 4) (oi := ⟨some 64, _, _, _, _, _⟩) (v := .bool false) rfl (by kernel_rfl) (by kernel_rfl) (by kernel_rfl) (fun _ _ _ h => h) (Or.inl ⟨by rfl, fun W9 hW => by go_simp⟩) hr1 ?_
          try simp only [Act.put, List.setIfInBounds_toArray, List.set_cons_zero, List.set_cons_succ]
          refine wpAnyH_take (i := 5) (oi := ⟨some 65, _, _, _, _, _⟩) (v := .pointer (some ⟨w.heap.size + 1, 0, none⟩)) rfl (by kernel_rfl) (by kernel_rfl) (by kernel_rfl) (fun _ _ _ h => h) (Or.inl ⟨by rfl, fun W9 hW => by go_simp⟩) hr1 ?_
          try simp only [Act.put, List.setIfInBounds_toArray, List.set_cons_zero, List.set_cons_succ]
          refine wpAnyH_take (i := 7) (oi := ⟨some 67, _, _, _, _, _⟩) (v := .pointer (some ⟨R, 2, none⟩)) rfl (by kernel_rfl) (by kernel_rfl) (by kernel_rfl) (fun _ _ _ h => h) (Or.inl ⟨by rfl, fun W9 hW => by go_simp⟩) hr1 ?_
          try simp only [Act.put, List.setIfInBounds_toArray, List.set_cons_zero, List.set_cons_succ]
          refine wpAnyH_take (i := 8) (oi := ⟨some 68, _, _, _, _, _⟩) (v := .slice r2.aA s2.args.length r2.ac) rfl (by kernel_rfl) (by kernel_rfl) (by kernel_rfl) (fun _ _ _ h => h) (Or.inl ⟨by rfl, fun W9 hW => by have q0 := (hW.cell (p := ⟨R, 0, none⟩) hlR).trans x0.out; have q1 := (hW.cell (p := ⟨R, 1, none⟩) hlR).trans x1.out; have q2 := (hW.cell (p := ⟨R, 2, none⟩) hlR).trans x2.out; have q3 := (hW.cell (p := ⟨R, 3, none⟩) hlR).trans x3.out; have q4 := (hW.cell (p := ⟨R, 4, none⟩) hlR).trans x4.out; go_simp⟩) hr1 ?_
          try simp only [Act.put, List.setIfInBounds_toArray, List.set_cons_zero, List.set_cons_succ]
          refine wpAnyH_take (i := 9) (oi := ⟨some 69, _, _, _, _, _⟩) (v := .int .i64 s2.args.length) rfl (by kernel_rfl) (by kernel_rfl) (by kernel_rfl) (fun _ _ _ h => h) (Or.inl ⟨by rfl, fun W9 hW => by go_simp⟩) hr1 ?_
          try simp only [Act.put, List.setIfInBounds_toArray, List.set_cons_zero, List.set_cons_succ]
          refine wpAnyH_take (i := 10) (oi := ⟨some 70, _, _, _, _, _⟩) (v := .bool bz) rfl (by kernel_rfl) (by kernel_rfl) (by kernel_rfl) (fun _ _ _ h => h) (Or.inl ⟨by rfl, fun W9 hW => by go_simp⟩) hr1 ?_
          try simp only [Act.put, List.setIfInBounds_toArray, List.set_cons_zero, List.set_cons_succ]
          refine wpAnyH_ready (rs := [6]) (by kernel_rfl) (by simp) ?_
          refine AllReadyH.cons (o := ⟨some 66, _, _, _, _, _⟩) rfl (fun K hK => ?_) AllReadyH.nil
          go_simp
          refine (Busy_calls w.heap.size (w.heap.size + 1) s2 w10 (hc9.out.below hr1)).mono ?_
          rintro e w11 ⟨rfl, rfl⟩
          rw [hbz]
          refine hK.out _ _ hr1 (fun _ => ?_)
          clear hK K
          try simp only [Act.put, List.setIfInBounds_toArray, List.set_cons_zero, List.set_cons_succ]
          refine wpAnyH_take (i := 11) (oi := ⟨some 71, _, _, _, _, _⟩) (v := .bool false) rfl (by kernel_rfl) (by kernel_rfl) (by kernel_rfl) (fun _ _ _ h => h) (Or.inl ⟨by rfl, fun W9 hW => by go_simp⟩) hr1 ?_
          try simp only [Act.put, List.setIfInBounds_toArray, List.set_cons_zero, List.set_cons_succ]
          refine wpAnyH_take (i := 12) (oi := ⟨some 72, _, _, _, _, _⟩) (v := .bool false) rfl (by kernel_rfl) (by kernel_rfl) (by kernel_rfl) (fun _ _ _ h => h) (Or.inl ⟨by rfl, fun W9 hW => by go_simp⟩) hr1 ?_
          try simp only [Act.put, List.setIfInBounds_toArray, List.set_cons_zero, List.set_cons_succ]
          refine wpAnyH_take (i := 13) (oi := ⟨some 73, _, _, _, _, _⟩) (v := .bool false) rfl (by kernel_rfl) (by kernel_rfl) (by kernel_rfl) (fun _ _ _ h => h) (Or.inl ⟨by rfl, fun W9 hW => by go_simp⟩) hr1 ?_
          try simp only [Act.put, List.setIfInBounds_toArray, List.set_cons_zero, List.set_cons_succ]
          refine wpAnyH_take (i := 14) (oi := ⟨some 74, _, _, _, _, _⟩) (v := .pointer (some ⟨w.heap.size + 1, 0, none⟩)) rfl (by kernel_rfl) (by kernel_rfl) (by kernel_rfl) (fun _ _ _ h => h) (Or.inl ⟨by rfl, fun W9 hW => by go_simp⟩) hr1 ?_
          try simp only [Act.put, List.setIfInBounds_toArray, List.set_cons_zero, List.set_cons_succ]
          refine wpAnyH_take (i := 15) (oi := ⟨some 75, _, _, _, _, _⟩) (v := .int .i64 slot) rfl (by kernel_rfl) (by kernel_rfl) (by kernel_rfl) (fun _ _ _ h => h) (Or.inl ⟨by rfl, fun W9 hW => by go_simp⟩) hr1 ?_
          try simp only [Act.put, List.setIfInBounds_toArray, List.set_cons_zero, List.set_cons_succ]
          refine wpAnyH_take (i := 17) (oi := ⟨some 77, _, _, _, _, _⟩) (v := .agg (rcC s2 r2)) rfl (by kernel_rfl) (by kernel_rfl) (by kernel_rfl) (fun _ _ _ h => h) (yields_row (by rfl) 28 (.tmp 8) rfl R rfl 28 (rcC s2 r2) (0, 0) _ (fun W9 hW => (hW.block _ hlR).trans hR9.out) Tryz.underlying28 rfl infoR) hr1 ?_
          try simp only [Act.put, List.setIfInBounds_toArray, List.set_cons_zero, List.set_cons_succ]
          refine wpAnyH_take (i := 18) (oi := ⟨some 78, _, _, _, _, _⟩) (v := .int .i64 slot) rfl (by kernel_rfl) (by kernel_rfl) (by kernel_rfl) (fun _ _ _ h => h) (Or.inl ⟨by rfl, fun W9 hW => by go_simp⟩) hr1 ?_
          try simp only [Act.put, List.setIfInBounds_toArray, List.set_cons_zero, List.set_cons_succ]
          refine wpAnyH_ready (rs := [16]) (by kernel_rfl) (by simp) ?_
          refine AllReadyH.cons (o := ⟨some 76, _, _, _, _, _⟩) rfl (fun K hK => ?_) AllReadyH.nil
          go_simp
          refine (Where_calls w.heap.size (w.heap.size + 1) s2 slot hsl w10 (hc9.out.below hr1)).mono ?_
          rintro e w11 ⟨rfl, rfl⟩
          refine hK.out _ _ hr1 (fun _ => ?_)
          clear hK K
          try simp only [Act.put, List.setIfInBounds_toArray, List.set_cons_zero, List.set_cons_succ]
          refine wpAnyH_ready (rs := [19]) (by kernel_rfl) (by simp) ?_
          refine AllReadyH.cons (o := ⟨some 79, _, _, _, _, _⟩) rfl (fun K hK => ?_) AllReadyH.nil
          go_simp
          refine (refWhere_calls s2 r2 slot w10 (hok9.out.below hr1) (by have h1 := hok9.out.few; have h2 := hfn.cnt; omega)).mono ?_
          rintro e w12 ⟨rfl, hb12⟩
          have hr2 := hr1.trans (hb12.mono hr1.size)
          refine hK.out _ _ hr2 (fun _ => ?_)
          clear hK K
          try simp only [Act.put, List.setIfInBounds_toArray, List.set_cons_zero, List.set_cons_succ]
          refine wpAnyH_take (i := 20) (oi := ⟨some 80, _, _, _, _, _⟩) (v := .bool false) rfl (by kernel_rfl) (by kernel_rfl) (by kernel_rfl) (fun _ _ _ h => h) (Or.inl ⟨by rfl, fun W9 hW => by go_simp⟩) hr2 ?_
          try simp only [Act.put, List.setIfInBounds_toArray, List.set_cons_zero, List.set_cons_succ]
          refine wpAnyH_take (i := 21) (oi := ⟨some 81, _, _, _, _, _⟩) (v := .bool false) rfl (by kernel_rfl) (by kernel_rfl) (by kernel_rfl) (fun _ _ _ h => h) (Or.inl ⟨by rfl, fun W9 hW => by go_simp⟩) hr2 ?_
          try simp only [Act.put, List.setIfInBounds_toArray, List.set_cons_zero, List.set_cons_succ]
          refine wpAnyH_take (i := 22) (oi := ⟨some 82, _, _, _, _, _⟩) (v := .bool false) rfl (by kernel_rfl) (by kernel_rfl) (by kernel_rfl) (fun _ _ _ h => h) (Or.inl ⟨by rfl, fun W9 hW => by go_simp⟩) hr2 ?_
          try simp only [Act.put, List.setIfInBounds_toArray, List.set_cons_zero, List.set_cons_succ]
          refine wpAnyH_take (i := 23) (oi := ⟨some 83, _, _, _, _, _⟩) (v := .pointer (some ⟨w.heap.size + 1, 0, none⟩)) rfl (by kernel_rfl) (by kernel_rfl) (by kernel_rfl) (fun _ _ _ h => h) (Or.inl ⟨by rfl, fun W9 hW => by go_simp⟩) hr2 ?_
          try simp only [Act.put, List.setIfInBounds_toArray, List.set_cons_zero, List.set_cons_succ]
          refine wpAnyH_take (i := 25) (oi := ⟨some 85, _, _, _, _, _⟩) (v := .agg (rcC s2 r2)) rfl (by kernel_rfl) (by kernel_rfl) (by kernel_rfl) (fun _ _ _ h => h) (yields_row (by rfl) 28 (.tmp 8) rfl R rfl 28 (rcC s2 r2) (0, 0) _ (fun W9 hW => (hW.block _ hlR).trans hR9.out) Tryz.underlying28 rfl infoR) hr2 ?_
          try simp only [Act.put, List.setIfInBounds_toArray, List.set_cons_zero, List.set_cons_succ]
          refine wpAnyH_ready (rs := [24]) (by kernel_rfl) (by simp) ?_
          refine AllReadyH.cons (o := ⟨some 84, _, _, _, _, _⟩) rfl (fun K hK => ?_) AllReadyH.nil
          go_simp
          refine (Where_calls w.heap.size (w.heap.size + 1) s2 12182 ⟨by decide, by decide⟩ w12 (hc9.out.below hr2)).mono ?_
          rintro e w13 ⟨rfl, rfl⟩
          refine hK.out _ _ hr2 (fun _ => ?_)
          clear hK K
          try simp only [Act.put, List.setIfInBounds_toArray, List.set_cons_zero, List.set_cons_succ]
          refine wpAnyH_ready (rs := [26]) (by kernel_rfl) (by simp) ?_
          refine AllReadyH.cons (o := ⟨some 86, _, _, _, _, _⟩) rfl (fun K hK => ?_) AllReadyH.nil
          go_simp
          refine (refWhere_calls s2 r2 12182 w12 (hok9.out.below hr2) (by have h1 := hok9.out.few; have h2 := hfn.cnt; omega)).mono ?_
          rintro e w14 ⟨rfl, hb14⟩
          have hr3 := hr2.trans (hb14.mono hr2.size)
          refine hK.out _ _ hr3 (fun _ => ?_)
          clear hK K
          try simp only [Act.put, List.setIfInBounds_toArray, List.set_cons_zero, List.set_cons_succ]
          refine wpAnyH_take (i := 27) (oi := ⟨some 87, _, _, _, _, _⟩) (v := .bool false) rfl (by kernel_rfl) (by kernel_rfl) (by kernel_rfl) (fun _ _ _ h => h) (Or.inl ⟨by rfl, fun W9 hW => by go_simp⟩) hr3 ?_
          try simp only [Act.put, List.setIfInBounds_toArray, List.set_cons_zero, List.set_cons_succ]
          refine wpAnyH_take (i := 28) (oi := ⟨some 88, _, _, _, _, _⟩) (v := .bool false) rfl (by kernel_rfl) (by kernel_rfl) (by kernel_rfl) (fun _ _ _ h => h) (Or.inl ⟨by rfl, fun W9 hW => by go_simp⟩) hr3 ?_
          try simp only [Act.put, List.setIfInBounds_toArray, List.set_cons_zero, List.set_cons_succ]
          refine wpAnyH_done (by kernel_rfl) ?_ _
          have hRf := (hr3.block R hlR).trans hR9.out
          have hcf := hc9.out.below hr3
          have hokf := hok9.out.below hr3
          have hbf := hbw9.out.trans (hr3.mono hbw9.out.size)
          go_wp2_with fail
          exact ⟨⟨i + 1, s2, r2, by omega, by go_num, hcf, hRf, hokf, hargs2, hl642, hfn, hbf⟩, by simp [intOf]; omega⟩
        · have hk0' : (O.kind == 0) = false := by rw [beq_eq_false_iff_ne]; exact hk0
          have m0 : ((w3.alloc (.cells #[.int .i64 0, .int .i64 0, .int .i64 0, .int .i64 0, .int .i64 0, .string ⟨#[]⟩, .string ⟨#[]⟩, .slice none 0 0, .int .i64 0, .int .i64 0, .string ⟨#[]⟩, .slice none 0 0, .bool false, .int .i64 0, .bool false, .int .i64 0, .int .i64 0, .string ⟨#[]⟩, .slice none 0 0, .bool false] 39)).alloc (.cells #[.int .i64 0, .int .i64 0, .int .i64 0, .int .i64 0, .int .i64 0, .string ⟨#[]⟩, .string ⟨#[]⟩, .slice none 0 0, .int .i64 0, .int .i64 0, .string ⟨#[]⟩, .slice none 0 0, .bool false, .int .i64 0, .bool false, .int .i64 0, .int .i64 0, .string ⟨#[]⟩, .slice none 0 0, .bool false] 40)).cell? ⟨wr.heap.size, 0, none⟩ = some (.int .i64 O.kind) := hm 0 _ rfl
          have m2 : ((w3.alloc (.cells #[.int .i64 0, .int .i64 0, .int .i64 0, .int .i64 0, .int .i64 0, .string ⟨#[]⟩, .string ⟨#[]⟩, .slice none 0 0, .int .i64 0, .int .i64 0, .string ⟨#[]⟩, .slice none 0 0, .bool false, .int .i64 0, .bool false, .int .i64 0, .int .i64 0, .string ⟨#[]⟩, .slice none 0 0, .bool false] 39)).alloc (.cells #[.int .i64 0, .int .i64 0, .int .i64 0, .int .i64 0, .int .i64 0, .string ⟨#[]⟩, .string ⟨#[]⟩, .slice none 0 0, .int .i64 0, .int .i64 0, .string ⟨#[]⟩, .slice none 0 0, .bool false, .int .i64 0, .bool false, .int .i64 0, .int .i64 0, .string ⟨#[]⟩, .slice none 0 0, .bool false] 40)).cell? ⟨wr.heap.size, 2, none⟩ = some (.int .i64 O.let_.kind) := hm 2 _ rfl
          have m3 : ((w3.alloc (.cells #[.int .i64 0, .int .i64 0, .int .i64 0, .int .i64 0, .int .i64 0, .string ⟨#[]⟩, .string ⟨#[]⟩, .slice none 0 0, .int .i64 0, .int .i64 0, .string ⟨#[]⟩, .slice none 0 0, .bool false, .int .i64 0, .bool false, .int .i64 0, .int .i64 0, .string ⟨#[]⟩, .slice none 0 0, .bool false] 39)).alloc (.cells #[.int .i64 0, .int .i64 0, .int .i64 0, .int .i64 0, .int .i64 0, .string ⟨#[]⟩, .string ⟨#[]⟩, .slice none 0 0, .int .i64 0, .int .i64 0, .string ⟨#[]⟩, .slice none 0 0, .bool false, .int .i64 0, .bool false, .int .i64 0, .int .i64 0, .string ⟨#[]⟩, .slice none 0 0, .bool false] 40)).cell? ⟨wr.heap.size, 3, none⟩ = some (.int .i64 O.let_.num) := hm 3 _ rfl
          have m4 : ((w3.alloc (.cells #[.int .i64 0, .int .i64 0, .int .i64 0, .int .i64 0, .int .i64 0, .string ⟨#[]⟩, .string ⟨#[]⟩, .slice none 0 0, .int .i64 0, .int .i64 0, .string ⟨#[]⟩, .slice none 0 0, .bool false, .int .i64 0, .bool false, .int .i64 0, .int .i64 0, .string ⟨#[]⟩, .slice none 0 0, .bool false] 39)).alloc (.cells #[.int .i64 0, .int .i64 0, .int .i64 0, .int .i64 0, .int .i64 0, .string ⟨#[]⟩, .string ⟨#[]⟩, .slice none 0 0, .int .i64 0, .int .i64 0, .string ⟨#[]⟩, .slice none 0 0, .bool false, .int .i64 0, .bool false, .int .i64 0, .int .i64 0, .string ⟨#[]⟩, .slice none 0 0, .bool false] 40)).cell? ⟨wr.heap.size, 4, none⟩ = some (.int .i64 O.let_.slot) := hm 4 _ rfl
          have m5 : ((w3.alloc (.cells #[.int .i64 0, .int .i64 0, .int .i64 0, .int .i64 0, .int .i64 0, .string ⟨#[]⟩, .string ⟨#[]⟩, .slice none 0 0, .int .i64 0, .int .i64 0, .string ⟨#[]⟩, .slice none 0 0, .bool false, .int .i64 0, .bool false, .int .i64 0, .int .i64 0, .string ⟨#[]⟩, .slice none 0 0, .bool false] 39)).alloc (.cells #[.int .i64 0, .int .i64 0, .int .i64 0, .int .i64 0, .int .i64 0, .string ⟨#[]⟩, .string ⟨#[]⟩, .slice none 0 0, .int .i64 0, .int .i64 0, .string ⟨#[]⟩, .slice none 0 0, .bool false, .int .i64 0, .bool false, .int .i64 0, .int .i64 0, .string ⟨#[]⟩, .slice none 0 0, .bool false] 40)).cell? ⟨wr.heap.size, 5, none⟩ = some (.int .i64 O.let_.ends) := hm 5 _ rfl
          have m6 : ((w3.alloc (.cells #[.int .i64 0, .int .i64 0, .int .i64 0, .int .i64 0, .int .i64 0, .string ⟨#[]⟩, .string ⟨#[]⟩, .slice none 0 0, .int .i64 0, .int .i64 0, .string ⟨#[]⟩, .slice none 0 0, .bool false, .int .i64 0, .bool false, .int .i64 0, .int .i64 0, .string ⟨#[]⟩, .slice none 0 0, .bool false] 39)).alloc (.cells #[.int .i64 0, .int .i64 0, .int .i64 0, .int .i64 0, .int .i64 0, .string ⟨#[]⟩, .string ⟨#[]⟩, .slice none 0 0, .int .i64 0, .int .i64 0, .string ⟨#[]⟩, .slice none 0 0, .bool false, .int .i64 0, .bool false, .int .i64 0, .int .i64 0, .string ⟨#[]⟩, .slice none 0 0, .bool false] 40)).cell? ⟨wr.heap.size, 6, none⟩ = some (.string O.let_.key) := hm 6 _ rfl
          have m7 : ((w3.alloc (.cells #[.int .i64 0, .int .i64 0, .int .i64 0, .int .i64 0, .int .i64 0, .string ⟨#[]⟩, .string ⟨#[]⟩, .slice none 0 0, .int .i64 0, .int .i64 0, .string ⟨#[]⟩, .slice none 0 0, .bool false, .int .i64 0, .bool false, .int .i64 0, .int .i64 0, .string ⟨#[]⟩, .slice none 0 0, .bool false] 39)).alloc (.cells #[.int .i64 0, .int .i64 0, .int .i64 0, .int .i64 0, .int .i64 0, .string ⟨#[]⟩, .string ⟨#[]⟩, .slice none 0 0, .int .i64 0, .int .i64 0, .string ⟨#[]⟩, .slice none 0 0, .bool false, .int .i64 0, .bool false, .int .i64 0, .int .i64 0, .string ⟨#[]⟩, .slice none 0 0, .bool false] 40)).cell? ⟨wr.heap.size, 7, none⟩ = some (.string O.let_.text) := hm 7 _ rfl
          have m8 : ((w3.alloc (.cells #[.int .i64 0, .int .i64 0, .int .i64 0, .int .i64 0, .int .i64 0, .string ⟨#[]⟩, .string ⟨#[]⟩, .slice none 0 0, .int .i64 0, .int .i64 0, .string ⟨#[]⟩, .slice none 0 0, .bool false, .int .i64 0, .bool false, .int .i64 0, .int .i64 0, .string ⟨#[]⟩, .slice none 0 0, .bool false] 39)).alloc (.cells #[.int .i64 0, .int .i64 0, .int .i64 0, .int .i64 0, .int .i64 0, .string ⟨#[]⟩, .string ⟨#[]⟩, .slice none 0 0, .int .i64 0, .int .i64 0, .string ⟨#[]⟩, .slice none 0 0, .bool false, .int .i64 0, .bool false, .int .i64 0, .int .i64 0, .string ⟨#[]⟩, .slice none 0 0, .bool false] 40)).cell? ⟨wr.heap.size, 8, none⟩ = some (.slice O.let_.args.1 O.let_.args.2.1 O.let_.args.2.2) := hm 8 _ rfl
          have m9 : ((w3.alloc (.cells #[.int .i64 0, .int .i64 0, .int .i64 0, .int .i64 0, .int .i64 0, .string ⟨#[]⟩, .string ⟨#[]⟩, .slice none 0 0, .int .i64 0, .int .i64 0, .string ⟨#[]⟩, .slice none 0 0, .bool false, .int .i64 0, .bool false, .int .i64 0, .int .i64 0, .string ⟨#[]⟩, .slice none 0 0, .bool false] 39)).alloc (.cells #[.int .i64 0, .int .i64 0, .int .i64 0, .int .i64 0, .int .i64 0, .string ⟨#[]⟩, .string ⟨#[]⟩, .slice none 0 0, .int .i64 0, .int .i64 0, .string ⟨#[]⟩, .slice none 0 0, .bool false, .int .i64 0, .bool false, .int .i64 0, .int .i64 0, .string ⟨#[]⟩, .slice none 0 0, .bool false] 40)).cell? ⟨wr.heap.size, 9, none⟩ = some (.int .i64 O.let_.rk) := hm 9 _ rfl
          have m10 : ((w3.alloc (.cells #[.int .i64 0, .int .i64 0, .int .i64 0, .int .i64 0, .int .i64 0, .string ⟨#[]⟩, .string ⟨#[]⟩, .slice none 0 0, .int .i64 0, .int .i64 0, .string ⟨#[]⟩, .slice none 0 0, .bool false, .int .i64 0, .bool false, .int .i64 0, .int .i64 0, .string ⟨#[]⟩, .slice none 0 0, .bool false] 39)).alloc (.cells #[.int .i64 0, .int .i64 0, .int .i64 0, .int .i64 0, .int .i64 0, .string ⟨#[]⟩, .string ⟨#[]⟩, .slice none 0 0, .int .i64 0, .int .i64 0, .string ⟨#[]⟩, .slice none 0 0, .bool false, .int .i64 0, .bool false, .int .i64 0, .int .i64 0, .string ⟨#[]⟩, .slice none 0 0, .bool false] 40)).cell? ⟨wr.heap.size, 10, none⟩ = some (.int .i64 O.let_.ri) := hm 10 _ rfl
          have m11 : ((w3.alloc (.cells #[.int .i64 0, .int .i64 0, .int .i64 0, .int .i64 0, .int .i64 0, .string ⟨#[]⟩, .string ⟨#[]⟩, .slice none 0 0, .int .i64 0, .int .i64 0, .string ⟨#[]⟩, .slice none 0 0, .bool false, .int .i64 0, .bool false, .int .i64 0, .int .i64 0, .string ⟨#[]⟩, .slice none 0 0, .bool false] 39)).alloc (.cells #[.int .i64 0, .int .i64 0, .int .i64 0, .int .i64 0, .int .i64 0, .string ⟨#[]⟩, .string ⟨#[]⟩, .slice none 0 0, .int .i64 0, .int .i64 0, .string ⟨#[]⟩, .slice none 0 0, .bool false, .int .i64 0, .bool false, .int .i64 0, .int .i64 0, .string ⟨#[]⟩, .slice none 0 0, .bool false] 40)).cell? ⟨wr.heap.size, 11, none⟩ = some (.string O.let_.rt) := hm 11 _ rfl
          have m12 : ((w3.alloc (.cells #[.int .i64 0, .int .i64 0, .int .i64 0, .int .i64 0, .int .i64 0, .string ⟨#[]⟩, .string ⟨#[]⟩, .slice none 0 0, .int .i64 0, .int .i64 0, .string ⟨#[]⟩, .slice none 0 0, .bool false, .int .i64 0, .bool false, .int .i64 0, .int .i64 0, .string ⟨#[]⟩, .slice none 0 0, .bool false] 39)).alloc (.cells #[.int .i64 0, .int .i64 0, .int .i64 0, .int .i64 0, .int .i64 0, .string ⟨#[]⟩, .string ⟨#[]⟩, .slice none 0 0, .int .i64 0, .int .i64 0, .string ⟨#[]⟩, .slice none 0 0, .bool false, .int .i64 0, .bool false, .int .i64 0, .int .i64 0, .string ⟨#[]⟩, .slice none 0 0, .bool false] 40)).cell? ⟨wr.heap.size, 12, none⟩ = some (.slice O.let_.rl.1 O.let_.rl.2.1 O.let_.rl.2.2) := hm 12 _ rfl
          have m13 : ((w3.alloc (.cells #[.int .i64 0, .int .i64 0, .int .i64 0, .int .i64 0, .int .i64 0, .string ⟨#[]⟩, .string ⟨#[]⟩, .slice none 0 0, .int .i64 0, .int .i64 0, .string ⟨#[]⟩, .slice none 0 0, .bool false, .int .i64 0, .bool false, .int .i64 0, .int .i64 0, .string ⟨#[]⟩, .slice none 0 0, .bool false] 39)).alloc (.cells #[.int .i64 0, .int .i64 0, .int .i64 0, .int .i64 0, .int .i64 0, .string ⟨#[]⟩, .string ⟨#[]⟩, .slice none 0 0, .int .i64 0, .int .i64 0, .string ⟨#[]⟩, .slice none 0 0, .bool false, .int .i64 0, .bool false, .int .i64 0, .int .i64 0, .string ⟨#[]⟩, .slice none 0 0, .bool false] 40)).cell? ⟨wr.heap.size, 13, none⟩ = some (.bool O.let_.good) := hm 13 _ rfl
          have m14 : ((w3.alloc (.cells #[.int .i64 0, .int .i64 0, .int .i64 0, .int .i64 0, .int .i64 0, .string ⟨#[]⟩, .string ⟨#[]⟩, .slice none 0 0, .int .i64 0, .int .i64 0, .string ⟨#[]⟩, .slice none 0 0, .bool false, .int .i64 0, .bool false, .int .i64 0, .int .i64 0, .string ⟨#[]⟩, .slice none 0 0, .bool false] 39)).alloc (.cells #[.int .i64 0, .int .i64 0, .int .i64 0, .int .i64 0, .int .i64 0, .string ⟨#[]⟩, .string ⟨#[]⟩, .slice none 0 0, .int .i64 0, .int .i64 0, .string ⟨#[]⟩, .slice none 0 0, .bool false, .int .i64 0, .bool false, .int .i64 0, .int .i64 0, .string ⟨#[]⟩, .slice none 0 0, .bool false] 40)).cell? ⟨wr.heap.size, 14, none⟩ = some (.int .i64 O.let_.asking) := hm 14 _ rfl
          have hT := Take_calls w.heap.size (w.heap.size + 1) s O.let_ i hfi.out (by omega) (by omega) _ hc4.out w hE hbw4.out (Nat.le_refl _) (Nat.le_succ _)
          clear hm hk0
          go_wp2_with ((with_reducible refine store_at (ty := 37) (x := .tmp 10) (y := .tmp 34) ?_); refine ⟨wr.heap.size, (ocells O).toArray, 37, op0, rfl, rfl, heap_alloc_new _ _, info40, rfl, hone.out, ?_⟩; rw [World.setRow_alloc_new, ← hw3.out])
          refine hT.mono ?_
          rintro e w5 ⟨ho, hc5, hk5⟩
          obtain ⟨f, A5, c5, ll, rfl, hA5, hll, hlla, hrl, href⟩ := out_form ho (take_rowed s O.let_)
          have hnn : ∃ nn, RepsOk w nn f.rl := by
            rcases hrl with h | ⟨k, i9, t, h⟩
            · exact ⟨0, by rw [h]; exact reps_nil w 0⟩
            · rcases take_rl _ _ _ _ _ _ h with h | h
              · obtain ⟨nn, h9⟩ := hrpO; exact ⟨nn, by rw [h]; exact h9⟩
              · exact ⟨0, by rw [h]; exact reps_nil w 0⟩
          obtain ⟨nn, hnn⟩ := hnn
          have hlt4 := hc4.out.lt
          have hbw5 := Keep2.base hbw4.out (Nat.le_refl _) (Nat.le_succ _) hk5
          have hB15 := (hk5.block w3.heap.size (Array.getElem?_eq_some_iff.1 hB1.out).1 (by omega) (by omega)).trans hB1.out
          have hB25 := (hk5.block (w3.heap.size + 1) (Array.getElem?_eq_some_iff.1 hB2.out).1 (by omega) (by omega)).trans hB2.out
          have hR5 := (hk5.block R (Array.getElem?_eq_some_iff.1 hR4.out).1 (by omega) (by omega)).trans hR4.out
          have hO5 := (hk5.block wr.heap.size (Array.getElem?_eq_some_iff.1 hO4.out).1 (by omega) (by omega)).trans hO4.out
          have hok5 := hok4.out.to hbw5 hargs (Keep2.known hk5 hc4.out)
          obtain ⟨OUT, hO⟩ : ∃ OUT, OUT = ofC f A5 ll.length c5 := ⟨_, rfl⟩
          rw [← hO]
          have hone5 : OUT.all (·.oneCell') = true := by rw [hO]; exact of_one _ _ _ _
          have hsz5 : OUT.size = 20 := by rw [hO]; rfl
          have hB16 : (w5.setRow w3.heap.size OUT).heap[w3.heap.size]? = some (.cells OUT 39 (0, 0)) := setRow_heap _ _ _ _ _ _ hB15
          have hB26 : (w5.setRow w3.heap.size OUT).heap[w3.heap.size + 1]? = some (.cells #[.int .i64 0, .int .i64 0, .int .i64 0, .int .i64 0, .int .i64 0, .string ⟨#[]⟩, .string ⟨#[]⟩, .slice none 0 0, .int .i64 0, .int .i64 0, .string ⟨#[]⟩, .slice none 0 0, .bool false, .int .i64 0, .bool false, .int .i64 0, .int .i64 0, .string ⟨#[]⟩, .slice none 0 0, .bool false] 40 (0, 0)) := (setRow_other _ _ _ _ (by omega)).trans hB25
          have hR6 : (w5.setRow w3.heap.size OUT).heap[R]? = some (.cells (rcC s r) 28 (0, 0)) := (setRow_other _ _ _ _ (by omega)).trans hR5
          have hO6 : (w5.setRow w3.heap.size OUT).heap[wr.heap.size]? = some (.cells (ocells O).toArray 37 (0, 0)) := (setRow_other _ _ _ _ (by omega)).trans hO5
          have hbw6 : Below w.heap.size w (w5.setRow w3.heap.size OUT) := below_setRow hbw5 (by omega) _
          have hc6 := hc5.row (cs := OUT) hB15 (by decide) (by omega) (by omega)
          have hok6 := hok5.to hbw6 hargs (row_known (cs := OUT) hB15 (by decide))
          have hA6 : SR (w5.setRow w3.heap.size OUT) A5 ll := hA5.row hB15 (by decide)
          obtain ⟨w6, hw6⟩ : ∃ w6, w6 = w5.setRow w3.heap.size OUT := ⟨_, rfl⟩
          rw [← hw6] at hB16 hB26 hR6 hO6 hbw6 hc6 hok6 hA6
          have n0 : w6.cell? ⟨wr.heap.size, 0, none⟩ = some (.int .i64 O.kind) := by rw [cell_of_box hO6]; rfl
          have n2 : w6.cell? ⟨wr.heap.size, 2, none⟩ = some (.int .i64 O.let_.kind) := by rw [cell_of_box hO6]; rfl
          have n3 : w6.cell? ⟨wr.heap.size, 3, none⟩ = some (.int .i64 O.let_.num) := by rw [cell_of_box hO6]; rfl
          have n4 : w6.cell? ⟨wr.heap.size, 4, none⟩ = some (.int .i64 O.let_.slot) := by rw [cell_of_box hO6]; rfl
          have n5 : w6.cell? ⟨wr.heap.size, 5, none⟩ = some (.int .i64 O.let_.ends) := by rw [cell_of_box hO6]; rfl
          have n6 : w6.cell? ⟨wr.heap.size, 6, none⟩ = some (.string O.let_.key) := by rw [cell_of_box hO6]; rfl
          have n7 : w6.cell? ⟨wr.heap.size, 7, none⟩ = some (.string O.let_.text) := by rw [cell_of_box hO6]; rfl
          have n8 : w6.cell? ⟨wr.heap.size, 8, none⟩ = some (.slice O.let_.args.1 O.let_.args.2.1 O.let_.args.2.2) := by rw [cell_of_box hO6]; rfl
          have n9 : w6.cell? ⟨wr.heap.size, 9, none⟩ = some (.int .i64 O.let_.rk) := by rw [cell_of_box hO6]; rfl
          have n10 : w6.cell? ⟨wr.heap.size, 10, none⟩ = some (.int .i64 O.let_.ri) := by rw [cell_of_box hO6]; rfl
          have n11 : w6.cell? ⟨wr.heap.size, 11, none⟩ = some (.string O.let_.rt) := by rw [cell_of_box hO6]; rfl
          have n12 : w6.cell? ⟨wr.heap.size, 12, none⟩ = some (.slice O.let_.rl.1 O.let_.rl.2.1 O.let_.rl.2.2) := by rw [cell_of_box hO6]; rfl
          have n13 : w6.cell? ⟨wr.heap.size, 13, none⟩ = some (.bool O.let_.good) := by rw [cell_of_box hO6]; rfl
          have n14 : w6.cell? ⟨wr.heap.size, 14, none⟩ = some (.int .i64 O.let_.asking) := by rw [cell_of_box hO6]; rfl
          have r0 : w6.cell? ⟨R, 0, none⟩ = some (.int .i64 s.home) := by rw [cell_of_box hR6]; rfl
          have r1 : w6.cell? ⟨R, 1, none⟩ = some (.slice r.kA r.kl.length r.kc) := by rw [cell_of_box hR6]; rfl
          have r2 : w6.cell? ⟨R, 2, none⟩ = some (.slice r.aA s.args.length r.ac) := by rw [cell_of_box hR6]; rfl
          have r3 : w6.cell? ⟨R, 3, none⟩ = some (.int .i64 s.num) := by rw [cell_of_box hR6]; rfl
          have r4 : w6.cell? ⟨R, 4, none⟩ = some (.int .i64 s.bud) := by rw [cell_of_box hR6]; rfl
          have hRf := refTake_calls s r O.let_ hnum (by omega) hfi.out.big hfi.out.bud (by omega) w6 hok6 (by have := hok6.few; omega) (hE.below hbw6)
          rw [show rcC s r = #[.int .i64 s.home, .slice r.kA r.kl.length r.kc, .slice r.aA s.args.length r.ac, .int .i64 s.num, .int .i64 s.bud] from rfl] at hRf
          replace hw6 := Lib.hid hw6
          replace hB16 := Lib.hid hB16
          replace hB26 := Lib.hid hB26
          replace hR6 := Lib.hid hR6
          replace hO6 := Lib.hid hO6
          replace hbw6 := Lib.hid hbw6
          replace hc6 := Lib.hid hc6
          replace hok6 := Lib.hid hok6
          replace hA6 := Lib.hid hA6
          replace hone5 := Lib.hid hone5
          replace hsz5 := Lib.hid hsz5
          replace hB15 := Lib.hid hB15
          replace hO := Lib.hid hO
          clear hT hk5 hok5 hR5 hB25 hO5 hc5 hA5 e0 e1 e2 e3 e4 e5 e6 e7 e8 e9 e10 e11 e12 e13 e14 m0 m2 m3 m4 m5 m6 m7 m8 m9 m10 m11 m12 m13 m14
          go_wp2_with ((with_reducible refine store_at (ty := 39) (x := .tmp 11) (y := .tmp 52) ?_); refine ⟨w3.heap.size, OUT, 39, #[.int .i64 0, .int .i64 0, .int .i64 0, .int .i64 0, .int .i64 0, .string ⟨#[]⟩, .string ⟨#[]⟩, .slice none 0 0, .int .i64 0, .int .i64 0, .string ⟨#[]⟩, .slice none 0 0, .bool false, .int .i64 0, .bool false, .int .i64 0, .int .i64 0, .string ⟨#[]⟩, .slice none 0 0, .bool false], rfl, rfl, hB15.out, (by rw [hsz5.out]; exact info32), hsz5.out.symm, hone5.out, ?_⟩; rw [← hw6.out])
          refine hRf.mono ?_
          rintro e w7 ⟨r2, rfl, hok7, hb67, hmem⟩
          have hargs2 : Kd.string.C w r2.aA (takeV s O.let_).1.args.length (takeV s O.let_).1.args := base_args (Ps := [(r.aA, s.args), (none, [])]) (by intro p hp; simp only [List.mem_cons, List.not_mem_nil, or_false] at hp; rcases hp with rfl | rfl; exact hargs; exact nil_strs w) hmem
          obtain ⟨B9, c9, hnx, hB9, hlc9⟩ := href r2 w hargs2 hok7.cap
          have hfn : Fine (takeV s O.let_).1 (i + 1) := take_fine hfi.out O.let_
          rw [show refNext (takeV s O.let_) r2 = ofC f B9 ll.length c9 from hnx]
          have hl642 : (takeV s O.let_).1.args.length ≤ 64 := by rcases take_args s O.let_ with h | h <;> rw [h] <;> first | exact hl64 | exact ho64 | exact Nat.zero_le _
          generalize (takeV s O.let_).1 = s2 at *
          have hlt6 := hc6.out.lt
          have hR7 := (hb67.block R (Array.getElem?_eq_some_iff.1 hR6.out).1).trans hR6.out
          have hB17 := (hb67.block _ (Array.getElem?_eq_some_iff.1 hB16.out).1).trans hB16.out
          have hB27 := (hb67.block _ (Array.getElem?_eq_some_iff.1 hB26.out).1).trans hB26.out
          have hc7 := hc6.out.below hb67
          have hbw7 := hbw6.out.trans (hb67.mono hbw6.out.size)
          have hA7 := hA6.out.below hb67
          have hR8 : (w7.setRow R (rcC s2 r2)).heap[R]? = some (.cells (rcC s2 r2) 28 (0, 0)) := setRow_heap _ _ _ _ _ _ hR7
          have hB18 : (w7.setRow R (rcC s2 r2)).heap[w3.heap.size]? = some (.cells OUT 39 (0, 0)) := (setRow_other _ _ _ _ (by omega)).trans hB17
          have hB28 : (w7.setRow R (rcC s2 r2)).heap[w3.heap.size + 1]? = some (.cells #[.int .i64 0, .int .i64 0, .int .i64 0, .int .i64 0, .int .i64 0, .string ⟨#[]⟩, .string ⟨#[]⟩, .slice none 0 0, .int .i64 0, .int .i64 0, .string ⟨#[]⟩, .slice none 0 0, .bool false, .int .i64 0, .bool false, .int .i64 0, .int .i64 0, .string ⟨#[]⟩, .slice none 0 0, .bool false] 40 (0, 0)) := (setRow_other _ _ _ _ (by omega)).trans hB27
          have hc8 := hc7.row (cs := rcC s2 r2) hR7 (by decide) (by omega) (by omega)
          have hbw8 : Below w.heap.size w (w7.setRow R (rcC s2 r2)) := below_setRow hbw7 (by omega) _
          have hok8 := hok7.to hbw8 hargs2 (row_known (cs := rcC s2 r2) hR7 (by decide))
          have hA8 : SR (w7.setRow R (rcC s2 r2)) A5 ll := hA7.row hR7 (by decide)
          obtain ⟨w8, hw8⟩ : ∃ w8, w8 = w7.setRow R (rcC s2 r2) := ⟨_, rfl⟩
          rw [← hw8] at hR8 hB18 hB28 hc8 hbw8 hok8 hA8
          have hR9 : (w8.setRow (w3.heap.size + 1) (ofC f B9 ll.length c9)).heap[R]? = some (.cells (rcC s2 r2) 28 (0, 0)) := (setRow_other _ _ _ _ (by omega)).trans hR8
          have hB19 : (w8.setRow (w3.heap.size + 1) (ofC f B9 ll.length c9)).heap[w3.heap.size]? = some (.cells OUT 39 (0, 0)) := (setRow_other _ _ _ _ (by omega)).trans hB18
          have hB29 : (w8.setRow (w3.heap.size + 1) (ofC f B9 ll.length c9)).heap[w3.heap.size + 1]? = some (.cells (ofC f B9 ll.length c9) 40 (0, 0)) := setRow_heap _ _ _ _ _ _ hB28
          have hc9 := hc8.row (cs := ofC f B9 ll.length c9) hB28 (by decide) (by omega) (by omega)
          have hbw9 : Below w.heap.size w (w8.setRow (w3.heap.size + 1) (ofC f B9 ll.length c9)) := below_setRow hbw8 (by omega) _
          have hok9 := hok8.to hbw9 hargs2 (row_known (cs := ofC f B9 ll.length c9) hB28 (by decide))
          have hA9 : SR (w8.setRow (w3.heap.size + 1) (ofC f B9 ll.length c9)) A5 ll := hA8.row hB28 (by decide)
          obtain ⟨w9, hw9⟩ : ∃ w9, w9 = w8.setRow (w3.heap.size + 1) (ofC f B9 ll.length c9) := ⟨_, rfl⟩
          rw [← hw9] at hR9 hB19 hB29 hc9 hbw9 hok9 hA9
          have hone9 := of_one f B9 ll.length c9
          replace hw8 := Lib.hid hw8
          replace hw9 := Lib.hid hw9
          replace hR7 := Lib.hid hR7
          replace hB28 := Lib.hid hB28
          replace hR9 := Lib.hid hR9
          replace hB19 := Lib.hid hB19
          replace hB29 := Lib.hid hB29
          replace hc9 := Lib.hid hc9
          replace hbw9 := Lib.hid hbw9
          replace hok9 := Lib.hid hok9
          replace hA9 := Lib.hid hA9
          replace hone9 := Lib.hid hone9
          clear hR8 hB18 hc8 hbw8 hok8 hA8 hB17 hB27 hc7 hbw7 hA7 hok7 hb67 hRf
          go_wp2_with (first | ((with_reducible refine store_at (ty := 28) (x := .tmp 8) (y := .tmp 58) ?_); refine ⟨R, rcC s2 r2, 28, rcC s r, rfl, rfl, hR7.out, infoR, rfl, rc_one _ _ _ _ _ _ _ _ _, ?_⟩; rw [← hw8.out]) | ((with_reducible refine store_at (ty := 40) (x := .tmp 12) (y := .tmp 59) ?_); refine ⟨w3.heap.size + 1, ofC f B9 ll.length c9, 40, #[.int .i64 0, .int .i64 0, .int .i64 0, .int .i64 0, .int .i64 0, .string ⟨#[]⟩, .string ⟨#[]⟩, .slice none 0 0, .int .i64 0, .int .i64 0, .string ⟨#[]⟩, .slice none 0 0, .bool false, .int .i64 0, .bool false, .int .i64 0, .int .i64 0, .string ⟨#[]⟩, .slice none 0 0, .bool false], rfl, rfl, hB28.out, infoRO, rfl, hone9.out, ?_⟩; rw [← hw9.out]))
          have hl1 : w3.heap.size < w9.heap.size := (Array.getElem?_eq_some_iff.1 hB19.out).1
          have hl2 : w3.heap.size + 1 < w9.heap.size := (Array.getElem?_eq_some_iff.1 hB29.out).1
          have hlR : R < w9.heap.size := (Array.getElem?_eq_some_iff.1 hR9.out).1
          have hB1x : w9.heap[w3.heap.size]? = some (.cells (ofC f A5 ll.length c5) 39 (0, 0)) := by rw [← hO.out]; exact hB19.out
          have x0 : w9.cell? ⟨R, 0, none⟩ = some (.int .i64 s2.home) := by rw [cell_of_box hR9.out]; rfl
          have x1 : w9.cell? ⟨R, 1, none⟩ = some (.slice r2.kA r2.kl.length r2.kc) := by rw [cell_of_box hR9.out]; rfl
          have x2 : w9.cell? ⟨R, 2, none⟩ = some (.slice r2.aA s2.args.length r2.ac) := by rw [cell_of_box hR9.out]; rfl
          have x3 : w9.cell? ⟨R, 3, none⟩ = some (.int .i64 s2.num) := by rw [cell_of_box hR9.out]; rfl
          have x4 : w9.cell? ⟨R, 4, none⟩ = some (.int .i64 s2.bud) := by rw [cell_of_box hR9.out]; rfl
          replace x0 := Lib.hid x0
          replace x1 := Lib.hid x1
          replace x2 := Lib.hid x2
          replace x3 := Lib.hid x3
          replace x4 := Lib.hid x4
          have hll9 : ll.length ≤ 1000000 := by
            rcases hlla with h | h
            · rw [h]; omega
            · rw [h]; exact Nat.zero_le _
          obtain ⟨bz, hbz⟩ : ∃ bz, decide (0 < s2.args.length) = bz := ⟨_, rfl⟩
          have hbz2 : decide ((0 : Int) < (s2.args.length : Int)) = bz := by rw [← hbz, decide_eq_decide]; omega
          have hr0 : Below w9.heap.size w9 w9.drew := ⟨rfl, rfl, rfl, Nat.le_refl _, fun _ _ => rfl⟩
          refine wp_region_held_drew (S := fun W9 => Below w9.heap.size w9 W9) (by kernel_rfl) hr0 (fun _ => ?_)
          refine wpAnyH_take (i := 0) (oi := ⟨some 60, _, _, _, _, _⟩) (v := .agg (ofC f A5 ll.length c5)) rfl (by kernel_rfl) (by kernel_rfl) (by kernel_rfl) (fun _ _ _ h => h) (yields_row (by rfl) 39 (.tmp 11) rfl w3.heap.size rfl 39 (ofC f A5 ll.length c5) (0, 0) _ (fun W9 hW => (hW.block _ hl1).trans hB1x) Tryz.underlying39 rfl info32) hr0 ?_
          try simp only [Act.put, List.setIfInBounds_toArray, List.set_cons_zero, List.set_cons_succ]
          refine wpAnyH_take (i := 1) (oi := ⟨some 61, _, _, _, _, _⟩) (v := .agg (ofC f B9 ll.length c9)) rfl (by kernel_rfl) (by kernel_rfl) (by kernel_rfl) (fun _ _ _ h => h) (yields_row (by rfl) 40 (.tmp 12) rfl (w3.heap.size + 1) rfl 40 (ofC f B9 ll.length c9) (0, 0) _ (fun W9 hW => (hW.block _ hl2).trans hB29.out) Tryz.underlying40 rfl infoRO) hr0 ?_
          try simp only [Act.put, List.setIfInBounds_toArray, List.set_cons_zero, List.set_cons_succ]
          refine wpAnyH_ready (rs := [2]) (by kernel_rfl) (by simp) ?_
          refine AllReadyH.cons (o := ⟨some 62, _, _, _, _, _⟩) rfl (fun K hK => ?_) AllReadyH.nil
          go_simp
          have hbd := hbw9.out.trans (hr0.mono hbw9.out.size)
          refine (same_calls f.d f.k f.num f.ask f.rk f.ri f.send f.done f.rt f.rl nn A5 B9 c5 c9 ll hll9 _ (hA9.out.below hr0).1 hll (Kd.C_below hB9 hbd) hlc9 (RepsOk.below hbd nn _ hnn)).mono ?_
          rintro e w10 ⟨rfl, hb10⟩
          have hr1 := hr0.trans (hb10.mono hr0.size)
          refine hK.out _ _ hr1 (fun _ => ?_)
          clear hK K
          try simp only [Act.put, List.setIfInBounds_toArray, List.set_cons_zero, List.set_cons_succ]
          refine wpAnyH_take (i := 3) (oi := ⟨some 63, _, _, _, _, _⟩) (v := .bool false) rfl (by kernel_rfl) (by kernel_rfl) (by kernel_rfl) (fun _ _ _ h => h) (Or.inl ⟨by rfl, fun W9 hW => by go_simp⟩) hr1 ?_
          try simp only [Act.put, List.setIfInBounds_toArray, List.set_cons_zero, List.set_cons_succ]
          refine wpAnyH_take (i := 4) (oi := ⟨some 64, _, _, _, _, _⟩) (v := .bool false) rfl (by kernel_rfl) (by kernel_rfl) (by kernel_rfl) (fun _ _ _ h => h) (Or.inl ⟨by rfl, fun W9 hW => by go_simp⟩) hr1 ?_
          try simp only [Act.put, List.setIfInBounds_toArray, List.set_cons_zero, List.set_cons_succ]
          refine wpAnyH_take (i := 5) (oi := ⟨some 65, _, _, _, _, _⟩) (v := .pointer (some ⟨w.heap.size + 1, 0, none⟩)) rfl (by kernel_rfl) (by kernel_rfl) (by kernel_rfl) (fun _ _ _ h => h) (Or.inl ⟨by rfl, fun W9 hW => by go_simp⟩) hr1 ?_
          try simp only [Act.put, List.setIfInBounds_toArray, List.set_cons_zero, List.set_cons_succ]
          refine wpAnyH_take (i := 7) (oi := ⟨some 67, _, _, _, _, _⟩) (v := .pointer (some ⟨R, 2, none⟩)) rfl (by kernel_rfl) (by kernel_rfl) (by kernel_rfl) (fun _ _ _ h => h) (Or.inl ⟨by rfl, fun W9 hW => by go_simp⟩) hr1 ?_
          try simp only [Act.put, List.setIfInBounds_toArray, List.set_cons_zero, List.set_cons_succ]
          refine wpAnyH_take (i := 8) (oi := ⟨some 68, _, _, _, _, _⟩) (v := .slice r2.aA s2.args.length r2.ac) rfl (by kernel_rfl) (by kernel_rfl) (by kernel_rfl) (fun _ _ _ h => h) (Or.inl ⟨by rfl, fun W9 hW => by have q0 := (hW.cell (p := ⟨R, 0, none⟩) hlR).trans x0.out; have q1 := (hW.cell (p := ⟨R, 1, none⟩) hlR).trans x1.out; have q2 := (hW.cell (p := ⟨R, 2, none⟩) hlR).trans x2.out; have q3 := (hW.cell (p := ⟨R, 3, none⟩) hlR).trans x3.out; have q4 := (hW.cell (p := ⟨R, 4, none⟩) hlR).trans x4.out; go_simp⟩) hr1 ?_
          try simp only [Act.put, List.setIfInBounds_toArray, List.set_cons_zero, List.set_cons_succ]
          refine wpAnyH_take (i := 9) (oi := ⟨some 69, _, _, _, _, _⟩) (v := .int .i64 s2.args.length) rfl (by kernel_rfl) (by kernel_rfl) (by kernel_rfl) (fun _ _ _ h => h) (Or.inl ⟨by rfl, fun W9 hW => by go_simp⟩) hr1 ?_
          try simp only [Act.put, List.setIfInBounds_toArray, List.set_cons_zero, List.set_cons_succ]
          refine wpAnyH_take (i := 10) (oi := ⟨some 70, _, _, _, _, _⟩) (v := .bool bz) rfl (by kernel_rfl) (by kernel_rfl) (by kernel_rfl) (fun _ _ _ h => h) (Or.inl ⟨by rfl, fun W9 hW => by go_simp⟩) hr1 ?_
          try simp only [Act.put, List.setIfInBounds_toArray, List.set_cons_zero, List.set_cons_succ]
          refine wpAnyH_ready (rs := [6]) (by kernel_rfl) (by simp) ?_
          refine AllReadyH.cons (o := ⟨some 66, _, _, _, _, _⟩) rfl (fun K hK => ?_) AllReadyH.nil
          go_simp
          refine (Busy_calls w.heap.size (w.heap.size + 1) s2 w10 (hc9.out.below hr1)).mono ?_
          rintro e w11 ⟨rfl, rfl⟩
          rw [hbz]
          refine hK.out _ _ hr1 (fun _ => ?_)
          clear hK K
          try simp only [Act.put, List.setIfInBounds_toArray, List.set_cons_zero, List.set_cons_succ]
          refine wpAnyH_take (i := 11) (oi := ⟨some 71, _, _, _, _, _⟩) (v := .bool false) rfl (by kernel_rfl) (by kernel_rfl) (by kernel_rfl) (fun _ _ _ h => h) (Or.inl ⟨by rfl, fun W9 hW => by go_simp⟩) hr1 ?_
          try simp only [Act.put, List.setIfInBounds_toArray, List.set_cons_zero, List.set_cons_succ]
          refine wpAnyH_take (i := 12) (oi := ⟨some 72, _, _, _, _, _⟩) (v := .bool false) rfl (by kernel_rfl) (by kernel_rfl) (by kernel_rfl) (fun _ _ _ h => h) (Or.inl ⟨by rfl, fun W9 hW => by go_simp⟩) hr1 ?_
          try simp only [Act.put, List.setIfInBounds_toArray, List.set_cons_zero, List.set_cons_succ]
          refine wpAnyH_take (i := 13) (oi := ⟨some 73, _, _, _, _, _⟩) (v := .bool false) rfl (by kernel_rfl) (by kernel_rfl) (by kernel_rfl) (fun _ _ _ h => h) (Or.inl ⟨by rfl, fun W9 hW => by go_simp⟩) hr1 ?_
          try simp only [Act.put, List.setIfInBounds_toArray, List.set_cons_zero, List.set_cons_succ]
          refine wpAnyH_take (i := 14) (oi := ⟨some 74, _, _, _, _, _⟩) (v := .pointer (some ⟨w.heap.size + 1, 0, none⟩)) rfl (by kernel_rfl) (by kernel_rfl) (by kernel_rfl) (fun _ _ _ h => h) (Or.inl ⟨by rfl, fun W9 hW => by go_simp⟩) hr1 ?_
          try simp only [Act.put, List.setIfInBounds_toArray, List.set_cons_zero, List.set_cons_succ]
          refine wpAnyH_take (i := 15) (oi := ⟨some 75, _, _, _, _, _⟩) (v := .int .i64 slot) rfl (by kernel_rfl) (by kernel_rfl) (by kernel_rfl) (fun _ _ _ h => h) (Or.inl ⟨by rfl, fun W9 hW => by go_simp⟩) hr1 ?_
          try simp only [Act.put, List.setIfInBounds_toArray, List.set_cons_zero, List.set_cons_succ]
          refine wpAnyH_take (i := 17) (oi := ⟨some 77, _, _, _, _, _⟩) (v := .agg (rcC s2 r2)) rfl (by kernel_rfl) (by kernel_rfl) (by kernel_rfl) (fun _ _ _ h => h) (yields_row (by rfl) 28 (.tmp 8) rfl R rfl 28 (rcC s2 r2) (0, 0) _ (fun W9 hW => (hW.block _ hlR).trans hR9.out) Tryz.underlying28 rfl infoR) hr1 ?_
          try simp only [Act.put, List.setIfInBounds_toArray, List.set_cons_zero, List.set_cons_succ]
          refine wpAnyH_take (i := 18) (oi := ⟨some 78, _, _, _, _, _⟩) (v := .int .i64 slot) rfl (by kernel_rfl) (by kernel_rfl) (by kernel_rfl) (fun _ _ _ h => h) (Or.inl ⟨by rfl, fun W9 hW => by go_simp⟩) hr1 ?_
          try simp only [Act.put, List.setIfInBounds_toArray, List.set_cons_zero, List.set_cons_succ]
          refine wpAnyH_ready (rs := [16]) (by kernel_rfl) (by simp) ?_
          refine AllReadyH.cons (o := ⟨some 76, _, _, _, _, _⟩) rfl (fun K hK => ?_) AllReadyH.nil
          go_simp
          refine (Where_calls w.heap.size (w.heap.size + 1) s2 slot hsl w10 (hc9.out.below hr1)).mono ?_
          rintro e w11 ⟨rfl, rfl⟩
          refine hK.out _ _ hr1 (fun _ => ?_)
          clear hK K
          try simp only [Act.put, List.setIfInBounds_toArray, List.set_cons_zero, List.set_cons_succ]
          refine wpAnyH_ready (rs := [19]) (by kernel_rfl) (by simp) ?_
          refine AllReadyH.cons (o := ⟨some 79, _, _, _, _, _⟩) rfl (fun K hK => ?_) AllReadyH.nil
          go_simp
          refine (refWhere_calls s2 r2 slot w10 (hok9.out.below hr1) (by have h1 := hok9.out.few; have h2 := hfn.cnt; omega)).mono ?_
          rintro e w12 ⟨rfl, hb12⟩
          have hr2 := hr1.trans (hb12.mono hr1.size)
          refine hK.out _ _ hr2 (fun _ => ?_)
          clear hK K
          try simp only [Act.put, List.setIfInBounds_toArray, List.set_cons_zero, List.set_cons_succ]
          refine wpAnyH_take (i := 20) (oi := ⟨some 80, _, _, _, _, _⟩) (v := .bool false) rfl (by kernel_rfl) (by kernel_rfl) (by kernel_rfl) (fun _ _ _ h => h) (Or.inl ⟨by rfl, fun W9 hW => by go_simp⟩) hr2 ?_
          try simp only [Act.put, List.setIfInBounds_toArray, List.set_cons_zero, List.set_cons_succ]
          refine wpAnyH_take (i := 21) (oi := ⟨some 81, _, _, _, _, _⟩) (v := .bool false) rfl (by kernel_rfl) (by kernel_rfl) (by kernel_rfl) (fun _ _ _ h => h) (Or.inl ⟨by rfl, fun W9 hW => by go_simp⟩) hr2 ?_
          try simp only [Act.put, List.setIfInBounds_toArray, List.set_cons_zero, List.set_cons_succ]
          refine wpAnyH_take (i := 22) (oi := ⟨some 82, _, _, _, _, _⟩) (v := .bool false) rfl (by kernel_rfl) (by kernel_rfl) (by kernel_rfl) (fun _ _ _ h => h) (Or.inl ⟨by rfl, fun W9 hW => by go_simp⟩) hr2 ?_
          try simp only [Act.put, List.setIfInBounds_toArray, List.set_cons_zero, List.set_cons_succ]
          refine wpAnyH_take (i := 23) (oi := ⟨some 83, _, _, _, _, _⟩) (v := .pointer (some ⟨w.heap.size + 1, 0, none⟩)) rfl (by kernel_rfl) (by kernel_rfl) (by kernel_rfl) (fun _ _ _ h => h) (Or.inl ⟨by rfl, fun W9 hW => by go_simp⟩) hr2 ?_
          try simp only [Act.put, List.setIfInBounds_toArray, List.set_cons_zero, List.set_cons_succ]
          refine wpAnyH_take (i := 25) (oi := ⟨some 85, _, _, _, _, _⟩) (v := .agg (rcC s2 r2)) rfl (by kernel_rfl) (by kernel_rfl) (by kernel_rfl) (fun _ _ _ h => h) (yields_row (by rfl) 28 (.tmp 8) rfl R rfl 28 (rcC s2 r2) (0, 0) _ (fun W9 hW => (hW.block _ hlR).trans hR9.out) Tryz.underlying28 rfl infoR) hr2 ?_
          try simp only [Act.put, List.setIfInBounds_toArray, List.set_cons_zero, List.set_cons_succ]
          refine wpAnyH_ready (rs := [24]) (by kernel_rfl) (by simp) ?_
          refine AllReadyH.cons (o := ⟨some 84, _, _, _, _, _⟩) rfl (fun K hK => ?_) AllReadyH.nil
          go_simp
          refine (Where_calls w.heap.size (w.heap.size + 1) s2 12182 ⟨by decide, by decide⟩ w12 (hc9.out.below hr2)).mono ?_
          rintro e w13 ⟨rfl, rfl⟩
          refine hK.out _ _ hr2 (fun _ => ?_)
          clear hK K
          try simp only [Act.put, List.setIfInBounds_toArray, List.set_cons_zero, List.set_cons_succ]
          refine wpAnyH_ready (rs := [26]) (by kernel_rfl) (by simp) ?_
          refine AllReadyH.cons (o := ⟨some 86, _, _, _, _, _⟩) rfl (fun K hK => ?_) AllReadyH.nil
          go_simp
          refine (refWhere_calls s2 r2 12182 w12 (hok9.out.below hr2) (by have h1 := hok9.out.few; have h2 := hfn.cnt; omega)).mono ?_
          rintro e w14 ⟨rfl, hb14⟩
          have hr3 := hr2.trans (hb14.mono hr2.size)
          refine hK.out _ _ hr3 (fun _ => ?_)
          clear hK K
          try simp only [Act.put, List.setIfInBounds_toArray, List.set_cons_zero, List.set_cons_succ]
          refine wpAnyH_take (i := 27) (oi := ⟨some 87, _, _, _, _, _⟩) (v := .bool false) rfl (by kernel_rfl) (by kernel_rfl) (by kernel_rfl) (fun _ _ _ h => h) (Or.inl ⟨by rfl, fun W9 hW => by go_simp⟩) hr3 ?_
          try simp only [Act.put, List.setIfInBounds_toArray, List.set_cons_zero, List.set_cons_succ]
          refine wpAnyH_take (i := 28) (oi := ⟨some 88, _, _, _, _, _⟩) (v := .bool false) rfl (by kernel_rfl) (by kernel_rfl) (by kernel_rfl) (fun _ _ _ h => h) (Or.inl ⟨by rfl, fun W9 hW => by go_simp⟩) hr3 ?_
          try simp only [Act.put, List.setIfInBounds_toArray, List.set_cons_zero, List.set_cons_succ]
          refine wpAnyH_done (by kernel_rfl) ?_ _
          have hRf := (hr3.block R hlR).trans hR9.out
          have hcf := hc9.out.below hr3
          have hokf := hok9.out.below hr3
          have hbf := hbw9.out.trans (hr3.mono hbw9.out.size)
          go_wp2_with fail
          exact ⟨⟨i + 1, s2, r2, by omega, by go_num, hcf, hRf, hokf, hargs2, hl642, hfn, hbf⟩, by simp [intOf]; omega⟩
      · obtain rfl : i = l.length := by omega
        have hgo2 : decide ((l.length : Int) < (l.length : Int)) = false := decide_eq_false (by omega)
        go_wp2_with fail
        refine (alive_calls _ (hE.below hb)).mono ?_
        rintro e w4 ⟨rfl, hb4⟩
        have hb4' := hb.trans (hb4.mono hb.size)
        go_wp2_with fail
        go_ret
        exact ⟨rfl, hb4'⟩
end Go.Proofs.YtpbiohnmmngccaaGreatDoor
