/- SlotJoins: the slots of two sets put together are those of their ranges. Conditions: the listed variables as laid. -/
import Derived.Test.YtnlchdjknebmfaaDoorSlOp
set_option linter.unusedVariables false
set_option linter.unusedSimpArgs false
namespace Go.Proofs.YtnlchdjknebmfaaDoor
open Go.RowKit Go.Proofs.YtnlchdjknebmfaaDoorW.PrintWords
open SlS SlT
theorem or_lt64 {x y : Nat} (hx : x < 18446744073709551616) (hy : y < 18446744073709551616) : x ||| y < 18446744073709551616 := by
  have := Nat.or_lt_two_pow (n := 64) (by simpa using hx) (by simpa using hy)
  simpa using this
theorem hasN_both (f g : Nat → Nat) (n : Nat) : hasN (fun i => f i ||| g i) n = (hasN f n || hasN g n) := by
  unfold hasN
  rw [Nat.testBit_or]
/-- the words of both, as they stand behind k rounds -/
def mixW (f g : Nat → Nat) (k : Nat) : Nat → Nat := fun i => if i < k then f i ||| g i else f i
theorem mixW_lt {f g : Nat → Nat} (hf : ∀ i, f i < 18446744073709551616) (hg : ∀ i, g i < 18446744073709551616) (k i : Nat) : mixW f g k i < 18446744073709551616 := by
  unfold mixW
  split
  · exact or_lt64 (hf i) (hg i)
  · exact hf i
theorem mixW_zero (f g : Nat → Nat) : mixW f g 0 = f := by
  funext i; unfold mixW; rw [if_neg (by omega)]
theorem mix_set {a : Array Value} {f g : Nat → Nat} {k : Nat} (ha : Words a (mixW f g k)) (hf : ∀ i, f i < 18446744073709551616) (hg : ∀ i, g i < 18446744073709551616) (hk : k < 256) :
    Words (a.setIfInBounds k (.int .u64 ((f k ||| g k : Nat) : Int))) (mixW f g (k + 1)) := by
  have := ha.set k hk _ (or_lt64 (hf k) (hg k))
  have e : (fun w => if w = k then f k ||| g k else mixW f g k w) = mixW f g (k + 1) := by
    funext i; unfold mixW
    by_cases hi : i = k
    · subst hi; rw [if_pos rfl, if_pos (by omega)]
    · rw [if_neg hi]
      by_cases h2 : i < k
      · rw [if_pos h2, if_pos (by omega)]
      · rw [if_neg h2, if_neg (by omega)]
  rw [e] at this
  exact this
theorem intR_app (l r : List (Nat × Nat)) : intR (l ++ r) = intR l ++ intR r := by simp [intR]
theorem intR_len (l : List (Nat × Nat)) : (intR l).length = l.length := by simp [intR]
theorem setH_app (l r : List (Int × Int)) (n : Nat) : setH (l ++ r) n = (setH l n || setH r n) := by simp [setH]
theorem okR_app (l r : List (Int × Int)) : okR (l ++ r) = (okR l && okR r) := by simp [okR]
set_option maxRecDepth 100000 in
/-- Make upon the ranges of both: the words of both -/
theorem Make_both {d : Array Value} {f g : Nat → Nat} (hd : Words d (mixW f g 256)) (A : Option Addr) (c : Nat) (W : World) (h : RdR W A (intR (rngH (hasN f) ++ rngH (hasN g)))) :
    Calls Tryd.prog 22 #[.slice A ((rngH (hasN f)).length + (rngH (hasN g)).length : Nat) c] W fun e w' => e = .returned (.tuple #[.agg d, .int .i64 0]) ∧ Below W.heap.size W w' := by
  have hl1 := rng_len_le (hasN f)
  have hl2 := rng_len_le (hasN g)
  have hok : okR (intR (rngH (hasN f) ++ rngH (hasN g))) = true := by
    rw [intR_app, okR_app, okR_intR (rngH_ord _), okR_intR (rngH_ord _)]; rfl
  have hset : ∀ n, n < 16384 → setH (intR (rngH (hasN f) ++ rngH (hasN g))) n = (hasN f n || hasN g n) := fun n hn => by
    rw [intR_app, setH_app, setH_rng _ hn, setH_rng _ hn]
  have hmix : ∀ n, n < 16384 → hasN (mixW f g 256) n = (hasN f n || hasN g n) := fun n hn => by
    rw [← hasN_both]
    unfold hasN mixW
    rw [if_pos (by omega)]
  have he : (intR (rngH (hasN f) ++ rngH (hasN g))).length = (rngH (hasN f)).length + (rngH (hasN g)).length := by rw [intR_len, List.length_append]
  have := Make_calls (intR (rngH (hasN f) ++ rngH (hasN g))) A c (by omega) W h
  rw [he] at this
  refine this.mono fun e w' ⟨h1, h2⟩ => ⟨?_, h2⟩
  rw [hok, if_pos rfl] at h1
  obtain ⟨a', f', rfl, ha', hf'⟩ := h1
  rw [(words_ext hd ha' fun n hn => (hmix n hn).trans ((hf' n hn).trans (hset n hn)).symm).1]
theorem flatR_one (l : List (Nat × Nat)) : ∀ u ∈ flatR l, u.oneCell' = true := fun u hu => by
  unfold flatR at hu
  obtain ⟨p, -, h⟩ := List.mem_flatMap.1 hu
  exact two_int _ _ _ u h
theorem Bx.keepB {w W W2 : World} {g B : Nat} {a : Array Value} (h : Bx w g a W) (hb : Below B W W2) (hg : g < B) (hw : w.heap.size ≤ B) : Bx w g a W2 :=
  ⟨h.bel.trans (hb.mono hw), (hb.block _ hg).trans h.box, Nat.lt_of_lt_of_le h.lt hb.size⟩
/-- a row of ranges of the call's own -/
def Own (w : World) (v : Value) (rs : List (Nat × Nat)) (W : World) : Prop := ∃ base, W.ownsRow base 53 2 v rs.length (flatR rs) ∧ w.heap.size + 2 ≤ base ∧ base ≤ W.heap.size
theorem Own.keep {w W W2 : World} {v : Value} {rs : List (Nat × Nat)} (h : Own w v rs W) (hb : Below W.heap.size W W2) : Own w v rs W2 := by
  obtain ⟨base, h1, h2, h3⟩ := h
  refine ⟨base, h1.kept (row := none) ⟨hb.os, hb.tape, hb.output, hb.size, fun k hk _ => hb.block k hk⟩ ?_, h2, Nat.le_trans h3 hb.size⟩
  cases v.ownBlock with
  | none => exact .inl rfl
  | some k => exact .inr (by simp)
theorem Own.apart {w W : World} {v : Value} {rs : List (Nat × Nat)} (h : Own w v rs W) : v.ownBlock ≠ some W.heap.size := fun e => by
  obtain ⟨base, h1, h2, h3⟩ := h
  have := (h1.lt _ e).2
  omega
theorem own_post {w W W2 : World} {rs : List (Nat × Nat)} {e : Ending} (h : RgPost W rs e W2) (hw : w.heap.size + 2 ≤ W.heap.size) :
    ∃ A c, e = .returned (.slice A rs.length c) ∧ Own w (.slice A rs.length c) rs W2 ∧ Below W.heap.size W W2 ∧ ∀ q, q < W.heap.size → (Value.slice A rs.length c).ownBlock ≠ some q := by
  obtain ⟨v, rfl, hown, hb⟩ := h
  obtain ⟨A, c, rfl⟩ := own_slice hown
  exact ⟨A, c, rfl, ⟨_, hown, hw, hb.size⟩, hb, fun q hq e => by have := (hown.lt _ e).1; omega⟩
/-- one row of ranges set behind another: the first is the call's own -/
theorem wp_app {o : Oper} {a : Act} {w w0 : World} {K : Act → World → Prop} {Q : Exit → Act → World → Prop} (s x : Operand)
    (ho : o.op = .call { callee := .builtin .append, args := #[s, x], argTypes := #[35, 35] })
    (v v2 : Value) (r1 r2 : List (Nat × Nat)) (hs : a.eval s = v) (hx : a.eval x = v2) (h1 : Own w0 v r1 w) (h2 : Own w0 v2 r2 w)
    (hl1 : r1.length ≤ 16384) (hl2 : r2.length ≤ 16384)
    (h : ∀ A c w', RdR w' A (intR (r1 ++ r2)) → Below (w0.heap.size + 2) w w' → (∀ q, q < w.heap.size → v.ownBlock ≠ some q → w'.heap[q]? = w.heap[q]?) → K (a.put o.dst (.slice A (r1.length + r2.length) c)) w') : o.wp Tryd.prog a w K Q := by
  obtain ⟨i0, hi0, hz0, hz1, hz2⟩ := info_rng'
  obtain ⟨base, h1, hle, hbase⟩ := h1
  obtain ⟨base2, h2, -, -⟩ := h2
  have fin : ∀ v' w', w'.ownsRow base 53 2 v' (r1.length + r2.length) (flatR r1 ++ flatR r2) → Below base w w' → (∀ q, q < w.heap.size → v.ownBlock ≠ some q → w'.heap[q]? = w.heap[q]?) → K (a.put o.dst v') w' := fun v' w' hown hb hk => by
    obtain ⟨A, c, rfl⟩ := own_slice hown
    refine h A c w' ?_ (hb.mono hle) hk
    rw [← flatR_append, ← List.length_append] at hown
    exact rd_of_rng hown
  rcases h2.2 with ⟨rfl, hn⟩ | ⟨g2, cap2, cur2, rfl, -⟩
  · have hr := run_append_owned_none (P := Tryd.prog) (w := w) base 35 o.type 53 i0 2 Tryd.underlying35 hi0 v r1.length (flatR r1) h1
    have e0 : r2 = [] := List.length_eq_zero_iff.1 hn
    subst e0
    unfold Oper.wp execOp
    simp only [ho, resolve, invoke, builtin, Sem.run_bind, Sem.run_pure, Result.andThen_ok, List.map_toArray, List.map_cons, List.map_nil, hs, hx, hr]
    exact fin v w (by simpa [flatR] using h1) (Below.refl _ _) fun _ _ _ => rfl
  · refine wp_append_own w s x 35 ho base 53 i0 _ 2 16 Tryd.underlying35 hi0 hz0 hz1 hz2 rfl (by decide) v r1.length (flatR r1) hs h1 ⟨g2, 0, none⟩ r2.length cap2 (flatR r2) hx (flatR_len r2) (h2.cells (g := g2) rfl) (flatR_one r2) (by simp only [maxLen]; omega) (by omega) hbase ?_
    intro v' w' hown hgrow hh
    exact fin v' w' hown ((Below.refl _ _).grown hgrow hbase fun k hk => (h1.lt k hk).1) fun q hq hne => hgrow.block q hq (fun e => hne e.symm)
theorem stored {w W : World} {g1 g2 q : Nat} {a b z d : Array Value} (h1 : Bx w g1 a W) (h2 : Bx w g2 b W) (h3 : Bx w q z W) (hq : w.heap.size ≤ q ∧ g1 ≠ q ∧ g2 ≠ q) :
    Bx w g1 a (W.setRow q d) ∧ Bx w g2 b (W.setRow q d) ∧ Bx w q d (W.setRow q d) := by
  have hb : Below w.heap.size w (W.setRow q d) := below_setRow h1.bel hq.1 _
  have hs : (W.setRow q d).heap.size = W.heap.size := by simp [World.setRow]
  have e1 := h1.lt
  have e2 := h2.lt
  have e3 := h3.lt
  exact ⟨⟨hb, (setRow_other _ _ _ _ hq.2.1).trans h1.box, by omega⟩, ⟨hb, (setRow_other _ _ _ _ hq.2.2).trans h2.box, by omega⟩, ⟨hb, setRow_heap _ _ _ _ _ _ h3.box, by omega⟩⟩
set_option maxHeartbeats 4000000 in
set_option maxRecDepth 100000 in
theorem SlotJoins_with (a b : Array Value) (f g : Nat → Nat) (ha : Words a f) (hb : Words b g) (d : Array Value) (hd : Words d (mixW f g 256)) (w : World) (hE : Env w) : Calls Tryd.prog 12 #[.agg a, .agg b] w fun e w' => e = .returned (.bool true) ∧ Below w.heap.size w w' := by
  have hia : (Tryd.prog.info? 30).map (·.size) = some a.size := by rw [ha.size]; exact info30
  have hib : (Tryd.prog.info? 30).map (·.size) = some b.size := by rw [hb.size]; exact info30
  have hid : (Tryd.prog.info? 30).map (·.size) = some d.size := by rw [hd.size]; exact info30
  have hzd : Tryd.zeroCells30.size = d.size := by rw [hd.size]; exact zero_size
  have hod := hd.one
  have hR1 := fun W => Ranges_calls a f ha W
  have hR2 := fun W => Ranges_calls b g hb W
  change ∀ W, Calls Tryd.prog 21 #[Value.agg a] W (RgPost W (rngH (hasN f))) at hR1
  change ∀ W, Calls Tryd.prog 21 #[Value.agg b] W (RgPost W (rngH (hasN g))) at hR2
  have hl1 := rng_len_le (hasN f)
  have hl2 := rng_len_le (hasN g)
  have hM := fun W A c h => Make_both hd A c W h
  generalize rngH (hasN f) = rs1 at *
  generalize rngH (hasN g) = rs2 at *
  have hB : Bx w w.heap.size a ((w.alloc (.cells a 30)).alloc (.cells b 30)).drew ∧ Bx w (w.heap.size + 1) b ((w.alloc (.cells a 30)).alloc (.cells b 30)).drew :=
    ⟨((Bx.new w a).keep (below_new' _ _)).drew, (Bx.drew ⟨below_alloc (below_new' _ _) _, heap1 w _ _, by simp⟩)⟩
  go_enter Tryd.func12, Tryd.ntmps12
  go_wp2_with fail
  refine Code.wp_mono (Q := fun e a' W => e = .normal ∧ ∃ q v10 v12 v13, a' = { tmps := #[.agg a, .agg b, .pointer (some ⟨w.heap.size, 0, none⟩), .pointer (some ⟨w.heap.size + 1, 0, none⟩), .bool false, .pointer (some ⟨q, 0, none⟩), .int .i64 0, undef, .tuple #[.agg d, .int .i64 0], .agg a, v10, .agg b, v12, v13, .tuple #[.agg d, .int .i64 0], .agg d, .int .i64 0, undef, undef, undef, undef, undef, undef, undef, undef, undef, undef, undef, undef, undef, undef, undef, undef, undef, undef, undef, undef, undef, undef], defers := [] } ∧ Bx w w.heap.size a W ∧ Bx w (w.heap.size + 1) b W ∧ Bx w q d W ∧ w.heap.size + 1 < q) ?_ ?_
  · rintro e a' W ⟨rfl, q, v10, v12, v13, rfl, hA, hBb, hD, hq⟩
    clear hB hR1 hR2 hM hl1 hl2
    go_wp2_with fail
    go_loopw [7, 17] (fun _ i wr => ∃ (k : Nat) (a' : Array Value), k ≤ 256 ∧ i = .int .i64 k ∧ Words a' (mixW f g k) ∧ Bx w w.heap.size a' wr ∧ Bx w (w.heap.size + 1) b wr ∧ Bx w q d wr) (fun _ i _ => 256 - (intOf i).toNat)
    case atStart => exact ⟨0, a, by omega, rfl, by rw [mixW_zero]; exact ha, hA, hBb, hD⟩
    case round =>
      obtain ⟨k, a', hk, rfl, ha', hA', hB', hD'⟩ := hrel
      clear hA hBb hD
      by_cases hk2 : k < 256
      · have g1 := hA'.box
        have g2 := hB'.box
        have c1 : wr.cell? ⟨w.heap.size, k, none⟩ = some (.int .u64 (f k)) := by
          rw [cell_of_row wr _ k a' 30 (0, 0) g1, ha'.get k hk2]; unfold mixW; rw [if_neg (by omega)]
        have c2 : wr.cell? ⟨w.heap.size + 1, k, none⟩ = some (.int .u64 (g k)) := by
          rw [cell_of_row wr _ k b 30 (0, 0) g2]; exact hb.get k hk2
        have c3 : wr.frozen? ⟨w.heap.size, k, none⟩ = false := by simp [World.frozen?, g1]
        have hO := or64 (f k) (g k) (ha.lt k) (hb.lt k)
        have hw := mix_set ha' ha.lt hb.lt hk2
        have hgo : decide ((k : Int) < 256) = true := decide_eq_true (by omega)
        generalize f k ||| g k = D at *
        have hlt := hA'.lt
        have hbb := hA'.bel
        replace hA' := Lib.hid hA'
        replace hB' := Lib.hid hB'
        replace hD' := Lib.hid hD'
        clear g2
        go_wp2_with fail
        go_region
        go_wp2_with fail
        have hbs : Below w.heap.size w (wr.setCell ⟨w.heap.size, k, none⟩ (.int .u64 (D : Int))).drew := below_drew (below_set hbb (Nat.le_refl _))
        have hsz : (wr.setCell ⟨w.heap.size, k, none⟩ (.int .u64 (D : Int))).drew.heap.size = wr.heap.size := by simp
        have G1 := heap_setCell_same wr w.heap.size k a' 30 (.int .u64 (D : Int)) g1
        have G2 := (heap_setCell_other wr ⟨w.heap.size, k, none⟩ (w.heap.size + 1) (.int .u64 (D : Int)) (by simp)).trans hB'.out.box
        have G3 := (heap_setCell_other wr ⟨w.heap.size, k, none⟩ q (.int .u64 (D : Int)) (by simp; omega)).trans hD'.out.box
        exact ⟨⟨k + 1, _, by omega, by go_num, hw, ⟨hbs, G1, by rw [hsz]; exact hlt⟩, ⟨hbs, G2, by rw [hsz]; exact hB'.out.lt⟩, ⟨hbs, G3, by rw [hsz]; exact hD'.out.lt⟩⟩, by simp [intOf]; omega⟩
      · obtain rfl : k = 256 := by omega
        obtain rfl : a' = d := (words_ext ha' hd fun _ _ => rfl).1
        have hgo : decide (((256 : Nat) : Int) < 256) = false := by decide
        have hqq := fun W => eqlW hd hd W
        have hself : eqW (mixW f g 256) (mixW f g 256) = true := eqW_self fun _ _ => rfl
        rw [hself] at hqq
        clear hself
        go_wp2_with fail
        refine (alive_calls _ (hE.below hA'.bel)).mono ?_
        rintro e w6 ⟨rfl, hb6⟩
        have hA6 := hA'.keep hb6
        have hD6 := hD'.keep hb6
        clear hb6 hA' hB' hD'
        go_wp2_with (first | (refine wpList_load_row_g (by first | rfl | simp [Region.wanted, yielded]) 30 (.tmp 5) rfl q rfl 30 _ (0, 0) _ hD6.box Tryd.underlying30 rfl hid ?_) | (refine wpList_load_row_g (by first | rfl | simp [Region.wanted, yielded]) 30 (.tmp 2) rfl w.heap.size rfl 30 _ (0, 0) _ hA6.box Tryd.underlying30 rfl hid ?_))
        go_ret
        exact ⟨by simp, hA6.bel⟩
  refine wp_region_held_drew (S := fun W => Bx w w.heap.size a W ∧ Bx w (w.heap.size + 1) b W) (by kernel_rfl) hB (fun hHeld => ?_)
  clear hHeld
  generalize ((w.alloc (.cells a 30)).alloc (.cells b 30)).drew = v0 at *
  refine wpAnyH_take (i := 0) (oi := ⟨some 9, _, _, _, _, _⟩) (v := .agg a) rfl (by kernel_rfl) (by kernel_rfl) (by kernel_rfl) (fun _ _ _ h => by cases h.1) (yields_row (by rfl) 30 (.tmp 2) rfl (w.heap.size) rfl 30 a (0, 0) _ (fun W h => h.1.box) Tryd.underlying30 rfl hia) (by assumption) ?_
  try simp only [Act.put, List.setIfInBounds_toArray, List.set_cons_zero, List.set_cons_succ]
  refine wpAnyH_take (i := 2) (oi := ⟨some 11, _, _, _, _, _⟩) (v := .agg b) rfl (by kernel_rfl) (by kernel_rfl) (by kernel_rfl) (fun _ _ _ h => by cases h.1) (yields_row (by rfl) 30 (.tmp 3) rfl (w.heap.size + 1) rfl 30 b (0, 0) _ (fun W h => h.2.box) Tryd.underlying30 rfl hib) (by assumption) ?_
  try simp only [Act.put, List.setIfInBounds_toArray, List.set_cons_zero, List.set_cons_succ]
  refine wpAnyH_ready (rs := [1, 9]) (by kernel_rfl) (by simp) ?_
  refine AllReadyH.cons (o := ⟨some 10, _, _, _, _, _⟩) rfl (fun K hK => ?_) (AllReadyH.cons (o := ⟨some 5, _, _, _, _, _⟩) rfl (fun K hK => ?_) AllReadyH.nil)
  · go_simp
    refine (hR1 _).mono ?_
    rintro e v1 hp
    obtain ⟨A1, c1, rfl, hO1, hb, hap⟩ := own_post hp hB.2.lt
    clear hp
    have hB1 : Bx w w.heap.size a _ ∧ Bx w (w.heap.size + 1) b _ := ⟨hB.1.keep hb, hB.2.keep hb⟩
    clear hb hap
    go_wp2_with fail
    refine hK.out _ _ hB1 (fun hHeld => ?_)
    clear hHeld hK K
    try simp only [Act.put, List.setIfInBounds_toArray, List.set_cons_zero, List.set_cons_succ]
    refine wpAnyH_ready (rs := [3, 9]) (by kernel_rfl) (by simp) ?_
    refine AllReadyH.cons (o := ⟨some 12, _, _, _, _, _⟩) rfl (fun K hK => ?_) (AllReadyH.cons (o := ⟨some 5, _, _, _, _, _⟩) rfl (fun K hK => ?_) AllReadyH.nil)
    · go_simp
      refine (hR2 _).mono ?_
      rintro e v2 hp
      obtain ⟨A2, c2, rfl, hO2, hb, hap⟩ := own_post hp hB1.2.lt
      clear hp
      have hB2 : Bx w w.heap.size a _ ∧ Bx w (w.heap.size + 1) b _ := ⟨hB1.1.keep hb, hB1.2.keep hb⟩
      have hO2a := hO1.keep hb
      clear hb hap
      go_wp2_with fail
      refine hK.out _ _ hB2 (fun hHeld => ?_)
      clear hHeld hK K
      try simp only [Act.put, List.setIfInBounds_toArray, List.set_cons_zero, List.set_cons_succ]
      refine wpAnyH_ready (rs := [4, 9]) (by kernel_rfl) (by simp) ?_
      refine AllReadyH.cons (o := ⟨some 13, _, _, _, _, _⟩) rfl (fun K hK => ?_) (AllReadyH.cons (o := ⟨some 5, _, _, _, _, _⟩) rfl (fun K hK => ?_) AllReadyH.nil)
      · show Oper.wp Tryd.prog _ _ _ K _
        refine wp_app (.tmp 10) (.tmp 12) rfl _ _ _ _ rfl rfl hO2a hO2 hl1 hl2 ?_
        intro A3 c3 v3 hR3 hb hk
        have hB3 : Bx w w.heap.size a _ ∧ Bx w (w.heap.size + 1) b _ := ⟨hB2.1.keepB hb (by omega) (by omega), hB2.2.keepB hb (by omega) (by omega)⟩
        clear hb hk
        refine hK.out _ _ hB3 (fun hHeld => ?_)
        clear hHeld hK K
        try simp only [Act.put, List.setIfInBounds_toArray, List.set_cons_zero, List.set_cons_succ]
        refine wpAnyH_ready (rs := [5, 9]) (by kernel_rfl) (by simp) ?_
        refine AllReadyH.cons (o := ⟨some 14, _, _, _, _, _⟩) rfl (fun K hK => ?_) (AllReadyH.cons (o := ⟨some 5, _, _, _, _, _⟩) rfl (fun K hK => ?_) AllReadyH.nil)
        · go_simp
          refine (hM _ _ _ hR3).mono ?_
          rintro e v4 ⟨rfl, hb⟩
          have hB4 : Bx w w.heap.size a _ ∧ Bx w (w.heap.size + 1) b _ := ⟨hB3.1.keep hb, hB3.2.keep hb⟩
          clear hb
          go_wp2_with fail
          refine hK.out _ _ hB4 (fun hHeld => ?_)
          clear hHeld hK K
          try simp only [Act.put, List.setIfInBounds_toArray, List.set_cons_zero, List.set_cons_succ]
          refine wpAnyH_take (i := 6) (oi := ⟨some 8, _, _, _, _, _⟩) (v := .tuple #[.agg d, .int .i64 0]) rfl (by kernel_rfl) (by kernel_rfl) (by kernel_rfl) (fun _ _ _ h => by cases h.1) (Or.inl ⟨by rfl, fun W hW => by go_simp⟩) (by assumption) ?_
          try simp only [Act.put, List.setIfInBounds_toArray, List.set_cons_zero, List.set_cons_succ]
          refine wpAnyH_take (i := 7) (oi := ⟨some 15, _, _, _, _, _⟩) (v := .agg d) rfl (by kernel_rfl) (by kernel_rfl) (by kernel_rfl) (fun _ _ _ h => by cases h.1) (Or.inl ⟨by rfl, fun W hW => by go_simp⟩) (by assumption) ?_
          try simp only [Act.put, List.setIfInBounds_toArray, List.set_cons_zero, List.set_cons_succ]
          refine wpAnyH_take (i := 8) (oi := ⟨some 16, _, _, _, _, _⟩) (v := .int .i64 0) rfl (by kernel_rfl) (by kernel_rfl) (by kernel_rfl) (fun _ _ _ h => by cases h.1) (Or.inl ⟨by rfl, fun W hW => by go_simp⟩) (by assumption) ?_
          try simp only [Act.put, List.setIfInBounds_toArray, List.set_cons_zero, List.set_cons_succ]
          refine wpAnyH_ready (rs := [9]) (by kernel_rfl) (by simp) ?_
          refine AllReadyH.cons (o := ⟨some 5, _, _, _, _, _⟩) rfl (fun K hK => ?_) AllReadyH.nil
          go_simp
          have hb := below_new' v4 (.cells Tryd.zeroCells30 30)
          have hge := hB4.2.lt
          have hB5 : Bx w w.heap.size a _ ∧ Bx w (w.heap.size + 1) b _ := ⟨hB4.1.keep hb, hB4.2.keep hb⟩
          have hZ5 : Bx w v4.heap.size Tryd.zeroCells30 _ := ⟨hB5.1.bel, heapN v4 _, by simp⟩
          clear hb
          generalize v4.alloc (.cells Tryd.zeroCells30 30) = v5 at *
          refine hK.out _ _ hB5 (fun hHeld => ?_)
          clear hHeld hK K
          try simp only [Act.put, List.setIfInBounds_toArray, List.set_cons_zero, List.set_cons_succ]
          refine wpAnyH_ready (rs := [10]) (by kernel_rfl) (by simp) ?_
          refine AllReadyH.cons (o := ⟨none, _, _, _, _, _⟩) rfl (fun K hK => ?_) AllReadyH.nil
          show Oper.wp Tryd.prog _ _ _ K _
          refine wp_store_row 30 _ _ rfl _ d rfl rfl 30 Tryd.zeroCells30 hZ5.box hid hzd hod ?_
          obtain ⟨hB6a, hB6b, hZ6⟩ := stored hB5.1 hB5.2 hZ5 (d := d) (by omega)
          have hS := And.intro hB6a hB6b
          refine hK.out _ _ hS (fun hHeld => ?_)
          clear hHeld hK K
          try simp only [Act.put, List.setIfInBounds_toArray, List.set_cons_zero, List.set_cons_succ]
          refine wpAnyH_take (i := 11) (oi := ⟨some 6, _, _, _, _, _⟩) (v := .int .i64 0) rfl (by kernel_rfl) (by kernel_rfl) (by kernel_rfl) (fun _ _ _ h => by cases h.1) (Or.inl ⟨by rfl, fun W hW => by go_simp⟩) (by assumption) ?_
          try simp only [Act.put, List.setIfInBounds_toArray, List.set_cons_zero, List.set_cons_succ]
          refine wpAnyH_done (by kernel_rfl) ?_ _
          exact ⟨rfl, _, _, _, _, rfl, hB6a, hB6b, hZ6, hge⟩
        · go_simp
          have hb := below_new' v3 (.cells Tryd.zeroCells30 30)
          have hge := hB3.2.lt
          have hB7 : Bx w w.heap.size a _ ∧ Bx w (w.heap.size + 1) b _ := ⟨hB3.1.keep hb, hB3.2.keep hb⟩
          have hZ7 : Bx w v3.heap.size Tryd.zeroCells30 _ := ⟨hB7.1.bel, heapN v3 _, by simp⟩
          have hR7 := hR3.below hb
          clear hb
          generalize v3.alloc (.cells Tryd.zeroCells30 30) = v7 at *
          refine hK.out _ _ hB7 (fun hHeld => ?_)
          clear hHeld hK K
          try simp only [Act.put, List.setIfInBounds_toArray, List.set_cons_zero, List.set_cons_succ]
          refine wpAnyH_ready (rs := [5]) (by kernel_rfl) (by simp) ?_
          refine AllReadyH.cons (o := ⟨some 14, _, _, _, _, _⟩) rfl (fun K hK => ?_) AllReadyH.nil
          go_simp
          refine (hM _ _ _ hR7).mono ?_
          rintro e v8 ⟨rfl, hb⟩
          have hB8 : Bx w w.heap.size a _ ∧ Bx w (w.heap.size + 1) b _ := ⟨hB7.1.keep hb, hB7.2.keep hb⟩
          have hZ8 := hZ7.keep hb
          clear hb
          go_wp2_with fail
          refine hK.out _ _ hB8 (fun hHeld => ?_)
          clear hHeld hK K
          try simp only [Act.put, List.setIfInBounds_toArray, List.set_cons_zero, List.set_cons_succ]
          refine wpAnyH_take (i := 6) (oi := ⟨some 8, _, _, _, _, _⟩) (v := .tuple #[.agg d, .int .i64 0]) rfl (by kernel_rfl) (by kernel_rfl) (by kernel_rfl) (fun _ _ _ h => by cases h.1) (Or.inl ⟨by rfl, fun W hW => by go_simp⟩) (by assumption) ?_
          try simp only [Act.put, List.setIfInBounds_toArray, List.set_cons_zero, List.set_cons_succ]
          refine wpAnyH_take (i := 7) (oi := ⟨some 15, _, _, _, _, _⟩) (v := .agg d) rfl (by kernel_rfl) (by kernel_rfl) (by kernel_rfl) (fun _ _ _ h => by cases h.1) (Or.inl ⟨by rfl, fun W hW => by go_simp⟩) (by assumption) ?_
          try simp only [Act.put, List.setIfInBounds_toArray, List.set_cons_zero, List.set_cons_succ]
          refine wpAnyH_take (i := 8) (oi := ⟨some 16, _, _, _, _, _⟩) (v := .int .i64 0) rfl (by kernel_rfl) (by kernel_rfl) (by kernel_rfl) (fun _ _ _ h => by cases h.1) (Or.inl ⟨by rfl, fun W hW => by go_simp⟩) (by assumption) ?_
          try simp only [Act.put, List.setIfInBounds_toArray, List.set_cons_zero, List.set_cons_succ]
          refine wpAnyH_ready (rs := [10]) (by kernel_rfl) (by simp) ?_
          refine AllReadyH.cons (o := ⟨none, _, _, _, _, _⟩) rfl (fun K hK => ?_) AllReadyH.nil
          show Oper.wp Tryd.prog _ _ _ K _
          refine wp_store_row 30 _ _ rfl _ d rfl rfl 30 Tryd.zeroCells30 hZ8.box hid hzd hod ?_
          obtain ⟨hB9a, hB9b, hZ9⟩ := stored hB8.1 hB8.2 hZ8 (d := d) (by omega)
          have hS := And.intro hB9a hB9b
          refine hK.out _ _ hS (fun hHeld => ?_)
          clear hHeld hK K
          try simp only [Act.put, List.setIfInBounds_toArray, List.set_cons_zero, List.set_cons_succ]
          refine wpAnyH_take (i := 11) (oi := ⟨some 6, _, _, _, _, _⟩) (v := .int .i64 0) rfl (by kernel_rfl) (by kernel_rfl) (by kernel_rfl) (fun _ _ _ h => by cases h.1) (Or.inl ⟨by rfl, fun W hW => by go_simp⟩) (by assumption) ?_
          try simp only [Act.put, List.setIfInBounds_toArray, List.set_cons_zero, List.set_cons_succ]
          refine wpAnyH_done (by kernel_rfl) ?_ _
          exact ⟨rfl, _, _, _, _, rfl, hB9a, hB9b, hZ9, hge⟩
      · go_simp
        have hb := below_new' v2 (.cells Tryd.zeroCells30 30)
        have hge := hB2.2.lt
        have hB10 : Bx w w.heap.size a _ ∧ Bx w (w.heap.size + 1) b _ := ⟨hB2.1.keep hb, hB2.2.keep hb⟩
        have hZ10 : Bx w v2.heap.size Tryd.zeroCells30 _ := ⟨hB10.1.bel, heapN v2 _, by simp⟩
        have hA10 := hO2a.apart
        have hO10a := hO2a.keep hb
        have hO10b := hO2.keep hb
        clear hb
        generalize v2.alloc (.cells Tryd.zeroCells30 30) = v10 at *
        refine hK.out _ _ hB10 (fun hHeld => ?_)
        clear hHeld hK K
        try simp only [Act.put, List.setIfInBounds_toArray, List.set_cons_zero, List.set_cons_succ]
        refine wpAnyH_ready (rs := [4]) (by kernel_rfl) (by simp) ?_
        refine AllReadyH.cons (o := ⟨some 13, _, _, _, _, _⟩) rfl (fun K hK => ?_) AllReadyH.nil
        show Oper.wp Tryd.prog _ _ _ K _
        refine wp_app (.tmp 10) (.tmp 12) rfl _ _ _ _ rfl rfl hO10a hO10b hl1 hl2 ?_
        intro A11 c11 v11 hR11 hb hk
        have hB11 : Bx w w.heap.size a _ ∧ Bx w (w.heap.size + 1) b _ := ⟨hB10.1.keepB hb (by omega) (by omega), hB10.2.keepB hb (by omega) (by omega)⟩
        have hZ11 : Bx w _ Tryd.zeroCells30 _ := ⟨hZ10.bel.trans (hb.mono (by omega)), (hk _ hZ10.lt hA10).trans hZ10.box, Nat.lt_of_lt_of_le hZ10.lt hb.size⟩
        clear hb hk
        refine hK.out _ _ hB11 (fun hHeld => ?_)
        clear hHeld hK K
        try simp only [Act.put, List.setIfInBounds_toArray, List.set_cons_zero, List.set_cons_succ]
        refine wpAnyH_ready (rs := [5]) (by kernel_rfl) (by simp) ?_
        refine AllReadyH.cons (o := ⟨some 14, _, _, _, _, _⟩) rfl (fun K hK => ?_) AllReadyH.nil
        go_simp
        refine (hM _ _ _ hR11).mono ?_
        rintro e v12 ⟨rfl, hb⟩
        have hB12 : Bx w w.heap.size a _ ∧ Bx w (w.heap.size + 1) b _ := ⟨hB11.1.keep hb, hB11.2.keep hb⟩
        have hZ12 := hZ11.keep hb
        clear hb
        go_wp2_with fail
        refine hK.out _ _ hB12 (fun hHeld => ?_)
        clear hHeld hK K
        try simp only [Act.put, List.setIfInBounds_toArray, List.set_cons_zero, List.set_cons_succ]
        refine wpAnyH_take (i := 6) (oi := ⟨some 8, _, _, _, _, _⟩) (v := .tuple #[.agg d, .int .i64 0]) rfl (by kernel_rfl) (by kernel_rfl) (by kernel_rfl) (fun _ _ _ h => by cases h.1) (Or.inl ⟨by rfl, fun W hW => by go_simp⟩) (by assumption) ?_
        try simp only [Act.put, List.setIfInBounds_toArray, List.set_cons_zero, List.set_cons_succ]
        refine wpAnyH_take (i := 7) (oi := ⟨some 15, _, _, _, _, _⟩) (v := .agg d) rfl (by kernel_rfl) (by kernel_rfl) (by kernel_rfl) (fun _ _ _ h => by cases h.1) (Or.inl ⟨by rfl, fun W hW => by go_simp⟩) (by assumption) ?_
        try simp only [Act.put, List.setIfInBounds_toArray, List.set_cons_zero, List.set_cons_succ]
        refine wpAnyH_take (i := 8) (oi := ⟨some 16, _, _, _, _, _⟩) (v := .int .i64 0) rfl (by kernel_rfl) (by kernel_rfl) (by kernel_rfl) (fun _ _ _ h => by cases h.1) (Or.inl ⟨by rfl, fun W hW => by go_simp⟩) (by assumption) ?_
        try simp only [Act.put, List.setIfInBounds_toArray, List.set_cons_zero, List.set_cons_succ]
        refine wpAnyH_ready (rs := [10]) (by kernel_rfl) (by simp) ?_
        refine AllReadyH.cons (o := ⟨none, _, _, _, _, _⟩) rfl (fun K hK => ?_) AllReadyH.nil
        show Oper.wp Tryd.prog _ _ _ K _
        refine wp_store_row 30 _ _ rfl _ d rfl rfl 30 Tryd.zeroCells30 hZ12.box hid hzd hod ?_
        obtain ⟨hB13a, hB13b, hZ13⟩ := stored hB12.1 hB12.2 hZ12 (d := d) (by omega)
        have hS := And.intro hB13a hB13b
        refine hK.out _ _ hS (fun hHeld => ?_)
        clear hHeld hK K
        try simp only [Act.put, List.setIfInBounds_toArray, List.set_cons_zero, List.set_cons_succ]
        refine wpAnyH_take (i := 11) (oi := ⟨some 6, _, _, _, _, _⟩) (v := .int .i64 0) rfl (by kernel_rfl) (by kernel_rfl) (by kernel_rfl) (fun _ _ _ h => by cases h.1) (Or.inl ⟨by rfl, fun W hW => by go_simp⟩) (by assumption) ?_
        try simp only [Act.put, List.setIfInBounds_toArray, List.set_cons_zero, List.set_cons_succ]
        refine wpAnyH_done (by kernel_rfl) ?_ _
        exact ⟨rfl, _, _, _, _, rfl, hB13a, hB13b, hZ13, hge⟩
    · go_simp
      have hb := below_new' v1 (.cells Tryd.zeroCells30 30)
      have hge := hB1.2.lt
      have hB14 : Bx w w.heap.size a _ ∧ Bx w (w.heap.size + 1) b _ := ⟨hB1.1.keep hb, hB1.2.keep hb⟩
      have hZ14 : Bx w v1.heap.size Tryd.zeroCells30 _ := ⟨hB14.1.bel, heapN v1 _, by simp⟩
      have hA14 := hO1.apart
      have hO14a := hO1.keep hb
      clear hb
      generalize v1.alloc (.cells Tryd.zeroCells30 30) = v14 at *
      refine hK.out _ _ hB14 (fun hHeld => ?_)
      clear hHeld hK K
      try simp only [Act.put, List.setIfInBounds_toArray, List.set_cons_zero, List.set_cons_succ]
      refine wpAnyH_ready (rs := [3]) (by kernel_rfl) (by simp) ?_
      refine AllReadyH.cons (o := ⟨some 12, _, _, _, _, _⟩) rfl (fun K hK => ?_) AllReadyH.nil
      go_simp
      refine (hR2 _).mono ?_
      rintro e v15 hp
      obtain ⟨A15, c15, rfl, hO15, hb, hap⟩ := own_post hp hB14.2.lt
      clear hp
      have hB15 : Bx w w.heap.size a _ ∧ Bx w (w.heap.size + 1) b _ := ⟨hB14.1.keep hb, hB14.2.keep hb⟩
      have hZ15 := hZ14.keep hb
      have hO15a := hO14a.keep hb
      clear hb hap
      go_wp2_with fail
      refine hK.out _ _ hB15 (fun hHeld => ?_)
      clear hHeld hK K
      try simp only [Act.put, List.setIfInBounds_toArray, List.set_cons_zero, List.set_cons_succ]
      refine wpAnyH_ready (rs := [4]) (by kernel_rfl) (by simp) ?_
      refine AllReadyH.cons (o := ⟨some 13, _, _, _, _, _⟩) rfl (fun K hK => ?_) AllReadyH.nil
      show Oper.wp Tryd.prog _ _ _ K _
      refine wp_app (.tmp 10) (.tmp 12) rfl _ _ _ _ rfl rfl hO15a hO15 hl1 hl2 ?_
      intro A16 c16 v16 hR16 hb hk
      have hB16 : Bx w w.heap.size a _ ∧ Bx w (w.heap.size + 1) b _ := ⟨hB15.1.keepB hb (by omega) (by omega), hB15.2.keepB hb (by omega) (by omega)⟩
      have hZ16 : Bx w _ Tryd.zeroCells30 _ := ⟨hZ15.bel.trans (hb.mono (by omega)), (hk _ hZ15.lt hA14).trans hZ15.box, Nat.lt_of_lt_of_le hZ15.lt hb.size⟩
      clear hb hk
      refine hK.out _ _ hB16 (fun hHeld => ?_)
      clear hHeld hK K
      try simp only [Act.put, List.setIfInBounds_toArray, List.set_cons_zero, List.set_cons_succ]
      refine wpAnyH_ready (rs := [5]) (by kernel_rfl) (by simp) ?_
      refine AllReadyH.cons (o := ⟨some 14, _, _, _, _, _⟩) rfl (fun K hK => ?_) AllReadyH.nil
      go_simp
      refine (hM _ _ _ hR16).mono ?_
      rintro e v17 ⟨rfl, hb⟩
      have hB17 : Bx w w.heap.size a _ ∧ Bx w (w.heap.size + 1) b _ := ⟨hB16.1.keep hb, hB16.2.keep hb⟩
      have hZ17 := hZ16.keep hb
      clear hb
      go_wp2_with fail
      refine hK.out _ _ hB17 (fun hHeld => ?_)
      clear hHeld hK K
      try simp only [Act.put, List.setIfInBounds_toArray, List.set_cons_zero, List.set_cons_succ]
      refine wpAnyH_take (i := 6) (oi := ⟨some 8, _, _, _, _, _⟩) (v := .tuple #[.agg d, .int .i64 0]) rfl (by kernel_rfl) (by kernel_rfl) (by kernel_rfl) (fun _ _ _ h => by cases h.1) (Or.inl ⟨by rfl, fun W hW => by go_simp⟩) (by assumption) ?_
      try simp only [Act.put, List.setIfInBounds_toArray, List.set_cons_zero, List.set_cons_succ]
      refine wpAnyH_take (i := 7) (oi := ⟨some 15, _, _, _, _, _⟩) (v := .agg d) rfl (by kernel_rfl) (by kernel_rfl) (by kernel_rfl) (fun _ _ _ h => by cases h.1) (Or.inl ⟨by rfl, fun W hW => by go_simp⟩) (by assumption) ?_
      try simp only [Act.put, List.setIfInBounds_toArray, List.set_cons_zero, List.set_cons_succ]
      refine wpAnyH_take (i := 8) (oi := ⟨some 16, _, _, _, _, _⟩) (v := .int .i64 0) rfl (by kernel_rfl) (by kernel_rfl) (by kernel_rfl) (fun _ _ _ h => by cases h.1) (Or.inl ⟨by rfl, fun W hW => by go_simp⟩) (by assumption) ?_
      try simp only [Act.put, List.setIfInBounds_toArray, List.set_cons_zero, List.set_cons_succ]
      refine wpAnyH_ready (rs := [10]) (by kernel_rfl) (by simp) ?_
      refine AllReadyH.cons (o := ⟨none, _, _, _, _, _⟩) rfl (fun K hK => ?_) AllReadyH.nil
      show Oper.wp Tryd.prog _ _ _ K _
      refine wp_store_row 30 _ _ rfl _ d rfl rfl 30 Tryd.zeroCells30 hZ17.box hid hzd hod ?_
      obtain ⟨hB18a, hB18b, hZ18⟩ := stored hB17.1 hB17.2 hZ17 (d := d) (by omega)
      have hS := And.intro hB18a hB18b
      refine hK.out _ _ hS (fun hHeld => ?_)
      clear hHeld hK K
      try simp only [Act.put, List.setIfInBounds_toArray, List.set_cons_zero, List.set_cons_succ]
      refine wpAnyH_take (i := 11) (oi := ⟨some 6, _, _, _, _, _⟩) (v := .int .i64 0) rfl (by kernel_rfl) (by kernel_rfl) (by kernel_rfl) (fun _ _ _ h => by cases h.1) (Or.inl ⟨by rfl, fun W hW => by go_simp⟩) (by assumption) ?_
      try simp only [Act.put, List.setIfInBounds_toArray, List.set_cons_zero, List.set_cons_succ]
      refine wpAnyH_done (by kernel_rfl) ?_ _
      exact ⟨rfl, _, _, _, _, rfl, hB18a, hB18b, hZ18, hge⟩
  · go_simp
    have hb := below_new' v0 (.cells Tryd.zeroCells30 30)
    have hge := hB.2.lt
    have hB19 : Bx w w.heap.size a _ ∧ Bx w (w.heap.size + 1) b _ := ⟨hB.1.keep hb, hB.2.keep hb⟩
    have hZ19 : Bx w v0.heap.size Tryd.zeroCells30 _ := ⟨hB19.1.bel, heapN v0 _, by simp⟩
    clear hb
    generalize v0.alloc (.cells Tryd.zeroCells30 30) = v19 at *
    refine hK.out _ _ hB19 (fun hHeld => ?_)
    clear hHeld hK K
    try simp only [Act.put, List.setIfInBounds_toArray, List.set_cons_zero, List.set_cons_succ]
    refine wpAnyH_ready (rs := [1]) (by kernel_rfl) (by simp) ?_
    refine AllReadyH.cons (o := ⟨some 10, _, _, _, _, _⟩) rfl (fun K hK => ?_) AllReadyH.nil
    go_simp
    refine (hR1 _).mono ?_
    rintro e v20 hp
    obtain ⟨A20, c20, rfl, hO20, hb, hap⟩ := own_post hp hB19.2.lt
    clear hp
    have hB20 : Bx w w.heap.size a _ ∧ Bx w (w.heap.size + 1) b _ := ⟨hB19.1.keep hb, hB19.2.keep hb⟩
    have hA20 := hap _ hZ19.lt
    have hZ20 := hZ19.keep hb
    clear hb hap
    go_wp2_with fail
    refine hK.out _ _ hB20 (fun hHeld => ?_)
    clear hHeld hK K
    try simp only [Act.put, List.setIfInBounds_toArray, List.set_cons_zero, List.set_cons_succ]
    refine wpAnyH_ready (rs := [3]) (by kernel_rfl) (by simp) ?_
    refine AllReadyH.cons (o := ⟨some 12, _, _, _, _, _⟩) rfl (fun K hK => ?_) AllReadyH.nil
    go_simp
    refine (hR2 _).mono ?_
    rintro e v21 hp
    obtain ⟨A21, c21, rfl, hO21, hb, hap⟩ := own_post hp hB20.2.lt
    clear hp
    have hB21 : Bx w w.heap.size a _ ∧ Bx w (w.heap.size + 1) b _ := ⟨hB20.1.keep hb, hB20.2.keep hb⟩
    have hZ21 := hZ20.keep hb
    have hO21a := hO20.keep hb
    clear hb hap
    go_wp2_with fail
    refine hK.out _ _ hB21 (fun hHeld => ?_)
    clear hHeld hK K
    try simp only [Act.put, List.setIfInBounds_toArray, List.set_cons_zero, List.set_cons_succ]
    refine wpAnyH_ready (rs := [4]) (by kernel_rfl) (by simp) ?_
    refine AllReadyH.cons (o := ⟨some 13, _, _, _, _, _⟩) rfl (fun K hK => ?_) AllReadyH.nil
    show Oper.wp Tryd.prog _ _ _ K _
    refine wp_app (.tmp 10) (.tmp 12) rfl _ _ _ _ rfl rfl hO21a hO21 hl1 hl2 ?_
    intro A22 c22 v22 hR22 hb hk
    have hB22 : Bx w w.heap.size a _ ∧ Bx w (w.heap.size + 1) b _ := ⟨hB21.1.keepB hb (by omega) (by omega), hB21.2.keepB hb (by omega) (by omega)⟩
    have hZ22 : Bx w _ Tryd.zeroCells30 _ := ⟨hZ21.bel.trans (hb.mono (by omega)), (hk _ hZ21.lt hA20).trans hZ21.box, Nat.lt_of_lt_of_le hZ21.lt hb.size⟩
    clear hb hk
    refine hK.out _ _ hB22 (fun hHeld => ?_)
    clear hHeld hK K
    try simp only [Act.put, List.setIfInBounds_toArray, List.set_cons_zero, List.set_cons_succ]
    refine wpAnyH_ready (rs := [5]) (by kernel_rfl) (by simp) ?_
    refine AllReadyH.cons (o := ⟨some 14, _, _, _, _, _⟩) rfl (fun K hK => ?_) AllReadyH.nil
    go_simp
    refine (hM _ _ _ hR22).mono ?_
    rintro e v23 ⟨rfl, hb⟩
    have hB23 : Bx w w.heap.size a _ ∧ Bx w (w.heap.size + 1) b _ := ⟨hB22.1.keep hb, hB22.2.keep hb⟩
    have hZ23 := hZ22.keep hb
    clear hb
    go_wp2_with fail
    refine hK.out _ _ hB23 (fun hHeld => ?_)
    clear hHeld hK K
    try simp only [Act.put, List.setIfInBounds_toArray, List.set_cons_zero, List.set_cons_succ]
    refine wpAnyH_take (i := 6) (oi := ⟨some 8, _, _, _, _, _⟩) (v := .tuple #[.agg d, .int .i64 0]) rfl (by kernel_rfl) (by kernel_rfl) (by kernel_rfl) (fun _ _ _ h => by cases h.1) (Or.inl ⟨by rfl, fun W hW => by go_simp⟩) (by assumption) ?_
    try simp only [Act.put, List.setIfInBounds_toArray, List.set_cons_zero, List.set_cons_succ]
    refine wpAnyH_take (i := 7) (oi := ⟨some 15, _, _, _, _, _⟩) (v := .agg d) rfl (by kernel_rfl) (by kernel_rfl) (by kernel_rfl) (fun _ _ _ h => by cases h.1) (Or.inl ⟨by rfl, fun W hW => by go_simp⟩) (by assumption) ?_
    try simp only [Act.put, List.setIfInBounds_toArray, List.set_cons_zero, List.set_cons_succ]
    refine wpAnyH_take (i := 8) (oi := ⟨some 16, _, _, _, _, _⟩) (v := .int .i64 0) rfl (by kernel_rfl) (by kernel_rfl) (by kernel_rfl) (fun _ _ _ h => by cases h.1) (Or.inl ⟨by rfl, fun W hW => by go_simp⟩) (by assumption) ?_
    try simp only [Act.put, List.setIfInBounds_toArray, List.set_cons_zero, List.set_cons_succ]
    refine wpAnyH_ready (rs := [10]) (by kernel_rfl) (by simp) ?_
    refine AllReadyH.cons (o := ⟨none, _, _, _, _, _⟩) rfl (fun K hK => ?_) AllReadyH.nil
    show Oper.wp Tryd.prog _ _ _ K _
    refine wp_store_row 30 _ _ rfl _ d rfl rfl 30 Tryd.zeroCells30 hZ23.box hid hzd hod ?_
    obtain ⟨hB24a, hB24b, hZ24⟩ := stored hB23.1 hB23.2 hZ23 (d := d) (by omega)
    have hS := And.intro hB24a hB24b
    refine hK.out _ _ hS (fun hHeld => ?_)
    clear hHeld hK K
    try simp only [Act.put, List.setIfInBounds_toArray, List.set_cons_zero, List.set_cons_succ]
    refine wpAnyH_take (i := 11) (oi := ⟨some 6, _, _, _, _, _⟩) (v := .int .i64 0) rfl (by kernel_rfl) (by kernel_rfl) (by kernel_rfl) (fun _ _ _ h => by cases h.1) (Or.inl ⟨by rfl, fun W hW => by go_simp⟩) (by assumption) ?_
    try simp only [Act.put, List.setIfInBounds_toArray, List.set_cons_zero, List.set_cons_succ]
    refine wpAnyH_done (by kernel_rfl) ?_ _
    exact ⟨rfl, _, _, _, _, rfl, hB24a, hB24b, hZ24, hge⟩
theorem words_ex (f : Nat → Nat) (h : ∀ i, f i < 18446744073709551616) : ∃ d, Words d f :=
  ⟨((List.range 256).map fun i => Value.int .u64 (f i)).toArray, by simp, fun i hi => by simp [hi], h⟩
theorem SlotJoins_walk (a : Array Value) (f : Nat → Nat) (b : Array Value) (g : Nat → Nat) (ha : Words a f) (hb : Words b g) (w : World) (hE : Env w) : Calls Tryd.prog 12 #[.agg a, .agg b] w fun e w' => e = .returned (.bool true) ∧ Below w.heap.size w w' := by
  obtain ⟨d, hd⟩ := words_ex (mixW f g 256) (mixW_lt ha.lt hb.lt 256)
  exact SlotJoins_with a b f g ha hb d hd w hE
end Go.Proofs.YtnlchdjknebmfaaDoor
