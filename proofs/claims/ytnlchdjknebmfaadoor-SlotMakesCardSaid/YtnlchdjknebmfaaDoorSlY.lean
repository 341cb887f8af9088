/- Statements over sets of slots and over ranges. Conditions: the listed variables as laid. -/
import Derived.Test.YtnlchdjknebmfaaDoorSlV
set_option linter.unusedVariables false
set_option linter.unusedSimpArgs false
namespace Go.Proofs.YtnlchdjknebmfaaDoor
open Go.RowKit Go.Proofs.YtnlchdjknebmfaaDoorW.PrintWords
open SlS SlT
/-- a box of slots, and what lies below -/
structure Bx (w : World) (g : Nat) (a : Array Value) (W : World) : Prop where
  bel : Below w.heap.size w W
  box : W.heap[g]? = some (.cells a 30 (0, 0))
  lt : g < W.heap.size
theorem Bx.keep {w W W2 : World} {g : Nat} {a : Array Value} (h : Bx w g a W) (hb : Below W.heap.size W W2) : Bx w g a W2 :=
  ⟨h.bel.trans (hb.mono h.bel.size), (hb.block _ h.lt).trans h.box, Nat.lt_of_lt_of_le h.lt hb.size⟩
theorem Bx.new (w : World) (a : Array Value) : Bx w w.heap.size a (w.alloc (.cells a 30)) := ⟨below_new' w _, heapN w _, by simp⟩
/-- a second box, just laid -/
theorem Bx.next {w W : World} {g : Nat} {a b : Array Value} (h : Bx w g a W) : Bx w g a ((W.alloc (.cells Tryd.zeroCells30 30)).setRow W.heap.size b) ∧ Bx w W.heap.size b ((W.alloc (.cells Tryd.zeroCells30 30)).setRow W.heap.size b) := by
  have hl : W.heap.size < ((W.alloc (.cells Tryd.zeroCells30 30)).setRow W.heap.size b).heap.size := by simp [World.setRow]
  have hb : Below w.heap.size w ((W.alloc (.cells Tryd.zeroCells30 30)).setRow W.heap.size b) := below_setRow (h.bel.trans ((below_new' W _).mono h.bel.size)) h.bel.size _
  have hlt := h.lt
  exact ⟨⟨hb, (setRow_other _ _ _ _ (by omega)).trans (((below_new' W _).block _ h.lt).trans h.box), by omega⟩, ⟨hb, setRow_heap _ _ _ _ _ _ (heapN W _), hl⟩⟩
set_option maxHeartbeats 2000000 in
set_option maxRecDepth 100000 in
theorem SlotPrints_walk (a : Array Value) (f : Nat → Nat) (ha : Words a f) (w : World) (hE : Env w) : Calls Tryd.prog 9 #[.agg a] w fun e w' => e = .returned (.bool true) ∧ Below w.heap.size w w' := by
  have hia : (Tryd.prog.info? 30).map (·.size) = some a.size := by rw [ha.size]; exact info30
  have hza : Tryd.zeroCells30.size = a.size := by rw [ha.size]; exact zero_size
  have ho := ha.one
  have hP := fun W h => Print_calls a f ha W h
  have hR := fun W => refPrint_calls a f ha W
  have hlen := printH_len (hasN f)
  have hQ := fun W h => Parse_calls ⟨(printH (hasN f)).toArray⟩ (by rw [size_mk]; omega) W h
  have e0 : (⟨(printH (hasN f)).toArray⟩ : ByteArray).data.toList = printH (hasN f) := rfl
  rw [e0] at hQ
  have hQ2 : ∀ W, Env W → Calls Tryd.prog 27 #[.string ⟨(printH (hasN f)).toArray⟩] W fun e w' => e = .returned (.tuple #[.agg a, .int .i64 0]) ∧ Below W.heap.size W w' := fun W h => (hQ W h).mono fun e w' ⟨h1, h2⟩ => ⟨by
    rcases h1 with ⟨a', f', rfl, ha', hf'⟩ | ⟨hno, -⟩
    · rw [(words_ext ha ha' fun n hn => printH_inj hf'.symm hn).1]
    · exact absurd rfl (hno _), h2⟩
  clear hQ e0 hlen
  generalize (⟨(printH (hasN f)).toArray⟩ : ByteArray) = T at *
  have hcmp : (T.toList == T.toList) = true := by simp
  have hq := fun W => eqlW ha ha W
  have hself : eqW f f = true := eqW_self fun _ _ => rfl
  rw [hself] at hq
  clear hself
  have hB := Bx.new w a
  go_enter Tryd.func9, Tryd.ntmps9
  go_wp2_with (refine wpList_load_row rfl 30 _ rfl w.heap.size rfl 30 a (0, 0) _ hB.box Tryd.underlying30 rfl hia ?_)
  refine (hP _ (hE.below hB.bel)).mono ?_
  rintro e w1 ⟨rfl, hb1⟩
  have hB1 := hB.keep hb1
  clear hb1 hB hP
  go_wp2_with fail
  refine (hQ2 _ (hE.below hB1.bel)).mono ?_
  rintro e w2 ⟨rfl, hb2⟩
  have hB2 := hB1.keep hb2
  obtain ⟨hB3, hC3⟩ := hB2.next (b := a)
  clear hb2 hB1 hQ2
  go_wp2_with (refine wpList_store_row rfl 30 _ _ rfl (w2.heap.size) a rfl rfl 30 Tryd.zeroCells30 (heapN w2 _) hia hza ho ?_)
  refine (alive_calls _ (hE.below hB3.bel)).mono ?_
  rintro e w4 ⟨rfl, hb4⟩
  have hB4 := hB3.keep hb4
  have hC4 := hC3.keep hb4
  clear hb4 hB3 hC3 hB2
  go_wp2_with (refine wpList_load_row_g (by first | rfl | simp [Region.wanted, yielded]) 30 _ rfl w.heap.size rfl 30 a (0, 0) _ hB4.box Tryd.underlying30 rfl hia ?_)
  refine (hR _).mono ?_
  rintro e w5 ⟨rfl, hb5⟩
  have hB5 := hB4.keep hb5
  have hC5 := hC4.keep hb5
  clear hb5 hB4 hC4
  go_wp2_with (first | (refine wpList_load_row_g (by first | rfl | simp [Region.wanted, yielded]) 30 (.tmp 4) rfl w2.heap.size rfl 30 a (0, 0) _ hC5.box Tryd.underlying30 rfl hia ?_) | (refine wpList_load_row_g (by first | rfl | simp [Region.wanted, yielded]) 30 (.tmp 1) rfl w.heap.size rfl 30 a (0, 0) _ hB5.box Tryd.underlying30 rfl hia ?_))
  go_ret
  exact ⟨by simp, hB5.bel⟩
set_option maxHeartbeats 2000000 in
set_option maxRecDepth 100000 in
theorem SlotMakes_walk (l : List (Int × Int)) (A : Option Addr) (c : Nat) (hlen : l.length ≤ 9223372036854775807) (w : World) (hRd : RdR w A l) (hE : Env w) : Calls Tryd.prog 8 #[.slice A l.length c] w fun e w' => e = .returned (.bool true) ∧ Below w.heap.size w w' := by
  by_cases hlong : 300 < l.length
  · have h1 : (300 : Int) < (l.length : Int) := by omega
    have h2 : decide (300 < l.length) = true := decide_eq_true hlong
    clear hRd
    go_enter Tryd.func8, Tryd.ntmps8
    go_wp2_with fail
    refine (alive_calls _ hE).mono ?_
    rintro e w1 ⟨rfl, hb1⟩
    go_wp2_with fail
    go_ret
    exact ⟨rfl, hb1⟩
  · have h1 : ¬ (300 : Int) < (l.length : Int) := by omega
    have h2 : decide (300 < l.length) = false := decide_eq_false hlong
    have hlen2 : l.length ≤ 9223372036854775806 := by omega
    have hM := fun W (hW : Below w.heap.size w W) => Make_calls l A c hlen2 W (hRd.below hW)
    have hR := fun W (hW : Below w.heap.size w W) => refMake_calls l A c hlen2 W (hRd.below hW)
    clear hRd
    go_enter Tryd.func8, Tryd.ntmps8
    go_wp2_with fail
    refine (hM _ (Below.refl _ _)).mono ?_
    rintro e w1 ⟨h, hb1⟩
    have key : ∃ a f k, e = .returned (.tuple #[.agg a, .int .i64 k]) ∧ Words a f ∧ (∀ W, Below w.heap.size w W → Calls Tryd.prog 25 #[.slice A l.length c] W fun e w' => e = .returned (.tuple #[.agg a, .int .i64 k]) ∧ Below W.heap.size W w') := by
      cases hok : okR l with
      | false =>
        rw [hok, if_neg (by decide)] at h
        refine ⟨_, _, 20, h, zero_words, fun W hW => (hR W hW).mono fun e w' ⟨h1, h2⟩ => ⟨?_, h2⟩⟩
        rw [hok, if_neg (by decide)] at h1; exact h1
      | true =>
        rw [hok, if_pos rfl] at h
        obtain ⟨a, f, rfl, ha, hf⟩ := h
        refine ⟨a, f, 0, rfl, ha, fun W hW => (hR W hW).mono fun e w' ⟨h1, h2⟩ => ⟨?_, h2⟩⟩
        rw [hok, if_pos rfl] at h1
        obtain ⟨a', f', rfl, ha', hf'⟩ := h1
        rw [(words_ext ha ha' fun n hn => (hf n hn).trans (hf' n hn).symm).1]
    obtain ⟨a, f, k, rfl, ha, hR2⟩ := key
    clear h hM hR
    have hia : (Tryd.prog.info? 30).map (·.size) = some a.size := by rw [ha.size]; exact info30
    have hza : Tryd.zeroCells30.size = a.size := by rw [ha.size]; exact zero_size
    have ho := ha.one
    have hq := fun W => eqlW ha ha W
    have hself : eqW f f = true := eqW_self fun _ _ => rfl
    rw [hself] at hq
    clear hself
    have hB1 : Bx w w1.heap.size a ((w1.alloc (.cells Tryd.zeroCells30 30)).setRow w1.heap.size a) :=
      ⟨below_setRow (hb1.trans ((below_new' w1 _).mono hb1.size)) hb1.size _, setRow_heap _ _ _ _ _ _ (heapN w1 _), by simp [World.setRow]⟩
    clear hb1
    go_wp2_with (refine wpList_store_row rfl 30 _ _ rfl (w1.heap.size) a rfl rfl 30 Tryd.zeroCells30 (heapN w1 _) hia hza ho ?_)
    refine (hR2 _ hB1.bel).mono ?_
    rintro e w2 ⟨rfl, hb2⟩
    have hB2 := hB1.keep hb2
    obtain ⟨hB3, hC3⟩ := hB2.next (b := a)
    clear hb2 hB1 hR2
    go_wp2_with (refine wpList_store_row rfl 30 _ _ rfl (w2.heap.size) a rfl rfl 30 Tryd.zeroCells30 (heapN w2 _) hia hza ho ?_)
    refine (alive_calls _ (hE.below hB3.bel)).mono ?_
    rintro e w4 ⟨rfl, hb4⟩
    have hB4 := hB3.keep hb4
    have hC4 := hC3.keep hb4
    clear hb4 hB3 hC3 hB2
    go_wp2_with (first | (refine wpList_load_row_g (by first | rfl | simp [Region.wanted, yielded]) 30 (.tmp 3) rfl w1.heap.size rfl 30 a (0, 0) _ hB4.box Tryd.underlying30 rfl hia ?_) | (refine wpList_load_row_g (by first | rfl | simp [Region.wanted, yielded]) 30 (.tmp 5) rfl w2.heap.size rfl 30 a (0, 0) _ hC4.box Tryd.underlying30 rfl hia ?_))
    go_ret
    exact ⟨by simp, hB4.bel⟩
set_option maxHeartbeats 2000000 in
theorem Same_calls (A B : Option Addr) (c d : Nat) (rs : List (Nat × Nat)) (w : World) (hlen : rs.length ≤ 16384) (hA : RdR w A (intR rs)) (hB : RdR w B (intR rs)) :
    Calls Tryd.prog 23 #[.slice A rs.length c, .slice B rs.length d] w fun e w' => e = .returned (.bool true) ∧ Below w.heap.size w w' := by
  go_enter Tryd.func23, Tryd.ntmps23
  go_wp2_with fail
  go_loopw [5] (fun i wr => ∃ k : Nat, k ≤ rs.length ∧ i = .int .i64 k ∧ Below w.heap.size w wr) (fun i _ => rs.length - (intOf i).toNat)
  case atStart => exact ⟨0, by omega, rfl, Below.refl _ _⟩
  case round =>
    obtain ⟨k, hk, rfl, hb⟩ := hrel
    by_cases hkl : k < rs.length
    · obtain ⟨p, hp⟩ : ∃ p, (intR rs)[k]? = some p := ⟨(intR rs)[k]'(by rw [rngs_I]; exact hkl), List.getElem?_eq_getElem _⟩
      obtain ⟨g, o, rfl, hg, c1, c2⟩ := hA k p hp
      obtain ⟨g', o', rfl, hg', d1, d2⟩ := hB k p hp
      have c1 := (hb.cell (p := ⟨g, o + k * 2, none⟩) hg).trans c1
      have c2 := (hb.cell (p := ⟨g, o + k * 2 + 1, none⟩) hg).trans c2
      have d1 := (hb.cell (p := ⟨g', o' + k * 2, none⟩) hg').trans d1
      have d2 := (hb.cell (p := ⟨g', o' + k * 2 + 1, none⟩) hg').trans d2
      obtain ⟨p1, p2⟩ := p
      have hgo : decide ((k : Int) < (rs.length : Int)) = true := decide_eq_true (by omega)
      have k0 : (0 : Int) ≤ (k : Int) := by omega
      have k1 : (k : Int) < (rs.length : Int) := by omega
      clear hA hB
      simp only at c1 c2 d1 d2
      go_wp2_with fail
      go_quiet (fail)
      go_wp2_with fail
      case roundEnd => exact ⟨⟨k + 1, by omega, by go_num, below_drewN hb nq⟩, by simp [intOf]; omega⟩
    · obtain rfl : k = rs.length := by omega
      have hgo : decide ((rs.length : Int) < (rs.length : Int)) = false := decide_eq_false (by omega)
      go_wp2_with fail
      go_ret
      exact ⟨rfl, hb⟩
set_option maxHeartbeats 2000000 in
set_option maxRecDepth 100000 in
theorem SlotRanges_walk (a : Array Value) (f : Nat → Nat) (ha : Words a f) (w : World) (hE : Env w) : Calls Tryd.prog 7 #[.agg a] w fun e w' => e = .returned (.bool true) ∧ Below w.heap.size w w' := by
  have hia : (Tryd.prog.info? 30).map (·.size) = some a.size := by rw [ha.size]; exact info30
  have hza : Tryd.zeroCells30.size = a.size := by rw [ha.size]; exact zero_size
  have ho := ha.one
  have hR := fun W => Ranges_calls a f ha W
  have hF := fun W => refRanges_calls a f ha W
  change ∀ W, Calls Tryd.prog 21 #[Value.agg a] W (RgPost W (rngH (hasN f))) at hR
  change ∀ W, Calls Tryd.prog 24 #[Value.agg a] W (RgPost W (rngH (hasN f))) at hF
  have hrl := rng_len_le (hasN f)
  have hok := okR_intR (rngH_ord (hasN f))
  have hset : ∀ n, n < 16384 → setH (intR (rngH (hasN f))) n = hasN f n := fun n hn => setH_rng _ hn
  generalize rngH (hasN f) = rs at *
  have hM : ∀ W A c, RdR W A (intR rs) → Calls Tryd.prog 22 #[.slice A rs.length c] W fun e w' => e = .returned (.tuple #[.agg a, .int .i64 0]) ∧ Below W.heap.size W w' := fun W A c h => by
    have := Make_calls (intR rs) A c (by rw [rngs_I]; omega) W h
    rw [rngs_I] at this
    refine this.mono fun e w' ⟨h1, h2⟩ => ⟨?_, h2⟩
    rw [hok, if_pos rfl] at h1
    obtain ⟨a', f', rfl, ha', hf'⟩ := h1
    rw [(words_ext ha ha' fun n hn => ((hf' n hn).trans (hset n hn)).symm).1]
  clear hok hset
  have hq := fun W => eqlW ha ha W
  have hself : eqW f f = true := eqW_self fun _ _ => rfl
  rw [hself] at hq
  clear hself
  have hB := Bx.new w a
  go_enter Tryd.func7, Tryd.ntmps7
  go_wp2_with (refine wpList_load_row rfl 30 _ rfl w.heap.size rfl 30 a (0, 0) _ hB.box Tryd.underlying30 rfl hia ?_)
  refine (hR _).mono ?_
  rintro e w1 ⟨v, rfl, hown, hb1⟩
  obtain ⟨A, c, rfl⟩ := own_slice hown
  have hB1 := hB.keep hb1
  have hRd1 := rd_of_rng hown
  clear hb1 hB hR hown
  go_wp2_with fail
  refine (hM _ _ _ hRd1).mono ?_
  rintro e w2 ⟨rfl, hb2⟩
  have hB2 := hB1.keep hb2
  have hRd2 := hRd1.below hb2
  obtain ⟨hB3, hC3⟩ := hB2.next (b := a)
  have hRd3 := hRd2.below (show Below w2.heap.size w2 ((w2.alloc (.cells Tryd.zeroCells30 30)).setRow w2.heap.size a) from below_setRow (below_new' w2 _) (Nat.le_refl _) _)
  clear hb2 hB1 hM hRd1 hRd2
  replace hRd3 := Lib.hid hRd3
  go_wp2_with (refine wpList_store_row rfl 30 _ _ rfl (w2.heap.size) a rfl rfl 30 Tryd.zeroCells30 (heapN w2 _) hia hza ho ?_)
  refine (alive_calls _ (hE.below hB3.bel)).mono ?_
  rintro e w4 ⟨rfl, hb4⟩
  have hB4 := hB3.keep hb4
  have hC4 := hC3.keep hb4
  have hRd4 := hRd3.out.below hb4
  replace hRd4 := Lib.hid hRd4
  clear hb4 hB3 hC3 hB2 hRd3
  go_wp2_with (refine wpList_load_row_g (by first | rfl | simp [Region.wanted, yielded]) 30 _ rfl w.heap.size rfl 30 a (0, 0) _ hB4.box Tryd.underlying30 rfl hia ?_)
  refine (hF _).mono ?_
  rintro e w5 ⟨v, rfl, hown5, hb5⟩
  obtain ⟨A5, c5, rfl⟩ := own_slice hown5
  have hB5 := hB4.keep hb5
  have hC5 := hC4.keep hb5
  have hS := Same_calls A A5 c c5 rs w5 hrl (hRd4.out.below hb5) (rd_of_rng hown5)
  clear hb5 hB4 hC4 hF hown5 hRd4
  go_wp2_with fail
  refine hS.mono ?_
  rintro e w6 ⟨rfl, hb6⟩
  have hB6 := hB5.keep hb6
  have hC6 := hC5.keep hb6
  clear hb6 hB5 hC5 hS
  go_wp2_with (first | (refine wpList_load_row_g (by first | rfl | simp [Region.wanted, yielded]) 30 (.tmp 4) rfl w2.heap.size rfl 30 a (0, 0) _ hC6.box Tryd.underlying30 rfl hia ?_) | (refine wpList_load_row_g (by first | rfl | simp [Region.wanted, yielded]) 30 (.tmp 1) rfl w.heap.size rfl 30 a (0, 0) _ hB6.box Tryd.underlying30 rfl hia ?_))
  go_ret
  exact ⟨by simp, hB6.bel⟩
end Go.Proofs.YtnlchdjknebmfaaDoor
