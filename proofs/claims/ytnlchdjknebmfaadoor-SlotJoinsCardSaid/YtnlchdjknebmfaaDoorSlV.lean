/- The statements over keys and texts: each is true for every input. Conditions: the listed variables as laid. -/
import Derived.Test.YtnlchdjknebmfaaDoorSlU
set_option linter.unusedVariables false
set_option linter.unusedSimpArgs false
namespace Go.Proofs.YtnlchdjknebmfaaDoor
open Go.RowKit Go.Proofs.YtnlchdjknebmfaaDoorW.PrintWords
open SlS SlT
theorem SlotTags_walk (s : ByteArray) (hs : s.size ≤ 140737488351232) (w : World) (hE : Env w) : Calls Tryd.prog 3 #[.string s] w fun e w' => e = .returned (.bool true) ∧ Below w.heap.size w w' := by
  have hT := fun W => Tag_calls s (by omega) W
  have hR := fun W => refTag_calls s (by omega) W
  generalize (⟨(tagV s.data.toList).toArray⟩ : ByteArray) = T at *
  have hcmp : (T.toList == T.toList) = true := by simp
  go_enter Tryd.func3, Tryd.ntmps3
  go_wp2_with fail
  refine (alive_calls _ hE).mono ?_
  rintro e w1 ⟨rfl, hb1⟩
  go_wp2_with fail
  refine (hT _).mono ?_
  rintro e w2 ⟨rfl, hb2⟩
  go_wp2_with fail
  refine (hR _).mono ?_
  rintro e w3 ⟨rfl, hb3⟩
  have hbw := hb1.trans ((hb2.trans (hb3.mono hb2.size)).mono hb1.size)
  clear hb1 hb2 hb3
  go_wp2_with fail
  go_ret
  exact ⟨by simp, hbw⟩
theorem ofV_lt (l : List UInt8) : ofV l < 16384 := Nat.mod_lt _ (by decide)
theorem SlotOf_walk (s : ByteArray) (hs : s.size ≤ 140737488351232) (w : World) (hE : Env w) : Calls Tryd.prog 4 #[.string s] w fun e w' => e = .returned (.bool true) ∧ Below w.heap.size w w' := by
  have hT := fun W h => Of_calls s (by omega) W h
  have hR := fun W => refOf_calls s (by omega) W
  have hlt := ofV_lt s.data.toList
  generalize ofV s.data.toList = N at *
  have n1 : (0 : Int) ≤ (N : Int) := by omega
  have n2 : (N : Int) < 16384 := by omega
  go_enter Tryd.func4, Tryd.ntmps4
  go_wp2_with fail
  refine (hT _ hE).mono ?_
  rintro e w1 ⟨rfl, hb1⟩
  go_wp2_with fail
  refine (alive_calls _ (hE.below hb1)).mono ?_
  rintro e w2 ⟨rfl, hb2⟩
  go_wp2_with fail
  refine (hR _).mono ?_
  rintro e w3 ⟨rfl, hb3⟩
  have hbw := hb1.trans ((hb2.trans (hb3.mono hb2.size)).mono hb1.size)
  clear hb1 hb2 hb3
  go_wp2_with fail
  go_ret
  exact ⟨by simp, hbw⟩
/-- what of a key counts counts as it is -/
theorem tag_free {x : List UInt8} (h : (125 : UInt8) ∉ x) : tagV x = x := by
  rcases cut_cases x 123 with ⟨p, q, rfl, hp, h1⟩ | ⟨hn, h1⟩
  · exact tag_open hp (fun hm => h (by simp [hm]))
  · exact tag_none hn
theorem tag_tag (l : List UInt8) : tagV (tagV l) = tagV l := by
  rcases cut_cases l 123 with ⟨p, q, rfl, hp, h1⟩ | ⟨hn, h1⟩
  · rcases cut_cases q 125 with ⟨x, r, rfl, hx, h2⟩ | ⟨hn2, h2⟩
    · have := tag_found (r := r) hp hx
      cases hE : x.isEmpty with
      | true =>
        rw [hE, if_pos rfl] at this
        rw [this, this]
      | false =>
        rw [hE, if_neg (by decide)] at this
        rw [this, tag_free hx]
    · rw [tag_open hp hn2, tag_open hp hn2]
  · rw [tag_none hn, tag_none hn]
theorem of_tag (l : List UInt8) : ofV (tagV l) = ofV l := by unfold ofV; rw [tag_tag]
theorem SlotTwice_walk (s : ByteArray) (hs : s.size ≤ 140737488351232) (w : World) (hE : Env w) : Calls Tryd.prog 11 #[.string s] w fun e w' => e = .returned (.bool true) ∧ Below w.heap.size w w' := by
  have hsz : s.data.toList.length = s.size := Array.length_toList
  have hlen := tagV_len s.data.toList
  have hT := fun W => Tag_calls s (by omega) W
  have e0 : (⟨(tagV s.data.toList).toArray⟩ : ByteArray).data.toList = tagV s.data.toList := rfl
  have hT2 := fun W => Tag_calls ⟨(tagV s.data.toList).toArray⟩ (by rw [size_mk]; omega) W
  have hO1 := fun W h => Of_calls s (by omega) W h
  have hO2 := fun W h => Of_calls ⟨(tagV s.data.toList).toArray⟩ (by rw [size_mk]; omega) W h
  rw [e0, tag_tag] at hT2
  rw [e0, of_tag] at hO2
  generalize (⟨(tagV s.data.toList).toArray⟩ : ByteArray) = T at *
  generalize ofV s.data.toList = N at *
  have hcmp : (T.toList == T.toList) = true := by simp
  clear e0 hlen hsz
  go_enter Tryd.func11, Tryd.ntmps11
  go_wp2_with fail
  refine (hT _).mono ?_
  rintro e w1 ⟨rfl, hb1⟩
  go_wp2_with fail
  refine (alive_calls _ (hE.below hb1)).mono ?_
  rintro e w2 ⟨rfl, hb2⟩
  have hbw2 := hb1.trans (hb2.mono hb1.size)
  go_wp2_with fail
  refine (hT2 _).mono ?_
  rintro e w3 ⟨rfl, hb3⟩
  have hbw3 := hbw2.trans (hb3.mono hbw2.size)
  go_wp2_with fail
  refine (hO2 _ (hE.below hbw3)).mono ?_
  rintro e w4 ⟨rfl, hb4⟩
  have hbw4 := hbw3.trans (hb4.mono hbw3.size)
  go_wp2_with fail
  refine (hO1 _ (hE.below hbw4)).mono ?_
  rintro e w5 ⟨rfl, hb5⟩
  have hbw5 := hbw4.trans (hb5.mono hbw4.size)
  clear hb1 hb2 hb3 hb4 hb5 hbw2 hbw3 hbw4
  go_wp2_with fail
  go_ret
  exact ⟨by simp, hbw5⟩
theorem SlotParses_walk (s : ByteArray) (hs : s.size ≤ 140737488351232) (w : World) (hE : Env w) : Calls Tryd.prog 10 #[.string s] w fun e w' => e = .returned (.bool true) ∧ Below w.heap.size w w' := by
  by_cases hlong : 20000 < s.size
  · have h1 : (20000 : Int) < (s.size : Int) := by omega
    have h2 : decide (20000 < s.size) = true := decide_eq_true hlong
    go_enter Tryd.func10, Tryd.ntmps10
    go_wp2_with fail
    refine (alive_calls _ hE).mono ?_
    rintro e w1 ⟨rfl, hb1⟩
    go_wp2_with fail
    go_ret
    exact ⟨rfl, hb1⟩
  · have h1 : ¬ (20000 : Int) < (s.size : Int) := by omega
    have h2 : decide (20000 < s.size) = false := decide_eq_false hlong
    have hiZ : (Tryd.prog.info? 30).map (·.size) = some Tryd.zeroCells30.size := by rw [zero_size]; exact info30
    have hP := fun W h => Parse_calls s hs W h
    have hR := fun W => refParse_calls s (by omega) W
    go_enter Tryd.func10, Tryd.ntmps10
    go_wp2_with fail
    refine (hP _ hE).mono ?_
    rintro e w1 ⟨h, hb1⟩
    have key : ∃ a f c, e = .returned (.tuple #[.agg a, .int .i64 c]) ∧ Words a f ∧ ∀ W, Calls Tryd.prog 29 #[.string s] W fun e' w' => e' = .returned (.tuple #[.agg a, .int .i64 c]) ∧ Below W.heap.size W w' := by
      rcases h with ⟨a, f, rfl, ha, hf⟩ | ⟨hno, rfl⟩
      · refine ⟨a, f, 0, rfl, ha, fun W => (hR W).mono fun e' w' ⟨h', hb'⟩ => ⟨?_, hb'⟩⟩
        rcases h' with ⟨a', f', rfl, ha', hf'⟩ | ⟨hno', -⟩
        · rw [(words_ext ha ha' fun n hn => printH_inj (hf.trans hf'.symm) hn).1]
        · exact absurd hf (hno' _)
      · refine ⟨_, _, 20, rfl, zero_words, fun W => (hR W).mono fun e' w' ⟨h', hb'⟩ => ⟨?_, hb'⟩⟩
        rcases h' with ⟨a', f', rfl, ha', hf'⟩ | ⟨-, rfl⟩
        · exact absurd hf' (hno _)
        · rfl
    obtain ⟨a, f, c, rfl, ha, hR2⟩ := key
    have hia : (Tryd.prog.info? 30).map (·.size) = some a.size := by rw [ha.size]; exact info30
    have hza : Tryd.zeroCells30.size = a.size := by rw [ha.size]; exact zero_size
    have ho := ha.one
    have hq := fun W => eqlW ha ha W
    have hself : eqW f f = true := eqW_self fun _ _ => rfl
    rw [hself] at hq
    have hG2 : ((w1.alloc (.cells Tryd.zeroCells30 30)).setRow w1.heap.size a).heap[w1.heap.size]? = some (.cells a 30 (0, 0)) := setRow_heap _ _ _ _ _ _ (heapN w1 _)
    have hl2 : w1.heap.size < ((w1.alloc (.cells Tryd.zeroCells30 30)).setRow w1.heap.size a).heap.size := by simp [World.setRow]
    have hbw2 : Below w.heap.size w ((w1.alloc (.cells Tryd.zeroCells30 30)).setRow w1.heap.size a) := below_setRow (hb1.trans ((below_new' w1 _).mono hb1.size)) hb1.size _
    clear hb1 h hP hR hself
    go_wp2_with (refine wpList_store_row rfl 30 _ _ rfl (w1.heap.size) a rfl rfl 30 Tryd.zeroCells30 (heapN w1 _) hia hza ho ?_)
    refine (hR2 _).mono ?_
    rintro e w3 ⟨rfl, hb3⟩
    have hG3 := (hb3.block _ hl2).trans hG2
    have hl3 : w1.heap.size < w3.heap.size := Nat.lt_of_lt_of_le hl2 hb3.size
    have hbw3 := hbw2.trans (hb3.mono hbw2.size)
    clear hb3 hG2 hl2 hbw2 hR2
    have hK4 : ((w3.alloc (.cells Tryd.zeroCells30 30)).setRow w3.heap.size a).heap[w3.heap.size]? = some (.cells a 30 (0, 0)) := setRow_heap _ _ _ _ _ _ (heapN w3 _)
    have hG4 : ((w3.alloc (.cells Tryd.zeroCells30 30)).setRow w3.heap.size a).heap[w1.heap.size]? = some (.cells a 30 (0, 0)) := (setRow_other _ _ _ _ (by omega)).trans (((below_new' w3 _).block _ hl3).trans hG3)
    have hl4 : w3.heap.size < ((w3.alloc (.cells Tryd.zeroCells30 30)).setRow w3.heap.size a).heap.size := by simp [World.setRow]
    have hbw4 : Below w.heap.size w ((w3.alloc (.cells Tryd.zeroCells30 30)).setRow w3.heap.size a) := below_setRow (hbw3.trans ((below_new' w3 _).mono hbw3.size)) hbw3.size _
    go_wp2_with (refine wpList_store_row rfl 30 _ _ rfl (w3.heap.size) a rfl rfl 30 Tryd.zeroCells30 (heapN w3 _) hia hza ho ?_)
    refine (alive_calls _ (hE.below hbw4)).mono ?_
    rintro e w5 ⟨rfl, hb5⟩
    have hG5 := (hb5.block _ (by omega : w1.heap.size < _)).trans hG4
    have hK5 := (hb5.block _ hl4).trans hK4
    have hbw5 := hbw4.trans (hb5.mono hbw4.size)
    clear hb5 hG4 hK4 hbw4
    go_wp2_with (first | (refine wpList_load_row_g (by first | rfl | simp [Region.wanted, yielded]) 30 _ rfl w1.heap.size rfl 30 a (0, 0) _ hG5 Tryd.underlying30 rfl hia ?_) | (refine wpList_load_row_g (by first | rfl | simp [Region.wanted, yielded]) 30 _ rfl w3.heap.size rfl 30 a (0, 0) _ hK5 Tryd.underlying30 rfl hia ?_))
    go_ret
    exact ⟨by simp, hbw5⟩
end Go.Proofs.YtnlchdjknebmfaaDoor
