/- Walk of the reference's Read: what it comes to. Conditions: texts of at most 2^20 bytes. -/
import Derived.Test.YtpbiohnmmngccaaGreatDoorRtN
import Derived.Outline
set_option linter.unusedVariables false
set_option linter.unusedSimpArgs false
namespace Go.Proofs.YtpbiohnmmngccaaGreatDoor
open Go.RowKit Go.Proofs.YtpbiohnmmngccaaGreatDoorW.PrintWords
open RtS RtR R04P

theorem own_ints {W : World} {base : Nat} {e : TypeId} {v : Value} {l : List Int} (h : W.ownsRow base e 1 v l.length (l.map (Value.int .i64))) :
    ∃ A cap, v = .slice A l.length cap ∧ l.length ≤ cap ∧ (0 < l.length → ∃ g, A = some ⟨g, 0, none⟩ ∧ base ≤ g ∧ ∀ i, i < l.length → W.cell? ⟨g, i, none⟩ = some (.int .i64 (l.getD i 0))) := by
  rcases h with ⟨hl, ⟨rfl, hn⟩ | ⟨g, cap, cur, rfl, hb, hh, hc, hm, hs, ht⟩⟩
  · rw [hn]
    exact ⟨none, 0, rfl, Nat.le_refl _, fun h => absurd h (Nat.lt_irrefl _)⟩
  · refine ⟨some ⟨g, 0, none⟩, cap, rfl, hc, fun _ => ⟨g, rfl, hb, fun i hi => ?_⟩⟩
    have hcell : W.cell? ⟨g, i, none⟩ = cur[i]? := by
      unfold World.cell?
      simp [hh]
    rw [hcell]
    have h1 : (cur.toList.take (l.length * 1))[i]? = (l.map (Value.int .i64))[i]? := by rw [ht]
    rw [List.getElem?_take_of_lt (by omega)] at h1
    simp at h1
    rw [h1]
    simp [hi]

abbrev decR (x : Int × Int × Int × Int × Bool) : Value := .tuple #[.agg #[.int .i64 x.1, .int .i64 x.2.1, .int .i64 x.2.2.1, .int .i64 x.2.2.2.1], .bool x.2.2.2.2]

theorem word2 : wordV 2 = [77, 79, 86, 69, 68] := rfl
theorem word3 : wordV 3 = [65, 83, 75] := rfl


set_option maxHeartbeats 2000000 in
set_option maxRecDepth 100000 in
theorem refRead_calls (s : ByteArray) (hs : s.size ≤ 1048576) (w : World) :
    Calls Tryz.prog 23 #[.string s] w fun e w' => e = .returned (decR (refReadV s.data.toList)) ∧ Below w.heap.size w w' := by
  have hT := fun k => refText_calls k 0 0 0 (by decide) (by decide) (by decide)
  have hM := numbers_calls s ⟨#[77, 79, 86, 69, 68]⟩ hs
  have hA := numbers_calls s ⟨#[65, 83, 75]⟩ hs
  rw [show (⟨#[77, 79, 86, 69, 68]⟩ : ByteArray).data.toList = wordV 2 from rfl] at hM
  rw [show (⟨#[65, 83, 75]⟩ : ByteArray).data.toList = wordV 3 from rfl] at hA
  have hR : refReadV s.data.toList = refReadV s.data.toList := rfl
  conv at hR => rhs; unfold refReadV
  generalize refReadV s.data.toList = X at *
  generalize numsV s.data.toList (wordV 2) = XM at *
  generalize numsV s.data.toList (wordV 3) = XA at *
  have HR := Lib.hid hR
  clear hR
  go_enter Tryz.func23, Tryz.ntmps23
  go_wp2
  go_loopw [4] (fun k wr => ∃ j : Nat, 4 ≤ j ∧ j ≤ 7 ∧ k = .int .i64 j ∧ (∀ i : Nat, 4 ≤ i → i < j → textV i 0 0 0 ≠ s.data.toList) ∧ Below w.heap.size w wr ∧ w.heap.size < wr.heap.size ∧
      (∀ i, i < 4 → wr.cell? ⟨w.heap.size, i, none⟩ = some (.int .i64 0)) ∧ (∀ i, i < 4 → wr.frozen? ⟨w.heap.size, i, none⟩ = false)) (fun k _ => 7 - (intOf k).toNat)
  case atStart =>
    refine ⟨4, by omega, by omega, rfl, fun i h1 h2 => by omega, below_alloc (Below.refl _ _) _, by simp, ?_, ?_⟩
    · intro i hi
      have : i = 0 ∨ i = 1 ∨ i = 2 ∨ i = 3 := by omega
      rcases this with rfl | rfl | rfl | rfl <;> simp [go_sem]
    · intro i hi
      have : i = 0 ∨ i = 1 ∨ i = 2 ∨ i = 3 := by omega
      rcases this with rfl | rfl | rfl | rfl <;> simp [go_sem]
  case round =>
    obtain ⟨j, h4, h7, rfl, hno, hb, hsz, hc, hf⟩ := hrel
    have c0 := hc 0 (by omega)
    have c1 := hc 1 (by omega)
    have c2 := hc 2 (by omega)
    have c3 := hc 3 (by omega)
    have f0 := hf 0 (by omega)
    have f1 := hf 1 (by omega)
    have f2 := hf 2 (by omega)
    have f3 := hf 3 (by omega)
    by_cases hj : j ≤ 6
    · have hTj := hT j
      by_cases he : textV j 0 0 0 = s.data.toList
      · have hX : X = ((j : Int), 0, 0, 0, true) := by
          rw [HR.out]
          have e3 : j = 4 ∨ j = 5 ∨ j = 6 := by omega
          rcases e3 with rfl | rfl | rfl
          · rw [if_pos (show textV 4 0 0 0 = _ from he)]; rfl
          · rw [if_neg (show ¬ textV 4 0 0 0 = _ from hno 4 (by omega) (by omega)), if_pos (show textV 5 0 0 0 = _ from he)]; rfl
          · rw [if_neg (show ¬ textV 4 0 0 0 = _ from hno 4 (by omega) (by omega)), if_neg (show ¬ textV 5 0 0 0 = _ from hno 5 (by omega) (by omega)), if_pos (show textV 6 0 0 0 = _ from he)]; rfl
        have HX := Lib.hid hX
        have HXX := Lib.hid hX
        clear hX
        clear hno hM hA hc hf hT
        rw [he] at hTj
        have es : (⟨s.data.toList.toArray⟩ : ByteArray) = s := rfl
        rw [es] at hTj
        clear es
        go_wp2_with fail
        refine (hTj _).mono ?_
        rintro e w1 ⟨rfl, hb1⟩
        have hbb := hb.trans ((below_alloc (Below.refl wr.heap.size wr) (.cells #[.int .i64 j, .int .i64 0, .int .i64 0, .int .i64 0] 60)).trans (hb1.mono (by simp)) |>.mono hb.size)
        have up : ∀ i : Nat, w1.cell? ⟨w.heap.size, i, none⟩ = wr.cell? ⟨w.heap.size, i, none⟩ := fun i => (hb1.cell (p := ⟨w.heap.size, i, none⟩) (by simp; omega)).trans ((below_alloc (Below.refl wr.heap.size wr) _).cell (p := ⟨w.heap.size, i, none⟩) hsz)
        have upf : ∀ i : Nat, w1.frozen? ⟨w.heap.size, i, none⟩ = wr.frozen? ⟨w.heap.size, i, none⟩ := fun i => (hb1.frozen (p := ⟨w.heap.size, i, none⟩) (by simp; omega)).trans ((below_alloc (Below.refl wr.heap.size wr) _).frozen (p := ⟨w.heap.size, i, none⟩) hsz)
        have d0 : w1.cell? ⟨wr.heap.size, 0, none⟩ = some (.int .i64 j) := (hb1.cell (p := ⟨wr.heap.size, 0, none⟩) (by simp)).trans (by simp [go_sem])
        have d1 : w1.cell? ⟨wr.heap.size, 1, none⟩ = some (.int .i64 0) := (hb1.cell (p := ⟨wr.heap.size, 1, none⟩) (by simp)).trans (by simp [go_sem])
        have d2 : w1.cell? ⟨wr.heap.size, 2, none⟩ = some (.int .i64 0) := (hb1.cell (p := ⟨wr.heap.size, 2, none⟩) (by simp)).trans (by simp [go_sem])
        have d3 : w1.cell? ⟨wr.heap.size, 3, none⟩ = some (.int .i64 0) := (hb1.cell (p := ⟨wr.heap.size, 3, none⟩) (by simp)).trans (by simp [go_sem])
        have c0' := (up 0).trans c0
        have c1' := (up 1).trans c1
        have c2' := (up 2).trans c2
        have c3' := (up 3).trans c3
        have f0' := (upf 0).trans f0
        have f1' := (upf 1).trans f1
        have f2' := (upf 2).trans f2
        have f3' := (upf 3).trans f3
        clear up upf c0 c1 c2 c3 f0 f1 f2 f3
        go_wp2
        clear hTj
        rw [HX.out]
        exact bodyPost_ret (v := decR ((j : Int), 0, 0, 0, true)) (by simp [results, Tryz.results23, go_sem, c0', c1', c2', c3', f0', f1', f2', f3', d0, d1, d2, d3]) rfl ⟨rfl, by repeat (first | exact hbb | apply below_alloc | apply below_set | exact Nat.le_refl _)⟩
      · clear hM hA hc hf hT HR
        go_wp2_with fail
        refine (hTj _).mono ?_
        rintro e w1 ⟨rfl, hb1⟩
        have hne : ((⟨(textV j 0 0 0).toArray⟩ : ByteArray).toList == s.toList) = false := by
          rw [beq_eq_false_iff_ne, R04P.toList_data, R04P.toList_data]
          exact he
        have d0 : w1.cell? ⟨wr.heap.size, 0, none⟩ = some (.int .i64 j) := (hb1.cell (p := ⟨wr.heap.size, 0, none⟩) (by simp)).trans (by simp [go_sem])
        have d1 : w1.cell? ⟨wr.heap.size, 1, none⟩ = some (.int .i64 0) := (hb1.cell (p := ⟨wr.heap.size, 1, none⟩) (by simp)).trans (by simp [go_sem])
        have d2 : w1.cell? ⟨wr.heap.size, 2, none⟩ = some (.int .i64 0) := (hb1.cell (p := ⟨wr.heap.size, 2, none⟩) (by simp)).trans (by simp [go_sem])
        have d3 : w1.cell? ⟨wr.heap.size, 3, none⟩ = some (.int .i64 0) := (hb1.cell (p := ⟨wr.heap.size, 3, none⟩) (by simp)).trans (by simp [go_sem])
        clear hTj
        generalize (⟨(textV j 0 0 0).toArray⟩ : ByteArray) = tt at *
        go_wp2
        case roundEnd =>
          have hbb := hb.trans ((below_alloc (Below.refl wr.heap.size wr) (.cells #[.int .i64 j, .int .i64 0, .int .i64 0, .int .i64 0] 60)).trans (hb1.mono (by simp)) |>.mono hb.size)
          have up : ∀ i : Nat, w1.cell? ⟨w.heap.size, i, none⟩ = wr.cell? ⟨w.heap.size, i, none⟩ := fun i => (hb1.cell (p := ⟨w.heap.size, i, none⟩) (by simp; omega)).trans ((below_alloc (Below.refl wr.heap.size wr) _).cell (p := ⟨w.heap.size, i, none⟩) hsz)
          have upf : ∀ i : Nat, w1.frozen? ⟨w.heap.size, i, none⟩ = wr.frozen? ⟨w.heap.size, i, none⟩ := fun i => (hb1.frozen (p := ⟨w.heap.size, i, none⟩) (by simp; omega)).trans ((below_alloc (Below.refl wr.heap.size wr) _).frozen (p := ⟨w.heap.size, i, none⟩) hsz)
          have hs1 : wr.heap.size < w1.heap.size := by have := hb1.size; simp at this; omega
          refine ⟨⟨j + 1, by omega, by omega, rfl, ?_, hbb, by omega, ?_, ?_⟩, ?_⟩
          · intro i h1 h2
            by_cases h3 : i = j
            · rw [h3]; exact he
            · exact hno i h1 (by omega)
          · intro i hi
            have : i = 0 ∨ i = 1 ∨ i = 2 ∨ i = 3 := by omega
            rcases this with rfl | rfl | rfl | rfl
            · exact (up 0).trans c0
            · exact (up 1).trans c1
            · exact (up 2).trans c2
            · exact (up 3).trans c3
          · intro i hi
            have : i = 0 ∨ i = 1 ∨ i = 2 ∨ i = 3 := by omega
            rcases this with rfl | rfl | rfl | rfl
            · exact (upf 0).trans f0
            · exact (upf 1).trans f1
            · exact (upf 2).trans f2
            · exact (upf 3).trans f3
          · simp [intOf]; omega
    · have hj7 : j = 7 := by omega
      subst hj7
      have hR' : X = if XM.2 = true ∧ XM.1.length = 2 ∧ XM.1.getD 0 0 ≤ 16383 ∧ XM.1.getD 1 0 ≤ 63 then (2, XM.1.getD 0 0, XM.1.getD 1 0, 0, true)
          else if XA.2 = true ∧ XA.1.length = 3 ∧ XA.1.getD 0 0 ≤ 16383 ∧ XA.1.getD 1 0 ≤ 63 then (3, XA.1.getD 0 0, XA.1.getD 1 0, XA.1.getD 2 0, true)
          else (0, 0, 0, 0, false) := by
        rw [HR.out, if_neg (show ¬ textV 4 0 0 0 = _ from hno 4 (by omega) (by omega)), if_neg (show ¬ textV 5 0 0 0 = _ from hno 5 (by omega) (by omega)), if_neg (show ¬ textV 6 0 0 0 = _ from hno 6 (by omega) (by omega))]
      clear hT hc hf hno HR
      obtain ⟨LM, BM⟩ := XM
      have HR := Lib.hid hR'
      clear hR'
      go_wp2_with fail
      refine (hM _).mono ?_
      rintro e w1 ⟨v, rfl, hown, hb1⟩
      obtain ⟨A, cap, rfl, hcap, hcells⟩ := own_ints hown
      clear hM hown
      have c0' := (hb1.cell (p := ⟨w.heap.size, 0, none⟩) hsz).trans c0
      have c1' := (hb1.cell (p := ⟨w.heap.size, 1, none⟩) hsz).trans c1
      have c2' := (hb1.cell (p := ⟨w.heap.size, 2, none⟩) hsz).trans c2
      have c3' := (hb1.cell (p := ⟨w.heap.size, 3, none⟩) hsz).trans c3
      have f0' := (hb1.frozen (p := ⟨w.heap.size, 0, none⟩) hsz).trans f0
      have f1' := (hb1.frozen (p := ⟨w.heap.size, 1, none⟩) hsz).trans f1
      have f2' := (hb1.frozen (p := ⟨w.heap.size, 2, none⟩) hsz).trans f2
      have f3' := (hb1.frozen (p := ⟨w.heap.size, 3, none⟩) hsz).trans f3
      clear c0 c1 c2 c3 f0 f1 f2 f3
      cases BM with
      | false =>
        have HRA := HR.out
        rw [if_neg (by simp)] at HRA
        replace HR := Lib.hid HRA
        clear HRA
        go_wp2_with fail
        refine (hA _).mono ?_
        rintro e w2 ⟨v, rfl, hown2, hb2⟩
        obtain ⟨A2, cap2, rfl, hcap2, hcells2⟩ := own_ints hown2
        clear hA hown2
        have hsz2 : w.heap.size < w1.heap.size := by have := hb1.size; omega
        have c0'' := (hb2.cell (p := ⟨w.heap.size, 0, none⟩) hsz2).trans c0'
        have c1'' := (hb2.cell (p := ⟨w.heap.size, 1, none⟩) hsz2).trans c1'
        have c2'' := (hb2.cell (p := ⟨w.heap.size, 2, none⟩) hsz2).trans c2'
        have c3'' := (hb2.cell (p := ⟨w.heap.size, 3, none⟩) hsz2).trans c3'
        have f0'' := (hb2.frozen (p := ⟨w.heap.size, 0, none⟩) hsz2).trans f0'
        have f1'' := (hb2.frozen (p := ⟨w.heap.size, 1, none⟩) hsz2).trans f1'
        have f2'' := (hb2.frozen (p := ⟨w.heap.size, 2, none⟩) hsz2).trans f2'
        have f3'' := (hb2.frozen (p := ⟨w.heap.size, 3, none⟩) hsz2).trans f3'
        have hbb : Below w.heap.size w w2 := (hb.trans (hb1.mono hb.size)).trans (hb2.mono (by have := hb.size; omega))
        obtain ⟨LA, BA⟩ := XA
        cases BA with
        | false =>
          have HX : Hid (X = (0, 0, 0, 0, false)) := by
            have := HR.out
            rw [if_neg (by simp)] at this
            exact Lib.hid this
          clear HR
          go_wp2
          exact bodyPost_ret (by simp [results, Tryz.results23, go_sem, c0', c1', c2', c3', f0', f1', f2', f3', c0'', c1'', c2'', c3'', f0'', f1'', f2'', f3'']; rfl) rfl ⟨by rw [HX.out], by repeat (first | exact hbb | apply below_alloc | apply below_set | apply below_drew | exact Nat.le_refl _)⟩
        | true =>
          by_cases hl : LA.length = 3
          · obtain ⟨a0, a1, a2, rfl⟩ : ∃ a0 a1 a2, LA = [a0, a1, a2] := by
              rcases LA with _ | ⟨a0, _ | ⟨a1, _ | ⟨a2, _ | ⟨a3, r⟩⟩⟩⟩ <;> simp at hl
              exact ⟨a0, a1, a2, rfl⟩
            obtain ⟨g, rfl, hg, hcl⟩ := hcells2 (by simp)
            have k0 := hcl 0 (by simp)
            have k1 := hcl 1 (by simp)
            have k2 := hcl 2 (by simp)
            simp only [List.getD_cons_zero, List.getD_cons_succ] at k0 k1 k2
            clear hcl hcells2 hl
            simp only [List.length_cons, List.length_nil, Nat.zero_add, Nat.reduceAdd] at *
            by_cases h0 : a0 ≤ 16383
            · by_cases h1 : a1 ≤ 63
              · have HX : Hid (X = (3, a0, a1, a2, true)) := by
                  have := HR.out
                  rw [if_pos (by simp [h0, h1])] at this
                  exact Lib.hid this
                clear HR
                go_wp2
                go_region
                go_wp2
                exact bodyPost_ret (by simp [results, Tryz.results23, go_sem, c0', c1', c2', c3', f0', f1', f2', f3', c0'', c1'', c2'', c3'', f0'', f1'', f2'', f3'']; rfl) rfl ⟨by rw [HX.out], by repeat (first | exact hbb | apply below_alloc | apply below_set | apply below_drew | exact Nat.le_refl _)⟩
              · have HX : Hid (X = (0, 0, 0, 0, false)) := by
                  have := HR.out
                  rw [if_neg (by simp [h0, h1])] at this
                  exact Lib.hid this
                clear HR
                go_wp2
                exact bodyPost_ret (by simp [results, Tryz.results23, go_sem, c0', c1', c2', c3', f0', f1', f2', f3', c0'', c1'', c2'', c3'', f0'', f1'', f2'', f3'']; rfl) rfl ⟨by rw [HX.out], by repeat (first | exact hbb | apply below_alloc | apply below_set | apply below_drew | exact Nat.le_refl _)⟩
            · have HX : Hid (X = (0, 0, 0, 0, false)) := by
                have := HR.out
                rw [if_neg (by simp [h0])] at this
                exact Lib.hid this
              clear HR
              go_wp2
              exact bodyPost_ret (by simp [results, Tryz.results23, go_sem, c0', c1', c2', c3', f0', f1', f2', f3', c0'', c1'', c2'', c3'', f0'', f1'', f2'', f3'']; rfl) rfl ⟨by rw [HX.out], by repeat (first | exact hbb | apply below_alloc | apply below_set | apply below_drew | exact Nat.le_refl _)⟩
          · have HX : Hid (X = (0, 0, 0, 0, false)) := by
              have := HR.out
              rw [if_neg (by simp [hl])] at this
              exact Lib.hid this
            clear HR
            go_wp2
            exact bodyPost_ret (by simp [results, Tryz.results23, go_sem, c0', c1', c2', c3', f0', f1', f2', f3', c0'', c1'', c2'', c3'', f0'', f1'', f2'', f3'']; rfl) rfl ⟨by rw [HX.out], by repeat (first | exact hbb | apply below_alloc | apply below_set | apply below_drew | exact Nat.le_refl _)⟩
      | true =>
        by_cases hl : LM.length = 2
        · obtain ⟨a0, a1, rfl⟩ : ∃ a0 a1, LM = [a0, a1] := by
            rcases LM with _ | ⟨a0, _ | ⟨a1, _ | ⟨a2, r⟩⟩⟩ <;> simp at hl
            exact ⟨a0, a1, rfl⟩
          obtain ⟨g, rfl, hg, hcl⟩ := hcells (by simp)
          have k0 := hcl 0 (by simp)
          have k1 := hcl 1 (by simp)
          simp only [List.getD_cons_zero, List.getD_cons_succ] at k0 k1
          clear hcl hcells hl
          simp only [List.length_cons, List.length_nil, Nat.zero_add, Nat.reduceAdd] at *
          have hbb : Below w.heap.size w w1 := hb.trans (hb1.mono hb.size)
          by_cases h0 : a0 ≤ 16383
          · by_cases h1 : a1 ≤ 63
            · have HX : Hid (X = (2, a0, a1, 0, true)) := by
                have := HR.out
                rw [if_pos (by simp [h0, h1])] at this
                exact Lib.hid this
              clear HR
              go_wp2
              go_region
              go_wp2
              exact bodyPost_ret (by simp [results, Tryz.results23, go_sem, c0', c1', c2', c3', f0', f1', f2', f3']; rfl) rfl ⟨by rw [HX.out], by repeat (first | exact hbb | apply below_alloc | apply below_set | apply below_drew | exact Nat.le_refl _)⟩
            · have HRA := HR.out
              rw [if_neg (by simp [h1])] at HRA
              clear hbb
              replace HR := Lib.hid HRA
              clear HRA
              go_wp2_with fail
              refine (hA _).mono ?_
              rintro e w2 ⟨v, rfl, hown2, hb2⟩
              obtain ⟨A2, cap2, rfl, hcap2, hcells2⟩ := own_ints hown2
              clear hA hown2
              have hsz2 : w.heap.size < w1.heap.size := by have := hb1.size; omega
              have c0'' := (hb2.cell (p := ⟨w.heap.size, 0, none⟩) hsz2).trans c0'
              have c1'' := (hb2.cell (p := ⟨w.heap.size, 1, none⟩) hsz2).trans c1'
              have c2'' := (hb2.cell (p := ⟨w.heap.size, 2, none⟩) hsz2).trans c2'
              have c3'' := (hb2.cell (p := ⟨w.heap.size, 3, none⟩) hsz2).trans c3'
              have f0'' := (hb2.frozen (p := ⟨w.heap.size, 0, none⟩) hsz2).trans f0'
              have f1'' := (hb2.frozen (p := ⟨w.heap.size, 1, none⟩) hsz2).trans f1'
              have f2'' := (hb2.frozen (p := ⟨w.heap.size, 2, none⟩) hsz2).trans f2'
              have f3'' := (hb2.frozen (p := ⟨w.heap.size, 3, none⟩) hsz2).trans f3'
              have hbb : Below w.heap.size w w2 := (hb.trans (hb1.mono hb.size)).trans (hb2.mono (by have := hb.size; omega))
              obtain ⟨LA, BA⟩ := XA
              cases BA with
              | false =>
                have HX : Hid (X = (0, 0, 0, 0, false)) := by
                  have := HR.out
                  rw [if_neg (by simp)] at this
                  exact Lib.hid this
                clear HR
                go_wp2
                exact bodyPost_ret (by simp [results, Tryz.results23, go_sem, c0', c1', c2', c3', f0', f1', f2', f3', c0'', c1'', c2'', c3'', f0'', f1'', f2'', f3'']; rfl) rfl ⟨by rw [HX.out], by repeat (first | exact hbb | apply below_alloc | apply below_set | apply below_drew | exact Nat.le_refl _)⟩
              | true =>
                by_cases hl : LA.length = 3
                · obtain ⟨a0, a1, a2, rfl⟩ : ∃ a0 a1 a2, LA = [a0, a1, a2] := by
                    rcases LA with _ | ⟨a0, _ | ⟨a1, _ | ⟨a2, _ | ⟨a3, r⟩⟩⟩⟩ <;> simp at hl
                    exact ⟨a0, a1, a2, rfl⟩
                  obtain ⟨g, rfl, hg, hcl⟩ := hcells2 (by simp)
                  have k0 := hcl 0 (by simp)
                  have k1 := hcl 1 (by simp)
                  have k2 := hcl 2 (by simp)
                  simp only [List.getD_cons_zero, List.getD_cons_succ] at k0 k1 k2
                  clear hcl hcells2 hl
                  simp only [List.length_cons, List.length_nil, Nat.zero_add, Nat.reduceAdd] at *
                  by_cases h0 : a0 ≤ 16383
                  · by_cases h1 : a1 ≤ 63
                    · have HX : Hid (X = (3, a0, a1, a2, true)) := by
                        have := HR.out
                        rw [if_pos (by simp [h0, h1])] at this
                        exact Lib.hid this
                      clear HR
                      go_wp2
                      go_region
                      go_wp2
                      exact bodyPost_ret (by simp [results, Tryz.results23, go_sem, c0', c1', c2', c3', f0', f1', f2', f3', c0'', c1'', c2'', c3'', f0'', f1'', f2'', f3'']; rfl) rfl ⟨by rw [HX.out], by repeat (first | exact hbb | apply below_alloc | apply below_set | apply below_drew | exact Nat.le_refl _)⟩
                    · have HX : Hid (X = (0, 0, 0, 0, false)) := by
                        have := HR.out
                        rw [if_neg (by simp [h0, h1])] at this
                        exact Lib.hid this
                      clear HR
                      go_wp2
                      exact bodyPost_ret (by simp [results, Tryz.results23, go_sem, c0', c1', c2', c3', f0', f1', f2', f3', c0'', c1'', c2'', c3'', f0'', f1'', f2'', f3'']; rfl) rfl ⟨by rw [HX.out], by repeat (first | exact hbb | apply below_alloc | apply below_set | apply below_drew | exact Nat.le_refl _)⟩
                  · have HX : Hid (X = (0, 0, 0, 0, false)) := by
                      have := HR.out
                      rw [if_neg (by simp [h0])] at this
                      exact Lib.hid this
                    clear HR
                    go_wp2
                    exact bodyPost_ret (by simp [results, Tryz.results23, go_sem, c0', c1', c2', c3', f0', f1', f2', f3', c0'', c1'', c2'', c3'', f0'', f1'', f2'', f3'']; rfl) rfl ⟨by rw [HX.out], by repeat (first | exact hbb | apply below_alloc | apply below_set | apply below_drew | exact Nat.le_refl _)⟩
                · have HX : Hid (X = (0, 0, 0, 0, false)) := by
                    have := HR.out
                    rw [if_neg (by simp [hl])] at this
                    exact Lib.hid this
                  clear HR
                  go_wp2
                  exact bodyPost_ret (by simp [results, Tryz.results23, go_sem, c0', c1', c2', c3', f0', f1', f2', f3', c0'', c1'', c2'', c3'', f0'', f1'', f2'', f3'']; rfl) rfl ⟨by rw [HX.out], by repeat (first | exact hbb | apply below_alloc | apply below_set | apply below_drew | exact Nat.le_refl _)⟩
          · have HRA := HR.out
            rw [if_neg (by simp [h0])] at HRA
            clear hbb
            replace HR := Lib.hid HRA
            clear HRA
            go_wp2_with fail
            refine (hA _).mono ?_
            rintro e w2 ⟨v, rfl, hown2, hb2⟩
            obtain ⟨A2, cap2, rfl, hcap2, hcells2⟩ := own_ints hown2
            clear hA hown2
            have hsz2 : w.heap.size < w1.heap.size := by have := hb1.size; omega
            have c0'' := (hb2.cell (p := ⟨w.heap.size, 0, none⟩) hsz2).trans c0'
            have c1'' := (hb2.cell (p := ⟨w.heap.size, 1, none⟩) hsz2).trans c1'
            have c2'' := (hb2.cell (p := ⟨w.heap.size, 2, none⟩) hsz2).trans c2'
            have c3'' := (hb2.cell (p := ⟨w.heap.size, 3, none⟩) hsz2).trans c3'
            have f0'' := (hb2.frozen (p := ⟨w.heap.size, 0, none⟩) hsz2).trans f0'
            have f1'' := (hb2.frozen (p := ⟨w.heap.size, 1, none⟩) hsz2).trans f1'
            have f2'' := (hb2.frozen (p := ⟨w.heap.size, 2, none⟩) hsz2).trans f2'
            have f3'' := (hb2.frozen (p := ⟨w.heap.size, 3, none⟩) hsz2).trans f3'
            have hbb : Below w.heap.size w w2 := (hb.trans (hb1.mono hb.size)).trans (hb2.mono (by have := hb.size; omega))
            obtain ⟨LA, BA⟩ := XA
            cases BA with
            | false =>
              have HX : Hid (X = (0, 0, 0, 0, false)) := by
                have := HR.out
                rw [if_neg (by simp)] at this
                exact Lib.hid this
              clear HR
              go_wp2
              exact bodyPost_ret (by simp [results, Tryz.results23, go_sem, c0', c1', c2', c3', f0', f1', f2', f3', c0'', c1'', c2'', c3'', f0'', f1'', f2'', f3'']; rfl) rfl ⟨by rw [HX.out], by repeat (first | exact hbb | apply below_alloc | apply below_set | apply below_drew | exact Nat.le_refl _)⟩
            | true =>
              by_cases hl : LA.length = 3
              · obtain ⟨a0, a1, a2, rfl⟩ : ∃ a0 a1 a2, LA = [a0, a1, a2] := by
                  rcases LA with _ | ⟨a0, _ | ⟨a1, _ | ⟨a2, _ | ⟨a3, r⟩⟩⟩⟩ <;> simp at hl
                  exact ⟨a0, a1, a2, rfl⟩
                obtain ⟨g, rfl, hg, hcl⟩ := hcells2 (by simp)
                have k0 := hcl 0 (by simp)
                have k1 := hcl 1 (by simp)
                have k2 := hcl 2 (by simp)
                simp only [List.getD_cons_zero, List.getD_cons_succ] at k0 k1 k2
                clear hcl hcells2 hl
                simp only [List.length_cons, List.length_nil, Nat.zero_add, Nat.reduceAdd] at *
                by_cases h0 : a0 ≤ 16383
                · by_cases h1 : a1 ≤ 63
                  · have HX : Hid (X = (3, a0, a1, a2, true)) := by
                      have := HR.out
                      rw [if_pos (by simp [h0, h1])] at this
                      exact Lib.hid this
                    clear HR
                    go_wp2
                    go_region
                    go_wp2
                    exact bodyPost_ret (by simp [results, Tryz.results23, go_sem, c0', c1', c2', c3', f0', f1', f2', f3', c0'', c1'', c2'', c3'', f0'', f1'', f2'', f3'']; rfl) rfl ⟨by rw [HX.out], by repeat (first | exact hbb | apply below_alloc | apply below_set | apply below_drew | exact Nat.le_refl _)⟩
                  · have HX : Hid (X = (0, 0, 0, 0, false)) := by
                      have := HR.out
                      rw [if_neg (by simp [h0, h1])] at this
                      exact Lib.hid this
                    clear HR
                    go_wp2
                    exact bodyPost_ret (by simp [results, Tryz.results23, go_sem, c0', c1', c2', c3', f0', f1', f2', f3', c0'', c1'', c2'', c3'', f0'', f1'', f2'', f3'']; rfl) rfl ⟨by rw [HX.out], by repeat (first | exact hbb | apply below_alloc | apply below_set | apply below_drew | exact Nat.le_refl _)⟩
                · have HX : Hid (X = (0, 0, 0, 0, false)) := by
                    have := HR.out
                    rw [if_neg (by simp [h0])] at this
                    exact Lib.hid this
                  clear HR
                  go_wp2
                  exact bodyPost_ret (by simp [results, Tryz.results23, go_sem, c0', c1', c2', c3', f0', f1', f2', f3', c0'', c1'', c2'', c3'', f0'', f1'', f2'', f3'']; rfl) rfl ⟨by rw [HX.out], by repeat (first | exact hbb | apply below_alloc | apply below_set | apply below_drew | exact Nat.le_refl _)⟩
              · have HX : Hid (X = (0, 0, 0, 0, false)) := by
                  have := HR.out
                  rw [if_neg (by simp [hl])] at this
                  exact Lib.hid this
                clear HR
                go_wp2
                exact bodyPost_ret (by simp [results, Tryz.results23, go_sem, c0', c1', c2', c3', f0', f1', f2', f3', c0'', c1'', c2'', c3'', f0'', f1'', f2'', f3'']; rfl) rfl ⟨by rw [HX.out], by repeat (first | exact hbb | apply below_alloc | apply below_set | apply below_drew | exact Nat.le_refl _)⟩
        · have HRA := HR.out
          rw [if_neg (by simp [hl])] at HRA
          replace HR := Lib.hid HRA
          clear HRA
          go_wp2_with fail
          refine (hA _).mono ?_
          rintro e w2 ⟨v, rfl, hown2, hb2⟩
          obtain ⟨A2, cap2, rfl, hcap2, hcells2⟩ := own_ints hown2
          clear hA hown2
          have hsz2 : w.heap.size < w1.heap.size := by have := hb1.size; omega
          have c0'' := (hb2.cell (p := ⟨w.heap.size, 0, none⟩) hsz2).trans c0'
          have c1'' := (hb2.cell (p := ⟨w.heap.size, 1, none⟩) hsz2).trans c1'
          have c2'' := (hb2.cell (p := ⟨w.heap.size, 2, none⟩) hsz2).trans c2'
          have c3'' := (hb2.cell (p := ⟨w.heap.size, 3, none⟩) hsz2).trans c3'
          have f0'' := (hb2.frozen (p := ⟨w.heap.size, 0, none⟩) hsz2).trans f0'
          have f1'' := (hb2.frozen (p := ⟨w.heap.size, 1, none⟩) hsz2).trans f1'
          have f2'' := (hb2.frozen (p := ⟨w.heap.size, 2, none⟩) hsz2).trans f2'
          have f3'' := (hb2.frozen (p := ⟨w.heap.size, 3, none⟩) hsz2).trans f3'
          have hbb : Below w.heap.size w w2 := (hb.trans (hb1.mono hb.size)).trans (hb2.mono (by have := hb.size; omega))
          obtain ⟨LA, BA⟩ := XA
          cases BA with
          | false =>
            have HX : Hid (X = (0, 0, 0, 0, false)) := by
              have := HR.out
              rw [if_neg (by simp)] at this
              exact Lib.hid this
            clear HR
            go_wp2
            exact bodyPost_ret (by simp [results, Tryz.results23, go_sem, c0', c1', c2', c3', f0', f1', f2', f3', c0'', c1'', c2'', c3'', f0'', f1'', f2'', f3'']; rfl) rfl ⟨by rw [HX.out], by repeat (first | exact hbb | apply below_alloc | apply below_set | apply below_drew | exact Nat.le_refl _)⟩
          | true =>
            by_cases hl : LA.length = 3
            · obtain ⟨a0, a1, a2, rfl⟩ : ∃ a0 a1 a2, LA = [a0, a1, a2] := by
                rcases LA with _ | ⟨a0, _ | ⟨a1, _ | ⟨a2, _ | ⟨a3, r⟩⟩⟩⟩ <;> simp at hl
                exact ⟨a0, a1, a2, rfl⟩
              obtain ⟨g, rfl, hg, hcl⟩ := hcells2 (by simp)
              have k0 := hcl 0 (by simp)
              have k1 := hcl 1 (by simp)
              have k2 := hcl 2 (by simp)
              simp only [List.getD_cons_zero, List.getD_cons_succ] at k0 k1 k2
              clear hcl hcells2 hl
              simp only [List.length_cons, List.length_nil, Nat.zero_add, Nat.reduceAdd] at *
              by_cases h0 : a0 ≤ 16383
              · by_cases h1 : a1 ≤ 63
                · have HX : Hid (X = (3, a0, a1, a2, true)) := by
                    have := HR.out
                    rw [if_pos (by simp [h0, h1])] at this
                    exact Lib.hid this
                  clear HR
                  go_wp2
                  go_region
                  go_wp2
                  exact bodyPost_ret (by simp [results, Tryz.results23, go_sem, c0', c1', c2', c3', f0', f1', f2', f3', c0'', c1'', c2'', c3'', f0'', f1'', f2'', f3'']; rfl) rfl ⟨by rw [HX.out], by repeat (first | exact hbb | apply below_alloc | apply below_set | apply below_drew | exact Nat.le_refl _)⟩
                · have HX : Hid (X = (0, 0, 0, 0, false)) := by
                    have := HR.out
                    rw [if_neg (by simp [h0, h1])] at this
                    exact Lib.hid this
                  clear HR
                  go_wp2
                  exact bodyPost_ret (by simp [results, Tryz.results23, go_sem, c0', c1', c2', c3', f0', f1', f2', f3', c0'', c1'', c2'', c3'', f0'', f1'', f2'', f3'']; rfl) rfl ⟨by rw [HX.out], by repeat (first | exact hbb | apply below_alloc | apply below_set | apply below_drew | exact Nat.le_refl _)⟩
              · have HX : Hid (X = (0, 0, 0, 0, false)) := by
                  have := HR.out
                  rw [if_neg (by simp [h0])] at this
                  exact Lib.hid this
                clear HR
                go_wp2
                exact bodyPost_ret (by simp [results, Tryz.results23, go_sem, c0', c1', c2', c3', f0', f1', f2', f3', c0'', c1'', c2'', c3'', f0'', f1'', f2'', f3'']; rfl) rfl ⟨by rw [HX.out], by repeat (first | exact hbb | apply below_alloc | apply below_set | apply below_drew | exact Nat.le_refl _)⟩
            · have HX : Hid (X = (0, 0, 0, 0, false)) := by
                have := HR.out
                rw [if_neg (by simp [hl])] at this
                exact Lib.hid this
              clear HR
              go_wp2
              exact bodyPost_ret (by simp [results, Tryz.results23, go_sem, c0', c1', c2', c3', f0', f1', f2', f3', c0'', c1'', c2'', c3'', f0'', f1'', f2'', f3'']; rfl) rfl ⟨by rw [HX.out], by repeat (first | exact hbb | apply below_alloc | apply below_set | apply below_drew | exact Nat.le_refl _)⟩
end Go.Proofs.YtpbiohnmmngccaaGreatDoor
