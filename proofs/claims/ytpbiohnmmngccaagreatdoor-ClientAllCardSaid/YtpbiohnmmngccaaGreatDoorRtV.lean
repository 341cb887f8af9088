/- Walk of route.Read: what it comes to. Conditions: texts of at most 2^32 - 16 bytes. -/
import Derived.Test.YtpbiohnmmngccaaGreatDoorRtQ
set_option linter.unusedVariables false
set_option linter.unusedSimpArgs false
namespace Go.Proofs.YtpbiohnmmngccaaGreatDoor
open Go.RowKit Go.Proofs.YtpbiohnmmngccaaGreatDoorW.PrintWords
open RtS RtR R04P

/-- what Atoi gives beside its error -/
theorem Atoi_any (s : ByteArray) (hs : s.size ≤ 140737488351232) (w : World) (hE : Env w) :
    Calls Tryz.prog 32 #[.string s] w fun e w' => ∃ v, e = .returned (.tuple #[.int .i64 (atoiN s.data.toList), v]) ∧ Below w.heap.size w w' := by
  unfold atoiN
  cases e : Lib.atoiAll s.data.toList with
  | ok v =>
    exact (Tryz.strconv_Atoi_ok s (by omega) v e w).mono fun e w' h => ⟨_, h.1, by
      rcases h.2 with rfl | ⟨t, rfl⟩
      · exact Below.refl _ _
      · exact Lib.bytesWorld_below _ _ _⟩
  | range =>
    obtain ⟨a, ha⟩ := hE.rng
    exact (Tryz.strconv_Atoi_range_var s (by omega) e _ _ w ha).mono fun e w' ⟨N, h1, _, _, h2⟩ => ⟨_, h1, h2⟩
  | _ =>
    obtain ⟨a, ha⟩ := hE.syn
    exact (Any.strconv_Atoi_syntax_var Tryz.laysC172 s (by omega) e _ _ w ha).mono fun e w' ⟨N, h1, _, _, h2⟩ => ⟨_, h1, h2⟩

def curV (P : List ByteArray) (i t : Nat) : Int := if t < i then atoiN (P.getD (t + 1) ByteArray.empty).data.toList else 0
theorem getD_map_data (P : List ByteArray) (k : Nat) : (P.map (·.data.toList)).getD k [] = (P.getD k ByteArray.empty).data.toList := by
  simp only [List.getD_eq_getElem?_getD, List.getElem?_map]
  cases P[k]? <;> rfl
theorem sp_len_le (l : List UInt8) : ∀ p ∈ sp l, p.length ≤ l.length := by
  induction l with
  | nil => intro p hp; simp [sp] at hp; subst hp; simp
  | cons c r ih =>
    intro p hp
    unfold sp at hp
    split at hp
    · rcases List.mem_cons.1 hp with rfl | hp
      · simp
      · have := ih p hp; simp; omega
    · rcases List.mem_cons.1 hp with rfl | hp
      · have := ih ((sp r).headD []) (by rw [sp_cons r]; simp)
        simp only [List.length_cons]; omega
      · have := ih p (List.mem_of_mem_tail hp)
        simp only [List.length_cons]; omega
theorem parts_len (s : ByteArray) : (Lib.splitB ⟨#[32]⟩ 0 (Lib.countB s ⟨#[32]⟩) s).length = Lib.countB s ⟨#[32]⟩ + 1 := Lib.splitB_all _ (by decide) 0 _ s rfl
theorem parts_size {s : ByteArray} {P : List ByteArray} (h : P.map (·.data.toList) = sp s.data.toList) : ∀ p ∈ P, p.size ≤ s.size := by
  intro p hp
  have : p.data.toList ∈ sp s.data.toList := by rw [← h]; exact List.mem_map_of_mem hp
  have := sp_len_le _ _ this
  rw [len_data, len_data] at this
  exact this
theorem hits_parts {l : List UInt8} {P : List ByteArray} {N : Nat} (h : P.map (·.data.toList) = sp l) (hl : P.length = N + 1) (j : Nat) :
    hits l j = (decide (wordV j = (P.getD 0 ByteArray.empty).data.toList) && decide (N = moreV j)) := by
  unfold hits
  rw [← h]
  cases P with
  | nil => simp at hl
  | cons a r =>
    simp at hl
    simp [hl]
theorem readV_none {l : List UInt8} (h : ∀ i : Nat, 2 ≤ i → i ≤ 6 → hits l i = false) : readV l = (0, 0, 0, 0, false) := by
  have h2 : hits l 2 = false := h 2 (by omega) (by omega)
  have h3 : hits l 3 = false := h 3 (by omega) (by omega)
  have h4 : hits l 4 = false := h 4 (by omega) (by omega)
  have h5 : hits l 5 = false := h 5 (by omega) (by omega)
  have h6 : hits l 6 = false := h 6 (by omega) (by omega)
  unfold readV
  simp [h2, h3, h4, h5, h6]
theorem readV_hit {l : List UInt8} {P : List ByteArray} (h : P.map (·.data.toList) = sp l) (j : Nat) (h2 : 2 ≤ j) (h6 : j ≤ 6) (hno : ∀ i : Nat, 2 ≤ i → i < j → hits l i = false) (hj : hits l j = true) :
    readV l = chk l j (curV P (moreV j) 0) (curV P (moreV j) 1) (curV P (moreV j) 2) := by
  have e : readV l = readAt l j := by
    have : j = 2 ∨ j = 3 ∨ j = 4 ∨ j = 5 ∨ j = 6 := by omega
    unfold readV
    rcases this with rfl | rfl | rfl | rfl | rfl
    · rw [if_pos (show hits l 2 = true from hj)]; rfl
    · rw [if_neg (by rw [show hits l 2 = false from hno 2 (by omega) (by omega)]; simp), if_pos (show hits l 3 = true from hj)]; rfl
    · rw [if_neg (by rw [show hits l 2 = false from hno 2 (by omega) (by omega)]; simp), if_neg (by rw [show hits l 3 = false from hno 3 (by omega) (by omega)]; simp), if_pos (show hits l 4 = true from hj)]; rfl
    · rw [if_neg (by rw [show hits l 2 = false from hno 2 (by omega) (by omega)]; simp), if_neg (by rw [show hits l 3 = false from hno 3 (by omega) (by omega)]; simp), if_neg (by rw [show hits l 4 = false from hno 4 (by omega) (by omega)]; simp), if_pos (show hits l 5 = true from hj)]; rfl
    · rw [if_neg (by rw [show hits l 2 = false from hno 2 (by omega) (by omega)]; simp), if_neg (by rw [show hits l 3 = false from hno 3 (by omega) (by omega)]; simp), if_neg (by rw [show hits l 4 = false from hno 4 (by omega) (by omega)]; simp), if_neg (by rw [show hits l 5 = false from hno 5 (by omega) (by omega)]; simp), if_pos (show hits l 6 = true from hj)]; rfl
  rw [e]
  unfold readAt
  rw [← h, getD_map_data, getD_map_data, getD_map_data]
  unfold curV
  have f : ∀ (t : Nat) (x : Int), x * (if t + 1 ≤ moreV j then 1 else 0) = if t < moreV j then x else 0 := by
    intro t x
    by_cases hh : t < moreV j
    · rw [if_pos hh, if_pos (by omega), Int.mul_one]
    · rw [if_neg hh, if_neg (by omega), Int.mul_zero]
  rw [← f 0, ← f 1, ← f 2]

theorem curV_bounds (P : List ByteArray) (i t : Nat) : I64 (curV P i t) := by
  unfold curV
  split
  · exact atoiN_bounds _
  · exact ⟨by decide, by decide⟩

set_option maxHeartbeats 8000000 in
set_option maxRecDepth 100000 in
theorem Read_calls (s : ByteArray) (hs : s.size < 4294967281) (w : World) (hE : Env w) :
    Calls Tryz.prog 21 #[.string s] w fun e w' => e = .returned (decR (readV s.data.toList)) ∧ Below w.heap.size w w' := by
  obtain ⟨m0, hm0⟩ := hE.mx
  have hPd : (Lib.splitB ⟨#[32]⟩ 0 (Lib.countB s ⟨#[32]⟩) s).map (·.data.toList) = sp s.data.toList := by
    rw [Lib.splitB_data]
    exact splitK_sp s.data.toList
  have hPl : (Lib.splitB ⟨#[32]⟩ 0 (Lib.countB s ⟨#[32]⟩) s).length = Lib.countB s ⟨#[32]⟩ + 1 := parts_len s
  have hPs : ∀ p ∈ (Lib.splitB ⟨#[32]⟩ 0 (Lib.countB s ⟨#[32]⟩) s), p.size ≤ s.size := parts_size hPd
  have hSp : ∀ (W : World), W.cell? ⟨3, 0, none⟩ = some (.int .i64 m0) → Calls Tryz.prog 30 #[.string s, .string ⟨#[32]⟩] W fun e w' =>
      e = .returned (.slice (some ⟨W.heap.size, 0, none⟩) (Lib.countB s ⟨#[32]⟩ + 1) (Lib.countB s ⟨#[32]⟩ + 1)) ∧ Below W.heap.size W w' ∧ W.heap.size < w'.heap.size ∧
        ∀ i, i < Lib.countB s ⟨#[32]⟩ + 1 → w'.cell? ⟨W.heap.size, i, none⟩ = some (.string ((Lib.splitB ⟨#[32]⟩ 0 (Lib.countB s ⟨#[32]⟩) s).getD i ByteArray.empty)) := by
    intro W h
    refine (Tryz.strings_Split s ⟨#[32]⟩ m0 W hs h (by decide)).mono ?_
    rintro e w' ⟨h1, rfl⟩
    refine ⟨h1, below_alloc (Below.refl _ _) _, by simp, ?_⟩
    intro i hi
    rw [← hPl] at hi
    simp [go_sem, hi]
  generalize Lib.countB s ⟨#[32]⟩ = N at *
  generalize Lib.splitB ⟨#[32]⟩ 0 N s = P at *
  have hh : ∀ j : Nat, hits s.data.toList j = (decide (wordV j = (P.getD 0 ByteArray.empty).data.toList) && decide (N = moreV j)) := hits_parts hPd hPl
  have hX0 : Hid ((∀ i : Nat, 2 ≤ i → i ≤ 6 → hits s.data.toList i = false) → readV s.data.toList = (0, 0, 0, 0, false)) := Lib.hid readV_none
  have hX1 : Hid (∀ j : Nat, 2 ≤ j → j ≤ 6 → (∀ i : Nat, 2 ≤ i → i < j → hits s.data.toList i = false) → hits s.data.toList j = true →
      readV s.data.toList = chk s.data.toList j (curV P (moreV j) 0) (curV P (moreV j) 1) (curV P (moreV j) 2)) := Lib.hid (readV_hit hPd)
  generalize readV s.data.toList = X at *
  go_enter Tryz.func21, Tryz.ntmps21
  go_wp2_with (go_at_call 30; refine (hSp _ (((below_alloc (Below.refl w.heap.size w) _).cell (World.block_lt_of_cell? w _ hm0)).trans hm0)).mono ?_; rintro e w1 ⟨rfl, hb1, hz1, hp1⟩)
  have r0 : w1.cell? ⟨w.heap.size, 0, none⟩ = some (.int .i64 0) := (hb1.cell (p := ⟨w.heap.size, 0, none⟩) (by simp)).trans (by simp [go_sem])
  have r1 : w1.cell? ⟨w.heap.size, 1, none⟩ = some (.int .i64 0) := (hb1.cell (p := ⟨w.heap.size, 1, none⟩) (by simp)).trans (by simp [go_sem])
  have r2 : w1.cell? ⟨w.heap.size, 2, none⟩ = some (.int .i64 0) := (hb1.cell (p := ⟨w.heap.size, 2, none⟩) (by simp)).trans (by simp [go_sem])
  have r3 : w1.cell? ⟨w.heap.size, 3, none⟩ = some (.int .i64 0) := (hb1.cell (p := ⟨w.heap.size, 3, none⟩) (by simp)).trans (by simp [go_sem])
  have q0 : w1.frozen? ⟨w.heap.size, 0, none⟩ = false := (hb1.frozen (p := ⟨w.heap.size, 0, none⟩) (by simp)).trans (by simp [go_sem])
  have q1 : w1.frozen? ⟨w.heap.size, 1, none⟩ = false := (hb1.frozen (p := ⟨w.heap.size, 1, none⟩) (by simp)).trans (by simp [go_sem])
  have q2 : w1.frozen? ⟨w.heap.size, 2, none⟩ = false := (hb1.frozen (p := ⟨w.heap.size, 2, none⟩) (by simp)).trans (by simp [go_sem])
  have q3 : w1.frozen? ⟨w.heap.size, 3, none⟩ = false := (hb1.frozen (p := ⟨w.heap.size, 3, none⟩) (by simp)).trans (by simp [go_sem])
  have hb : Below w.heap.size w w1 := (below_alloc (Below.refl _ _) _).trans (hb1.mono (by simp))
  simp only [World.size_alloc] at hp1 hz1
  clear hb1 hSp
  have p0 := hp1 0 (by omega)
  generalize hP0 : P.getD 0 ByteArray.empty = P0 at *
  have Hp := Lib.hid hp1
  have HPs := Lib.hid hPs
  have HPd := Lib.hid hPd
  have Hh := Lib.hid hh
  have HP0 := Lib.hid hP0
  clear hp1 hPs hPd hh hP0
  go_loopw [5] (fun k wr => ∃ j : Nat, 2 ≤ j ∧ j ≤ 7 ∧ k = .int .i64 j ∧ w1 = wr ∧ Hid (∀ i : Nat, 2 ≤ i → i < j → hits s.data.toList i = false)) (fun k _ => 7 - (intOf k).toNat)
  case atStart => exact ⟨2, by omega, by omega, rfl, rfl, Lib.hid (fun i h1 h2 => by omega)⟩
  case round =>
    obtain ⟨j, h2, h7, rfl, rfl, hno⟩ := hrel
    by_cases hj : j ≤ 6
    · have hw := word_calls j
      have HX := fun h => Lib.hid (hX1.out j h2 hj hno.out h)
      have HHj := Hh.out j
      have hm3 : moreV j ≤ 3 := by unfold moreV; split <;> (try split) <;> omega
      cases hhit : hits s.data.toList j with
      | false =>
        rw [hhit] at HHj
        have Hn := Lib.hid (show ∀ i : Nat, 2 ≤ i → i < j + 1 → hits s.data.toList i = false from fun i h1 h2 => by
          by_cases h3 : i = j
          · rw [h3]; exact hhit
          · exact hno.out i h1 (by omega))
        have hne : ((⟨(wordV j).toArray⟩ : ByteArray).toList == P0.toList) = decide (wordV j = P0.data.toList) := by
          rw [R04P.toList_data, R04P.toList_data]
          exact (Bool.beq_eq_decide_eq _ _)
        by_cases he : wordV j = P0.data.toList
        · rw [decide_eq_true he] at hne
          rw [decide_eq_true he, Bool.true_and] at HHj
          have hN := of_decide_eq_false HHj.symm
          generalize (⟨(wordV j).toArray⟩ : ByteArray) = ww at *
          generalize moreV j = m at *
          clear HX hX1 hX0 hno Hh hhit HHj he
          go_wp2_with (go_at_call 31; refine (hw _).mono ?_; rintro e w2 ⟨rfl, rfl⟩)
          case roundEnd => exact ⟨⟨j + 1, by omega, by omega, rfl, True.intro, Hn⟩, by simp [intOf]; omega⟩
        · rw [decide_eq_false he] at hne
          generalize (⟨(wordV j).toArray⟩ : ByteArray) = ww at *
          generalize moreV j = m at *
          clear HX hX1 hX0 hno Hh hhit HHj he
          go_wp2_with (go_at_call 31; refine (hw _).mono ?_; rintro e w2 ⟨rfl, rfl⟩)
          case roundEnd => exact ⟨⟨j + 1, by omega, by omega, rfl, True.intro, Hn⟩, by simp [intOf]; omega⟩
      | true =>
        rw [hhit] at HHj
        have hx := Lib.hid (HX hhit)
        clear HX hX1 hX0 hno Hh hhit
        have HHJ := (Bool.and_eq_true_iff.mp HHj.symm)
        have e1 := of_decide_eq_true HHJ.1
        have e2 := of_decide_eq_true HHJ.2
        clear HHj HHJ
        have e1' : (⟨(wordV j).toArray⟩ : ByteArray) = P0 := by rw [e1]
        rw [e1'] at hw
        generalize moreV j = m at *
        subst e2
        clear e1 e1'
        by_cases hN : N = 0
        · subst hN
          go_wp2_with (go_at_call 31; refine (hw _).mono ?_; rintro e w2 ⟨rfl, rfl⟩)
          go_loopw [38] (fun i wi => ∃ t : Nat, t ≤ 0 ∧ i = .int .i64 t ∧ Below w1.heap.size w1 wi ∧ w1.heap.size < wi.heap.size ∧
            (∀ x, x < 3 → wi.cell? ⟨w1.heap.size, x, none⟩ = some (.int .i64 (curV P t x))) ∧ (∀ x, x < 3 → wi.frozen? ⟨w1.heap.size, x, none⟩ = false)) (fun i _ => 0 - (intOf i).toNat)
          case atStart =>
            refine ⟨0, Nat.zero_le _, rfl, below_alloc (Below.refl _ _) _, by simp, ?_, ?_⟩
            · intro x hx
              have : x = 0 ∨ x = 1 ∨ x = 2 := by omega
              rcases this with rfl | rfl | rfl <;> simp [go_sem, curV]
            · intro x hx
              have : x = 0 ∨ x = 1 ∨ x = 2 := by omega
              rcases this with rfl | rfl | rfl <;> simp [go_sem]
          case round =>
            obtain ⟨t, ht, rfl, hbi, hzi, hci, hfi⟩ := hrel
            obtain rfl : t = 0 := by omega
            have c0 := hci 0 (by omega)
            have c1 := hci 1 (by omega)
            have c2 := hci 2 (by omega)
            have i0 := curV_bounds P 0 0
            have i1 := curV_bounds P 0 1
            have i2 := curV_bounds P 0 2
            have hx := hx.out.out
            clear hci hfi
            generalize curV P 0 0 = L0 at *
            generalize curV P 0 1 = L1 at *
            generalize curV P 0 2 = L2 at *
            have HX := Lib.hid hx
            clear hx
            go_wp2_with fail
            refine (Text_calls j L0 L1 L2 i0 i1 i2 _ (hE.below (by repeat (first | exact hb.trans (hbi.mono hb.size) | apply below_alloc | apply below_set | exact Nat.le_refl _)))).mono ?_
            rintro e w4 ⟨rfl, hb4⟩
            have d0 : w4.cell? ⟨wr.heap.size, 0, none⟩ = some (.int .i64 j) := (hb4.cell (p := ⟨wr.heap.size, 0, none⟩) (by simp)).trans (by simp [go_sem])
            have d1 : w4.cell? ⟨wr.heap.size, 1, none⟩ = some (.int .i64 L0) := (hb4.cell (p := ⟨wr.heap.size, 1, none⟩) (by simp)).trans (by simp [go_sem])
            have d2 : w4.cell? ⟨wr.heap.size, 2, none⟩ = some (.int .i64 L1) := (hb4.cell (p := ⟨wr.heap.size, 2, none⟩) (by simp)).trans (by simp [go_sem])
            have d3 : w4.cell? ⟨wr.heap.size, 3, none⟩ = some (.int .i64 L2) := (hb4.cell (p := ⟨wr.heap.size, 3, none⟩) (by simp)).trans (by simp [go_sem])
            have hb14 : Below w1.heap.size w1 w4 := hbi.trans ((below_alloc (Below.refl wr.heap.size wr) _).trans (hb4.mono (by simp)) |>.mono hbi.size)
            have hzz : w.heap.size < w1.heap.size := by omega
            have c0' := (hb14.cell (p := ⟨w.heap.size, 0, none⟩) hzz).trans r0
            have c1' := (hb14.cell (p := ⟨w.heap.size, 1, none⟩) hzz).trans r1
            have c2' := (hb14.cell (p := ⟨w.heap.size, 2, none⟩) hzz).trans r2
            have c3' := (hb14.cell (p := ⟨w.heap.size, 3, none⟩) hzz).trans r3
            have f0' := (hb14.frozen (p := ⟨w.heap.size, 0, none⟩) hzz).trans q0
            have f1' := (hb14.frozen (p := ⟨w.heap.size, 1, none⟩) hzz).trans q1
            have f2' := (hb14.frozen (p := ⟨w.heap.size, 2, none⟩) hzz).trans q2
            have f3' := (hb14.frozen (p := ⟨w.heap.size, 3, none⟩) hzz).trans q3
            have hbb : Below w.heap.size w w4 := hb.trans (hb14.mono hb.size)
            have het : ((⟨(textV j L0 L1 L2).toArray⟩ : ByteArray).toList == s.toList) = decide (textV j L0 L1 L2 = s.data.toList) := by
              rw [R04P.toList_data, R04P.toList_data]
              exact (Bool.beq_eq_decide_eq _ _)
            have hX := HX.out
            unfold chk at hX
            clear c0 c1 c2 hw Hp r0 r1 r2 r3 q0 q1 q2 q3 p0 hPl HPs HPd HP0 HX hx hm0 hE hb hbi hb14 hb4
            by_cases he : textV j L0 L1 L2 = s.data.toList
            · rw [decide_eq_true he] at het
              generalize (⟨(textV j L0 L1 L2).toArray⟩ : ByteArray) = tt at *
              by_cases h0 : L0 < 0
              · rw [if_neg (by omega)] at hX
                go_wp2
                exact bodyPost_ret (by simp [results, Tryz.results21, go_sem, c0', c1', c2', c3', f0', f1', f2', f3', d0, d1, d2, d3]; rfl) rfl ⟨by rw [hX], by repeat (first | exact hbb | apply below_alloc | apply below_set | apply below_drew | exact Nat.le_refl _)⟩
              · by_cases h1 : 16384 ≤ L0
                · rw [if_neg (by omega)] at hX
                  go_wp2
                  exact bodyPost_ret (by simp [results, Tryz.results21, go_sem, c0', c1', c2', c3', f0', f1', f2', f3', d0, d1, d2, d3]; rfl) rfl ⟨by rw [hX], by repeat (first | exact hbb | apply below_alloc | apply below_set | apply below_drew | exact Nat.le_refl _)⟩
                · by_cases h2 : L1 < 0
                  · rw [if_neg (by omega)] at hX
                    go_wp2
                    exact bodyPost_ret (by simp [results, Tryz.results21, go_sem, c0', c1', c2', c3', f0', f1', f2', f3', d0, d1, d2, d3]; rfl) rfl ⟨by rw [hX], by repeat (first | exact hbb | apply below_alloc | apply below_set | apply below_drew | exact Nat.le_refl _)⟩
                  · by_cases h3 : 64 ≤ L1
                    · rw [if_neg (by omega)] at hX
                      go_wp2
                      exact bodyPost_ret (by simp [results, Tryz.results21, go_sem, c0', c1', c2', c3', f0', f1', f2', f3', d0, d1, d2, d3]; rfl) rfl ⟨by rw [hX], by repeat (first | exact hbb | apply below_alloc | apply below_set | apply below_drew | exact Nat.le_refl _)⟩
                    · by_cases h4 : L2 < 0
                      · rw [if_neg (by omega)] at hX
                        go_wp2
                        exact bodyPost_ret (by simp [results, Tryz.results21, go_sem, c0', c1', c2', c3', f0', f1', f2', f3', d0, d1, d2, d3]; rfl) rfl ⟨by rw [hX], by repeat (first | exact hbb | apply below_alloc | apply below_set | apply below_drew | exact Nat.le_refl _)⟩
                      · rw [if_pos ⟨he, by omega, by omega, by omega, by omega, by omega⟩] at hX
                        go_wp2
                        exact bodyPost_ret (by simp [results, Tryz.results21, go_sem, c0', c1', c2', c3', f0', f1', f2', f3', d0, d1, d2, d3]; rfl) rfl ⟨by rw [hX], by repeat (first | exact hbb | apply below_alloc | apply below_set | apply below_drew | exact Nat.le_refl _)⟩
            · rw [decide_eq_false he] at het
              rw [if_neg (fun h => he h.1)] at hX
              generalize (⟨(textV j L0 L1 L2).toArray⟩ : ByteArray) = tt at *
              go_wp2
              exact bodyPost_ret (by simp [results, Tryz.results21, go_sem, c0', c1', c2', c3', f0', f1', f2', f3', d0, d1, d2, d3]; rfl) rfl ⟨by rw [hX], by repeat (first | exact hbb | apply below_alloc | apply below_set | apply below_drew | exact Nat.le_refl _)⟩
        · go_wp2_with (go_at_call 31; refine (hw _).mono ?_; rintro e w2 ⟨rfl, rfl⟩)
          go_loopw [38] (fun i wi => ∃ t : Nat, t ≤ N ∧ i = .int .i64 t ∧ Below w1.heap.size w1 wi ∧ w1.heap.size < wi.heap.size ∧
            (∀ x, x < 3 → wi.cell? ⟨w1.heap.size, x, none⟩ = some (.int .i64 (curV P t x))) ∧ (∀ x, x < 3 → wi.frozen? ⟨w1.heap.size, x, none⟩ = false)) (fun i _ => N - (intOf i).toNat)
          case atStart =>
            refine ⟨0, Nat.zero_le _, rfl, below_alloc (Below.refl _ _) _, by simp, ?_, ?_⟩
            · intro x hx
              have : x = 0 ∨ x = 1 ∨ x = 2 := by omega
              rcases this with rfl | rfl | rfl <;> simp [go_sem, curV]
            · intro x hx
              have : x = 0 ∨ x = 1 ∨ x = 2 := by omega
              rcases this with rfl | rfl | rfl <;> simp [go_sem]
          case round =>
            obtain ⟨t, ht, rfl, hbi, hzi, hci, hfi⟩ := hrel
            by_cases htN : t < N
            · have pt := (hbi.cell (p := ⟨w.heap.size + 1, t + 1, none⟩) hz1).trans (Hp.out (t + 1) (by omega))
              have hEi := hE.below (hb.trans (hbi.mono hb.size))
              have hAt := Atoi_any (P.getD (t + 1) ByteArray.empty) (by
                have : P.getD (t + 1) ByteArray.empty ∈ P := by
                  rw [List.getD_eq_getElem?_getD, List.getElem?_eq_getElem (by omega)]; exact List.getElem_mem _
                have := HPs.out _ this
                omega)
              have hstep : ∀ x, x < 3 → curV P (t + 1) x = if x = t then atoiN (P.getD (t + 1) ByteArray.empty).data.toList else curV P t x := by
                intro x hx
                unfold curV
                by_cases hxt : x = t
                · subst hxt; simp
                · rw [if_neg hxt]
                  by_cases h : x < t
                  · rw [if_pos h, if_pos (by omega)]
                  · rw [if_neg h, if_neg (by omega)]
              have Hstep := Lib.hid hstep
              clear hstep hx
              generalize atoiN (P.getD (t + 1) ByteArray.empty).data.toList = V at *
              generalize P.getD (t + 1) ByteArray.empty = PT at *
              have ct := hci t (by omega)
              have ft := hfi t (by omega)
              have Hci := Lib.hid hci
              have Hfi := Lib.hid hfi
              clear hci hfi
              have htl : (t : Int) < 3 := by omega
              rw [Nat.add_comm t 1] at pt
              go_wp2_with (go_at_call 32; refine (hAt _ hEi).mono ?_; rintro e w3 ⟨ve, rfl, hb3⟩; have ct3 := (hb3.cell hzi).trans ct; have ft3 := (hb3.frozen hzi).trans ft)
              case roundEnd =>
                have hz3 : w1.heap.size < w3.heap.size := Nat.lt_of_lt_of_le hzi hb3.size
                refine ⟨⟨t + 1, by omega, rfl, below_set (hbi.trans (hb3.mono hbi.size)) (Nat.le_refl _), by simpa using hz3, ?_, ?_⟩, by simp [intOf]; omega⟩
                · intro x hx
                  rw [Hstep.out x hx]
                  by_cases hxt : x = t
                  · subst hxt
                    simp [go_sem, ct3]
                  · have cx := (hb3.cell (p := ⟨w1.heap.size, x, none⟩) hzi).trans (Hci.out x hx)
                    simp [go_sem, hxt, cx]
                · intro x hx
                  have fx := (hb3.frozen (p := ⟨w1.heap.size, x, none⟩) hzi).trans (Hfi.out x hx)
                  simp [go_sem, fx]
            · obtain rfl : t = N := by omega
              have c0 := hci 0 (by omega)
              have c1 := hci 1 (by omega)
              have c2 := hci 2 (by omega)
              have i0 := curV_bounds P t 0
              have i1 := curV_bounds P t 1
              have i2 := curV_bounds P t 2
              have hx := hx.out.out
              clear hci hfi
              generalize curV P t 0 = L0 at *
              generalize curV P t 1 = L1 at *
              generalize curV P t 2 = L2 at *
              have HX := Lib.hid hx
              clear hx
              go_wp2_with fail
              refine (Text_calls j L0 L1 L2 i0 i1 i2 _ (hE.below (by repeat (first | exact hb.trans (hbi.mono hb.size) | apply below_alloc | apply below_set | exact Nat.le_refl _)))).mono ?_
              rintro e w4 ⟨rfl, hb4⟩
              have d0 : w4.cell? ⟨wr.heap.size, 0, none⟩ = some (.int .i64 j) := (hb4.cell (p := ⟨wr.heap.size, 0, none⟩) (by simp)).trans (by simp [go_sem])
              have d1 : w4.cell? ⟨wr.heap.size, 1, none⟩ = some (.int .i64 L0) := (hb4.cell (p := ⟨wr.heap.size, 1, none⟩) (by simp)).trans (by simp [go_sem])
              have d2 : w4.cell? ⟨wr.heap.size, 2, none⟩ = some (.int .i64 L1) := (hb4.cell (p := ⟨wr.heap.size, 2, none⟩) (by simp)).trans (by simp [go_sem])
              have d3 : w4.cell? ⟨wr.heap.size, 3, none⟩ = some (.int .i64 L2) := (hb4.cell (p := ⟨wr.heap.size, 3, none⟩) (by simp)).trans (by simp [go_sem])
              have hb14 : Below w1.heap.size w1 w4 := hbi.trans ((below_alloc (Below.refl wr.heap.size wr) _).trans (hb4.mono (by simp)) |>.mono hbi.size)
              have hzz : w.heap.size < w1.heap.size := by omega
              have c0' := (hb14.cell (p := ⟨w.heap.size, 0, none⟩) hzz).trans r0
              have c1' := (hb14.cell (p := ⟨w.heap.size, 1, none⟩) hzz).trans r1
              have c2' := (hb14.cell (p := ⟨w.heap.size, 2, none⟩) hzz).trans r2
              have c3' := (hb14.cell (p := ⟨w.heap.size, 3, none⟩) hzz).trans r3
              have f0' := (hb14.frozen (p := ⟨w.heap.size, 0, none⟩) hzz).trans q0
              have f1' := (hb14.frozen (p := ⟨w.heap.size, 1, none⟩) hzz).trans q1
              have f2' := (hb14.frozen (p := ⟨w.heap.size, 2, none⟩) hzz).trans q2
              have f3' := (hb14.frozen (p := ⟨w.heap.size, 3, none⟩) hzz).trans q3
              have hbb : Below w.heap.size w w4 := hb.trans (hb14.mono hb.size)
              have het : ((⟨(textV j L0 L1 L2).toArray⟩ : ByteArray).toList == s.toList) = decide (textV j L0 L1 L2 = s.data.toList) := by
                rw [R04P.toList_data, R04P.toList_data]
                exact (Bool.beq_eq_decide_eq _ _)
              have hX := HX.out
              unfold chk at hX
              clear c0 c1 c2 hw Hp r0 r1 r2 r3 q0 q1 q2 q3 p0 hPl HPs HPd HP0 HX hx hm0 hE hb hbi hb14 hb4
              by_cases he : textV j L0 L1 L2 = s.data.toList
              · rw [decide_eq_true he] at het
                generalize (⟨(textV j L0 L1 L2).toArray⟩ : ByteArray) = tt at *
                by_cases h0 : L0 < 0
                · rw [if_neg (by omega)] at hX
                  go_wp2
                  exact bodyPost_ret (by simp [results, Tryz.results21, go_sem, c0', c1', c2', c3', f0', f1', f2', f3', d0, d1, d2, d3]; rfl) rfl ⟨by rw [hX], by repeat (first | exact hbb | apply below_alloc | apply below_set | apply below_drew | exact Nat.le_refl _)⟩
                · by_cases h1 : 16384 ≤ L0
                  · rw [if_neg (by omega)] at hX
                    go_wp2
                    exact bodyPost_ret (by simp [results, Tryz.results21, go_sem, c0', c1', c2', c3', f0', f1', f2', f3', d0, d1, d2, d3]; rfl) rfl ⟨by rw [hX], by repeat (first | exact hbb | apply below_alloc | apply below_set | apply below_drew | exact Nat.le_refl _)⟩
                  · by_cases h2 : L1 < 0
                    · rw [if_neg (by omega)] at hX
                      go_wp2
                      exact bodyPost_ret (by simp [results, Tryz.results21, go_sem, c0', c1', c2', c3', f0', f1', f2', f3', d0, d1, d2, d3]; rfl) rfl ⟨by rw [hX], by repeat (first | exact hbb | apply below_alloc | apply below_set | apply below_drew | exact Nat.le_refl _)⟩
                    · by_cases h3 : 64 ≤ L1
                      · rw [if_neg (by omega)] at hX
                        go_wp2
                        exact bodyPost_ret (by simp [results, Tryz.results21, go_sem, c0', c1', c2', c3', f0', f1', f2', f3', d0, d1, d2, d3]; rfl) rfl ⟨by rw [hX], by repeat (first | exact hbb | apply below_alloc | apply below_set | apply below_drew | exact Nat.le_refl _)⟩
                      · by_cases h4 : L2 < 0
                        · rw [if_neg (by omega)] at hX
                          go_wp2
                          exact bodyPost_ret (by simp [results, Tryz.results21, go_sem, c0', c1', c2', c3', f0', f1', f2', f3', d0, d1, d2, d3]; rfl) rfl ⟨by rw [hX], by repeat (first | exact hbb | apply below_alloc | apply below_set | apply below_drew | exact Nat.le_refl _)⟩
                        · rw [if_pos ⟨he, by omega, by omega, by omega, by omega, by omega⟩] at hX
                          go_wp2
                          exact bodyPost_ret (by simp [results, Tryz.results21, go_sem, c0', c1', c2', c3', f0', f1', f2', f3', d0, d1, d2, d3]; rfl) rfl ⟨by rw [hX], by repeat (first | exact hbb | apply below_alloc | apply below_set | apply below_drew | exact Nat.le_refl _)⟩
              · rw [decide_eq_false he] at het
                rw [if_neg (fun h => he h.1)] at hX
                generalize (⟨(textV j L0 L1 L2).toArray⟩ : ByteArray) = tt at *
                go_wp2
                exact bodyPost_ret (by simp [results, Tryz.results21, go_sem, c0', c1', c2', c3', f0', f1', f2', f3', d0, d1, d2, d3]; rfl) rfl ⟨by rw [hX], by repeat (first | exact hbb | apply below_alloc | apply below_set | apply below_drew | exact Nat.le_refl _)⟩
    · obtain rfl : j = 7 := by omega
      have hX := hX0.out (fun i h1 h2 => hno.out i h1 (by omega))
      have c0' := r0
      have c1' := r1
      have c2' := r2
      have c3' := r3
      have f0' := q0
      have f1' := q1
      have f2' := q2
      have f3' := q3
      clear hX1 hX0 hno Hh Hp HPs HPd HP0
      go_wp2
      exact bodyPost_ret (by simp [results, Tryz.results21, go_sem, c0', c1', c2', c3', f0', f1', f2', f3']; rfl) rfl ⟨by rw [hX], by repeat (first | exact hb | apply below_alloc | apply below_set | apply below_drew | exact Nat.le_refl _)⟩
end Go.Proofs.YtpbiohnmmngccaaGreatDoor
