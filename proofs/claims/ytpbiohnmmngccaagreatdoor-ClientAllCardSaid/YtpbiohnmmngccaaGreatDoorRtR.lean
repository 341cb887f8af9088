/- What the reference's Read answers, in plain words: it is what route.Read answers. No program stands in this text, but for the reference's numbers. -/
import Derived.Test.YtpbiohnmmngccaaGreatDoorRtS
import Derived.Test.YtpbiohnmmngccaaGreatDoorR04P
set_option linter.unusedVariables false
set_option linter.unusedSimpArgs false
namespace Go.Proofs.YtpbiohnmmngccaaGreatDoor.RtR
open Go Go.Proofs.YtpbiohnmmngccaaGreatDoor Go.Proofs.YtpbiohnmmngccaaGreatDoor.RtS Go.Proofs.YtpbiohnmmngccaaGreatDoor.R04P

def good (p : List UInt8) : Bool := isNum p && decide (0 ≤ Dec.numVal p)
def numsV (l w : List UInt8) : List Int × Bool :=
  if l.length ≤ w.length ∨ l.take w.length ≠ w ∨ l.getD w.length 0 ≠ 32 then ([], false)
  else if (sp (l.drop (w.length + 1))).all good then ((sp (l.drop (w.length + 1))).map Dec.numVal, true) else ([], false)
def refReadV (l : List UInt8) : Int × Int × Int × Int × Bool :=
  if textV 4 0 0 0 = l then (4, 0, 0, 0, true) else if textV 5 0 0 0 = l then (5, 0, 0, 0, true) else if textV 6 0 0 0 = l then (6, 0, 0, 0, true)
  else if (numsV l (wordV 2)).2 = true ∧ (numsV l (wordV 2)).1.length = 2 ∧ (numsV l (wordV 2)).1.getD 0 0 ≤ 16383 ∧ (numsV l (wordV 2)).1.getD 1 0 ≤ 63 then (2, (numsV l (wordV 2)).1.getD 0 0, (numsV l (wordV 2)).1.getD 1 0, 0, true)
  else if (numsV l (wordV 3)).2 = true ∧ (numsV l (wordV 3)).1.length = 3 ∧ (numsV l (wordV 3)).1.getD 0 0 ≤ 16383 ∧ (numsV l (wordV 3)).1.getD 1 0 ≤ 63 then (3, (numsV l (wordV 3)).1.getD 0 0, (numsV l (wordV 3)).1.getD 1 0, (numsV l (wordV 3)).1.getD 2 0, true)
  else (0, 0, 0, 0, false)

theorem good_itoa {p : List UInt8} (h : good p = true) : Lib.itoa (Dec.numVal p) = p ∧ 0 ≤ Dec.numVal p ∧ Dec.numVal p ≤ 9223372036854775807 := by
  unfold good isNum inRange at h
  simp only [Bool.and_eq_true, decide_eq_true_eq] at h
  exact ⟨Dec.itoa_numVal h.1.1, h.2, h.1.2.2⟩
theorem good_of_itoa (n : Int) (h : 0 ≤ n ∧ n ≤ 9223372036854775807) : good (Lib.itoa n) = true ∧ Dec.numVal (Lib.itoa n) = n := by
  obtain ⟨h1, h2⟩ := isNum_of_itoa (n := n) (by omega) h.2 rfl
  unfold good
  rw [h1, h2, decide_eq_true h.1]
  exact ⟨rfl, rfl⟩

theorem nums_true {l w : List UInt8} (h : (numsV l w).2 = true) : (∀ n ∈ (numsV l w).1, 0 ≤ n ∧ n ≤ 9223372036854775807) ∧ w ++ joinT ((numsV l w).1.map Lib.itoa) = l := by
  unfold numsV at h ⊢
  by_cases h1 : l.length ≤ w.length ∨ l.take w.length ≠ w ∨ l.getD w.length 0 ≠ 32
  · rw [if_pos h1] at h; cases h
  · rw [if_neg h1] at h ⊢
    by_cases h2 : (sp (l.drop (w.length + 1))).all good = true
    · rw [if_pos h2]
      rw [List.all_eq_true] at h2
      simp only
      refine ⟨?_, ?_⟩
      · intro n hn
        obtain ⟨p, hp, rfl⟩ := List.mem_map.1 hn
        exact (good_itoa (h2 p hp)).2
      · rw [List.map_map]
        have hm : (sp (l.drop (w.length + 1))).map (Lib.itoa ∘ Dec.numVal) = sp (l.drop (w.length + 1)) := by
          have : (sp (l.drop (w.length + 1))).map (Lib.itoa ∘ Dec.numVal) = (sp (l.drop (w.length + 1))).map id := List.map_congr_left fun p hp => (good_itoa (h2 p hp)).1
          rw [this, List.map_id]
        rw [hm]
        simp only [not_or, Nat.not_le, ne_eq, Classical.not_not] at h1
        obtain ⟨a, b, c⟩ := h1
        have hj : joinT (sp (l.drop (w.length + 1))) = 32 :: l.drop (w.length + 1) := by
          conv => lhs; rw [sp_cons (l.drop (w.length + 1))]
          simp only [joinT, List.flatMap_cons, List.cons_append]
          exact congrArg _ (join_sp _)
        rw [hj]
        have hd : l.drop w.length = l.getD w.length 0 :: l.drop (w.length + 1) := by
          rw [List.drop_eq_getElem_cons a]
          congr 1
          simp [a]
        rw [c] at hd
        rw [← hd]
        conv => lhs; rw [← b]
        have hlen : (l.take w.length).length = w.length := by rw [b]
        rw [hlen]
        exact List.take_append_drop w.length l
    · rw [if_neg h2] at h; cases h

theorem nums_text (w : List UInt8) (n0 : Int) (ns : List Int) (h : ∀ n ∈ n0 :: ns, 0 ≤ n ∧ n ≤ 9223372036854775807) : numsV (w ++ joinT ((n0 :: ns).map Lib.itoa)) w = (n0 :: ns, true) := by
  have e : w ++ joinT ((n0 :: ns).map Lib.itoa) = w ++ 32 :: (Lib.itoa n0 ++ joinT (ns.map Lib.itoa)) := by simp [joinT]
  rw [e]
  have hd : (w ++ 32 :: (Lib.itoa n0 ++ joinT (ns.map Lib.itoa))).drop (w.length + 1) = Lib.itoa n0 ++ joinT (ns.map Lib.itoa) := by
    rw [List.drop_append]
    simp
  have hs : sp ((w ++ 32 :: (Lib.itoa n0 ++ joinT (ns.map Lib.itoa))).drop (w.length + 1)) = (n0 :: ns).map Lib.itoa := by
    rw [hd, sp_join (itoa_free n0)]
    · rfl
    · intro q hq
      obtain ⟨x, _, rfl⟩ := List.mem_map.1 hq
      exact itoa_free x
  unfold numsV
  rw [if_neg (by simp)]
  rw [hs]
  have hg : ((n0 :: ns).map Lib.itoa).all good = true := by
    rw [List.all_eq_true]
    intro p hp
    obtain ⟨x, hx, rfl⟩ := List.mem_map.1 hp
    exact (good_of_itoa x (h x hx)).1
  rw [if_pos hg, List.map_map]
  have : (n0 :: ns).map (Dec.numVal ∘ Lib.itoa) = (n0 :: ns).map id := List.map_congr_left fun x hx => (good_of_itoa x (h x hx)).2
  rw [this, List.map_id]

theorem refRead_eq (l : List UInt8) : refReadV l = readV l := by
  apply readV_unique (g := refReadV)
  · unfold refReadV
    by_cases h4 : textV 4 0 0 0 = l
    · rw [if_pos h4]; exact Or.inr ⟨4, 0, 0, 0, rfl, ⟨by omega, by omega, by omega, by omega, by omega, by omega⟩, h4⟩
    · rw [if_neg h4]
      by_cases h5 : textV 5 0 0 0 = l
      · rw [if_pos h5]; exact Or.inr ⟨5, 0, 0, 0, rfl, ⟨by omega, by omega, by omega, by omega, by omega, by omega⟩, h5⟩
      · rw [if_neg h5]
        by_cases h6 : textV 6 0 0 0 = l
        · rw [if_pos h6]; exact Or.inr ⟨6, 0, 0, 0, rfl, ⟨by omega, by omega, by omega, by omega, by omega, by omega⟩, h6⟩
        · rw [if_neg h6]
          by_cases h2 : (numsV l (wordV 2)).2 = true ∧ (numsV l (wordV 2)).1.length = 2 ∧ (numsV l (wordV 2)).1.getD 0 0 ≤ 16383 ∧ (numsV l (wordV 2)).1.getD 1 0 ≤ 63
          · rw [if_pos h2]
            obtain ⟨a, b, c, d⟩ := h2
            obtain ⟨r, ht⟩ := nums_true a
            obtain ⟨x, y, hxy⟩ : ∃ x y, (numsV l (wordV 2)).1 = [x, y] := by
              match h : (numsV l (wordV 2)).1, b with
              | [x, y], _ => exact ⟨x, y, rfl⟩
            rw [hxy] at r ht c d ⊢
            have r1 := r x (by simp)
            have r2 := r y (by simp)
            simp only [List.getD_cons_zero, List.getD_cons_succ] at c d ⊢
            exact Or.inr ⟨2, x, y, 0, rfl, ⟨by omega, by omega, by omega, by omega, by omega, by omega⟩, ht⟩
          · rw [if_neg h2]
            by_cases h3 : (numsV l (wordV 3)).2 = true ∧ (numsV l (wordV 3)).1.length = 3 ∧ (numsV l (wordV 3)).1.getD 0 0 ≤ 16383 ∧ (numsV l (wordV 3)).1.getD 1 0 ≤ 63
            · rw [if_pos h3]
              obtain ⟨a, b, c, d⟩ := h3
              obtain ⟨r, ht⟩ := nums_true a
              obtain ⟨x, y, z, hxy⟩ : ∃ x y z, (numsV l (wordV 3)).1 = [x, y, z] := by
                match h : (numsV l (wordV 3)).1, b with
                | [x, y, z], _ => exact ⟨x, y, z, rfl⟩
              rw [hxy] at r ht c d ⊢
              have r1 := r x (by simp)
              have r2 := r y (by simp)
              have r3 := r z (by simp)
              simp only [List.getD_cons_zero, List.getD_cons_succ] at c d ⊢
              exact Or.inr ⟨3, x, y, z, rfl, ⟨by omega, by omega, by omega, by omega, by omega, by omega⟩, ht⟩
            · rw [if_neg h3]; exact Or.inl rfl
  · intro k s n t hv ht
    subst ht
    have hk := hv.kind
    have hs := hv.slot
    have hn := hv.node
    have htk := hv.token
    have e1 : k = 2 ∨ k = 3 ∨ k = 4 ∨ k = 5 ∨ k = 6 := by omega
    have no : ∀ k', 4 ≤ k' → k' ≤ 6 → k ≠ k' → textV k' 0 0 0 ≠ textV k s n t := by
      intro k' h1 h2 hne e
      have := congrArg sp e
      rw [sp_text, sp_text] at this
      exact hne (word_inj (by omega) hk (List.cons.inj this).1).symm
    unfold refReadV
    rcases e1 with rfl | rfl | rfl | rfl | rfl
    · rw [if_neg (no 4 (by omega) (by omega) (by omega)), if_neg (no 5 (by omega) (by omega) (by omega)), if_neg (no 6 (by omega) (by omega) (by omega))]
      have hx : textV 2 s n t = wordV 2 ++ joinT ([s, n].map Lib.itoa) := rfl
      have hN := nums_text (wordV 2) s [n] (by intro x hx; simp at hx; omega)
      rw [hx, hN]
      rw [if_pos ⟨rfl, rfl, by show s ≤ 16383; omega, by show n ≤ 63; omega⟩, hv.rest.1 (by decide)]
      rfl
    · rw [if_neg (no 4 (by omega) (by omega) (by omega)), if_neg (no 5 (by omega) (by omega) (by omega)), if_neg (no 6 (by omega) (by omega) (by omega))]
      have hx : textV 3 s n t = wordV 3 ++ joinT ([s, n, t].map Lib.itoa) := rfl
      have hN := nums_text (wordV 3) s [n, t] (by intro x hx; simp at hx; omega)
      have hN2 : numsV (textV 3 s n t) (wordV 2) = ([], false) := by
        unfold numsV
        rw [if_pos]
        refine Or.inr (Or.inl ?_)
        intro e
        have := congrArg List.head? e
        have e2 : (List.take (wordV 2).length (textV 3 s n t)).head? = some 65 := rfl
        rw [e2] at this
        exact absurd this (by decide)
      rw [hN2, if_neg (by simp), hx, hN]
      rw [if_pos ⟨rfl, rfl, by show s ≤ 16383; omega, by show n ≤ 63; omega⟩]
      rfl
    · have h4 := hv.rest.2 (by omega)
      have h5 := hv.rest.1 (by omega)
      rw [h4.1, h4.2, h5, if_pos rfl]
    · have h4 := hv.rest.2 (by omega)
      have h5 := hv.rest.1 (by omega)
      rw [if_neg (no 4 (by omega) (by omega) (by omega)), h4.1, h4.2, h5, if_pos rfl]
    · have h4 := hv.rest.2 (by omega)
      have h5 := hv.rest.1 (by omega)
      rw [if_neg (no 4 (by omega) (by omega) (by omega)), if_neg (no 5 (by omega) (by omega) (by omega)), h4.1, h4.2, h5, if_pos rfl]
end Go.Proofs.YtpbiohnmmngccaaGreatDoor.RtR
