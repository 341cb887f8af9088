/- A line of words with blanks between is read as these words. Conditions: in the statements. -/
import Derived.Test.YtmdekodoicnmbaaDoorRsZ
set_option linter.unusedVariables false
set_option linter.unusedSimpArgs false
namespace Go.Proofs.YtmdekodoicnmbaaDoor
open Go.RowKit Go.Proofs.YtmdekodoicnmbaaDoorW.PrintWords
theorem blank_not {n : Nat} (h : 32 < n) : blankP n = false := by
  unfold blankP
  simp
  omega
theorem dec_word (s : ByteArray) (i : Nat) (hb : 32 < (s.get! i).toNat) :
    blankP (Utf8.decode s i).1 = false ∧ 1 ≤ (Utf8.decode s i).2 ∧ ∀ e, i ≤ e → (s.get! e).toNat = 32 → i + (Utf8.decode s i).2 ≤ e := by
  have h1 : ∀ e, i ≤ e → (s.get! e).toNat = 32 → i + 1 ≤ e := by
    intro e he h
    by_cases hie : i = e
    · subst hie; omega
    · omega
  have hc : ∀ k e, (decide (i + k < s.size) && (s.get! (i + k)).toNat / 64 == 2) = true → (s.get! e).toNat = 32 → e ≠ i + k := by
    intro k e h h2 h3
    subst h3
    rw [h2] at h
    simp at h
  have hre : Utf8.runeError = 65533 := rfl
  unfold Utf8.decode
  simp only [Nat.add_zero]
  split
  · exact ⟨blank_not hb, Nat.le_refl _, h1⟩
  · split
    · rename_i hc2
      rw [Bool.and_eq_true] at hc2
      split
      · rename_i hge
        exact ⟨blank_not (by omega), by simp, fun e he h => by have := h1 e he h; have := hc 1 e hc2.2 h; show i + 2 ≤ e; omega⟩
      · exact ⟨blank_not (by rw [hre]; decide), Nat.le_refl _, h1⟩
    · split
      · rename_i hc3
        rw [Bool.and_eq_true, Bool.and_eq_true] at hc3
        split
        · rename_i hge
          rw [Bool.and_eq_true, decide_eq_true_eq] at hge
          exact ⟨blank_not (by omega), by simp, fun e he h => by have := h1 e he h; have := hc 1 e hc3.1.2 h; have := hc 2 e hc3.2 h; show i + 3 ≤ e; omega⟩
        · exact ⟨blank_not (by rw [hre]; decide), Nat.le_refl _, h1⟩
      · split
        · rename_i hc4
          rw [Bool.and_eq_true, Bool.and_eq_true, Bool.and_eq_true] at hc4
          split
          · rename_i hge
            rw [Bool.and_eq_true, decide_eq_true_eq] at hge
            exact ⟨blank_not (by omega), by simp, fun e he h => by have := h1 e he h; have := hc 1 e hc4.1.1.2 h; have := hc 2 e hc4.1.2 h; have := hc 3 e hc4.2 h; show i + 4 ≤ e; omega⟩
          · exact ⟨blank_not (by rw [hre]; decide), Nat.le_refl _, h1⟩
        · exact ⟨blank_not (by rw [hre]; decide), Nat.le_refl _, h1⟩
/-- inside a word, up to the blank behind it -/
theorem span_word (s : ByteArray) (e : Nat) (he : e < s.size) (h32 : (s.get! e).toNat = 32) : ∀ (d pos f : Nat) (a : Nat) (acc : List (Nat × Nat)), d = e - pos → pos ≤ e → (∀ j, pos ≤ j → j < e → 32 < (s.get! j).toNat) → s.size - pos ≤ f →
    ∃ f', s.size - (e + 1) ≤ f' ∧ Lib.spansFromP blankP s f pos (some a) acc = Lib.spansFromP blankP s f' (e + 1) none (acc ++ [(a, e)]) := by
  intro d
  induction d using Nat.strongRecOn with
  | _ d ih =>
    intro pos f a acc hd hpe hw hf
    obtain ⟨f, rfl⟩ : ∃ q, f = q + 1 := ⟨f - 1, by omega⟩
    by_cases hpe' : pos = e
    · subst hpe'
      refine ⟨f, by omega, ?_⟩
      have hdec : Utf8.decode s pos = (32, 1) := by
        unfold Utf8.decode
        simp only [Nat.add_zero, h32]
        exact if_pos (by decide)
      rw [Lib.spansFromP, if_pos he, hdec, if_pos (by decide)]
    · obtain ⟨h1, h2, h3⟩ := dec_word s pos (hw pos (Nat.le_refl _) (by omega))
      have h4 := h3 e hpe h32
      rw [Lib.spansFromP, if_pos (by omega), if_neg (by rw [h1]; decide)]
      exact ih (e - (pos + (Utf8.decode s pos).2)) (by omega) _ f a acc rfl h4 (fun j hj hje => hw j (by omega) hje) (by omega)
def lineV (ws : List ByteArray) : List UInt8 := ws.flatMap fun w => w.data.toList ++ [32]
def Plain (w : ByteArray) : Prop := w.data.toList ≠ [] ∧ ∀ c ∈ w.data.toList, 32 < c.toNat ∧ c ≠ 42
theorem get_mk (l : List UInt8) (i : Nat) (h : i < l.length) : (⟨l.toArray⟩ : ByteArray).get! i = l[i] := by
  show l.toArray[i]! = _
  simp [h]
theorem extract_mid (a b c : List UInt8) : (⟨(a ++ b ++ c).toArray⟩ : ByteArray).extract a.length (a.length + b.length) = ⟨b.toArray⟩ := by
  have : ∀ x y : ByteArray, x.data = y.data → x = y := fun x y h => by cases x; cases y; simpa using h
  apply this
  rw [ByteArray.data_extract]
  simp [List.extract_eq_take_drop]
theorem span_words : ∀ (ws : List ByteArray) (pre : List UInt8) (f : Nat) (acc : List (Nat × Nat)) (S : ByteArray), (∀ w ∈ ws, Plain w) → S = ⟨(pre ++ lineV ws).toArray⟩ → S.size - pre.length ≤ f →
    ∃ L, Lib.spansFromP blankP S f pre.length none acc = (acc ++ L, none) ∧ L.map (fun x => S.extract x.1 x.2) = ws
  | [], pre, f, acc, S, hw, hS, hf => by
    subst hS
    refine ⟨[], ?_, rfl⟩
    rw [Lib.spansFromP_end _ _ _ _ _ _ (by rw [size_mk]; simp [lineV]), List.append_nil]
  | w :: ws, pre, f, acc, S, hw, hS, hf => by
    have hl : lineV (w :: ws) = w.data.toList ++ ([32] ++ lineV ws) := by simp [lineV]
    obtain ⟨hne, hch⟩ := hw w (by simp)
    have hlen : 0 < w.data.toList.length := List.length_pos_iff.2 hne
    generalize hwl : w.data.toList = wl at *
    have hSz : S.size = pre.length + (wl.length + (1 + (lineV ws).length)) := by rw [hS, size_mk, hl]; simp; omega
    have hat : ∀ j, j < wl.length → S.get! (pre.length + j) = wl.getD j 0 := by
      intro j hj
      rw [hS, get_mk _ _ (by rw [hl]; simp; omega), List.getElem_append_right (by omega)]
      simp only [hl, Nat.add_sub_cancel_left]
      rw [List.getElem_append_left hj, List.getD_eq_getElem?_getD, List.getElem?_eq_getElem hj]
      rfl
    have h32 : (S.get! (pre.length + wl.length)).toNat = 32 := by
      rw [hS, get_mk _ _ (by rw [hl]; simp), List.getElem_append_right (by omega)]
      simp only [hl, Nat.add_sub_cancel_left]
      rw [List.getElem_append_right (Nat.le_refl _)]
      simp
    have hgt : ∀ j, j < wl.length → 32 < (S.get! (pre.length + j)).toNat := by
      intro j hj
      rw [hat j hj, List.getD_eq_getElem?_getD, List.getElem?_eq_getElem hj]
      exact (hch _ (List.getElem_mem hj)).1
    obtain ⟨f, rfl⟩ : ∃ q, f = q + 1 := ⟨f - 1, by omega⟩
    obtain ⟨h1, h2, h3⟩ := dec_word S pre.length (by have := hgt 0 hlen; simpa using this)
    have h4 := h3 (pre.length + wl.length) (by omega) h32
    obtain ⟨f', hf', hs⟩ := span_word S (pre.length + wl.length) (by omega) h32 _ (pre.length + (Utf8.decode S pre.length).2) f pre.length acc rfl h4 (fun j hj hje => by
      have := hgt (j - pre.length) (by omega)
      rwa [show pre.length + (j - pre.length) = j by omega] at this) (by omega)
    have hS2 : S = ⟨((pre ++ wl ++ [32]) ++ lineV ws).toArray⟩ := by rw [hS, hl]; simp
    obtain ⟨L, hL, hm⟩ := span_words ws (pre ++ wl ++ [32]) f' (acc ++ [(pre.length, pre.length + wl.length)]) S (fun x hx => hw x (by simp [hx])) hS2 (by simp; omega)
    refine ⟨(pre.length, pre.length + wl.length) :: L, ?_, ?_⟩
    · rw [Lib.spansFromP, if_pos (by omega), if_neg (by rw [h1]; decide)]
      try simp only
      rw [hs]
      have e : (pre ++ wl ++ [32]).length = pre.length + wl.length + 1 := by simp; omega
      rw [e] at hL
      rw [hL]
      simp
    · rw [List.map_cons, hm]
      congr 1
      have e : S = ⟨(pre ++ wl ++ ([32] ++ lineV ws)).toArray⟩ := by rw [hS, hl]; simp
      rw [e, extract_mid]
      rw [← hwl]
theorem words_line (ws : List ByteArray) (hw : ∀ w ∈ ws, Plain w) : wordsV (lineV ws ++ [13, 10]) = ws := by
  have ht : trimL (lineV ws ++ [13, 10]) = lineV ws := by
    unfold trimL
    have e : lineV ws ++ [13, 10] = (lineV ws ++ [13]) ++ [10] := by simp
    have hs : ∀ a p : List UInt8, Lib.trimSuffix (a ++ p) p = a := by
      intro a p
      unfold Lib.trimSuffix
      rw [if_pos (suffix_app a p)]
      simp
    rw [e, hs, hs]
  unfold wordsV
  rw [ht]
  obtain ⟨L, hL, hm⟩ := span_words ws [] (⟨(lineV ws).toArray⟩ : ByteArray).size [] ⟨(lineV ws).toArray⟩ hw (by simp) (by omega)
  unfold Lib.goFieldsP Lib.spansOfP
  have hL' : Lib.spansFromP blankP ⟨(lineV ws).toArray⟩ (⟨(lineV ws).toArray⟩ : ByteArray).size 0 none [] = (L, none) := hL
  rw [hL']
  exact hm
theorem line_mem (ws : List ByteArray) (hw : ∀ w ∈ ws, Plain w) : (10 : UInt8) ∉ lineV ws := by
  intro h
  unfold lineV at h
  obtain ⟨w, hx, hm⟩ := List.mem_flatMap.1 h
  rcases List.mem_append.1 hm with hm | hm
  · have := (hw w hx).2 _ hm
    simp at this
  · simp at hm
theorem line_one (ws : List ByteArray) (hw : ∀ w ∈ ws, Plain w) (hl : (lineV ws).length < 511) (hn : ws.length ≤ 32) : oneV (lineV ws ++ [13, 10]) = .read ws ((lineV ws).length + 2) := by
  have e : lineV ws ++ [13, 10] = (lineV ws ++ [13]) ++ 10 :: [] := by simp
  have hk : lkV (lineV ws ++ [13, 10]) = ((lineV ws).length + 1 : Nat) := by
    rw [e, lkV_first]
    · simp
    · intro h
      rcases List.mem_append.1 h with h | h
      · exact line_mem ws hw h
      · simp at h
    · simp; omega
  have h0 : (lineV ws ++ [13, 10]).getD 0 0 ≠ 42 := by
    cases ws with
    | nil => simp [lineV]
    | cons w r =>
      obtain ⟨hne, hch⟩ := hw w (by simp)
      cases hd : w.data.toList with
      | nil => exact absurd hd hne
      | cons c t =>
        rw [hd] at hch
        simp only [lineV, List.flatMap_cons, hd, List.cons_append, List.getD_cons_zero]
        exact (hch c (by simp)).2
  unfold oneV
  rw [if_neg (by simp), if_neg (by rw [hk]; omega), if_pos h0, hk]
  have et : ((((lineV ws).length + 1 : Nat) : Int).toNat + 1) = (lineV ws ++ [13, 10]).length := by simp
  rw [et, List.take_length, words_line ws hw, if_neg (by omega)]
  congr 1
  simp
def listV (ws : List ByteArray) : List (List ByteArray) := if ws = [] then [] else [ws]
theorem line_next (b : List UInt8) (ws : List ByteArray) (n : Nat) (h : oneV b = .read ws n) (hn : b.drop n = []) (hb : b ≠ []) : allV 2 b 0 [] = (listV ws, 0, [], 0) := by
  have hb1 : 0 < b.length := List.length_pos_iff.2 hb
  have hstop : oneV [] = .stop 0 := rfl
  by_cases hw : ws = []
  · subst hw
    have : nextV b 0 = .stop 0 [] := by
      unfold nextV
      rw [if_pos rfl, nextF, h]
      simp only [if_true, hn]
      obtain ⟨q, hq⟩ : ∃ q, b.length = q + 1 := ⟨b.length - 1, by omega⟩
      rw [hq, nextF, hstop]
    simp only [allV, this, listV, if_true]
  · have : nextV b 0 = .got ws [] := by
      unfold nextV
      rw [if_pos rfl, nextF, h]
      simp only [hw, if_false, hn]
    simp only [allV, this, listV, hw, if_false, next_none, List.nil_append]
    simp
theorem all_line (ws : List ByteArray) (hw : ∀ w ∈ ws, Plain w) (hl : (lineV ws).length < 511) (hn : ws.length ≤ 32) : allV 2 (lineV ws ++ [13, 10]) 0 [] = (listV ws, 0, [], 0) :=
  line_next _ ws _ (line_one ws hw hl hn) (List.drop_eq_nil_iff.2 (by simp)) (by simp)
theorem all_cmd (ws : List ByteArray) (h1 : ws.length ≤ 32) (hx : ∀ x ∈ ws, x.size ≤ 1024) : allV 2 (cmdV ws) 0 [] = (listV ws, 0, [], 0) := by
  have h := oneV_back ws [] h1 hx
  rw [List.append_nil] at h
  exact line_next _ ws _ h (List.drop_eq_nil_iff.2 (Nat.le_refl _)) (by simp [cmdV])
theorem list_len (ws : List ByteArray) : ((listV ws).length = 1 ↔ 0 < ws.length) ∧ (listV ws).length ≤ 1 ∧ ∀ x ∈ listV ws, x = ws := by
  unfold listV
  split
  · rename_i h; subst h; simp
  · rename_i h
    exact ⟨by simpa using List.length_pos_iff.2 h, by simp, fun x hx => by simpa using hx⟩
end Go.Proofs.YtmdekodoicnmbaaDoor
