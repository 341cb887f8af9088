/- Slots as texts, in plain words: runs cover just the slots that are there; how they are written; what is written is read as it was. No program stands in this text. -/
import Derived.Test.YtnlchdjknebmfaaDoorDec
import Derived.Test.YtnlchdjknebmfaaDoorSlR
import Derived.Lib.Join
import Derived.Shelf.Strings.FieldsAny
set_option linter.unusedVariables false
set_option linter.unusedSimpArgs false
namespace Go.Proofs.YtnlchdjknebmfaaDoor.SlS
open Go Go.Proofs.YtnlchdjknebmfaaDoor

/-! ### runs cover what is there -/
structure Inv (h : Nat → Bool) (m : Nat) (acc : List (Nat × Nat)) : Prop where
  cover : ∀ n, n < m → (h n = true ↔ ∃ r ∈ acc, r.1 ≤ n ∧ n ≤ r.2)
  ord : ∀ r ∈ acc, r.1 ≤ r.2 ∧ r.2 < m
inductive Gap : List (Nat × Nat) → Prop
  | nil : Gap []
  | one (a b : Nat) : Gap [(a, b)]
  | cons (a b c d : Nat) (r : List (Nat × Nat)) : d + 1 < a → Gap ((c, d) :: r) → Gap ((a, b) :: (c, d) :: r)
theorem inv_foldl (h : Nat → Bool) : ∀ m, Inv h m (((List.range m).filter h).foldl addR []) ∧ Gap (((List.range m).filter h).foldl addR [])
  | 0 => ⟨⟨fun n hn => absurd hn (by omega), fun r hr => by simp at hr⟩, Gap.nil⟩
  | m + 1 => by
    obtain ⟨⟨hc, ho⟩, hg⟩ := inv_foldl h m
    rw [List.range_succ, List.filter_append]
    cases hm : h m with
    | false =>
      have e : ([m].filter h) = [] := by simp [hm]
      rw [e, List.append_nil]
      refine ⟨⟨fun n hn => ?_, fun r hr => ⟨(ho r hr).1, by have := (ho r hr).2; omega⟩⟩, hg⟩
      by_cases hnm : n = m
      · subst hnm
        rw [hm]
        constructor
        · intro h; cases h
        · rintro ⟨r, hr, h1, h2⟩
          have := (ho r hr).2; omega
      · exact hc n (by omega)
    | true =>
      have e : ([m].filter h) = [m] := by simp [hm]
      rw [e, foldl_snoc]
      generalize ((List.range m).filter h).foldl addR [] = acc at *
      cases acc with
      | nil =>
        refine ⟨⟨fun n hn => ?_, fun r hr => ?_⟩, Gap.one m m⟩
        · show h n = true ↔ ∃ r ∈ [(m, m)], _
          by_cases hnm : n = m
          · subst hnm; simp [hm]
          · have := hc n (by omega)
            simp at this
            simp [this]
            omega
        · have : r = (m, m) := by simpa [addR] using hr
          subst this
          exact ⟨Nat.le_refl _, Nat.lt_succ_self _⟩
      | cons p r =>
        obtain ⟨a, b⟩ := p
        have hab := ho (a, b) (by simp)
        show Inv h (m + 1) (if b + 1 = m then (a, m) :: r else (m, m) :: (a, b) :: r) ∧ Gap (if b + 1 = m then (a, m) :: r else (m, m) :: (a, b) :: r)
        by_cases hb : b + 1 = m
        · rw [if_pos hb]
          refine ⟨⟨fun n hn => ?_, fun q hq => ?_⟩, ?_⟩
          · by_cases hnm : n = m
            · subst hnm
              simp only [hm, true_iff]
              exact ⟨(a, n), by simp, by simp at hab ⊢; omega, Nat.le_refl _⟩
            · rw [hc n (by omega)]
              constructor
              · rintro ⟨q, hq, h1, h2⟩
                rcases List.mem_cons.1 hq with rfl | hq
                · exact ⟨(a, m), by simp, h1, by simp at h2 ⊢; omega⟩
                · exact ⟨q, by simp [hq], h1, h2⟩
              · rintro ⟨q, hq, h1, h2⟩
                rcases List.mem_cons.1 hq with rfl | hq
                · exact ⟨(a, b), by simp, h1, by simp at h2 ⊢; omega⟩
                · exact ⟨q, by simp [hq], h1, h2⟩
          · rcases List.mem_cons.1 hq with rfl | hq
            · simp at hab ⊢; omega
            · have := ho q (by simp [hq]); omega
          · cases hg with
            | one => exact Gap.one _ _
            | cons _ _ c d r h1 h2 => exact Gap.cons _ _ _ _ _ h1 h2
        · rw [if_neg hb]
          refine ⟨⟨fun n hn => ?_, fun q hq => ?_⟩, ?_⟩
          · by_cases hnm : n = m
            · subst hnm
              simp only [hm, true_iff]
              exact ⟨(n, n), by simp, Nat.le_refl _, Nat.le_refl _⟩
            · rw [hc n (by omega)]
              constructor
              · rintro ⟨q, hq, h1, h2⟩
                exact ⟨q, List.mem_cons_of_mem _ hq, h1, h2⟩
              · rintro ⟨q, hq, h1, h2⟩
                rcases List.mem_cons.1 hq with rfl | hq
                · simp at h1 h2; omega
                · exact ⟨q, hq, h1, h2⟩
          · rcases List.mem_cons.1 hq with rfl | hq
            · simp
            · have := ho q hq; omega
          · exact Gap.cons _ _ _ _ _ (by simp at hab; omega) hg
theorem cover (h : Nat → Bool) (m : Nat) {n : Nat} (hn : n < m) : h n = true ↔ ∃ r ∈ rangesV ((List.range m).filter h), r.1 ≤ n ∧ n ≤ r.2 := by
  rw [(inv_foldl h m).1.cover n hn]
  unfold rangesV
  simp only [List.mem_reverse]
theorem ordered (h : Nat → Bool) (m : Nat) {r : Nat × Nat} (hr : r ∈ rangesV ((List.range m).filter h)) : r.1 ≤ r.2 ∧ r.2 < m :=
  (inv_foldl h m).1.ord r (by unfold rangesV at hr; exact List.mem_reverse.1 hr)

/-! ### how they are written -/
def rangeT (p : Nat × Nat) : List UInt8 := Lib.decDigits p.1 ++ if p.1 < p.2 then 45 :: Lib.decDigits p.2 else []
def printV (rs : List (Nat × Nat)) : List UInt8 := Lib.join (rs.map rangeT) [32]
theorem itoa_nat (n : Nat) : Lib.itoa (n : Int) = Lib.decDigits n := by
  unfold Lib.itoa
  rw [if_neg (by omega)]
  rfl

theorem dig_len1 {n : Nat} (h : n < 10) : (Lib.decDigits n).length = 1 := by rw [Lib.decDigits, dif_pos h]; rfl
theorem dig_len_le : ∀ (k n : Nat), n < 10 ^ (k + 1) → (Lib.decDigits n).length ≤ k + 1
  | 0, n, h => by rw [dig_len1 (by simpa using h)]; omega
  | k + 1, n, h => by
    rw [Lib.decDigits]
    split
    · simp
    · have := dig_len_le k (n / 10) (by rw [Nat.pow_succ] at h; omega)
      simp; omega
theorem rangeT_len {a b : Nat} (hab : a ≤ b) (hb : b < 16384) : (rangeT (a, b)).length ≤ (if a < b then 11 else 5) ∧ (b < 100 → (rangeT (a, b)).length ≤ (if a < b then 5 else 2)) ∧ (b < 10 → (rangeT (a, b)).length ≤ (if a < b then 3 else 1)) := by
  have h1 := dig_len_le 4 a (by omega)
  have h2 := dig_len_le 4 b (by omega)
  unfold rangeT
  simp only
  refine ⟨?_, fun h => ?_, fun h => ?_⟩
  · split <;> simp <;> omega
  · have h3 := dig_len_le 1 a (by omega)
    have h4 := dig_len_le 1 b (by omega)
    split <;> simp <;> omega
  · have h3 := dig_len_le 0 a (by omega)
    have h4 := dig_len_le 0 b (by omega)
    split <;> simp <;> omega
def bulk (acc : List (Nat × Nat)) : Nat := (acc.map fun p => (rangeT p).length + 1).sum
def phi (x : Nat) : Nat := if x < 100 then 2 * (x + 2) else 4 * (x + 2) - 150
theorem bulk_le : ∀ (r : List (Nat × Nat)) (a b : Nat), Gap ((a, b) :: r) → (∀ p ∈ (a, b) :: r, p.1 ≤ p.2 ∧ p.2 < 16384) → bulk ((a, b) :: r) ≤ phi b
  | [], a, b, hg, ho => by
    have hab := ho (a, b) (by simp)
    simp only at hab
    obtain ⟨l1, l2, l3⟩ := rangeT_len hab.1 hab.2
    unfold bulk phi
    simp only [List.map_cons, List.map_nil, List.sum_cons, List.sum_nil]
    by_cases h1 : b < 100
    · rw [if_pos h1]
      have := l2 h1
      by_cases h2 : b < 10
      · have := l3 h2; split at this <;> omega
      · split at this <;> omega
    · rw [if_neg h1]; split at l1 <;> omega
  | (c, d) :: r, a, b, hg, ho => by
    have hab := ho (a, b) (by simp)
    have hcd := ho (c, d) (by simp)
    simp only at hab hcd
    cases hg with
    | cons _ _ _ _ _ hda hg' =>
      have ih := bulk_le r c d hg' (fun p hp => ho p (List.mem_cons_of_mem _ hp))
      obtain ⟨l1, l2, l3⟩ := rangeT_len hab.1 hab.2
      have e : bulk ((a, b) :: (c, d) :: r) = (rangeT (a, b)).length + 1 + bulk ((c, d) :: r) := by simp [bulk]
      rw [e]
      generalize bulk ((c, d) :: r) = B at *
      generalize (rangeT (a, b)).length = L at *
      unfold phi at *
      by_cases h1 : b < 100
      · rw [if_pos h1]
        have h2 := l2 h1
        rw [if_pos (by omega)] at ih
        split at h2 <;> omega
      · rw [if_neg h1]
        by_cases h3 : d < 100
        · rw [if_pos h3] at ih
          split at l1 <;> omega
        · rw [if_neg h3] at ih
          split at l1 <;> omega
theorem join_len (ps : List (List UInt8)) : (Lib.join ps [32]).length ≤ (ps.map fun p => p.length + 1).sum := by
  cases ps with
  | nil => simp [Lib.join]
  | cons x r =>
    rw [Lib.join_length]
    have : Lib.lens (x :: r) = ((x :: r).map List.length).sum := rfl
    rw [this]
    have key : ∀ l : List (List UInt8), (l.map fun p => p.length + 1).sum = (l.map List.length).sum + l.length := by
      intro l
      induction l with
      | nil => rfl
      | cons y r ih => simp only [List.map_cons, List.sum_cons, List.length_cons, ih]; omega
    rw [key]
    simp
    omega
/-- what is written is short -/
theorem print_len (h : Nat → Bool) : (printV (rangesV ((List.range 16384).filter h))).length ≤ 65390 := by
  obtain ⟨⟨_, ho⟩, hg⟩ := inv_foldl h 16384
  unfold printV rangesV
  refine Nat.le_trans (join_len _) ?_
  generalize ((List.range 16384).filter h).foldl addR [] = acc at *
  have e : ((acc.reverse.map rangeT).map fun p => p.length + 1).sum = bulk acc := by
    unfold bulk
    rw [List.map_map, List.map_reverse, List.sum_reverse]
    rfl
  rw [e]
  cases acc with
  | nil => simp [bulk]
  | cons p r =>
    obtain ⟨a, b⟩ := p
    have := bulk_le r a b hg ho
    have hb := (ho (a, b) (by simp)).2
    unfold phi at this
    split at this <;> omega

/-! ### what is written is read as it was -/
theorem fieldsGo_word (w : List UInt8) (hw : ∀ b ∈ w, Lib.isSp b = false) (l cur : List UInt8) : Lib.fieldsGo cur (w ++ l) = Lib.fieldsGo (cur ++ w) l := by
  induction w generalizing cur with
  | nil => simp
  | cons b w ih =>
    rw [List.cons_append, Lib.fieldsGo_more _ _ _ (hw b (by simp)), ih (fun c hc => hw c (by simp [hc]))]
    simp
theorem isSp32 : Lib.isSp 32 = true := by decide
theorem fields_join (ps : List (List UInt8)) (h : ∀ p ∈ ps, p ≠ [] ∧ ∀ b ∈ p, Lib.isSp b = false) : Lib.fields (Lib.join ps [32]) = ps := by
  cases ps with
  | nil => rfl
  | cons x r =>
    rw [Lib.join_cons]
    unfold Lib.fields
    have key : ∀ (r : List (List UInt8)) (x : List UInt8), (∀ p ∈ x :: r, p ≠ [] ∧ ∀ b ∈ p, Lib.isSp b = false) → Lib.fieldsGo [] (x ++ Lib.joinTail [32] r) = x :: r := by
      intro r
      induction r with
      | nil =>
        intro x hx
        rw [fieldsGo_word x (hx x (by simp)).2]
        have := (hx x (by simp)).1
        cases x with
        | nil => exact absurd rfl this
        | cons b x => simp [Lib.joinTail, Lib.fieldsGo]
      | cons y r ih =>
        intro x hx
        have e : x ++ Lib.joinTail [32] (y :: r) = x ++ 32 :: (y ++ Lib.joinTail [32] r) := by simp [Lib.joinTail]
        rw [e, fieldsGo_word x (hx x (by simp)).2, Lib.fieldsGo_end _ _ _ isSp32 (by simpa using (hx x (by simp)).1), ih y (fun p hp => hx p (List.mem_cons_of_mem _ hp))]
        simp
    exact key r x h
theorem dig_nosp {c : UInt8} (h : Dec.isDig c = true ∨ c = 45) : Lib.isSp c = false ∧ c.toNat < 128 := by
  have h2 : (48 ≤ c.toNat ∧ c.toNat ≤ 57) ∨ c.toNat = 45 := by
    rcases h with h | h
    · unfold Dec.isDig at h
      exact Or.inl (of_decide_eq_true h)
    · exact Or.inr (by rw [h]; rfl)
  refine ⟨?_, by omega⟩
  obtain ⟨k, hk, rfl⟩ : ∃ k : Nat, k < 256 ∧ c = UInt8.ofNat k := ⟨c.toNat, c.toNat_lt, by simp⟩
  have e : (UInt8.ofNat k).toNat = k := by simp [UInt8.toNat_ofNat']; omega
  rw [e] at h2
  have all : (List.range 256).all (fun k => !((decide (48 ≤ k) && decide (k ≤ 57)) || decide (k = 45)) || !Lib.isSp (UInt8.ofNat k)) = true := by decide +kernel
  rw [List.all_eq_true] at all
  have := all k (List.mem_range.2 hk)
  simp only [Bool.or_eq_true, Bool.not_eq_true', Bool.or_eq_false_iff, Bool.and_eq_false_iff, decide_eq_false_iff_not] at this
  rcases this with h | h
  · omega
  · exact h
theorem rangeT_chars (p : Nat × Nat) : ∀ b ∈ rangeT p, Dec.isDig b = true ∨ b = 45 := by
  intro b hb
  unfold rangeT at hb
  have hd := fun n => List.all_eq_true.1 (Dec.all_decDigits n)
  rcases List.mem_append.1 hb with hb | hb
  · exact Or.inl (hd _ b hb)
  · split at hb
    · rcases List.mem_cons.1 hb with rfl | hb
      · exact Or.inr rfl
      · exact Or.inl (hd _ b hb)
    · simp at hb
theorem rangeT_ne (p : Nat × Nat) : rangeT p ≠ [] := by
  unfold rangeT
  have := Dec.decDigits_ne_nil p.1
  simp [this]
theorem join_mem {ps : List (List UInt8)} {b : UInt8} (h : b ∈ Lib.join ps [32]) : b = 32 ∨ ∃ p ∈ ps, b ∈ p := by
  cases ps with
  | nil => simp [Lib.join] at h
  | cons x r =>
    rw [Lib.join_cons] at h
    rcases List.mem_append.1 h with h | h
    · exact Or.inr ⟨x, by simp, h⟩
    · unfold Lib.joinTail at h
      simp only [List.mem_flatten, List.mem_map] at h
      obtain ⟨l, ⟨y, hy, rfl⟩, hb⟩ := h
      rcases List.mem_append.1 hb with hb | hb
      · exact Or.inl (by simpa using hb)
      · exact Or.inr ⟨y, by simp [hy], hb⟩
theorem fieldsD_print (rs : List (Nat × Nat)) : Lib.fieldsD (printV rs) = rs.map rangeT := by
  rw [Lib.fieldsD_ascii]
  · refine fields_join _ ?_
    intro p hp
    obtain ⟨r, _, rfl⟩ := List.mem_map.1 hp
    exact ⟨rangeT_ne r, fun b hb => (dig_nosp (rangeT_chars r b hb)).1⟩
  · intro b hb
    rcases join_mem hb with rfl | ⟨p, hp, hb⟩
    · decide
    · obtain ⟨r, _, rfl⟩ := List.mem_map.1 hp
      exact (dig_nosp (rangeT_chars r b hb)).2

/-- what number reads -/
def numS (l : List UInt8) : Int := match Lib.atoiAll l with
  | .ok v => if l.length ≤ 5 then v else -1
  | _ => -1
theorem numS_dec {n : Nat} (h : n < 16384) : numS (Lib.decDigits n) = n := by
  have h1 := Dec.form_itoa (n : Int)
  rw [itoa_nat] at h1
  have := Dec.atoiAll_ok h1.1 (by rw [h1.2]; omega) (by rw [h1.2]; omega)
  unfold numS
  rw [this, h1.2]
  simp only
  rw [if_pos (dig_len_le 4 n (by omega))]
theorem numS_bounds (l : List UInt8) : -9223372036854775808 ≤ numS l ∧ numS l ≤ 9223372036854775807 := by
  unfold numS
  split
  · rename_i v h
    have := Lib.atoiAll_bounds h
    split <;> omega
  · omega
theorem index_dig (l r : List UInt8) (h : ∀ b ∈ l, Dec.isDig b = true) : Lib.index (l ++ 45 :: r) [45] = l.length := by
  induction l with
  | nil => simp [Lib.index, List.isPrefixOf]
  | cons c l ih =>
    have hc : c ≠ 45 := by
      intro e
      have := h c (by simp)
      rw [e] at this
      exact absurd this (by decide)
    have hp : ([45] : List UInt8).isPrefixOf (c :: (l ++ 45 :: r)) = false := by simp [List.isPrefixOf, Ne.symm hc]
    rw [List.cons_append, Lib.index, hp, ih (fun b hb => h b (by simp [hb]))]
    have h1 : (((l.length : Nat) : Int) == -1) = false := by rw [beq_eq_false_iff_ne]; omega
    simp [h1]
theorem index_none (l : List UInt8) (h : ∀ b ∈ l, Dec.isDig b = true) : Lib.index l [45] = -1 := by
  induction l with
  | nil => simp [Lib.index]
  | cons c l ih =>
    have hc : c ≠ 45 := by
      intro e
      have := h c (by simp)
      rw [e] at this
      exact absurd this (by decide)
    have hp : ([45] : List UInt8).isPrefixOf (c :: l) = false := by simp [List.isPrefixOf, Ne.symm hc]
    rw [Lib.index, hp, ih (fun b hb => h b (by simp [hb]))]
    simp
theorem cut_range (p : Nat × Nat) : Lib.cut (rangeT p) [45] = if p.1 < p.2 then (Lib.decDigits p.1, Lib.decDigits p.2, true) else (Lib.decDigits p.1, [], false) := by
  have hd := List.all_eq_true.1 (Dec.all_decDigits p.1)
  unfold rangeT Lib.cut
  split
  · rw [index_dig _ _ hd, if_pos (by omega)]
    simp
  · rw [List.append_nil, index_none _ hd, if_neg (by omega)]
def pieceV (l : List UInt8) : Int × Int := (numS (Lib.cut l [45]).1, numS (if (Lib.cut l [45]).2.2 then (Lib.cut l [45]).2.1 else (Lib.cut l [45]).1))
def readS (l : List UInt8) : List (Int × Int) := (Lib.fieldsD l).map pieceV
def intR (rs : List (Nat × Nat)) : List (Int × Int) := rs.map fun p => ((p.1 : Int), (p.2 : Int))
theorem piece_range {p : Nat × Nat} (h1 : p.1 ≤ p.2) (h2 : p.2 < 16384) : pieceV (rangeT p) = ((p.1 : Int), (p.2 : Int)) := by
  unfold pieceV
  rw [cut_range]
  split
  · simp only [if_true]; rw [numS_dec (by omega), numS_dec h2]
  · simp only [Bool.false_eq_true, if_false]
    rw [numS_dec (by omega), show p.2 = p.1 by omega]
theorem readS_print (rs : List (Nat × Nat)) (h : ∀ p ∈ rs, p.1 ≤ p.2 ∧ p.2 < 16384) : readS (printV rs) = intR rs := by
  unfold readS intR
  rw [fieldsD_print, List.map_map]
  exact List.map_congr_left fun p hp => piece_range (h p hp).1 (h p hp).2
end Go.Proofs.YtnlchdjknebmfaaDoor.SlS
