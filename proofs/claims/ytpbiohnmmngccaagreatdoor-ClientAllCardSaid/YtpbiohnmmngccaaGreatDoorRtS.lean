/- Decisions as texts, in plain words: how they are written, how a text is parted at its blanks, which texts say one. No program stands in this text. -/
import Derived.Test.YtpbiohnmmngccaaGreatDoorDec
import Derived.Lib.SplitLaws
import Derived.Lib.ItoaLen
set_option linter.unusedVariables false
set_option linter.unusedSimpArgs false
namespace Go.Proofs.YtpbiohnmmngccaaGreatDoor.RtS
open Go Go.Proofs.YtpbiohnmmngccaaGreatDoor

/-! ### parts between blanks -/
def sp : List UInt8 → List (List UInt8)
  | [] => [[]]
  | c :: r => if c = 32 then [] :: sp r else (c :: (sp r).headD []) :: (sp r).tail
theorem sp_ne (l : List UInt8) : sp l ≠ [] := by cases l with
  | nil => simp [sp]
  | cons c r => unfold sp; split <;> simp
theorem sp_cons (l : List UInt8) : sp l = (sp l).headD [] :: (sp l).tail := by
  cases h : sp l with
  | nil => exact absurd h (sp_ne l)
  | cons p ps => rfl
def joinT (ps : List (List UInt8)) : List UInt8 := ps.flatMap (fun p => 32 :: p)
theorem join_sp (l : List UInt8) : (sp l).headD [] ++ joinT (sp l).tail = l := by
  induction l with
  | nil => rfl
  | cons c r ih =>
    unfold sp
    split
    · rename_i h
      rw [sp_cons r]
      simp only [List.headD_cons, List.tail_cons, List.nil_append, joinT, List.flatMap_cons]
      rw [h, List.cons_append]
      exact congrArg _ ih
    · simp only [List.headD_cons, List.tail_cons, List.cons_append]
      exact congrArg _ ih
theorem sp_free (l : List UInt8) : ∀ p ∈ sp l, (32 : UInt8) ∉ p := by
  induction l with
  | nil => intro p hp; simp [sp] at hp; subst hp; simp
  | cons c r ih =>
    intro p hp
    unfold sp at hp
    split at hp
    · rcases List.mem_cons.1 hp with rfl | hp
      · simp
      · exact ih p hp
    · rename_i hc
      rcases List.mem_cons.1 hp with rfl | hp
      · have := ih ((sp r).headD []) (by rw [sp_cons r]; simp)
        simp only [List.mem_cons, not_or]
        exact ⟨fun e => hc e.symm, this⟩
      · exact ih p (List.mem_of_mem_tail hp)
theorem sp_of_free {p : List UInt8} (h : (32 : UInt8) ∉ p) : sp p = [p] := by
  induction p with
  | nil => rfl
  | cons c r ih =>
    simp only [List.mem_cons, not_or] at h
    unfold sp
    rw [if_neg (fun e => h.1 e.symm), ih h.2]
    rfl
theorem sp_append {p : List UInt8} (h : (32 : UInt8) ∉ p) (r : List UInt8) : sp (p ++ 32 :: r) = p :: sp r := by
  induction p with
  | nil => simp [sp]
  | cons c q ih =>
    simp only [List.mem_cons, not_or] at h
    rw [List.cons_append]
    rw [sp, if_neg (fun e => h.1 e.symm), ih h.2]
    rfl
theorem sp_join {p : List UInt8} (h : (32 : UInt8) ∉ p) (ps : List (List UInt8)) (hps : ∀ q ∈ ps, (32 : UInt8) ∉ q) : sp (p ++ joinT ps) = p :: ps := by
  induction ps generalizing p with
  | nil => simp [joinT, sp_of_free h]
  | cons q qs ih =>
    have e : p ++ joinT (q :: qs) = p ++ 32 :: (q ++ joinT qs) := by simp [joinT]
    rw [e, sp_append h, ih (hps q (by simp)) (fun x hx => hps x (by simp [hx]))]

theorem index_hit (r : List UInt8) : Lib.index (32 :: r) [32] = 0 := by rw [Lib.index]; simp [List.isPrefixOf]
theorem index_miss (c : UInt8) (hc : c ≠ 32) (r : List UInt8) : Lib.index (c :: r) [32] = if Lib.index r [32] == -1 then -1 else Lib.index r [32] + 1 := by
  have hp : ([32] : List UInt8).isPrefixOf (c :: r) = false := by simp [List.isPrefixOf, Ne.symm hc]
  rw [Lib.index, hp]
  simp
/-- what strings.Split gives, at one blank -/
theorem splitK_sp (l : List UInt8) : Lib.splitK [32] 0 (Lib.count l [32]) l = sp l := by
  induction l with
  | nil => rfl
  | cons c r ih =>
    by_cases hc : c = 32
    · subst hc
      rw [Lib.count_cons_eq, Nat.add_comm, Lib.splitK, index_hit]
      rw [if_neg (by decide)]
      simp only [Int.toNat_zero, Nat.zero_add, List.length_cons, List.length_nil, List.take_zero, List.drop_succ_cons, List.drop_zero, Nat.add_zero]
      rw [ih, sp, if_pos rfl]
    · rw [Lib.count_cons_ne c 32 r hc, sp, if_neg hc, ← ih]
      generalize Lib.count r [32] = k at *
      cases k with
      | zero => simp [Lib.splitK]
      | succ k =>
        rw [Lib.splitK, Lib.splitK, index_miss c hc]
        by_cases hm : Lib.index r [32] = -1
        · rw [hm]
          simp
        · have hge := Lib.index_ge r [32]
          obtain ⟨j, hj⟩ : ∃ j : Nat, Lib.index r [32] = j := ⟨(Lib.index r [32]).toNat, by omega⟩
          rw [hj]
          have h1 : (((j : Int)) == -1) = false := by rw [beq_eq_false_iff_ne]; omega
          have h2 : (((j : Int) + 1) == -1) = false := by rw [beq_eq_false_iff_ne]; omega
          simp only [h1, Bool.false_eq_true, if_false, h2]
          have e1 : ((j : Int) + 1).toNat = j + 1 := by omega
          rw [e1]
          simp [Nat.add_assoc]

/-! ### decisions -/
def wordV (k : Int) : List UInt8 :=
  if k = 2 then [77, 79, 86, 69, 68] else if k = 3 then [65, 83, 75] else if k = 4 then [84, 82, 89, 65, 71, 65, 73, 78] else if k = 5 then [67, 82, 79, 83, 83, 83, 76, 79, 84] else if k = 6 then [67, 76, 85, 83, 84, 69, 82, 68, 79, 87, 78] else []
def moreV (k : Int) : Nat := if k = 2 then 2 else if k = 3 then 3 else 0
def textV (k s n t : Int) : List UInt8 := wordV k ++ joinT (([s, n, t].take (moreV k)).map Lib.itoa)
structure Valid (k s n t : Int) : Prop where
  kind : 2 ≤ k ∧ k ≤ 6
  slot : 0 ≤ s ∧ s < 16384
  node : 0 ≤ n ∧ n < 64
  token : 0 ≤ t ∧ t ≤ 9223372036854775807
  rest : (k ≠ 3 → t = 0) ∧ (4 ≤ k → s = 0 ∧ n = 0)

theorem word_free (k : Int) : (32 : UInt8) ∉ wordV k := by
  unfold wordV
  repeat' split
  all_goals decide
theorem dig_free {l : List UInt8} (h : l.all Dec.isDig = true) : (32 : UInt8) ∉ l := by
  intro hm
  rw [List.all_eq_true] at h
  exact absurd (h 32 hm) (by decide)
theorem itoa_free (n : Int) : (32 : UInt8) ∉ Lib.itoa n := by
  unfold Lib.itoa
  split
  · simp only [List.mem_cons, not_or]
    exact ⟨by decide, dig_free (Dec.all_decDigits _)⟩
  · exact dig_free (Dec.all_decDigits _)

/-- what Atoi gives beside its error -/
def atoiN (p : List UInt8) : Int := match Lib.atoiAll p with
  | .ok v => v
  | .range => Lib.atoiSat p
  | _ => 0
theorem atoiN_itoa (n : Int) (h : -9223372036854775808 ≤ n ∧ n ≤ 9223372036854775807) : atoiN (Lib.itoa n) = n := by
  obtain ⟨h1, h2⟩ := Dec.form_itoa n
  have := Dec.atoiAll_ok h1 (by rw [h2]; exact h.1) (by rw [h2]; exact h.2)
  unfold atoiN
  rw [this, h2]

/-- what a text says, as route.Read finds it -/
def chk (l : List UInt8) (k s n t : Int) : Int × Int × Int × Int × Bool :=
  if textV k s n t = l ∧ 0 ≤ s ∧ s < 16384 ∧ 0 ≤ n ∧ n < 64 ∧ 0 ≤ t then (k, s, n, t, true) else (0, 0, 0, 0, false)
def readAt (l : List UInt8) (k : Int) : Int × Int × Int × Int × Bool :=
  chk l k (atoiN ((sp l).getD 1 [])  * (if 1 ≤ moreV k then 1 else 0)) (atoiN ((sp l).getD 2 []) * (if 2 ≤ moreV k then 1 else 0)) (atoiN ((sp l).getD 3 []) * (if 3 ≤ moreV k then 1 else 0))
def hits (l : List UInt8) (k : Int) : Bool := decide (wordV k = (sp l).headD []) && decide ((sp l).length = moreV k + 1)
def readV (l : List UInt8) : Int × Int × Int × Int × Bool :=
  if hits l 2 then readAt l 2 else if hits l 3 then readAt l 3 else if hits l 4 then readAt l 4 else if hits l 5 then readAt l 5 else if hits l 6 then readAt l 6 else (0, 0, 0, 0, false)

theorem chk_true {l : List UInt8} {k s n t : Int} (h : (chk l k s n t).2.2.2.2 = true) : chk l k s n t = (k, s, n, t, true) ∧ textV k s n t = l ∧ (0 ≤ s ∧ s < 16384) ∧ (0 ≤ n ∧ n < 64) ∧ 0 ≤ t := by
  unfold chk at h ⊢
  split at h
  · rename_i hc
    rw [if_pos hc]
    exact ⟨rfl, hc.1, ⟨hc.2.1, hc.2.2.1⟩, ⟨hc.2.2.2.1, hc.2.2.2.2.1⟩, hc.2.2.2.2.2⟩
  · cases h
theorem chk_false {l : List UInt8} {k s n t : Int} (h : (chk l k s n t).2.2.2.2 = false) : chk l k s n t = (0, 0, 0, 0, false) := by
  unfold chk at h ⊢
  split at h
  · cases h
  · rename_i hc; rw [if_neg hc]

theorem atoiN_bounds (p : List UInt8) : -9223372036854775808 ≤ atoiN p ∧ atoiN p ≤ 9223372036854775807 := by
  unfold atoiN
  cases h : Lib.atoiAll p with
  | ok v => exact Lib.atoiAll_bounds h
  | range => exact Lib.atoiSat_bounds p
  | _ => exact (by decide : (-9223372036854775808 : Int) ≤ 0 ∧ (0 : Int) ≤ 9223372036854775807)

/-- what is read is valid, and is written as it was -/
theorem readAt_true {l : List UInt8} {k : Int} (hk : 2 ≤ k ∧ k ≤ 6) (h : (readAt l k).2.2.2.2 = true) :
    ∃ s n t, readAt l k = (k, s, n, t, true) ∧ Valid k s n t ∧ textV k s n t = l := by
  unfold readAt at h ⊢
  obtain ⟨h1, h2, h3, h4, h5⟩ := chk_true h
  refine ⟨_, _, _, h1, ⟨hk, h3, h4, ⟨h5, ?_⟩, ?_, ?_⟩, h2⟩
  · have := atoiN_bounds ((sp l).getD 3 [])
    split <;> omega
  · intro hne
    have : ¬ 3 ≤ moreV k := by unfold moreV; split <;> (try split) <;> omega
    rw [if_neg this]
    omega
  · intro hge
    have : moreV k = 0 := by unfold moreV; rw [if_neg (by omega), if_neg (by omega)]
    rw [this]
    simp
theorem readV_cases (l : List UInt8) : readV l = (0, 0, 0, 0, false) ∨ ∃ k, 2 ≤ k ∧ k ≤ 6 ∧ hits l k = true ∧ readV l = readAt l k := by
  unfold readV
  by_cases h2 : hits l 2 = true
  · rw [if_pos h2]; exact Or.inr ⟨2, by omega, by omega, h2, rfl⟩
  · rw [if_neg h2]
    by_cases h3 : hits l 3 = true
    · rw [if_pos h3]; exact Or.inr ⟨3, by omega, by omega, h3, rfl⟩
    · rw [if_neg h3]
      by_cases h4 : hits l 4 = true
      · rw [if_pos h4]; exact Or.inr ⟨4, by omega, by omega, h4, rfl⟩
      · rw [if_neg h4]
        by_cases h5 : hits l 5 = true
        · rw [if_pos h5]; exact Or.inr ⟨5, by omega, by omega, h5, rfl⟩
        · rw [if_neg h5]
          by_cases h6 : hits l 6 = true
          · rw [if_pos h6]; exact Or.inr ⟨6, by omega, by omega, h6, rfl⟩
          · rw [if_neg h6]; exact Or.inl rfl
theorem readV_sound (l : List UInt8) : readV l = (0, 0, 0, 0, false) ∨ ∃ k s n t, readV l = (k, s, n, t, true) ∧ Valid k s n t ∧ textV k s n t = l := by
  rcases readV_cases l with h | ⟨k, h1, h2, _, h⟩
  · exact Or.inl h
  · rw [h]
    cases hb : (readAt l k).2.2.2.2 with
    | false => exact Or.inl (chk_false hb)
    | true =>
      obtain ⟨s, n, t, a, b, c⟩ := readAt_true ⟨h1, h2⟩ hb
      exact Or.inr ⟨k, s, n, t, a, b, c⟩

theorem sp_text (k s n t : Int) : sp (textV k s n t) = wordV k :: ([s, n, t].take (moreV k)).map Lib.itoa := by
  unfold textV
  refine sp_join (word_free k) _ ?_
  intro q hq
  obtain ⟨x, _, rfl⟩ := List.mem_map.1 hq
  exact itoa_free x
theorem word_inj {k k' : Int} (hk : 2 ≤ k ∧ k ≤ 6) (hk' : 2 ≤ k' ∧ k' ≤ 6) (h : wordV k = wordV k') : k = k' := by
  have e1 : k = 2 ∨ k = 3 ∨ k = 4 ∨ k = 5 ∨ k = 6 := by omega
  have e2 : k' = 2 ∨ k' = 3 ∨ k' = 4 ∨ k' = 5 ∨ k' = 6 := by omega
  rcases e1 with rfl | rfl | rfl | rfl | rfl <;> rcases e2 with rfl | rfl | rfl | rfl | rfl <;> first | rfl | (revert h; decide)
theorem more_len (k : Int) (s n t : Int) : ([s, n, t].take (moreV k)).length = moreV k := by
  have : moreV k ≤ 3 := by unfold moreV; split <;> (try split) <;> omega
  simp; omega
theorem hits_text {k k' s n t : Int} (hk : 2 ≤ k ∧ k ≤ 6) (hk' : 2 ≤ k' ∧ k' ≤ 6) : hits (textV k s n t) k' = decide (k = k') := by
  unfold hits
  rw [sp_text]
  by_cases h : k = k'
  · subst h
    simp [more_len]
    have : moreV k ≤ 3 := by unfold moreV; split <;> (try split) <;> omega
    omega
  · have : wordV k' ≠ wordV k := fun e => h (word_inj hk' hk e).symm
    simp [this, h]
theorem readAt_text {k s n t : Int} (h : Valid k s n t) : readAt (textV k s n t) k = (k, s, n, t, true) := by
  have hs := atoiN_itoa s (by have := h.slot; omega)
  have hn := atoiN_itoa n (by have := h.node; omega)
  have ht := atoiN_itoa t (by have := h.token; omega)
  have h1 := h.slot
  have h2 := h.node
  have h3 := h.token
  unfold readAt
  rw [sp_text]
  have fin : ∀ a b c : Int, a = s → b = n → c = t → chk (textV k s n t) k a b c = (k, s, n, t, true) := by
    rintro _ _ _ rfl rfl rfl
    unfold chk
    rw [if_pos ⟨rfl, h1.1, h1.2, h2.1, h2.2, h3.1⟩]
  have hk := h.kind
  have e1 : k = 2 ∨ k = 3 ∨ 4 ≤ k := by omega
  rcases e1 with rfl | rfl | hk4
  · have := h.rest.1 (by decide)
    refine fin _ _ _ ?_ ?_ ?_
    · simp [moreV, hs]
    · simp [moreV, hn]
    · simp [moreV, this]
  · refine fin _ _ _ ?_ ?_ ?_
    · simp [moreV, hs]
    · simp [moreV, hn]
    · simp [moreV, ht]
  · have h4 := h.rest.2 hk4
    have h5 := h.rest.1 (by omega)
    have hm : moreV k = 0 := by unfold moreV; rw [if_neg (by omega), if_neg (by omega)]
    rw [hm]
    refine fin _ _ _ ?_ ?_ ?_
    · simp [h4.1]
    · simp [h4.2]
    · simp [h5]
/-- a text of a decision says it -/
theorem readV_text {k s n t : Int} (h : Valid k s n t) : readV (textV k s n t) = (k, s, n, t, true) := by
  have hk := h.kind
  unfold readV
  rw [hits_text hk (by omega), hits_text hk (by omega), hits_text hk (by omega), hits_text hk (by omega), hits_text hk (by omega)]
  have e1 : k = 2 ∨ k = 3 ∨ k = 4 ∨ k = 5 ∨ k = 6 := by omega
  rcases e1 with rfl | rfl | rfl | rfl | rfl <;> exact readAt_text h

/-- whatever else finds just the decisions that were written finds the same -/
theorem readV_unique {g : List UInt8 → Int × Int × Int × Int × Bool} (l : List UInt8)
    (h1 : g l = (0, 0, 0, 0, false) ∨ ∃ k s n t, g l = (k, s, n, t, true) ∧ Valid k s n t ∧ textV k s n t = l)
    (h2 : ∀ k s n t, Valid k s n t → textV k s n t = l → g l = (k, s, n, t, true)) : g l = readV l := by
  rcases readV_sound l with h | ⟨k, s, n, t, h, hv, ht⟩
  · rcases h1 with e | ⟨k, s, n, t, e, hv, ht⟩
    · rw [e, h]
    · have := readV_text hv
      rw [ht, h] at this
      cases this
  · rw [h2 k s n t hv ht, h]
end Go.Proofs.YtpbiohnmmngccaaGreatDoor.RtS
