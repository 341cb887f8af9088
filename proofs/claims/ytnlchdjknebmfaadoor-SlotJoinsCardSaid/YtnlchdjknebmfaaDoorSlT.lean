/- Slots as texts, in plain words: whoever reads the runs that were written finds them; a text says one set of slots at most. No program stands in this text. -/
import Derived.Test.YtnlchdjknebmfaaDoorSlS
set_option linter.unusedVariables false
set_option linter.unusedSimpArgs false
namespace Go.Proofs.YtnlchdjknebmfaaDoor.SlT
open Go Go.Proofs.YtnlchdjknebmfaaDoor Go.Proofs.YtnlchdjknebmfaaDoor.SlS

def okR (l : List (Int × Int)) : Bool := l.all fun r => decide (0 ≤ r.1) && decide (r.1 ≤ r.2) && decide (r.2 < 16384)
def setH (l : List (Int × Int)) (n : Nat) : Bool := l.any fun r => decide (r.1 ≤ (n : Int)) && decide ((n : Int) ≤ r.2)
def rngH (H : Nat → Bool) : List (Nat × Nat) := rangesV ((List.range 16384).filter H)
def printH (H : Nat → Bool) : List UInt8 := printV (rngH H)
theorem rngH_congr {H H' : Nat → Bool} (h : ∀ n, n < 16384 → H n = H' n) : rngH H = rngH H' := by
  have e : (List.range 16384).filter H = (List.range 16384).filter H' := List.filter_congr fun n hn => h n (List.mem_range.1 hn)
  unfold rngH
  rw [e]
theorem printH_congr {H H' : Nat → Bool} (h : ∀ n, n < 16384 → H n = H' n) : printH H = printH H' := by
  unfold printH
  rw [rngH_congr h]
theorem rngH_ord (H : Nat → Bool) : ∀ p ∈ rngH H, p.1 ≤ p.2 ∧ p.2 < 16384 := fun p hp => ordered H 16384 hp
theorem okR_intR {rs : List (Nat × Nat)} (h : ∀ p ∈ rs, p.1 ≤ p.2 ∧ p.2 < 16384) : okR (intR rs) = true := by
  unfold okR intR
  rw [List.all_eq_true]
  intro r hr
  obtain ⟨p, hp, rfl⟩ := List.mem_map.1 hr
  have := h p hp
  simp
  omega
theorem setH_intR (rs : List (Nat × Nat)) (n : Nat) : setH (intR rs) n = true ↔ ∃ r ∈ rs, r.1 ≤ n ∧ n ≤ r.2 := by
  unfold setH intR
  rw [List.any_map, List.any_eq_true]
  constructor
  · rintro ⟨p, hp, h⟩
    simp at h
    exact ⟨p, hp, h⟩
  · rintro ⟨p, hp, h⟩
    exact ⟨p, hp, by simp; exact h⟩
/-- the runs of what is there make it again -/
theorem setH_rng (H : Nat → Bool) {n : Nat} (hn : n < 16384) : setH (intR (rngH H)) n = H n := by
  rw [Bool.eq_iff_iff, setH_intR]
  exact (SlS.cover H 16384 hn).symm
/-- who reads what was written finds what was there -/
theorem read_back {rd : List UInt8 → Option (List (Int × Int))} (hrd : ∀ rs, (∀ p ∈ rs, p.1 ≤ p.2 ∧ p.2 < 16384) → rd (printV rs) = some (intR rs)) (H : Nat → Bool) :
    ∃ l, rd (printH H) = some l ∧ okR l = true ∧ ∀ n, n < 16384 → setH l n = H n :=
  ⟨_, hrd _ (rngH_ord H), okR_intR (rngH_ord H), fun _ hn => setH_rng H hn⟩
theorem readS_rd : ∀ rs, (∀ p ∈ rs, p.1 ≤ p.2 ∧ p.2 < 16384) → some (readS (printV rs)) = some (intR rs) := fun rs h => by rw [readS_print rs h]
/-- a text says one set of slots at most -/
theorem printH_inj {H H' : Nat → Bool} (h : printH H = printH H') {n : Nat} (hn : n < 16384) : H n = H' n := by
  obtain ⟨l, e, _, h1⟩ := read_back (rd := fun s => some (readS s)) readS_rd H
  obtain ⟨l', e', _, h1'⟩ := read_back (rd := fun s => some (readS s)) readS_rd H'
  rw [h] at e
  simp only [e] at e'
  cases e'
  rw [← h1 n hn, h1' n hn]
/-- a reader, the set of what it read, written again: just what is written is read -/
theorem read_iff {rd : List UInt8 → Option (List (Int × Int))} (hrd : ∀ rs, (∀ p ∈ rs, p.1 ≤ p.2 ∧ p.2 < 16384) → rd (printV rs) = some (intR rs)) (s : List UInt8) :
    (∃ H, printH H = s) ↔ ∃ l, rd s = some l ∧ okR l = true ∧ printH (setH l) = s := by
  constructor
  · rintro ⟨H, rfl⟩
    obtain ⟨l, e, h1, h2⟩ := read_back hrd H
    exact ⟨l, e, h1, printH_congr h2⟩
  · rintro ⟨l, _, _, h⟩
    exact ⟨_, h⟩
theorem printH_len (H : Nat → Bool) : (printH H).length ≤ 65390 := print_len H
theorem rng_len_le (H : Nat → Bool) : (rngH H).length ≤ 16384 := by
  have h1 := rangesV_le ((List.range 16384).filter H)
  have h2 := List.length_filter_le H (List.range 16384)
  rw [List.length_range] at h2
  unfold rngH
  omega

/-! ### the reference's reader -/
def digs : Nat → List UInt8 → Nat × List UInt8
  | n, [] => (n, [])
  | n, c :: r => if 48 ≤ c.toNat ∧ c.toNat ≤ 57 ∧ n < 100000 then digs (n * 10 + (c.toNat - 48)) r else (n, c :: r)
def setLast (l : List (Nat × Nat)) (n : Nat) : List (Nat × Nat) := match l.reverse with
  | [] => []
  | (a, _) :: r => ((a, n) :: r).reverse
def nextL (m : Bool) (l : List (Nat × Nat)) (n : Nat) : List (Nat × Nat) := if m && !l.isEmpty then setLast l n else l ++ [(n, n)]
def refRd : Nat → List UInt8 → Bool → List (Nat × Nat) → Option (List (Nat × Nat))
  | 0, _, _, l => some l
  | _ + 1, [], _, l => some l
  | k + 1, c :: r, m, l =>
    if (digs 0 (c :: r)).2.length = (c :: r).length then none
    else match (digs 0 (c :: r)).2 with
      | [] => some (nextL m l (digs 0 (c :: r)).1)
      | d :: q => refRd k q (decide (d = 45)) (nextL m l (digs 0 (c :: r)).1)
theorem setLast_snoc (l : List (Nat × Nat)) (a b n : Nat) : setLast (l ++ [(a, b)]) n = l ++ [(a, n)] := by
  unfold setLast; simp
theorem digs_le : ∀ (l : List UInt8) (n : Nat), (digs n l).2.length ≤ l.length
  | [], n => by simp [digs]
  | c :: r, n => by
    unfold digs
    split
    · have := digs_le r (n * 10 + (c.toNat - 48)); simp; omega
    · simp
def stops (l : List UInt8) : Prop := ∀ c r, l = c :: r → ¬ (48 ≤ c.toNat ∧ c.toNat ≤ 57)
theorem digs_word (l rest : List UInt8) (hs : stops rest) : ∀ (acc : Nat), l.all Dec.isDig = true → Dec.dv acc l < 100000 → digs acc (l ++ rest) = (Dec.dv acc l, rest) := by
  induction l with
  | nil =>
    intro acc _ _
    cases rest with
    | nil => rfl
    | cons c r =>
      have := hs c r rfl
      show digs acc (c :: r) = _
      rw [digs, if_neg (fun h => this ⟨h.1, h.2.1⟩)]
      rfl
  | cons c l ih =>
    intro acc hall hlt
    simp only [List.all_cons, Bool.and_eq_true, Dec.isDig, decide_eq_true_eq] at hall
    rw [Dec.dv_cons] at hlt
    have hu := Dec.dv_up l (acc * 10 + (c.toNat - 48))
    rw [List.cons_append, digs, if_pos ⟨hall.1.1, hall.1.2, by omega⟩, ih _ hall.2 hlt, Dec.dv_cons]
theorem digs_dec {n : Nat} (h : n < 16384) {rest : List UInt8} (hs : stops rest) : digs 0 (Lib.decDigits n ++ rest) = (n, rest) := by
  have e : Dec.dv 0 (Lib.decDigits n) = n := Dec.decVal_decDigits n
  rw [digs_word _ _ hs 0 (Dec.all_decDigits n) (by rw [e]; omega), e]
theorem refRd_word {n : Nat} (h : n < 16384) {rest : List UInt8} (hs : stops rest) (k : Nat) (m : Bool) (l : List (Nat × Nat)) :
    refRd (k + 1) (Lib.decDigits n ++ rest) m l = match (generalizing := false) rest with
      | [] => some (nextL m l n)
      | d :: q => refRd k q (decide (d = 45)) (nextL m l n) := by
  have hd := digs_dec h hs
  have hl : 0 < (Lib.decDigits n).length := List.length_pos_iff.2 (Dec.decDigits_ne_nil n)
  generalize hX : Lib.decDigits n ++ rest = X at *
  have hXl : X.length = (Lib.decDigits n).length + rest.length := by rw [← hX]; simp
  cases X with
  | nil => simp at hXl; omega
  | cons c r =>
    rw [refRd, hd]
    simp only
    rw [if_neg (by omega)]
theorem refRd_range {p : Nat × Nat} (h1 : p.1 ≤ p.2) (h2 : p.2 < 16384) (tl : List UInt8) (ht : tl = [] ∨ ∃ q, tl = 32 :: q) (k : Nat) (l : List (Nat × Nat)) :
    refRd (k + 2) (rangeT p ++ tl) false l = match (generalizing := false) tl with
      | [] => some (l ++ [p])
      | _ :: q => refRd (if p.1 < p.2 then k else k + 1) q false (l ++ [p]) := by
  have hstop : stops tl := by
    rcases ht with rfl | ⟨q, rfl⟩
    · intro c r e; cases e
    · intro c r e
      cases e
      decide
  obtain ⟨a, b⟩ := p
  simp only at h1 h2
  unfold rangeT
  by_cases hab : a < b
  · simp only [hab, if_true]
    rw [List.append_assoc, refRd_word (by omega) (by intro c r e; cases e; decide)]
    simp only [List.cons_append]
    simp only [decide_true]
    rw [refRd_word h2 hstop]
    have e1 : nextL false l a = l ++ [(a, a)] := rfl
    have e2 : nextL true (l ++ [(a, a)]) b = l ++ [(a, b)] := by
      unfold nextL
      rw [setLast_snoc]; simp
    rw [e1, e2]
    rcases ht with rfl | ⟨q, rfl⟩
    · rfl
    · rfl
  · simp only [hab, if_false, List.append_nil]
    rw [refRd_word (by omega) hstop]
    have e1 : nextL false l a = l ++ [(a, b)] := by
      have : a = b := by omega
      subst this; rfl
    rw [e1]
    rcases ht with rfl | ⟨q, rfl⟩
    · rfl
    · rfl
theorem refRd_join : ∀ (rs : List (Nat × Nat)) (p : Nat × Nat) (k : Nat) (l : List (Nat × Nat)), (∀ q ∈ p :: rs, q.1 ≤ q.2 ∧ q.2 < 16384) → 2 * rs.length + 2 ≤ k →
    refRd k (rangeT p ++ Lib.joinTail [32] (rs.map rangeT)) false l = some (l ++ p :: rs)
  | [], p, k, l, h, hk => by
    obtain ⟨k, rfl⟩ : ∃ j, k = j + 2 := ⟨k - 2, by simp at hk; omega⟩
    have hp := h p (by simp)
    rw [show Lib.joinTail [32] (([] : List (Nat × Nat)).map rangeT) = [] from rfl, refRd_range hp.1 hp.2 [] (Or.inl rfl)]
  | q :: rs, p, k, l, h, hk => by
    obtain ⟨k, rfl⟩ : ∃ j, k = j + 2 := ⟨k - 2, by simp at hk; omega⟩
    have hp := h p (by simp)
    have e : Lib.joinTail [32] ((q :: rs).map rangeT) = 32 :: (rangeT q ++ Lib.joinTail [32] (rs.map rangeT)) := by simp [Lib.joinTail]
    rw [e, refRd_range hp.1 hp.2 _ (Or.inr ⟨_, rfl⟩)]
    simp only
    rw [refRd_join rs q _ _ (fun x hx => h x (List.mem_cons_of_mem _ hx)) (by simp at hk; split <;> omega)]
    simp
theorem printV_len_ge : ∀ (rs : List (Nat × Nat)), rs ≠ [] → 2 * rs.length ≤ (printV rs).length + 1
  | [], h => absurd rfl h
  | p :: rs, _ => by
    unfold printV
    rw [List.map_cons, Lib.join_cons, List.length_append]
    have hp := List.length_pos_iff.2 (rangeT_ne p)
    have key : ∀ rs : List (Nat × Nat), 2 * rs.length ≤ (Lib.joinTail [32] (rs.map rangeT)).length := by
      intro rs
      induction rs with
      | nil => simp
      | cons q rs ih =>
        have e : Lib.joinTail [32] ((q :: rs).map rangeT) = 32 :: (rangeT q ++ Lib.joinTail [32] (rs.map rangeT)) := by simp [Lib.joinTail]
        have hq := List.length_pos_iff.2 (rangeT_ne q)
        rw [e]
        simp
        omega
    have := key rs
    simp only [List.length_cons]
    omega
def refReadN (s : List UInt8) : Option (List (Nat × Nat)) := refRd (s.length + 1) s false []
def refRead (s : List UInt8) : Option (List (Int × Int)) := (refReadN s).map intR
theorem refRead_print (rs : List (Nat × Nat)) (h : ∀ p ∈ rs, p.1 ≤ p.2 ∧ p.2 < 16384) : refRead (printV rs) = some (intR rs) := by
  unfold refRead refReadN
  cases rs with
  | nil => rfl
  | cons p rs =>
    have hl := printV_len_ge (p :: rs) (by simp)
    have e : printV (p :: rs) = rangeT p ++ Lib.joinTail [32] (rs.map rangeT) := by unfold printV; rw [List.map_cons, Lib.join_cons]
    simp only [List.length_cons] at hl
    rw [e] at hl ⊢
    rw [refRd_join rs p _ [] h (by omega)]
    rfl
end Go.Proofs.YtnlchdjknebmfaaDoor.SlT
