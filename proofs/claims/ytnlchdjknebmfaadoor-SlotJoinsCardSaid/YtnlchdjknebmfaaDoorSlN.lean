/- The reference's Parse: the same. Conditions: texts within the form's reach. -/
import Derived.Test.YtnlchdjknebmfaaDoorSlM
set_option linter.unusedVariables false
set_option linter.unusedSimpArgs false
namespace Go.Proofs.YtnlchdjknebmfaaDoor
open Go.RowKit Go.Proofs.YtnlchdjknebmfaaDoorW.PrintWords
open SlS SlT
theorem refRd_fuel : ∀ (k k' : Nat) (t : List UInt8) (m : Bool) (l : List (Nat × Nat)), t.length < k → t.length < k' → refRd k t m l = refRd k' t m l
  | 0, _, t, _, _, h, _ => absurd h (by omega)
  | _, 0, t, _, _, _, h => absurd h (by omega)
  | k + 1, k' + 1, [], m, l, _, _ => by rw [refRd, refRd]
  | k + 1, k' + 1, c :: r, m, l, h, h' => by
    rw [refRd, refRd]
    have hd := digs_le (c :: r) 0
    by_cases h0 : (digs 0 (c :: r)).2.length = (c :: r).length
    · rw [if_pos h0, if_pos h0]
    · rw [if_neg h0, if_neg h0]
      generalize digs 0 (c :: r) = D at *
      obtain ⟨n, t⟩ := D
      cases t with
      | nil => rfl
      | cons d q =>
        simp only at hd h0 ⊢
        simp only [List.length_cons] at h h' hd h0
        exact refRd_fuel k k' q _ _ (by omega) (by omega)
def rdC (t : List UInt8) (m : Bool) (l : List (Nat × Nat)) : Option (List (Nat × Nat)) := refRd (t.length + 1) t m l
theorem rdC_nil (m : Bool) (l : List (Nat × Nat)) : rdC [] m l = some l := rfl
theorem rdC_bad {t : List UInt8} (m : Bool) (l : List (Nat × Nat)) (ht : t ≠ []) (h : (digs 0 t).2.length = t.length) : rdC t m l = none := by
  cases t with
  | nil => exact absurd rfl ht
  | cons c r =>
    unfold rdC
    rw [refRd, if_pos h]
theorem rdC_end {t : List UInt8} (m : Bool) (l : List (Nat × Nat)) (ht : t ≠ []) {n : Nat} (h : digs 0 t = (n, [])) : rdC t m l = some (nextL m l n) := by
  cases t with
  | nil => exact absurd rfl ht
  | cons c r =>
    unfold rdC
    rw [refRd, h]
    simp
theorem rdC_step {t : List UInt8} (m : Bool) (l : List (Nat × Nat)) {n : Nat} {d : UInt8} {q : List UInt8} (h : digs 0 t = (n, d :: q)) (hl : (d :: q).length < t.length) : rdC t m l = rdC q (decide (d = 45)) (nextL m l n) := by
  cases t with
  | nil => simp at hl
  | cons c r =>
    unfold rdC
    rw [refRd, h]
    simp only
    rw [if_neg (by omega)]
    simp only [List.length_cons] at hl
    exact refRd_fuel _ _ _ _ _ (by simp only [List.length_cons]; omega) (by omega)
def mi (L : List UInt8) (i : Nat) : Bool := decide (0 < i) && decide (L.getD (i - 1) 0 = 45)
theorem drop_cons' (L : List UInt8) (k : Nat) (h : k < L.length) : L.drop k = L.getD k 0 :: L.drop (k + 1) := by
  rw [List.drop_eq_getElem_cons h]
  simp [List.getD, h]
theorem digs_go {n : Nat} {c : UInt8} {r : List UInt8} (h : 48 ≤ c.toNat ∧ c.toNat ≤ 57 ∧ n < 100000) : digs n (c :: r) = digs (n * 10 + (c.toNat - 48)) r := by rw [digs, if_pos h]
theorem digs_stop {n : Nat} {c : UInt8} {r : List UInt8} (h : ¬ (48 ≤ c.toNat ∧ c.toNat ≤ 57 ∧ n < 100000)) : digs n (c :: r) = (n, c :: r) := by rw [digs, if_neg h]
/-- the next state of the reader, behind the digits -/
theorem rd_next (L : List UInt8) (i k n : Nat) (rs : List (Nat × Nat)) (hik : i < k) (hk : k ≤ L.length) (hD : digs 0 (L.drop i) = (n, L.drop k)) :
    rdC (L.drop i) (mi L i) rs = rdC (L.drop (k + 1)) (mi L (k + 1)) (nextL (mi L i) rs n) := by
  have hne : L.drop i ≠ [] := by
    intro e
    have := congrArg List.length e
    rw [List.length_drop] at this
    simp at this
    omega
  by_cases h : k < L.length
  · rw [drop_cons' L k h] at hD
    rw [rdC_step _ _ hD (by rw [List.length_drop]; simp; omega)]
    have : mi L (k + 1) = decide (L.getD k 0 = 45) := by unfold mi; simp
    rw [this]
  · have e1 : L.drop k = [] := List.drop_eq_nil_of_le (by omega)
    have e2 : L.drop (k + 1) = [] := List.drop_eq_nil_of_le (by omega)
    rw [e1] at hD
    rw [rdC_end _ _ hne hD, e2, rdC_nil]
theorem nextL_len (m : Bool) (l : List (Nat × Nat)) (n : Nat) : (nextL m l n).length ≤ l.length + 1 := by
  unfold nextL
  split
  · rename_i h
    rcases List.eq_nil_or_concat l with rfl | ⟨q, p, rfl⟩
    · simp at h
    · obtain ⟨a, b⟩ := p
      rw [List.concat_eq_append, setLast_snoc]; simp
  · simp
theorem noRead {L : List UInt8} (h : refReadN L = none) : ∀ H, printH H ≠ L := fun H e => by
  have := refRead_print (rngH H) (rngH_ord H)
  have e2 : printV (rngH H) = L := e
  rw [e2] at this
  unfold refRead at this
  rw [h] at this
  cases this
theorem rngs_I (rs : List (Nat × Nat)) : (intR rs).length = rs.length := by simp [intR]
set_option maxHeartbeats 4000000 in
set_option maxRecDepth 100000 in
theorem refParse_calls (s : ByteArray) (hs : s.size ≤ 4294967296) (w : World) : Calls Tryd.prog 29 #[.string s] w (PsPost w s.data.toList) := by
  have hsz : s.data.toList.length = s.size := Array.length_toList
  have hiZ : (Tryd.prog.info? 30).map (·.size) = some Tryd.zeroCells30.size := by rw [zero_size]; exact info30
  have hzo := zero_words.one
  have hget : ∀ k (h : k < s.size), s.data.toList.getD k 0 = s[k] := fun k h => by
    rw [List.getD_eq_getElem?_getD, List.getElem?_eq_getElem (by rw [hsz]; exact h)]
    simp [ByteArray.getElem_eq_getElem_data]
  have hR0 : rdC (s.data.toList.drop 0) (mi s.data.toList 0) [] = refReadN s.data.toList := rfl
  have hPost : ∀ (e : Ending) (w' : World), PsPost w s.data.toList e w' → PsPost w s.data.toList e w' := fun _ _ h => h
  generalize hL : s.data.toList = L at *
  generalize hR : refReadN L = R at *
  replace hL := Lib.hid hL
  replace hR := Lib.hid hR
  replace hget := Lib.hid hget
  replace hR0 := Lib.hid hR0
  obtain ⟨i0, hi0, hz0, hzz1, hz2⟩ := info_rng'
  clear hPost
  go_enter Tryd.func29, Tryd.ntmps29
  go_wp2_with fail
  go_loopw [4, 5, 6, 7] (fun out i _ _ wr => ∃ (m : Nat) (rs : List (Nat × Nat)), m ≤ s.size + 1 ∧ i = .int .i64 m ∧ rdC (L.drop m) (mi L m) rs = R ∧ rs.length ≤ m ∧ wr.ownsRow (w.heap.size + 1) 53 2 out rs.length (flatR rs) ∧ Below w.heap.size w wr ∧
    wr.heap[w.heap.size]? = some (.cells Tryd.zeroCells30 30 (0, 0)) ∧ w.heap.size < wr.heap.size) (fun _ i _ _ _ => s.size + 1 - (intOf i).toNat)
  case atStart => exact ⟨0, [], by omega, rfl, hR0.out, by simp, own_nil _ _ _ _, below_new' w _, heapN w _, by simp⟩
  case round =>
    obtain ⟨m, rs, hm, rfl, hrd, hrl, hown, hb, hz, hlt⟩ := hrel
    by_cases hml : m < s.size
    · have hgo : decide ((m : Int) < (s.size : Int)) = true := decide_eq_true (by omega)
      replace hrd := Lib.hid hrd
      go_wp2_with fail
      go_loop [6, 7] (fun n k => ∃ (kk nn : Nat), m ≤ kk ∧ kk ≤ s.size ∧ k = .int .i64 kk ∧ n = .int .i64 nn ∧ nn < 1000000 ∧ digs nn (L.drop kk) = digs 0 (L.drop m)) (fun _ k => s.size - (intOf k).toNat)
      case atStart => exact ⟨m, 0, by omega, by omega, rfl, rfl, by omega, rfl⟩
      case round =>
        obtain ⟨k, n, hmk, hks, rfl, rfl, hn, hd⟩ := hrel
        have hDk : k = s.size → digs n (L.drop k) = (n, L.drop k) := fun h => by
          have e : L.drop k = [] := List.drop_eq_nil_of_le (by omega)
          rw [e]; rfl
        have hcons : ∀ h : k < s.size, L.drop k = s[k] :: L.drop (k + 1) := fun h => by rw [drop_cons' L k (by omega), hget.out k h]
        by_cases hgo2 : ∃ h : k < s.size, 48 ≤ s[k].toNat ∧ s[k].toNat ≤ 57 ∧ n < 100000
        · obtain ⟨hk, h48, h57, h5⟩ := hgo2
          have hst := digs_go (r := L.drop (k + 1)) ⟨h48, h57, h5⟩
          rw [← hcons hk, hd] at hst
          replace hst := Lib.hid hst
          have b1 : (k : Int) < (s.size : Int) := by omega
          have b2 : (48 : Int) ≤ (s[k].toNat : Int) := by omega
          have b3 : (s[k].toNat : Int) ≤ 57 := by omega
          have b4 : (n : Int) < 100000 := by omega
          clear hDk hcons hd
          go_wp2_with fail
          case roundEnd =>
            refine ⟨⟨k + 1, n * 10 + (s[k].toNat - 48), by omega, by omega, by go_num, ?_, by omega, hst.out.symm⟩, by simp [intOf]; omega⟩
            congr 1
            omega
        · have hD : digs 0 (L.drop m) = (n, L.drop k) := by
            rw [← hd]
            by_cases h : k < s.size
            · rw [hcons h]
              exact digs_stop fun hh => hgo2 ⟨h, hh⟩
            · exact hDk (by omega)
          have hex : (k = s.size) ∨ (∃ h : k < s.size, ¬ 48 ≤ s[k].toNat) ∨ (∃ h : k < s.size, 48 ≤ s[k].toNat ∧ ¬ s[k].toNat ≤ 57) ∨ (∃ h : k < s.size, 48 ≤ s[k].toNat ∧ s[k].toNat ≤ 57 ∧ ¬ n < 100000) := by
            by_cases h : k < s.size
            · by_cases h1 : 48 ≤ s[k].toNat
              · by_cases h2 : s[k].toNat ≤ 57
                · by_cases h3 : n < 100000
                  · exact absurd ⟨h, h1, h2, h3⟩ hgo2
                  · exact Or.inr (Or.inr (Or.inr ⟨h, h1, h2, h3⟩))
                · exact Or.inr (Or.inr (Or.inl ⟨h, h1, h2⟩))
              · exact Or.inr (Or.inl ⟨h, h1⟩)
            · exact Or.inl (by omega)
          have hfact : (k = s.size ∧ decide ((k : Int) < (s.size : Int)) = false) ∨ (∃ (h : k < s.size) (c : UInt8), s[k] = c ∧ (c.toNat : Int) < 48) ∨ (∃ (h : k < s.size) (c : UInt8), s[k] = c ∧ (48 : Int) ≤ (c.toNat : Int) ∧ (57 : Int) < (c.toNat : Int)) ∨ (∃ (h : k < s.size) (c : UInt8), s[k] = c ∧ (48 : Int) ≤ (c.toNat : Int) ∧ (c.toNat : Int) ≤ 57 ∧ decide ((n : Int) < 100000) = false) := by
            rcases hex with h | ⟨h, h1⟩ | ⟨h, h1, h2⟩ | ⟨h, h1, h2, h3⟩
            · exact Or.inl ⟨h, decide_eq_false (by omega)⟩
            · exact Or.inr (Or.inl ⟨h, _, rfl, by omega⟩)
            · exact Or.inr (Or.inr (Or.inl ⟨h, _, rfl, by omega, by omega⟩))
            · exact Or.inr (Or.inr (Or.inr ⟨h, _, rfl, by omega, by omega, decide_eq_false (by omega)⟩))
          clear hex hgo2 hDk hcons hd
          by_cases hkm : k = m
          · subst hkm
            have hno := Lib.hid (show ∀ H, printH H ≠ L from noRead (hR.out.trans (hrd.out.symm.trans (rdC_bad _ _ (by
              intro e
              have := congrArg List.length e
              rw [List.length_drop] at this
              simp at this
              omega) (by rw [hD])))))
            replace hD := Lib.hid hD
            rcases hfact with ⟨h, h0⟩ | ⟨h, c, hc, h0⟩ | ⟨h, c, hc, h0, h1⟩ | ⟨h, c, hc, h0, h1, h2⟩
            · exact absurd h (by omega)
            all_goals
              go_wp2_with (refine wpList_store_row rfl 30 _ _ rfl (w.heap.size) Tryd.zeroCells30 rfl rfl 30 Tryd.zeroCells30 hz hiZ rfl hzo ?_)
              refine bodyPost_ret (v := .tuple #[.agg Tryd.zeroCells30, .int .i64 20]) (results_cell_row2 Tryd.results29 _ _ w.heap.size 30 Tryd.zeroCells30 (0, 0) _ _ rfl rfl (setRow_heap _ _ _ _ _ _ hz) Tryd.underlying30 rfl hiZ) rfl ⟨Or.inr ⟨hno.out, rfl⟩, below_setRow hb (Nat.le_refl _) _⟩
          · have hnx := rd_next L m k n rs (by omega) (by omega) hD
            rw [hrd.out] at hnx
            replace hnx := Lib.hid hnx
            replace hD := Lib.hid hD
            have hmk2 : m < k := by omega
            have hkmb : ((k : Int) == (m : Int)) = false := beq_eq_false_iff_ne.2 (by omega)
            have hkmn : (k == m) = false := beq_eq_false_iff_ne.2 (by omega)
            have hcl : rs = [] ∨ ∃ q x y, rs = q ++ [(x, y)] := by
              rcases List.eq_nil_or_concat rs with h | ⟨q, p, h⟩
              · exact Or.inl h
              · obtain ⟨x, y⟩ := p
                exact Or.inr ⟨q, x, y, by rw [h, List.concat_eq_append]⟩
            have hflag : (mi L m = true ∧ rs ≠ [] ∧ ∃ (h0 : 0 < m) (hx : m - 1 < s.size), ((s[m - 1].toNat : Int) == 45) = true) ∨ (nextL (mi L m) rs n = rs ++ [(n, n)] ∧ (m = 0 ∨ (∃ (h0 : 0 < m) (hx : m - 1 < s.size), ((s[m - 1].toNat : Int) == 45) = false) ∨ (∃ (h0 : 0 < m) (hx : m - 1 < s.size), ((s[m - 1].toNat : Int) == 45) = true ∧ rs = []))) := by
              have hmi : ∀ (h0 : 0 < m) (hx : m - 1 < s.size), mi L m = ((s[m - 1].toNat : Int) == 45) := fun h0 hx => by
                unfold mi
                rw [decide_eq_true h0, Bool.true_and, hget.out (m - 1) hx, Bool.eq_iff_iff]
                simp only [decide_eq_true_eq, beq_iff_eq]
                constructor
                · intro e; rw [e]; rfl
                · intro e; exact UInt8.toNat_inj.mp (by show s[m - 1].toNat = 45; omega)
              rcases Nat.eq_zero_or_pos m with h0 | h0
              · refine Or.inr ⟨?_, Or.inl h0⟩
                subst h0; rfl
              · have hx : m - 1 < s.size := by omega
                cases hb45 : ((s[m - 1].toNat : Int) == 45) with
                | false =>
                  refine Or.inr ⟨?_, Or.inr (Or.inl ⟨h0, hx, hb45⟩)⟩
                  rw [hmi h0 hx, hb45]; rfl
                | true =>
                  by_cases hr : rs = []
                  · refine Or.inr ⟨?_, Or.inr (Or.inr ⟨h0, hx, hb45, hr⟩)⟩
                    subst hr
                    unfold nextL
                    simp
                  · exact Or.inl ⟨by rw [hmi h0 hx, hb45], hr, h0, hx, hb45⟩
            rcases hflag with ⟨hmt, hrn, h0m, hxm, h45⟩ | ⟨hnl, hwhy⟩
            · obtain ⟨q, x, y, rfl⟩ := hcl.resolve_left hrn
              rw [hmt] at hnx
              have hnl : nextL true (q ++ [(x, y)]) n = q ++ [(x, n)] := by
                unfold nextL
                rw [setLast_snoc]; simp
              rw [hnl] at hnx
              have hown4 : wr.ownsRow (w.heap.size + 1) 53 2 u4 (q.length + 1) (flatR (q ++ [(x, y)])) := by simpa using hown
              have hql : q.length + 1 ≤ m := by simpa using hrl
              clear hown hrn hmt hnl hcl hrd hrl
              obtain ⟨A, c4, rfl⟩ := own_slice hown4
              obtain ⟨g, cap, hgA, -, -⟩ := hown4.form (by omega)
              obtain rfl : A = some ⟨g, 0, none⟩ := by injection hgA
              obtain ⟨s1, s2⟩ := hown4.stored (q.length * 2 + 1) (.int .i64 (n : Int))
              have hfro := hown4.frozenAt (q.length * 2 + 1)
              have hcell : wr.cell? ⟨g, q.length * 2 + 1, none⟩ = some (.int .i64 (y : Int)) := by
                rw [hown4.cellAt _ (by omega)]; exact flatR_last q x y
              have i1 : ((q.length + 1 : Nat) : Int) - 1 = (q.length : Int) := by omega
              have hm1 : decide (0 < m) = true := decide_eq_true h0m
              obtain ⟨b, hb45⟩ : ∃ b, s[m - 1] = b := ⟨_, rfl⟩
              rw [hb45] at h45
              rw [flatR_set] at s1
              clear hgA
              rcases hfact with ⟨h, h0⟩ | ⟨h, c, hc, h0⟩ | ⟨h, c, hc, h0, h1⟩ | ⟨h, c, hc, h0, h1, h2⟩
              all_goals
                go_wp2_with fail
                obtain ⟨k1, k2, k3⟩ := grown_keep' hb hz hlt (own_base hown4 g rfl) s2
                exact ⟨⟨k + 1, q ++ [(x, n)], by omega, by go_num, hnx.out.symm, by simp; omega, by simpa using s1, k1, k2, k3⟩, by simp [intOf]; omega⟩
            · rw [hnl] at hnx
              clear hnl hcl hrd
              have hc5 : w.heap.size + 1 ≤ (wr.alloc (.cells #[.int .i64 (n : Int), .int .i64 (n : Int)] 53)).heap.size := by simp; omega
              obtain ⟨A, c4, rfl⟩ := own_slice hown
              have hwhy2 : (decide (0 < m) = false) ∨ ((0 < m ∧ decide (0 < m) = true) ∧ ∃ (hx : m - 1 < s.size) (b : UInt8), s[m - 1] = b ∧ ((b.toNat : Int) == 45) = false) ∨ ((0 < m ∧ decide (0 < m) = true) ∧ (∃ (hx : m - 1 < s.size) (b : UInt8), s[m - 1] = b ∧ ((b.toNat : Int) == 45) = true) ∧ decide (0 < rs.length) = false) := by
                rcases hwhy with h | ⟨h0, hx, h⟩ | ⟨h0, hx, h, hr⟩
                · exact Or.inl (decide_eq_false (by omega))
                · exact Or.inr (Or.inl ⟨⟨h0, decide_eq_true h0⟩, hx, _, rfl, h⟩)
                · exact Or.inr (Or.inr ⟨⟨h0, decide_eq_true h0⟩, ⟨hx, _, rfl, h⟩, by rw [hr]; rfl⟩)
              clear hwhy
              rcases hfact with ⟨h, h0⟩ | ⟨h, c, hc, h0⟩ | ⟨h, c, hc, h0, h1⟩ | ⟨h, c, hc, h0, h1, h2⟩
              all_goals
                rcases hwhy2 with g0 | ⟨⟨g4, g0⟩, g1, b, hb45, g2⟩ | ⟨⟨g4, g0⟩, ⟨g1, b, hb45, g2⟩, g3⟩
                all_goals
                  go_wp2_with (at_builtin; refine wpList_append_own _ rfl _ _ 35 rfl (w.heap.size + 1) 53 i0 (.agg #[.int .i64 0, .int .i64 0]) 2 16 Tryd.underlying35 hi0 hz0 hzz1 hz2 rfl (by decide) _ _ _ rfl (hown.alloc _) ⟨wr.heap.size, 0, none⟩ 1 1 [.int .i64 (n : Int), .int .i64 (n : Int)] rfl rfl (news2 _ _ _ _) (two_int _ _ _) (by unfold maxLen; omega) (by omega) hc5 ?_; intro v' w5 hown5 hgrow _)
                  obtain ⟨k1, k2, k3⟩ := grown_keep hb hz hlt hown hgrow
                  exact ⟨⟨k + 1, rs ++ [(n, n)], by omega, by go_num, hnx.out.symm, by simp; omega, by rw [flatR_append, List.length_append]; exact hown5, k1, k2, k3⟩, by simp [intOf]; omega⟩
    · have hgo : decide ((m : Int) < (s.size : Int)) = false := decide_eq_false (by omega)
      have hRv : refReadN L = some rs := by
        rw [hR.out, ← hrd, show L.drop m = [] from List.drop_eq_nil_of_le (by omega), rdC_nil]
      obtain ⟨A, c, rfl⟩ := own_slice hown
      have hiff := read_iff (rd := refRead) refRead_print L
      have hrv : refRead L = some (intR rs) := by unfold refRead; rw [hRv]; rfl
      rw [hrv] at hiff
      have hM := fun W (hW : Below wr.heap.size wr W) => refMake_calls (intR rs) A c (by rw [rngs_I]; omega) W ((rd_of_rng (base := w.heap.size + 1) (c := c) hown).below hW)
      rw [rngs_I] at hM
      generalize intR rs = l at *
      clear hrv hRv hrd hown hR0 hget
      go_wp2_with fail
      refine (hM _ (Below.refl _ _)).mono ?_
      rintro e w2 ⟨hP, hb2⟩
      have hz2' : w2.heap[w.heap.size]? = some (.cells Tryd.zeroCells30 30 (0, 0)) := (hb2.block _ hlt).trans hz
      have hlt2 : w.heap.size < w2.heap.size := Nat.lt_of_lt_of_le hlt hb2.size
      have hbw2 := hb.trans (hb2.mono hb.size)
      clear hM hb2 hz hlt hb
      cases hok : okR l with
      | false =>
        rw [hok, if_neg (by decide)] at hP
        subst hP
        have hno : ∀ H, printH H ≠ L := fun H e => by
          obtain ⟨l', e1, e2, _⟩ := hiff.1 ⟨H, e⟩
          simp at e1
          subst e1
          rw [hok] at e2; cases e2
        replace hno := Lib.hid hno
        clear hiff
        have hz3 : ((w2.alloc (.cells Tryd.zeroCells30 30)).setRow w2.heap.size Tryd.zeroCells30).heap[w.heap.size]? = some (.cells Tryd.zeroCells30 30 (0, 0)) := (setRow_other _ _ _ _ (by omega)).trans (((below_new' w2 _).block _ hlt2).trans hz2')
        have hbw3 : Below w.heap.size w ((w2.alloc (.cells Tryd.zeroCells30 30)).setRow w2.heap.size Tryd.zeroCells30) := below_setRow (hbw2.trans ((below_new' w2 _).mono hbw2.size)) hbw2.size _
        go_wp2_with (first | (refine wpList_store_row rfl 30 _ _ rfl (w2.heap.size) Tryd.zeroCells30 rfl rfl 30 Tryd.zeroCells30 (heapN w2 _) hiZ rfl hzo ?_) | (refine wpList_store_row rfl 30 _ _ rfl (w.heap.size) Tryd.zeroCells30 rfl rfl 30 Tryd.zeroCells30 hz3 hiZ rfl hzo ?_))
        refine bodyPost_ret (v := .tuple #[.agg Tryd.zeroCells30, .int .i64 20]) (results_cell_row2 Tryd.results29 _ _ w.heap.size 30 Tryd.zeroCells30 (0, 0) _ _ rfl rfl (setRow_heap _ _ _ _ _ _ hz3) Tryd.underlying30 rfl hiZ) rfl ⟨Or.inr ⟨hno.out, rfl⟩, below_setRow hbw3 (Nat.le_refl _) _⟩
      | true =>
        rw [hok, if_pos rfl] at hP
        obtain ⟨a, f, rfl, ha, hfl2⟩ := hP
        have hpr := printH_congr hfl2
        have hia : (Tryd.prog.info? 30).map (·.size) = some a.size := by rw [ha.size]; exact info30
        have hza : Tryd.zeroCells30.size = a.size := by rw [ha.size]; exact zero_size
        have ho := ha.one
        have hz3 : ((w2.alloc (.cells Tryd.zeroCells30 30)).setRow w2.heap.size a).heap[w.heap.size]? = some (.cells Tryd.zeroCells30 30 (0, 0)) := (setRow_other _ _ _ _ (by omega)).trans (((below_new' w2 _).block _ hlt2).trans hz2')
        have hbn : Below w2.heap.size w2 ((w2.alloc (.cells Tryd.zeroCells30 30)).setRow w2.heap.size a) := below_setRow (below_new' w2 _) (Nat.le_refl _) _
        have hbw3 : Below w.heap.size w ((w2.alloc (.cells Tryd.zeroCells30 30)).setRow w2.heap.size a) := hbw2.trans (hbn.mono hbw2.size)
        have ha3 : ((w2.alloc (.cells Tryd.zeroCells30 30)).setRow w2.heap.size a).heap[w2.heap.size]? = some (.cells a 30 (0, 0)) := setRow_heap _ _ _ _ _ _ (heapN w2 _)
        have hl3 : w2.heap.size < ((w2.alloc (.cells Tryd.zeroCells30 30)).setRow w2.heap.size a).heap.size := by simp [World.setRow]
        clear hfl2 hbn hbw2 hz2'
        have hPr := fun W => refPrint_calls a f ha W
        have hsame : (printH (hasN f) = L) ∨ ((∀ H, printH H ≠ L) ∧ printH (hasN f) ≠ L) := by
          by_cases h : printH (hasN f) = L
          · exact Or.inl h
          · refine Or.inr ⟨fun H e => ?_, h⟩
            obtain ⟨l', e1, e2, e3⟩ := hiff.1 ⟨H, e⟩
            simp at e1
            subst e1
            rw [hpr] at h
            exact h e3
        clear hiff hpr
        have hpe : (⟨(printH (hasN f)).toArray⟩ : ByteArray).data.toList = printH (hasN f) := rfl
        have hcmp := str_eq_list ⟨(printH (hasN f)).toArray⟩ s
        rw [hpe, hL.out] at hcmp
        clear hpe
        generalize hTT : (⟨(printH (hasN f)).toArray⟩ : ByteArray) = tt at *
        replace hTT := Lib.hid hTT
        go_wp2_with (first | (refine wpList_store_row rfl 30 _ _ rfl (w2.heap.size) a rfl rfl 30 Tryd.zeroCells30 (heapN w2 _) hia hza ho ?_) | (refine wpList_load_row_g (by first | rfl | simp [Region.wanted, yielded]) 30 _ rfl w2.heap.size rfl 30 a (0, 0) _ ha3 Tryd.underlying30 rfl hia ?_))
        refine (hPr _).mono ?_
        rintro e w5 ⟨rfl, hb5⟩
        have hz5 := (hb5.block _ (show w.heap.size < _ by omega)).trans hz3
        have ha5 := (hb5.block _ hl3).trans ha3
        have hbw5 := hbw3.trans (hb5.mono hbw3.size)
        generalize hW3 : (w2.alloc (.cells Tryd.zeroCells30 30)).setRow w2.heap.size a = w3 at *
        clear hW3 hPr hb5 hz3 ha3 hbw3
        rcases hsame with hS | ⟨hno, hS⟩
        · rw [decide_eq_true hS] at hcmp
          have hcmp2 : (tt.toList != s.toList) = false := by rw [bne, hcmp]; rfl
          replace hS := Lib.hid hS
          go_wp2_with (first | (refine wpList_load_row rfl 30 _ rfl w2.heap.size rfl 30 a (0, 0) _ ha5 Tryd.underlying30 rfl hia ?_) | (refine wpList_store_row rfl 30 _ _ rfl (w.heap.size) a rfl rfl 30 Tryd.zeroCells30 hz5 hia hza ho ?_))
          refine bodyPost_ret (v := .tuple #[.agg a, .int .i64 0]) (results_cell_row2 Tryd.results29 _ _ w.heap.size 30 a (0, 0) _ _ rfl rfl (setRow_heap _ _ _ _ _ _ hz5) Tryd.underlying30 rfl hia) rfl ⟨Or.inl ⟨a, f, rfl, ha, hS.out⟩, below_setRow hbw5 (Nat.le_refl _) _⟩
        · rw [decide_eq_false hS] at hcmp
          have hcmp2 : (tt.toList != s.toList) = true := by rw [bne, hcmp]; rfl
          replace hno := Lib.hid hno
          clear hS
          go_wp2_with (refine wpList_store_row rfl 30 _ _ rfl (w.heap.size) Tryd.zeroCells30 rfl rfl 30 Tryd.zeroCells30 hz5 hiZ rfl hzo ?_)
          refine bodyPost_ret (v := .tuple #[.agg Tryd.zeroCells30, .int .i64 20]) (results_cell_row2 Tryd.results29 _ _ w.heap.size 30 Tryd.zeroCells30 (0, 0) _ _ rfl rfl (setRow_heap _ _ _ _ _ _ hz5) Tryd.underlying30 rfl hiZ) rfl ⟨Or.inr ⟨hno.out, rfl⟩, below_setRow hbw5 (Nat.le_refl _) _⟩
end Go.Proofs.YtnlchdjknebmfaaDoor
