/- The reference's Parse: the same. The sum of a key's bytes, by halves of bytes and bit by bit; slot.Of and the reference's Of. Numbers in bytes, the highest first, and the form of a packet. A packet's cells, and Right. The document's form of a packet. Numbers written in bytes. Numbers in bytes, by the document. Numbers and their bytes: plain laws. The parts and their sum. The bytes of a packet: plain laws. Conditions: texts within the form's reach; the listed variables as laid. -/
import Derived.Test.YtbpjfjdndaoekaaDoorMgB
import Derived.Test.YtbpjfjdndaoekaaDoorRSmx1
import Derived.Lib.LaidTab
set_option linter.unusedVariables false
set_option linter.unusedSimpArgs false
namespace Go.Proofs.YtbpjfjdndaoekaaDoor
open Go.RowKit Go.Proofs.YtbpjfjdndaoekaaDoorW.PrintWords
open SlS SlT
theorem refRd_fuel : ∀ (k k' : Nat) (t : List UInt8) (m : Bool) (l : List (Nat × Nat)), t.length < k → t.length < k' → refRd k t m l = refRd k' t m l
  | 0, _, t, _, _, h, _ => absurd h (by omega)
  | _, 0, t, _, _, _, h => absurd h (by omega)
  | k + 1, k' + 1, [], m, l, _, _ => by rw [refRd, refRd]
  | k + 1, k' + 1, c :: r, m, l, h, h' => by
    rw [refRd, refRd]
    have hd := digs_le (c :: r) 0
    by_cases h0 : (digs 0 (c :: r)).2.length = (c :: r).length
    · rw [if_pos h0, if_pos h0]
    · rw [if_neg h0, if_neg h0]
      generalize digs 0 (c :: r) = D at *
      obtain ⟨n, t⟩ := D
      cases t with
      | nil => rfl
      | cons d q =>
        simp only at hd h0 ⊢
        simp only [List.length_cons] at h h' hd h0
        exact refRd_fuel k k' q _ _ (by omega) (by omega)
def rdC (t : List UInt8) (m : Bool) (l : List (Nat × Nat)) : Option (List (Nat × Nat)) := refRd (t.length + 1) t m l
theorem rdC_nil (m : Bool) (l : List (Nat × Nat)) : rdC [] m l = some l := rfl
theorem rdC_bad {t : List UInt8} (m : Bool) (l : List (Nat × Nat)) (ht : t ≠ []) (h : (digs 0 t).2.length = t.length) : rdC t m l = none := by
  cases t with
  | nil => exact absurd rfl ht
  | cons c r =>
    unfold rdC
    rw [refRd, if_pos h]
theorem rdC_end {t : List UInt8} (m : Bool) (l : List (Nat × Nat)) (ht : t ≠ []) {n : Nat} (h : digs 0 t = (n, [])) : rdC t m l = some (nextL m l n) := by
  cases t with
  | nil => exact absurd rfl ht
  | cons c r =>
    unfold rdC
    rw [refRd, h]
    simp
theorem rdC_step {t : List UInt8} (m : Bool) (l : List (Nat × Nat)) {n : Nat} {d : UInt8} {q : List UInt8} (h : digs 0 t = (n, d :: q)) (hl : (d :: q).length < t.length) : rdC t m l = rdC q (decide (d = 45)) (nextL m l n) := by
  cases t with
  | nil => simp at hl
  | cons c r =>
    unfold rdC
    rw [refRd, h]
    simp only
    rw [if_neg (by omega)]
    simp only [List.length_cons] at hl
    exact refRd_fuel _ _ _ _ _ (by simp only [List.length_cons]; omega) (by omega)
def mi (L : List UInt8) (i : Nat) : Bool := decide (0 < i) && decide (L.getD (i - 1) 0 = 45)
theorem drop_cons' (L : List UInt8) (k : Nat) (h : k < L.length) : L.drop k = L.getD k 0 :: L.drop (k + 1) := by
  rw [List.drop_eq_getElem_cons h]
  simp [List.getD, h]
theorem digs_go {n : Nat} {c : UInt8} {r : List UInt8} (h : 48 ≤ c.toNat ∧ c.toNat ≤ 57 ∧ n < 100000) : digs n (c :: r) = digs (n * 10 + (c.toNat - 48)) r := by rw [digs, if_pos h]
theorem digs_stop {n : Nat} {c : UInt8} {r : List UInt8} (h : ¬ (48 ≤ c.toNat ∧ c.toNat ≤ 57 ∧ n < 100000)) : digs n (c :: r) = (n, c :: r) := by rw [digs, if_neg h]
/-- the next state of the reader, behind the digits -/
theorem rd_next (L : List UInt8) (i k n : Nat) (rs : List (Nat × Nat)) (hik : i < k) (hk : k ≤ L.length) (hD : digs 0 (L.drop i) = (n, L.drop k)) :
    rdC (L.drop i) (mi L i) rs = rdC (L.drop (k + 1)) (mi L (k + 1)) (nextL (mi L i) rs n) := by
  have hne : L.drop i ≠ [] := by
    intro e
    have := congrArg List.length e
    rw [List.length_drop] at this
    simp at this
    omega
  by_cases h : k < L.length
  · rw [drop_cons' L k h] at hD
    rw [rdC_step _ _ hD (by rw [List.length_drop]; simp; omega)]
    have : mi L (k + 1) = decide (L.getD k 0 = 45) := by unfold mi; simp
    rw [this]
  · have e1 : L.drop k = [] := List.drop_eq_nil_of_le (by omega)
    have e2 : L.drop (k + 1) = [] := List.drop_eq_nil_of_le (by omega)
    rw [e1] at hD
    rw [rdC_end _ _ hne hD, e2, rdC_nil]
theorem nextL_len (m : Bool) (l : List (Nat × Nat)) (n : Nat) : (nextL m l n).length ≤ l.length + 1 := by
  unfold nextL
  split
  · rename_i h
    rcases List.eq_nil_or_concat l with rfl | ⟨q, p, rfl⟩
    · simp at h
    · obtain ⟨a, b⟩ := p
      rw [List.concat_eq_append, setLast_snoc]; simp
  · simp
theorem noRead {L : List UInt8} (h : refReadN L = none) : ∀ H, printH H ≠ L := fun H e => by
  have := refRead_print (rngH H) (rngH_ord H)
  have e2 : printV (rngH H) = L := e
  rw [e2] at this
  unfold refRead at this
  rw [h] at this
  cases this
theorem rngs_I (rs : List (Nat × Nat)) : (intR rs).length = rs.length := by simp [intR]
set_option maxHeartbeats 4000000 in
set_option maxRecDepth 100000 in
theorem refParse_calls (s : ByteArray) (hs : s.size ≤ 4294967296) (w : World) : Calls Tryd.prog 25 #[.string s] w (PsPost w s.data.toList) := by
  have hsz : s.data.toList.length = s.size := Array.length_toList
  have hiZ : (Tryd.prog.info? 24).map (·.size) = some Tryd.zeroCells24.size := by rw [zero_size]; exact info30
  have hzo := zero_words.one
  have hget : ∀ k (h : k < s.size), s.data.toList.getD k 0 = s[k] := fun k h => by
    rw [List.getD_eq_getElem?_getD, List.getElem?_eq_getElem (by rw [hsz]; exact h)]
    simp [ByteArray.getElem_eq_getElem_data]
  have hR0 : rdC (s.data.toList.drop 0) (mi s.data.toList 0) [] = refReadN s.data.toList := rfl
  have hPost : ∀ (e : Ending) (w' : World), PsPost w s.data.toList e w' → PsPost w s.data.toList e w' := fun _ _ h => h
  generalize hL : s.data.toList = L at *
  generalize hR : refReadN L = R at *
  replace hL := Lib.hid hL
  replace hR := Lib.hid hR
  replace hget := Lib.hid hget
  replace hR0 := Lib.hid hR0
  obtain ⟨i0, hi0, hz0, hzz1, hz2⟩ := info_rng'
  clear hPost
  go_enter Tryd.func25, Tryd.ntmps25
  go_wp2_with fail
  go_loopw [4, 5, 6, 7] (fun out i _ _ wr => ∃ (m : Nat) (rs : List (Nat × Nat)), m ≤ s.size + 1 ∧ i = .int .i64 m ∧ rdC (L.drop m) (mi L m) rs = R ∧ rs.length ≤ m ∧ wr.ownsRow (w.heap.size + 1) 53 2 out rs.length (flatR rs) ∧ Below w.heap.size w wr ∧
    wr.heap[w.heap.size]? = some (.cells Tryd.zeroCells24 24 (0, 0)) ∧ w.heap.size < wr.heap.size) (fun _ i _ _ _ => s.size + 1 - (intOf i).toNat)
  case atStart => exact ⟨0, [], by omega, rfl, hR0.out, by simp, own_nil _ _ _ _, below_new' w _, heapN w _, by simp⟩
  case round =>
    obtain ⟨m, rs, hm, rfl, hrd, hrl, hown, hb, hz, hlt⟩ := hrel
    by_cases hml : m < s.size
    · have hgo : decide ((m : Int) < (s.size : Int)) = true := decide_eq_true (by omega)
      replace hrd := Lib.hid hrd
      go_wp2_with fail
      go_loop [6, 7] (fun n k => ∃ (kk nn : Nat), m ≤ kk ∧ kk ≤ s.size ∧ k = .int .i64 kk ∧ n = .int .i64 nn ∧ nn < 1000000 ∧ digs nn (L.drop kk) = digs 0 (L.drop m)) (fun _ k => s.size - (intOf k).toNat)
      case atStart => exact ⟨m, 0, by omega, by omega, rfl, rfl, by omega, rfl⟩
      case round =>
        obtain ⟨k, n, hmk, hks, rfl, rfl, hn, hd⟩ := hrel
        have hDk : k = s.size → digs n (L.drop k) = (n, L.drop k) := fun h => by
          have e : L.drop k = [] := List.drop_eq_nil_of_le (by omega)
          rw [e]; rfl
        have hcons : ∀ h : k < s.size, L.drop k = s[k] :: L.drop (k + 1) := fun h => by rw [drop_cons' L k (by omega), hget.out k h]
        by_cases hgo2 : ∃ h : k < s.size, 48 ≤ s[k].toNat ∧ s[k].toNat ≤ 57 ∧ n < 100000
        · obtain ⟨hk, h48, h57, h5⟩ := hgo2
          have hst := digs_go (r := L.drop (k + 1)) ⟨h48, h57, h5⟩
          rw [← hcons hk, hd] at hst
          replace hst := Lib.hid hst
          have b1 : (k : Int) < (s.size : Int) := by omega
          have b2 : (48 : Int) ≤ (s[k].toNat : Int) := by omega
          have b3 : (s[k].toNat : Int) ≤ 57 := by omega
          have b4 : (n : Int) < 100000 := by omega
          clear hDk hcons hd
          go_wp2_with fail
          case roundEnd =>
            refine ⟨⟨k + 1, n * 10 + (s[k].toNat - 48), by omega, by omega, by go_num, ?_, by omega, hst.out.symm⟩, by simp [intOf]; omega⟩
            congr 1
            omega
        · have hD : digs 0 (L.drop m) = (n, L.drop k) := by
            rw [← hd]
            by_cases h : k < s.size
            · rw [hcons h]
              exact digs_stop fun hh => hgo2 ⟨h, hh⟩
            · exact hDk (by omega)
          have hex : (k = s.size) ∨ (∃ h : k < s.size, ¬ 48 ≤ s[k].toNat) ∨ (∃ h : k < s.size, 48 ≤ s[k].toNat ∧ ¬ s[k].toNat ≤ 57) ∨ (∃ h : k < s.size, 48 ≤ s[k].toNat ∧ s[k].toNat ≤ 57 ∧ ¬ n < 100000) := by
            by_cases h : k < s.size
            · by_cases h1 : 48 ≤ s[k].toNat
              · by_cases h2 : s[k].toNat ≤ 57
                · by_cases h3 : n < 100000
                  · exact absurd ⟨h, h1, h2, h3⟩ hgo2
                  · exact Or.inr (Or.inr (Or.inr ⟨h, h1, h2, h3⟩))
                · exact Or.inr (Or.inr (Or.inl ⟨h, h1, h2⟩))
              · exact Or.inr (Or.inl ⟨h, h1⟩)
            · exact Or.inl (by omega)
          have hfact : (k = s.size ∧ decide ((k : Int) < (s.size : Int)) = false) ∨ (∃ (h : k < s.size) (c : UInt8), s[k] = c ∧ (c.toNat : Int) < 48) ∨ (∃ (h : k < s.size) (c : UInt8), s[k] = c ∧ (48 : Int) ≤ (c.toNat : Int) ∧ (57 : Int) < (c.toNat : Int)) ∨ (∃ (h : k < s.size) (c : UInt8), s[k] = c ∧ (48 : Int) ≤ (c.toNat : Int) ∧ (c.toNat : Int) ≤ 57 ∧ decide ((n : Int) < 100000) = false) := by
            rcases hex with h | ⟨h, h1⟩ | ⟨h, h1, h2⟩ | ⟨h, h1, h2, h3⟩
            · exact Or.inl ⟨h, decide_eq_false (by omega)⟩
            · exact Or.inr (Or.inl ⟨h, _, rfl, by omega⟩)
            · exact Or.inr (Or.inr (Or.inl ⟨h, _, rfl, by omega, by omega⟩))
            · exact Or.inr (Or.inr (Or.inr ⟨h, _, rfl, by omega, by omega, decide_eq_false (by omega)⟩))
          clear hex hgo2 hDk hcons hd
          by_cases hkm : k = m
          · subst hkm
            have hno := Lib.hid (show ∀ H, printH H ≠ L from noRead (hR.out.trans (hrd.out.symm.trans (rdC_bad _ _ (by
              intro e
              have := congrArg List.length e
              rw [List.length_drop] at this
              simp at this
              omega) (by rw [hD])))))
            replace hD := Lib.hid hD
            rcases hfact with ⟨h, h0⟩ | ⟨h, c, hc, h0⟩ | ⟨h, c, hc, h0, h1⟩ | ⟨h, c, hc, h0, h1, h2⟩
            · exact absurd h (by omega)
            all_goals
              go_wp2_with (refine wpList_store_row rfl 24 _ _ rfl (w.heap.size) Tryd.zeroCells24 rfl rfl 24 Tryd.zeroCells24 hz hiZ rfl hzo ?_)
              refine bodyPost_ret (v := .tuple #[.agg Tryd.zeroCells24, .int .i64 20]) (results_cell_row2 Tryd.results25 _ _ w.heap.size 24 Tryd.zeroCells24 (0, 0) _ _ rfl rfl (setRow_heap _ _ _ _ _ _ hz) Tryd.underlying24 rfl hiZ) rfl ⟨Or.inr ⟨hno.out, rfl⟩, below_setRow hb (Nat.le_refl _) _⟩
          · have hnx := rd_next L m k n rs (by omega) (by omega) hD
            rw [hrd.out] at hnx
            replace hnx := Lib.hid hnx
            replace hD := Lib.hid hD
            have hmk2 : m < k := by omega
            have hkmb : ((k : Int) == (m : Int)) = false := beq_eq_false_iff_ne.2 (by omega)
            have hkmn : (k == m) = false := beq_eq_false_iff_ne.2 (by omega)
            have hcl : rs = [] ∨ ∃ q x y, rs = q ++ [(x, y)] := by
              rcases List.eq_nil_or_concat rs with h | ⟨q, p, h⟩
              · exact Or.inl h
              · obtain ⟨x, y⟩ := p
                exact Or.inr ⟨q, x, y, by rw [h, List.concat_eq_append]⟩
            have hflag : (mi L m = true ∧ rs ≠ [] ∧ ∃ (h0 : 0 < m) (hx : m - 1 < s.size), ((s[m - 1].toNat : Int) == 45) = true) ∨ (nextL (mi L m) rs n = rs ++ [(n, n)] ∧ (m = 0 ∨ (∃ (h0 : 0 < m) (hx : m - 1 < s.size), ((s[m - 1].toNat : Int) == 45) = false) ∨ (∃ (h0 : 0 < m) (hx : m - 1 < s.size), ((s[m - 1].toNat : Int) == 45) = true ∧ rs = []))) := by
              have hmi : ∀ (h0 : 0 < m) (hx : m - 1 < s.size), mi L m = ((s[m - 1].toNat : Int) == 45) := fun h0 hx => by
                unfold mi
                rw [decide_eq_true h0, Bool.true_and, hget.out (m - 1) hx, Bool.eq_iff_iff]
                simp only [decide_eq_true_eq, beq_iff_eq]
                constructor
                · intro e; rw [e]; rfl
                · intro e; exact UInt8.toNat_inj.mp (by show s[m - 1].toNat = 45; omega)
              rcases Nat.eq_zero_or_pos m with h0 | h0
              · refine Or.inr ⟨?_, Or.inl h0⟩
                subst h0; rfl
              · have hx : m - 1 < s.size := by omega
                cases hb45 : ((s[m - 1].toNat : Int) == 45) with
                | false =>
                  refine Or.inr ⟨?_, Or.inr (Or.inl ⟨h0, hx, hb45⟩)⟩
                  rw [hmi h0 hx, hb45]; rfl
                | true =>
                  by_cases hr : rs = []
                  · refine Or.inr ⟨?_, Or.inr (Or.inr ⟨h0, hx, hb45, hr⟩)⟩
                    subst hr
                    unfold nextL
                    simp
                  · exact Or.inl ⟨by rw [hmi h0 hx, hb45], hr, h0, hx, hb45⟩
            rcases hflag with ⟨hmt, hrn, h0m, hxm, h45⟩ | ⟨hnl, hwhy⟩
            · obtain ⟨q, x, y, rfl⟩ := hcl.resolve_left hrn
              rw [hmt] at hnx
              have hnl : nextL true (q ++ [(x, y)]) n = q ++ [(x, n)] := by
                unfold nextL
                rw [setLast_snoc]; simp
              rw [hnl] at hnx
              have hown4 : wr.ownsRow (w.heap.size + 1) 53 2 u4 (q.length + 1) (flatR (q ++ [(x, y)])) := by simpa using hown
              have hql : q.length + 1 ≤ m := by simpa using hrl
              clear hown hrn hmt hnl hcl hrd hrl
              obtain ⟨A, c4, rfl⟩ := own_slice hown4
              obtain ⟨g, cap, hgA, -, -⟩ := hown4.form (by omega)
              obtain rfl : A = some ⟨g, 0, none⟩ := by injection hgA
              obtain ⟨s1, s2⟩ := hown4.stored (q.length * 2 + 1) (.int .i64 (n : Int))
              have hfro := hown4.frozenAt (q.length * 2 + 1)
              have hcell : wr.cell? ⟨g, q.length * 2 + 1, none⟩ = some (.int .i64 (y : Int)) := by
                rw [hown4.cellAt _ (by omega)]; exact flatR_last q x y
              have i1 : ((q.length + 1 : Nat) : Int) - 1 = (q.length : Int) := by omega
              have hm1 : decide (0 < m) = true := decide_eq_true h0m
              obtain ⟨b, hb45⟩ : ∃ b, s[m - 1] = b := ⟨_, rfl⟩
              rw [hb45] at h45
              rw [flatR_set] at s1
              clear hgA
              rcases hfact with ⟨h, h0⟩ | ⟨h, c, hc, h0⟩ | ⟨h, c, hc, h0, h1⟩ | ⟨h, c, hc, h0, h1, h2⟩
              all_goals
                go_wp2_with fail
                obtain ⟨k1, k2, k3⟩ := grown_keep' hb hz hlt (own_base hown4 g rfl) s2
                exact ⟨⟨k + 1, q ++ [(x, n)], by omega, by go_num, hnx.out.symm, by simp; omega, by simpa using s1, k1, k2, k3⟩, by simp [intOf]; omega⟩
            · rw [hnl] at hnx
              clear hnl hcl hrd
              have hc5 : w.heap.size + 1 ≤ (wr.alloc (.cells #[.int .i64 (n : Int), .int .i64 (n : Int)] 53)).heap.size := by simp; omega
              obtain ⟨A, c4, rfl⟩ := own_slice hown
              have hwhy2 : (decide (0 < m) = false) ∨ ((0 < m ∧ decide (0 < m) = true) ∧ ∃ (hx : m - 1 < s.size) (b : UInt8), s[m - 1] = b ∧ ((b.toNat : Int) == 45) = false) ∨ ((0 < m ∧ decide (0 < m) = true) ∧ (∃ (hx : m - 1 < s.size) (b : UInt8), s[m - 1] = b ∧ ((b.toNat : Int) == 45) = true) ∧ decide (0 < rs.length) = false) := by
                rcases hwhy with h | ⟨h0, hx, h⟩ | ⟨h0, hx, h, hr⟩
                · exact Or.inl (decide_eq_false (by omega))
                · exact Or.inr (Or.inl ⟨⟨h0, decide_eq_true h0⟩, hx, _, rfl, h⟩)
                · exact Or.inr (Or.inr ⟨⟨h0, decide_eq_true h0⟩, ⟨hx, _, rfl, h⟩, by rw [hr]; rfl⟩)
              clear hwhy
              rcases hfact with ⟨h, h0⟩ | ⟨h, c, hc, h0⟩ | ⟨h, c, hc, h0, h1⟩ | ⟨h, c, hc, h0, h1, h2⟩
              all_goals
                rcases hwhy2 with g0 | ⟨⟨g4, g0⟩, g1, b, hb45, g2⟩ | ⟨⟨g4, g0⟩, ⟨g1, b, hb45, g2⟩, g3⟩
                all_goals
                  go_wp2_with (at_builtin; refine wpList_append_own _ rfl _ _ 50 rfl (w.heap.size + 1) 53 i0 (.agg #[.int .i64 0, .int .i64 0]) 2 16 Tryd.underlying50 hi0 hz0 hzz1 hz2 rfl (by decide) _ _ _ rfl (hown.alloc _) ⟨wr.heap.size, 0, none⟩ 1 1 [.int .i64 (n : Int), .int .i64 (n : Int)] rfl rfl (news2 _ _ _ _) (two_int _ _ _) (by unfold maxLen; omega) (by omega) hc5 ?_; intro v' w5 hown5 hgrow _)
                  obtain ⟨k1, k2, k3⟩ := grown_keep hb hz hlt hown hgrow
                  exact ⟨⟨k + 1, rs ++ [(n, n)], by omega, by go_num, hnx.out.symm, by simp; omega, by rw [flatR_append, List.length_append]; exact hown5, k1, k2, k3⟩, by simp [intOf]; omega⟩
    · have hgo : decide ((m : Int) < (s.size : Int)) = false := decide_eq_false (by omega)
      have hRv : refReadN L = some rs := by
        rw [hR.out, ← hrd, show L.drop m = [] from List.drop_eq_nil_of_le (by omega), rdC_nil]
      obtain ⟨A, c, rfl⟩ := own_slice hown
      have hiff := read_iff (rd := refRead) refRead_print L
      have hrv : refRead L = some (intR rs) := by unfold refRead; rw [hRv]; rfl
      rw [hrv] at hiff
      have hM := fun W (hW : Below wr.heap.size wr W) => refMake_calls (intR rs) A c (by rw [rngs_I]; omega) W ((rd_of_rng (base := w.heap.size + 1) (c := c) hown).below hW)
      rw [rngs_I] at hM
      generalize intR rs = l at *
      clear hrv hRv hrd hown hR0 hget
      go_wp2_with fail
      refine (hM _ (Below.refl _ _)).mono ?_
      rintro e w2 ⟨hP, hb2⟩
      have hz2' : w2.heap[w.heap.size]? = some (.cells Tryd.zeroCells24 24 (0, 0)) := (hb2.block _ hlt).trans hz
      have hlt2 : w.heap.size < w2.heap.size := Nat.lt_of_lt_of_le hlt hb2.size
      have hbw2 := hb.trans (hb2.mono hb.size)
      clear hM hb2 hz hlt hb
      cases hok : okR l with
      | false =>
        rw [hok, if_neg (by decide)] at hP
        subst hP
        have hno : ∀ H, printH H ≠ L := fun H e => by
          obtain ⟨l', e1, e2, _⟩ := hiff.1 ⟨H, e⟩
          simp at e1
          subst e1
          rw [hok] at e2; cases e2
        replace hno := Lib.hid hno
        clear hiff
        have hz3 : ((w2.alloc (.cells Tryd.zeroCells24 24)).setRow w2.heap.size Tryd.zeroCells24).heap[w.heap.size]? = some (.cells Tryd.zeroCells24 24 (0, 0)) := (setRow_other _ _ _ _ (by omega)).trans (((below_new' w2 _).block _ hlt2).trans hz2')
        have hbw3 : Below w.heap.size w ((w2.alloc (.cells Tryd.zeroCells24 24)).setRow w2.heap.size Tryd.zeroCells24) := below_setRow (hbw2.trans ((below_new' w2 _).mono hbw2.size)) hbw2.size _
        go_wp2_with (first | (refine wpList_store_row rfl 24 _ _ rfl (w2.heap.size) Tryd.zeroCells24 rfl rfl 24 Tryd.zeroCells24 (heapN w2 _) hiZ rfl hzo ?_) | (refine wpList_store_row rfl 24 _ _ rfl (w.heap.size) Tryd.zeroCells24 rfl rfl 24 Tryd.zeroCells24 hz3 hiZ rfl hzo ?_))
        refine bodyPost_ret (v := .tuple #[.agg Tryd.zeroCells24, .int .i64 20]) (results_cell_row2 Tryd.results25 _ _ w.heap.size 24 Tryd.zeroCells24 (0, 0) _ _ rfl rfl (setRow_heap _ _ _ _ _ _ hz3) Tryd.underlying24 rfl hiZ) rfl ⟨Or.inr ⟨hno.out, rfl⟩, below_setRow hbw3 (Nat.le_refl _) _⟩
      | true =>
        rw [hok, if_pos rfl] at hP
        obtain ⟨a, f, rfl, ha, hfl2⟩ := hP
        have hpr := printH_congr hfl2
        have hia : (Tryd.prog.info? 24).map (·.size) = some a.size := by rw [ha.size]; exact info30
        have hza : Tryd.zeroCells24.size = a.size := by rw [ha.size]; exact zero_size
        have ho := ha.one
        have hz3 : ((w2.alloc (.cells Tryd.zeroCells24 24)).setRow w2.heap.size a).heap[w.heap.size]? = some (.cells Tryd.zeroCells24 24 (0, 0)) := (setRow_other _ _ _ _ (by omega)).trans (((below_new' w2 _).block _ hlt2).trans hz2')
        have hbn : Below w2.heap.size w2 ((w2.alloc (.cells Tryd.zeroCells24 24)).setRow w2.heap.size a) := below_setRow (below_new' w2 _) (Nat.le_refl _) _
        have hbw3 : Below w.heap.size w ((w2.alloc (.cells Tryd.zeroCells24 24)).setRow w2.heap.size a) := hbw2.trans (hbn.mono hbw2.size)
        have ha3 : ((w2.alloc (.cells Tryd.zeroCells24 24)).setRow w2.heap.size a).heap[w2.heap.size]? = some (.cells a 24 (0, 0)) := setRow_heap _ _ _ _ _ _ (heapN w2 _)
        have hl3 : w2.heap.size < ((w2.alloc (.cells Tryd.zeroCells24 24)).setRow w2.heap.size a).heap.size := by simp [World.setRow]
        clear hfl2 hbn hbw2 hz2'
        have hPr := fun W => refPrint_calls a f ha W
        have hsame : (printH (hasN f) = L) ∨ ((∀ H, printH H ≠ L) ∧ printH (hasN f) ≠ L) := by
          by_cases h : printH (hasN f) = L
          · exact Or.inl h
          · refine Or.inr ⟨fun H e => ?_, h⟩
            obtain ⟨l', e1, e2, e3⟩ := hiff.1 ⟨H, e⟩
            simp at e1
            subst e1
            rw [hpr] at h
            exact h e3
        clear hiff hpr
        have hpe : (⟨(printH (hasN f)).toArray⟩ : ByteArray).data.toList = printH (hasN f) := rfl
        have hcmp := str_eq_list ⟨(printH (hasN f)).toArray⟩ s
        rw [hpe, hL.out] at hcmp
        clear hpe
        generalize hTT : (⟨(printH (hasN f)).toArray⟩ : ByteArray) = tt at *
        replace hTT := Lib.hid hTT
        go_wp2_with (first | (refine wpList_store_row rfl 24 _ _ rfl (w2.heap.size) a rfl rfl 24 Tryd.zeroCells24 (heapN w2 _) hia hza ho ?_) | (refine wpList_load_row_g (by first | rfl | simp [Region.wanted, yielded]) 24 _ rfl w2.heap.size rfl 24 a (0, 0) _ ha3 Tryd.underlying24 rfl hia ?_))
        refine (hPr _).mono ?_
        rintro e w5 ⟨rfl, hb5⟩
        have hz5 := (hb5.block _ (show w.heap.size < _ by omega)).trans hz3
        have ha5 := (hb5.block _ hl3).trans ha3
        have hbw5 := hbw3.trans (hb5.mono hbw3.size)
        generalize hW3 : (w2.alloc (.cells Tryd.zeroCells24 24)).setRow w2.heap.size a = w3 at *
        clear hW3 hPr hb5 hz3 ha3 hbw3
        rcases hsame with hS | ⟨hno, hS⟩
        · rw [decide_eq_true hS] at hcmp
          have hcmp2 : (tt.toList != s.toList) = false := by rw [bne, hcmp]; rfl
          replace hS := Lib.hid hS
          go_wp2_with (first | (refine wpList_load_row rfl 24 _ rfl w2.heap.size rfl 24 a (0, 0) _ ha5 Tryd.underlying24 rfl hia ?_) | (refine wpList_store_row rfl 24 _ _ rfl (w.heap.size) a rfl rfl 24 Tryd.zeroCells24 hz5 hia hza ho ?_))
          refine bodyPost_ret (v := .tuple #[.agg a, .int .i64 0]) (results_cell_row2 Tryd.results25 _ _ w.heap.size 24 a (0, 0) _ _ rfl rfl (setRow_heap _ _ _ _ _ _ hz5) Tryd.underlying24 rfl hia) rfl ⟨Or.inl ⟨a, f, rfl, ha, hS.out⟩, below_setRow hbw5 (Nat.le_refl _) _⟩
        · rw [decide_eq_false hS] at hcmp
          have hcmp2 : (tt.toList != s.toList) = true := by rw [bne, hcmp]; rfl
          replace hno := Lib.hid hno
          clear hS
          go_wp2_with (refine wpList_store_row rfl 24 _ _ rfl (w.heap.size) Tryd.zeroCells24 rfl rfl 24 Tryd.zeroCells24 hz5 hiZ rfl hzo ?_)
          refine bodyPost_ret (v := .tuple #[.agg Tryd.zeroCells24, .int .i64 20]) (results_cell_row2 Tryd.results25 _ _ w.heap.size 24 Tryd.zeroCells24 (0, 0) _ _ rfl rfl (setRow_heap _ _ _ _ _ _ hz5) Tryd.underlying24 rfl hiZ) rfl ⟨Or.inr ⟨hno.out, rfl⟩, below_setRow hbw5 (Nat.le_refl _) _⟩
end Go.Proofs.YtbpjfjdndaoekaaDoor

namespace Go.Proofs.YtbpjfjdndaoekaaDoor
open Go.RowKit Go.Proofs.YtbpjfjdndaoekaaDoorW.PrintWords
def halvesN : List Nat := [0, 4129, 8258, 12387, 16516, 20645, 24774, 28903, 33032, 37161, 41290, 45419, 49548, 53677, 57806, 61935]
def nib (c : Nat) : Nat := (c * 16 % 65536) ^^^ halvesN.getD (c / 4096) 0
def bit1 (c : Nat) : Nat := if 32768 ≤ c then (c * 2 % 65536) ^^^ 4129 else c * 2
def stepV (c : Nat) (x : UInt8) : Nat := nib (nib (c ^^^ (x.toNat * 256)))
def sumV (c : Nat) (l : List UInt8) : Nat := l.foldl stepV c
theorem nib_all : ((List.range 256).all fun a => (List.range 256).all fun b => decide (nib (a * 256 + b) = bit1 (bit1 (bit1 (bit1 (a * 256 + b))))) && decide (nib (a * 256 + b) < 65536)) = true := by decide +kernel
theorem nib_eq {c : Nat} (h : c < 65536) : nib c = bit1 (bit1 (bit1 (bit1 c))) ∧ nib c < 65536 := by
  have := nib_all
  rw [List.all_eq_true] at this
  have := this (c / 256) (List.mem_range.2 (by omega))
  rw [List.all_eq_true] at this
  have := this (c % 256) (List.mem_range.2 (by omega))
  rw [show c / 256 * 256 + c % 256 = c by omega] at this
  simp only [Bool.and_eq_true, decide_eq_true_eq] at this
  exact this
theorem xor16 {a b : Nat} (h1 : a < 65536) (h2 : b < 65536) : a ^^^ b < 65536 := Nat.xor_lt_two_pow (n := 16) h1 h2
theorem step_lt {c : Nat} (h : c < 65536) (x : UInt8) : stepV c x < 65536 := by
  have hx := x.toNat_lt
  exact (nib_eq (nib_eq (xor16 h (by omega))).2).2
theorem sum_lt (l : List UInt8) : ∀ {c : Nat}, c < 65536 → sumV c l < 65536 := by
  induction l with
  | nil => intro c h; exact h
  | cons x l ih => intro c h; exact ih (step_lt h x)
theorem sum_snoc (c : Nat) (l : List UInt8) (x : UInt8) : sumV c (l ++ [x]) = stepV (sumV c l) x := by simp [sumV, List.foldl_append]
theorem wrap16 (n : Int) : IntKind.u16.wrap n = n % 65536 := by simp [IntKind.wrap, IntKind.bits, IntKind.signed]
theorem bits_xor16 (a b : Nat) (h1 : a < 65536) (h2 : b < 65536) : bits .xor .u16 (a : Int) (b : Int) = ((a ^^^ b : Nat) : Int) := by
  show IntKind.u16.wrap ((((BitVec.ofInt 16 (a : Int)) ^^^ (BitVec.ofInt 16 (b : Int))).toNat : Nat) : Int) = _
  rw [BitVec.ofInt_natCast, BitVec.ofInt_natCast, BitVec.toNat_xor, BitVec.toNat_ofNat, BitVec.toNat_ofNat, Nat.mod_eq_of_lt (by simpa using h1), Nat.mod_eq_of_lt (by simpa using h2), wrap16]
  have := xor16 h1 h2
  omega
set_option maxHeartbeats 1000000 in
theorem More_calls (c : Nat) (hc : c < 65536) (g cap : Nat) (l : List UInt8) (w : World) (hl : l.length ≤ 9223372036854775807) (hcells : ∀ j, j < l.length → w.cell? ⟨g, j, none⟩ = some (.int .u8 ((l.getD j 0).toNat : Int))) (hE : Env w) :
    Calls Tryd.prog 44 #[.int .u16 (c : Int), .slice (some ⟨g, 0, none⟩) l.length cap] w fun e w' => e = .returned (.int .u16 ((sumV c l : Nat) : Int)) ∧ w = w' := by
  have htab : ∀ i, i < 16 → w.cell? ⟨1, i, none⟩ = some (.int .u16 ((halvesN.getD i 0 : Nat) : Int)) := fun i hi => by
    rw [hE.hlv.cell gHlv i hi]
    have : ∀ i, i < 16 → halvesTab.getD i 0 = ((halvesN.getD i 0 : Nat) : Int) := by decide
    rw [this i hi]
  replace htab := Lib.hid htab
  replace hcells := Lib.hid hcells
  go_enter Tryd.func44, Tryd.ntmps44
  go_wp2_with fail
  go_loop [0, 9] (fun s i => ∃ k : Nat, k ≤ l.length ∧ i = .int .i64 k ∧ s = .int .u16 ((sumV c (l.take k) : Nat) : Int)) (fun _ i => l.length - (intOf i).toNat)
  case atStart => exact ⟨0, by omega, rfl, rfl⟩
  case round =>
    obtain ⟨k, hk, rfl, rfl⟩ := hrel
    have hs := sum_lt (l.take k) hc
    by_cases hkl : k < l.length
    · have hcell := hcells.out k hkl
      have hx := (l.getD k 0).toNat_lt
      have hnext : sumV c (l.take (k + 1)) = nib (nib (sumV c (l.take k) ^^^ ((l.getD k 0).toNat * 256))) := by
        rw [List.take_succ_eq_append_getElem hkl, sum_snoc]
        simp [stepV, List.getD, hkl]
      generalize sumV c (l.take k) = S at *
      generalize (l.getD k 0).toNat = X at *
      have hX : X < 256 := by omega
      have e1 : IntKind.u16.wrap (X : Int) = (X : Int) := by rw [wrap16]; omega
      have e2 : IntKind.u16.wrap ((X : Int) * 256) = ((X * 256 : Nat) : Int) := by rw [wrap16]; omega
      have hY : X * 256 < 65536 := by omega
      generalize X * 256 = Y at *
      have e3 := bits_xor16 S Y hs hY
      have hC := xor16 hs hY
      generalize S ^^^ Y = C at *
      have e4 : IntKind.u16.wrap ((C : Int) * 16) = ((C * 16 % 65536 : Nat) : Int) := by rw [wrap16]; omega
      have c1 := htab.out (C / 4096) (by omega)
      have hH : ∀ i, i < 16 → halvesN.getD i 0 < 65536 := by decide
      have hH1 := hH (C / 4096) (by omega)
      have e6 := bits_xor16 (C * 16 % 65536) (halvesN.getD (C / 4096) 0) (by omega) hH1
      have hN1 : (C * 16 % 65536) ^^^ halvesN.getD (C / 4096) 0 = nib C := rfl
      rw [hN1] at e6
      have hn1 := (nib_eq hC).2
      have b1 : (0 : Int) ≤ (C : Int) / 4096 := by omega
      have b2 : (C : Int) / 4096 < 16 := by omega
      clear hN1
      generalize nib C = D at *
      generalize C * 16 % 65536 = C16 at *
      generalize halvesN.getD (C / 4096) 0 = H1 at *
      have e7 : IntKind.u16.wrap ((D : Int) * 16) = ((D * 16 % 65536 : Nat) : Int) := by rw [wrap16]; omega
      have c2 := htab.out (D / 4096) (by omega)
      have e9 := bits_xor16 (D * 16 % 65536) (halvesN.getD (D / 4096) 0) (by omega) (hH (D / 4096) (by omega))
      have hN2 : (D * 16 % 65536) ^^^ halvesN.getD (D / 4096) 0 = nib D := rfl
      rw [hN2] at e9
      have b3 : (0 : Int) ≤ (D : Int) / 4096 := by omega
      have b4 : (D : Int) / 4096 < 16 := by omega
      clear hN2 hH
      generalize nib D = E at *
      generalize D * 16 % 65536 = D16 at *
      generalize halvesN.getD (D / 4096) 0 = H2 at *
      replace hnext := Lib.hid hnext
      go_wp2_with fail
      case roundEnd => exact ⟨⟨k + 1, by omega, by go_num, by rw [hnext.out]⟩, by simp [intOf]; omega⟩
    · obtain rfl : k = l.length := by omega
      go_wp2_with fail
      go_ret
      exact ⟨rfl, rfl⟩
/-! ### bit by bit -/
theorem bit1_lt {c : Nat} (h : c < 65536) : bit1 c < 65536 := by
  unfold bit1
  split
  · exact xor16 (by omega) (by decide)
  · omega
theorem l1_step (k c : Nat) (hc : c < 65536) (xs : List Int) (i : Int) (j : Nat) (hj : j < 8) :
    RSm.marshalyardref01_More.l1 (k + 1) (c : Int) xs i (j : Int) = RSm.marshalyardref01_More.l1 k ((bit1 c : Nat) : Int) xs i ((j + 1 : Nat) : Int) := by
  rw [RSm.marshalyardref01_More.l1, if_pos (by omega), w64 (x := (j : Int) + 1) (by omega) (by omega)]
  have hw : IntKind.u16.wrap ((c : Int) * 2) = ((c * 2 % 65536 : Nat) : Int) := by rw [wrap16]; omega
  rw [hw]
  unfold bit1
  by_cases h : 32768 ≤ c
  · have := bits_xor16 (c * 2 % 65536) 4129 (by omega) (by decide)
    rw [if_pos (by omega), if_pos h]
    rw [show ((4129 : Nat) : Int) = 4129 from rfl] at this
    rw [this]
    rfl
  · rw [if_neg (by omega), if_neg h, show c * 2 % 65536 = c * 2 by omega]
    rfl
theorem l1_all (k c : Nat) (hc : c < 65536) (xs : List Int) (i : Int) :
    RSm.marshalyardref01_More.l1 (k + 9) (c : Int) xs i 0 = RSm.marshalyardref01_More.l0 k ((nib (nib c) : Nat) : Int) xs (Go.RowKit.wrap64 (i + 1)) := by
  have b1 := bit1_lt hc
  have b2 := bit1_lt b1
  have b3 := bit1_lt b2
  have b4 := bit1_lt b3
  have b5 := bit1_lt b4
  have b6 := bit1_lt b5
  have b7 := bit1_lt b6
  have e0 := l1_step (k + 8) c hc xs i 0 (by omega)
  rw [show ((0 : Nat) : Int) = 0 from rfl] at e0
  rw [e0, l1_step (k + 7) _ b1 xs i 1 (by omega), l1_step (k + 6) _ b2 xs i 2 (by omega), l1_step (k + 5) _ b3 xs i 3 (by omega), l1_step (k + 4) _ b4 xs i 4 (by omega),
    l1_step (k + 3) _ b5 xs i 5 (by omega), l1_step (k + 2) _ b6 xs i 6 (by omega), l1_step (k + 1) _ b7 xs i 7 (by omega)]
  rw [RSm.marshalyardref01_More.l1, if_neg (by decide)]
  have n1 := nib_eq hc
  have n2 := nib_eq n1.2
  rw [n2.1, n1.1]
theorem l0_all (l : List UInt8) : ∀ (d i k c : Nat), d = l.length - i → i ≤ l.length → l.length ≤ 9223372036854775806 → c < 65536 → 10 * d + 1 ≤ k →
    RSm.marshalyardref01_More.l0 k (c : Int) (l.map fun b => (b.toNat : Int)) (i : Int) = some ((sumV c (l.drop i) : Nat) : Int) := by
  intro d
  induction d with
  | zero =>
    intro i k c hd hi hl hc hk
    obtain ⟨k, rfl⟩ : ∃ q, k = q + 1 := ⟨k - 1, by omega⟩
    rw [RSm.marshalyardref01_More.l0, if_neg (by rw [List.length_map]; omega), List.drop_eq_nil_of_le (by omega)]
    rfl
  | succ d ih =>
    intro i k c hd hi hl hc hk
    obtain ⟨k, rfl⟩ : ∃ q, k = q + 9 + 1 := ⟨k - 10, by omega⟩
    have hil : i < l.length := by omega
    have hx := (l[i]).toNat_lt
    have hrd : rd (l.map fun b => (b.toNat : Int)) (i : Int) = ((l[i]).toNat : Int) := by
      unfold rd
      simp [List.getD, hil]
    have hw1 : IntKind.u16.wrap (((l[i]).toNat : Int)) = ((l[i]).toNat : Int) := by rw [wrap16]; omega
    have hw2 : IntKind.u16.wrap (((l[i]).toNat : Int) * 256) = (((l[i]).toNat * 256 : Nat) : Int) := by rw [wrap16]; omega
    rw [RSm.marshalyardref01_More.l0, if_pos (by rw [List.length_map]; omega), if_pos (by omega), hrd, hw1, hw2, bits_xor16 _ _ hc (by omega), l1_all k _ (xor16 hc (by omega)), w64 (by omega) (by omega)]
    have := ih (i + 1) k (stepV c l[i]) (by omega) (by omega) hl (step_lt hc _) (by omega)
    rw [List.drop_eq_getElem_cons hil]
    exact this
theorem f_all (l : List UInt8) (hl : l.length ≤ 9223372036854775806) : RSm.marshalyardref01_More.f (10 * l.length + 1) 0 (l.map fun b => (b.toNat : Int)) = some ((sumV 0 l : Nat) : Int) := by
  have h := l0_all l l.length 0 (10 * l.length + 1) 0 (by omega) (by omega) hl (by decide) (by omega)
  rw [List.drop_zero] at h
  exact h
theorem refMore_calls (A : Option Addr) (cap : Nat) (l : List UInt8) (w : World) (hl : l.length ≤ 9223372036854775806) (hcap : l.length ≤ cap) (hr : ReadsInt w .u8 A l.length (l.map fun b => (b.toNat : Int))) :
    Calls Tryd.prog 33 #[.int .u16 0, .slice A l.length cap] w fun e w' => e = .returned (.int .u16 ((sumV 0 l : Nat) : Int)) ∧ Below w.heap.size w w' := by
  have h := RSm.marshalyardref01_More.calls (10 * l.length + 1) 0 A cap (l.map fun b => (b.toNat : Int)) ((sumV 0 l : Nat) : Int) w
    (by rw [List.length_map]; exact Kd.C_of_reads (d := (0 : Int)) (h1 := fun _ => rfl) hr) (by rw [List.length_map]; exact hcap) (f_all l hl)
  rw [List.length_map] at h
  exact h.mono fun e w' hh => ⟨hh.1, hh.2.below⟩
/-- bytes of a string, as a slice of the call's own -/
theorem bytes_at (W : World) (T : List UInt8) (hT : T.length ≤ 9223372036854775807) : ReadsInt (Lib.bytesWorld W 5 ⟨T.toArray⟩) .u8 (some ⟨W.heap.size, 0, none⟩) T.length (T.map fun b => (b.toNat : Int)) := by
  have := bytes_reads W 5 ⟨T.toArray⟩ (by rw [size_mk]; exact hT)
  rw [size_mk] at this
  exact this
theorem bytes_cell (W : World) (T : List UInt8) (j : Nat) (hj : j < T.length) : (Lib.bytesWorld W 5 ⟨T.toArray⟩).cell? ⟨W.heap.size, j, none⟩ = some (.int .u8 ((T.getD j 0).toNat : Int)) := by
  rw [Lib.bytesWorld_cell W 5 ⟨T.toArray⟩ j (by rw [size_mk]; exact hj)]
theorem conv_bytes (T : List UInt8) (W : World) : (convert 9 36 (.string ⟨T.toArray⟩)).run Tryd.prog W = .ok (.slice (some ⟨W.heap.size, 0, none⟩) T.length (grownCap W T.length 0 5)) (Lib.bytesWorld W 5 ⟨T.toArray⟩) := by
  have := print_bytes (P := Tryd.prog) 9 36 5 Tryd.underlying9 Tryd.underlying36 Tryd.underlying5 ⟨T.toArray⟩ W
  rw [size_mk] at this
  exact this
theorem Sum_calls (g cap : Nat) (l : List UInt8) (w : World) (hl : l.length ≤ 9223372036854775807) (hcells : ∀ j, j < l.length → w.cell? ⟨g, j, none⟩ = some (.int .u8 ((l.getD j 0).toNat : Int))) (hE : Env w) :
    Calls Tryd.prog 30 #[.slice (some ⟨g, 0, none⟩) l.length cap] w fun e w' => e = .returned (.int .u16 ((sumV 0 l : Nat) : Int)) ∧ w = w' := by
  have hM := More_calls 0 (by decide) g cap l w hl hcells hE
  replace hcells := Lib.hid hcells
  go_enter Tryd.func30, Tryd.ntmps30
  go_wp2_with fail
  refine hM.mono ?_
  rintro e w2 ⟨rfl, rfl⟩
  go_wp2_with fail
  go_ret
  exact ⟨rfl, rfl⟩
theorem refSum_calls (A : Option Addr) (cap : Nat) (l : List UInt8) (w : World) (hl : l.length ≤ 9223372036854775806) (hcap : l.length ≤ cap) (hr : ReadsInt w .u8 A l.length (l.map fun b => (b.toNat : Int))) :
    Calls Tryd.prog 21 #[.slice A l.length cap] w fun e w' => e = .returned (.int .u16 ((sumV 0 l : Nat) : Int)) ∧ Below w.heap.size w w' := by
  have hM := refMore_calls A cap l w hl hcap hr
  replace hr := Lib.hid hr
  go_enter Tryd.func21, Tryd.ntmps21
  go_wp2_with fail
  refine hM.mono ?_
  rintro e w2 ⟨rfl, hb⟩
  go_wp2_with fail
  go_ret
  exact ⟨rfl, hb⟩
theorem ret_int {k : IntKind} {a b : Int} (h : a = b) : Ending.returned (.int k a) = .returned (.int k b) := by rw [h]
end Go.Proofs.YtbpjfjdndaoekaaDoor

namespace Go.Proofs.YtbpjfjdndaoekaaDoor
open Go.RowKit Go.Proofs.YtbpjfjdndaoekaaDoorW.PrintWords
/-- the number of bytes, the highest first -/
def numV (l : List UInt8) : Nat := l.foldl (fun n b => n * 256 + b.toNat) 0
theorem numV_snoc (l : List UInt8) (b : UInt8) : numV (l ++ [b]) = numV l * 256 + b.toNat := by simp [numV]
theorem numV_lt : ∀ (n : Nat) (l : List UInt8), l.length = n → numV l < 256 ^ n
  | 0, l, h => by rw [List.length_eq_zero_iff.1 h]; decide
  | n + 1, l, h => by
    have hne : l ≠ [] := fun e => by rw [e] at h; cases h
    obtain ⟨q, b, rfl⟩ : ∃ q b, l = q ++ [b] := ⟨l.dropLast, l.getLast hne, (List.dropLast_concat_getLast hne).symm⟩
    have hq : q.length = n := by simpa using h
    have := numV_lt n q hq
    have hb := b.toNat_lt
    rw [numV_snoc, Nat.pow_succ]
    omega
theorem numV_lt8 {l : List UInt8} (h : l.length ≤ 8) : numV l < 18446744073709551616 :=
  Nat.lt_of_lt_of_le (numV_lt _ l rfl) (Nat.le_trans (Nat.pow_le_pow_right (by decide) h) (by decide))
theorem numV_take (l : List UInt8) (k : Nat) (b : UInt8) (h : l[k]? = some b) : numV (l.take (k + 1)) = numV (l.take k) * 256 + b.toNat := by
  rw [List.take_add_one, h]; exact numV_snoc _ _
theorem or_num {N : Nat} {c : UInt8} (h : N * 256 + c.toNat < 18446744073709551616) : bits BinOp.or IntKind.u64 ((N : Int) * 256) (c.toNat : Int) = ((N * 256 + c.toNat : Nat) : Int) := by
  have hc := c.toNat_lt
  have hx : N * 256 < 18446744073709551616 := Nat.lt_of_le_of_lt (Nat.le_add_right _ _) h
  have hy : c.toNat < 18446744073709551616 := Nat.lt_of_le_of_lt (Nat.le_add_left _ _) h
  have e := or64 (N * 256) c.toNat hx hy
  have h8 := Nat.two_pow_add_eq_or_of_lt (i := 8) (b := c.toNat) hc N
  have h9 : N * 256 = 2 ^ 8 * N := Nat.mul_comm _ _
  rw [Int.natCast_mul] at e
  rw [← h9] at h8
  rw [h8]
  exact e
theorem add_num {N : Nat} {c : UInt8} (h : N * 256 + c.toNat < 18446744073709551616) : IntKind.u64.wrap (IntKind.u64.wrap ((N : Int) * 256) + IntKind.u64.wrap (c.toNat : Int)) = ((N * 256 + c.toNat : Nat) : Int) := by
  have hc := c.toNat_lt
  rw [IntKind.wrap_u64, IntKind.wrap_u64, IntKind.wrap_u64]
  omega
theorem node_calls (n : Int) (w : World) : Calls Tryd.prog 22 #[.int .i64 n] w fun e w' => e = .returned (.bool (decide (0 ≤ n) && decide (n < 64))) ∧ Below w.heap.size w w' := by
  by_cases h : 0 ≤ n
  · rw [decide_eq_true h, Bool.true_and]
    go_enter Tryd.func22, Tryd.ntmps22
    go_wp2
    go_ret
    exact ⟨rfl, Below.refl _ _⟩
  · rw [decide_eq_false h, Bool.false_and]
    go_enter Tryd.func22, Tryd.ntmps22
    go_wp2
    go_ret
    exact ⟨rfl, Below.refl _ _⟩
set_option maxHeartbeats 1000000 in
theorem take_calls (s : ByteArray) (hs : s.size ≤ 8) (w : World) : Calls Tryd.prog 24 #[.string s] w fun e w' => e = .returned (.int .u64 (numV s.data.toList : Nat)) ∧ Below w.heap.size w w' := by
  have hlen : s.data.toList.length = s.size := by simp
  have hget : ∀ k (h : k < s.size), s.data.toList[k]? = some s[k] := fun k h => by
    rw [List.getElem?_eq_getElem (by simpa using h)]; simp; rfl
  go_enter Tryd.func24, Tryd.ntmps24
  go_wp2_with fail
  go_loopw [3, 4, 7] (fun n _ i wr => ∃ k : Nat, k ≤ s.size ∧ i = .int .i64 k ∧ n = .int .u64 (numV (s.data.toList.take k) : Nat) ∧ Below w.heap.size w wr) (fun _ _ i _ => s.size - (intOf i).toNat)
  case atStart => exact ⟨0, by omega, rfl, by simp [numV], Below.refl _ _⟩
  case round =>
    obtain ⟨k, hk, rfl, rfl, hb⟩ := hrel
    by_cases hk2 : k < s.size
    · have hgo : decide ((k : Int) < (s.size : Int)) = true := decide_eq_true (by omega)
      have hstep := numV_take _ _ _ (hget k hk2)
      have hlt := numV_lt8 (l := s.data.toList.take (k + 1)) (by simp; omega)
      rw [hstep] at hlt
      generalize numV (s.data.toList.take k) = N at *
      have hor := or_num hlt
      clear hget
      go_wp2_with fail
      exact ⟨⟨k + 1, by omega, by go_num, by rw [hstep]; simp, hb⟩, by simp [intOf]; omega⟩
    · obtain rfl : k = s.size := by omega
      have hgo : decide ((s.size : Int) < (s.size : Int)) = false := decide_eq_false (by omega)
      rw [List.take_of_length_le (by omega)]
      clear hget
      go_wp2_with fail
      go_ret
      exact ⟨rfl, hb⟩
set_option maxHeartbeats 1000000 in
theorem refNumber_calls (s : ByteArray) (hs : s.size ≤ 8) (w : World) : Calls Tryd.prog 26 #[.string s] w fun e w' => e = .returned (.int .u64 (numV s.data.toList : Nat)) ∧ Below w.heap.size w w' := by
  have hlen : s.data.toList.length = s.size := by simp
  have hget : ∀ k (h : k < s.size), s.data.toList[k]? = some s[k] := fun k h => by
    rw [List.getElem?_eq_getElem (by simpa using h)]; simp; rfl
  go_enter Tryd.func26, Tryd.ntmps26
  go_wp2_with fail
  go_loopw [3, 4] (fun n i wr => ∃ k : Nat, k ≤ s.size ∧ i = .int .i64 k ∧ n = .int .u64 (numV (s.data.toList.take k) : Nat) ∧ Below w.heap.size w wr) (fun _ i _ => s.size - (intOf i).toNat)
  case atStart => exact ⟨0, by omega, rfl, by simp [numV], Below.refl _ _⟩
  case round =>
    obtain ⟨k, hk, rfl, rfl, hb⟩ := hrel
    by_cases hk2 : k < s.size
    · have hgo : decide ((k : Int) < (s.size : Int)) = true := decide_eq_true (by omega)
      have hstep := numV_take _ _ _ (hget k hk2)
      have hlt := numV_lt8 (l := s.data.toList.take (k + 1)) (by simp; omega)
      rw [hstep] at hlt
      generalize numV (s.data.toList.take k) = N at *
      clear hget
      go_wp2_with fail
      exact ⟨⟨k + 1, by omega, by go_num, by rw [hstep]; simp, hb⟩, by simp [intOf]; omega⟩
    · obtain rfl : k = s.size := by omega
      have hgo : decide ((s.size : Int) < (s.size : Int)) = false := decide_eq_false (by omega)
      rw [List.take_of_length_le (by omega)]
      clear hget
      go_wp2_with fail
      go_ret
      exact ⟨rfl, hb⟩
end Go.Proofs.YtbpjfjdndaoekaaDoor

namespace Go.Proofs.YtbpjfjdndaoekaaDoor
open Go.RowKit Go.Proofs.YtbpjfjdndaoekaaDoorW.PrintWords
/-- a packet's fields, the set of slots behind them -/
structure Pk (c : Array Value) (k fr o : Int) (e cu : Nat) (a : Array Value) (f : Nat → Nat) : Prop where
  cells : c = #[.int .i64 k, .int .i64 fr, .int .i64 o, .int .u64 e, .int .u64 cu] ++ a
  words : Words a f
  he : e < 18446744073709551616
  hcu : cu < 18446744073709551616
def rightV (k fr o : Int) (e cu : Nat) : Bool := decide (1 ≤ k) && decide (k ≤ 4) && (if k = 3 then decide (0 ≤ o) && decide (o < 64) else decide (o = 0)) && decide (0 ≤ fr) && decide (fr < 64) && decide (e ≤ cu)
theorem Pk.cell {c : Array Value} {k fr o : Int} {e cu : Nat} {a : Array Value} {f : Nat → Nat} (h : Pk c k fr o e cu a f) (w : World) :
    (w.alloc (.cells c 26)).cell? ⟨w.heap.size, 0, none⟩ = some (.int .i64 k) ∧ (w.alloc (.cells c 26)).cell? ⟨w.heap.size, 1, none⟩ = some (.int .i64 fr) ∧ (w.alloc (.cells c 26)).cell? ⟨w.heap.size, 2, none⟩ = some (.int .i64 o) ∧
    (w.alloc (.cells c 26)).cell? ⟨w.heap.size, 3, none⟩ = some (.int .u64 e) ∧ (w.alloc (.cells c 26)).cell? ⟨w.heap.size, 4, none⟩ = some (.int .u64 cu) := by
  have hc := h.cells
  have hg := heapN w (.cells c 26)
  refine ⟨?_, ?_, ?_, ?_, ?_⟩ <;> (rw [cell_of_row _ _ _ c 26 (0, 0) hg, hc]; simp [Array.getElem?_append])
set_option maxHeartbeats 2000000 in
set_option maxRecDepth 100000 in
theorem Right_calls (c : Array Value) (k fr o : Int) (e cu : Nat) (a : Array Value) (f : Nat → Nat) (hp : Pk c k fr o e cu a f) (w : World) :
    Calls Tryd.prog 12 #[.agg c] w fun r w' => r = .returned (.bool (rightV k fr o e cu)) ∧ Below w.heap.size w w' := by
  obtain ⟨h0, h1, h2, h3, h4⟩ := hp.cell w
  have hb := below_new' w (.cells c 26)
  have hN := fun n W => node_calls n W
  clear hp
  generalize hw : w.alloc (.cells c 26) = w0 at *
  have hkeep : ∀ w1, Below w0.heap.size w0 w1 → w1.cell? ⟨w.heap.size, 0, none⟩ = some (.int .i64 k) ∧ w1.cell? ⟨w.heap.size, 1, none⟩ = some (.int .i64 fr) ∧ w1.cell? ⟨w.heap.size, 2, none⟩ = some (.int .i64 o) ∧ w1.cell? ⟨w.heap.size, 3, none⟩ = some (.int .u64 e) ∧ w1.cell? ⟨w.heap.size, 4, none⟩ = some (.int .u64 cu) ∧ Below w.heap.size w w1 := fun w1 h =>
    have hlt : w.heap.size < w0.heap.size := by rw [← hw]; simp
    ⟨(h.cell hlt).trans h0, (h.cell hlt).trans h1, (h.cell hlt).trans h2, (h.cell hlt).trans h3, (h.cell hlt).trans h4, hb.trans (h.mono (Nat.le_of_lt hlt))⟩
  replace hkeep := Lib.hid hkeep
  have hv : rightV k fr o e cu = (decide (1 ≤ k) && decide (k ≤ 4) && (if k = 3 then decide (0 ≤ o) && decide (o < 64) else decide (o = 0)) && decide (0 ≤ fr) && decide (fr < 64) && decide (e ≤ cu)) := rfl
  generalize rightV k fr o e cu = R at *
  have hc5 : k = 1 ∨ k = 2 ∨ k = 4 ∨ k = 3 ∨ (k ≠ 1 ∧ k ≠ 2 ∧ k ≠ 4 ∧ k ≠ 3) := by omega
  have tail : ∀ (w1 : World) (b : Bool), b = (decide (0 ≤ fr) && decide (fr < 64)) → True := fun _ _ _ => trivial
  clear tail
  rcases hc5 with rfl | rfl | rfl | rfl | ⟨n1, n2, n4, n3⟩
  · by_cases ho : o = 0
    · subst ho
      replace hv := Lib.hid hv
      go_enter Tryd.func12, Tryd.ntmps12
      go_wp2_with fail
      refine (hN fr _).mono ?_
      rintro r w1 ⟨rfl, hb2⟩
      obtain ⟨-, -, -, g3, g4, gb⟩ := hkeep.out w1 hb2
      have hR : R = ((decide (0 ≤ fr) && decide (fr < 64)) && decide ((e : Int) ≤ (cu : Int))) := by
        rw [hv.out]; simp [Bool.and_assoc]
      clear hv hkeep h0 h1 h2 h3 h4
      generalize (decide (0 ≤ fr) && decide (fr < 64)) = G at hR ⊢
      subst hR
      cases G with
      | true =>
        go_wp2_with fail
        go_ret
        exact ⟨by simp, gb⟩
      | false =>
        go_wp2_with fail
        go_ret
        exact ⟨by simp, gb⟩
    · have e0 : (o != 0) = true := by simp [ho]
      have hR : R = false := by rw [hv]; simp [ho]
      clear hv
      subst hR
      go_enter Tryd.func12, Tryd.ntmps12
      go_wp2_with fail
      go_ret
      exact ⟨rfl, hb⟩
  · by_cases ho : o = 0
    · subst ho
      replace hv := Lib.hid hv
      go_enter Tryd.func12, Tryd.ntmps12
      go_wp2_with fail
      refine (hN fr _).mono ?_
      rintro r w1 ⟨rfl, hb2⟩
      obtain ⟨-, -, -, g3, g4, gb⟩ := hkeep.out w1 hb2
      have hR : R = ((decide (0 ≤ fr) && decide (fr < 64)) && decide ((e : Int) ≤ (cu : Int))) := by
        rw [hv.out]; simp [Bool.and_assoc]
      clear hv hkeep h0 h1 h2 h3 h4
      generalize (decide (0 ≤ fr) && decide (fr < 64)) = G at hR ⊢
      subst hR
      cases G with
      | true =>
        go_wp2_with fail
        go_ret
        exact ⟨by simp, gb⟩
      | false =>
        go_wp2_with fail
        go_ret
        exact ⟨by simp, gb⟩
    · have e0 : (o != 0) = true := by simp [ho]
      have hR : R = false := by rw [hv]; simp [ho]
      clear hv
      subst hR
      go_enter Tryd.func12, Tryd.ntmps12
      go_wp2_with fail
      go_ret
      exact ⟨rfl, hb⟩
  · by_cases ho : o = 0
    · subst ho
      replace hv := Lib.hid hv
      go_enter Tryd.func12, Tryd.ntmps12
      go_wp2_with fail
      refine (hN fr _).mono ?_
      rintro r w1 ⟨rfl, hb2⟩
      obtain ⟨-, -, -, g3, g4, gb⟩ := hkeep.out w1 hb2
      have hR : R = ((decide (0 ≤ fr) && decide (fr < 64)) && decide ((e : Int) ≤ (cu : Int))) := by
        rw [hv.out]; simp [Bool.and_assoc]
      clear hv hkeep h0 h1 h2 h3 h4
      generalize (decide (0 ≤ fr) && decide (fr < 64)) = G at hR ⊢
      subst hR
      cases G with
      | true =>
        go_wp2_with fail
        go_ret
        exact ⟨by simp, gb⟩
      | false =>
        go_wp2_with fail
        go_ret
        exact ⟨by simp, gb⟩
    · have e0 : (o != 0) = true := by simp [ho]
      have hR : R = false := by rw [hv]; simp [ho]
      clear hv
      subst hR
      go_enter Tryd.func12, Tryd.ntmps12
      go_wp2_with fail
      go_ret
      exact ⟨rfl, hb⟩
  · replace hv := Lib.hid hv
    by_cases ho : 0 ≤ o ∧ o < 64
    · have e0 : (decide (0 ≤ o) && decide (o < 64)) = true := by simp [ho]
      have hN0 := hN o
      rw [e0] at hN0
      go_enter Tryd.func12, Tryd.ntmps12
      go_wp2_with fail
      refine (hN0 _).mono ?_
      rintro r w1 ⟨rfl, hb1⟩
      obtain ⟨g0, g1, g2, g3, g4, gb⟩ := hkeep.out w1 hb1
      clear h0 h1 h2 h3 h4 g3 g4 gb hN0
      go_wp2_with fail
      refine (hN fr _).mono ?_
      rintro r w2 ⟨rfl, hb2⟩
      obtain ⟨-, -, -, g3, g4, gb⟩ := hkeep.out w2 (hb1.trans (hb2.mono hb1.size))
      have hR : R = ((decide (0 ≤ fr) && decide (fr < 64)) && decide ((e : Int) ≤ (cu : Int))) := by
        rw [hv.out]; simp [ho, Bool.and_assoc]
      clear hv hkeep g0 g1 g2
      generalize (decide (0 ≤ fr) && decide (fr < 64)) = G at hR ⊢
      subst hR
      cases G with
      | true =>
        go_wp2_with fail
        go_ret
        exact ⟨by simp, gb⟩
      | false =>
        go_wp2_with fail
        go_ret
        exact ⟨by simp, gb⟩
    · have e0 : (decide (0 ≤ o) && decide (o < 64)) = false := by rw [Bool.and_eq_false_iff, decide_eq_false_iff_not, decide_eq_false_iff_not]; omega
      have hN0 := hN o
      rw [e0] at hN0
      have hR : R = false := by rw [hv.out, if_pos rfl, e0]; simp
      clear hv
      subst hR
      go_enter Tryd.func12, Tryd.ntmps12
      go_wp2_with fail
      refine (hN0 _).mono ?_
      rintro r w1 ⟨rfl, hb1⟩
      obtain ⟨g0, g1, g2, g3, g4, gb⟩ := hkeep.out w1 hb1
      go_wp2_with fail
      go_ret
      exact ⟨rfl, gb⟩
  · have e1 : (k == 1) = false := by simp [n1]
    have e2 : (k == 2) = false := by simp [n2]
    have e3 : (k == 3) = false := by simp [n3]
    have e4 : (k == 4) = false := by simp [n4]
    have hR : R = false := by
      rw [hv, Bool.eq_false_iff]
      simp
      omega
    subst hR
    go_enter Tryd.func12, Tryd.ntmps12
    go_wp2_with fail
    go_ret
    exact ⟨rfl, hb⟩
end Go.Proofs.YtbpjfjdndaoekaaDoor

namespace Go.Proofs.YtbpjfjdndaoekaaDoor
open Go.RowKit Go.Proofs.YtbpjfjdndaoekaaDoorW.PrintWords
set_option maxHeartbeats 2000000 in
set_option maxRecDepth 100000 in
theorem refRight_calls (c : Array Value) (k fr o : Int) (e cu : Nat) (a : Array Value) (f : Nat → Nat) (hp : Pk c k fr o e cu a f) (w : World) :
    Calls Tryd.prog 13 #[.agg c] w fun r w' => r = .returned (.bool (rightV k fr o e cu)) ∧ Below w.heap.size w w' := by
  obtain ⟨h0, h1, h2, h3, h4⟩ := hp.cell w
  have hb := below_new' w (.cells c 26)
  clear hp
  generalize hw : w.alloc (.cells c 26) = w0 at *
  have hv : rightV k fr o e cu = (decide (1 ≤ k) && decide (k ≤ 4) && (if k = 3 then decide (0 ≤ o) && decide (o < 64) else decide (o = 0)) && decide (0 ≤ fr) && decide (fr < 64) && decide (e ≤ cu)) := rfl
  generalize rightV k fr o e cu = R at *
  have hcase : (k < 1) ∨ (¬ k < 1 ∧ 4 < k) ∨ (¬ k < 1 ∧ ¬ 4 < k ∧ fr < 0) ∨ (¬ k < 1 ∧ ¬ 4 < k ∧ ¬ fr < 0 ∧ 63 < fr) ∨ (¬ k < 1 ∧ ¬ 4 < k ∧ ¬ fr < 0 ∧ ¬ 63 < fr ∧ (cu : Int) < (e : Int)) ∨ (¬ k < 1 ∧ ¬ 4 < k ∧ ¬ fr < 0 ∧ ¬ 63 < fr ∧ ¬ (cu : Int) < (e : Int)) := by omega
  rcases hcase with c1 | ⟨c1, c2⟩ | ⟨c1, c2, c3⟩ | ⟨c1, c2, c3, c4⟩ | ⟨c1, c2, c3, c4, c5⟩ | ⟨c1, c2, c3, c4, c5⟩
  iterate 5
    · have hR : R = false := by
        rw [hv, Bool.eq_false_iff]
        simp only [ne_eq, Bool.and_eq_true, decide_eq_true_eq]
        omega
      clear hv
      subst hR
      go_enter Tryd.func13, Tryd.ntmps13
      go_wp2_with fail
      go_ret
      exact ⟨rfl, hb⟩
  · by_cases hk : k = 3
    · subst hk
      by_cases ho : 0 ≤ o
      · have hR : R = decide (o ≤ 63) := by
          rw [hv, Bool.eq_iff_iff]
          simp only [if_pos, Bool.and_eq_true, decide_eq_true_eq]
          omega
        clear hv
        subst hR
        go_enter Tryd.func13, Tryd.ntmps13
        go_wp2_with fail
        go_ret
        exact ⟨rfl, hb⟩
      · have hR : R = false := by
          rw [hv, Bool.eq_false_iff]
          simp only [ne_eq, if_pos, Bool.and_eq_true, decide_eq_true_eq]
          omega
        clear hv
        subst hR
        go_enter Tryd.func13, Tryd.ntmps13
        go_wp2_with fail
        go_ret
        exact ⟨rfl, hb⟩
    · have hR : R = (o == 0) := by
        rw [hv, if_neg hk, Bool.eq_iff_iff]
        simp only [beq_iff_eq, Bool.and_eq_true, decide_eq_true_eq]
        omega
      have hkb : (k == 3) = false := by simp [hk]
      clear hv
      subst hR
      go_enter Tryd.func13, Tryd.ntmps13
      go_wp2_with fail
      go_ret
      exact ⟨rfl, hb⟩
end Go.Proofs.YtbpjfjdndaoekaaDoor

namespace Go.Proofs.YtbpjfjdndaoekaaDoor
open Go.RowKit Go.Proofs.YtbpjfjdndaoekaaDoorW.PrintWords
def byV (n m : Nat) : List UInt8 := (List.range m).map fun i => UInt8.ofNat (n / 256 ^ (m - 1 - i))
theorem info_b8 : ∃ i0, Tryd.prog.info? 5 = some i0 ∧ i0.zero = some (.int .u8 0) ∧ i0.size = 1 ∧ i0.bytes = 1 := info_parts (by kernel_rfl)
set_option maxRecDepth 100000 in
theorem mk_bytes (m : Nat) (hm : m ≤ 8) (u : World) : (Instr.makeSlice 36 (.int .i64 m) (.int .i64 m)).run Tryd.prog u = .ok (.slice (some ⟨u.heap.size, 0, none⟩) m m) (u.alloc (.cells (madeCells #[.int .u8 0] m) 5)) := by
  obtain ⟨i0, hi0, hz0, hz1, hz2⟩ := info_b8
  have := run_makeSlice (P := Tryd.prog) u 36 5 i0 (.int .u8 0) Tryd.underlying36 hi0 hz0 .i64 .i64 m m (by omega) (Int.le_refl _) (by rw [hz1]; omega) (by rw [hz2]; omega) (by omega)
  simpa [hz1, Value.cells] using this
set_option maxHeartbeats 2000000 in
set_option maxRecDepth 100000 in
theorem pkNumber_calls (n m : Nat) (hn : n < 18446744073709551616) (hm0 : 0 < m) (hm : m ≤ 8) (w : World) :
    Calls Tryd.prog 18 #[.int .u64 n, .int .i64 m] w fun r w' => r = .returned (.string ⟨(byV n m).toArray⟩) ∧ Below w.heap.size w w' := by
  have hmk := mk_bytes m hm
  have hms : (madeCells #[Value.int .u8 0] m).size = m := by simp [madeCells]
  have hmr : ∃ cs : Array Value, cs.size = m ∧ madeCells #[Value.int .u8 0] m = cs := ⟨_, hms, rfl⟩
  obtain ⟨cs0, hcs0, hmr⟩ := hmr
  rw [hmr] at hmk
  clear hmr hms
  have h0 := heapN w (.cells cs0 5)
  have hb0 := below_new' w (.cells cs0 5)
  have hl0 : w.heap.size < (w.alloc (.cells cs0 5)).heap.size := by simp
  go_enter Tryd.func18, Tryd.ntmps18
  go_wp2_with fail
  generalize w.alloc (.cells cs0 5) = w0 at *
  go_loopw [6, 11] (fun _ i wr => ∃ (k : Nat) (cs : Array Value), k ≤ m ∧ i = .int .i64 k ∧ cs.size = m ∧ (∀ j, j < k → cs[j]? = some (.int .u8 ((n / 256 ^ (m - 1 - j) % 256 : Nat) : Int))) ∧ wr.heap[w.heap.size]? = some (.cells cs 5 (0, 0)) ∧ Below w.heap.size w wr ∧ w.heap.size < wr.heap.size) (fun _ i _ => m - (intOf i).toNat)
  case atStart => exact ⟨0, cs0, by omega, rfl, hcs0, fun j h => absurd h (by omega), h0, hb0, hl0⟩
  case round =>
    obtain ⟨k, cs, hk, rfl, hcs, hin, hh, hb, hlt⟩ := hrel
    by_cases hkm : k < m
    · have hgo : decide ((k : Int) < (m : Int)) = true := decide_eq_true (by omega)
      obtain ⟨v, hv⟩ : ∃ v, cs[k]? = some v := ⟨cs[k], by rw [Array.getElem?_eq_getElem (by omega)]⟩
      have c1 : wr.cell? ⟨w.heap.size, k, none⟩ = some v := by rw [cell_of_row wr _ k cs 5 (0, 0) hh]; exact hv
      have c2 : wr.frozen? ⟨w.heap.size, k, none⟩ = false := by simp [World.frozen?, hh]
      replace hin := Lib.hid hin
      clear h0 hb0 hl0 hmk
      have hw1 : IntKind.i64.wrap ((m : Int) - 1) = (m : Int) - 1 := by rw [IntKind.wrap_i64]; omega
      have hw2 : IntKind.i64.wrap ((m : Int) - 1 - (k : Int)) = (m : Int) - 1 - (k : Int) := by rw [IntKind.wrap_i64]; omega
      have hw3 : IntKind.i64.wrap (8 * ((m : Int) - 1 - (k : Int))) = 8 * ((m : Int) - 1 - (k : Int)) := by rw [IntKind.wrap_i64]; omega
      have hge : ¬ (8 * ((m : Int) - 1 - (k : Int))) < 0 := by omega
      go_wp2_with fail
      have e1 : (n : Int) / 2 ^ (8 * (m - 1 - k)) % 256 = ((n / 256 ^ (m - 1 - k) % 256 : Nat) : Int) := by
        rw [show (256 : Nat) ^ (m - 1 - k) = 2 ^ (8 * (m - 1 - k)) from (Nat.pow_mul 2 8 _).symm]
        simp
      rw [e1]
      have G1 := heap_setCell_same wr w.heap.size k cs 5 (.int .u8 ((n / 256 ^ (m - 1 - k) % 256 : Nat) : Int)) hh
      refine ⟨⟨k + 1, _, by omega, by go_num, by simpa using hcs, fun j hj => ?_, G1, below_set hb (Nat.le_refl _), by simpa using hlt⟩, by simp [intOf]; omega⟩
      by_cases hjk : j = k
      · subst hjk; simp [Array.getElem?_setIfInBounds, hcs, hkm]
      · rw [Array.getElem?_setIfInBounds_ne (fun h => hjk h.symm)]
        exact hin.out j (by omega)
    · obtain rfl : k = m := by omega
      have hgo : decide ((k : Int) < (k : Int)) = false := decide_eq_false (by omega)
      have hbl : (byV n k).length = k := by simp [byV]
      have hcv := run_convert_bytes_back (P := Tryd.prog) wr 36 9 5 ⟨w.heap.size, 0, none⟩ k (byV n k) Tryd.underlying36 Tryd.underlying5 Tryd.underlying9 (fun j hj => by
        have e : (⟨w.heap.size, 0, none⟩ : Addr).add j = ⟨w.heap.size, j, none⟩ := by
          simp [Addr.add]
          exact fun h => h.symm
        rw [e, cell_of_row wr _ j cs 5 (0, 0) hh, hin j (by omega)]
        simp [byV])
      rw [hbl] at hcv
      obtain ⟨T, hT⟩ : ∃ T : ByteArray, T = ⟨(byV n k).toArray⟩ := ⟨_, rfl⟩
      rw [← hT] at hcv
      clear h0 hb0 hl0 hmk hin hbl
      go_wp2_with fail
      go_ret
      subst hT
      exact ⟨rfl, hb⟩
end Go.Proofs.YtbpjfjdndaoekaaDoor

namespace Go.Proofs.YtbpjfjdndaoekaaDoor
open Go.RowKit Go.Proofs.YtbpjfjdndaoekaaDoorW.PrintWords
theorem info_b8' : ∃ i0, Tryd.prog.info? 5 = some i0 ∧ i0.zero = some (.int .u8 0) ∧ i0.size = 1 ∧ i0.bytes = 1 := info_parts (by kernel_rfl)
def bytesN (l : List Nat) : List Value := l.map fun (x : Nat) => .int .u8 (x : Int)
/-- the bytes of a number, the highest first -/
def digN : Nat → Nat → List Nat
  | 0, _ => []
  | m + 1, n => digN m (n / 256) ++ [n % 256]
theorem digN_len : ∀ m n, (digN m n).length = m
  | 0, _ => rfl
  | m + 1, n => by simp [digN, digN_len m]
theorem digN_head : ∀ m n, digN (m + 1) n = (n / 256 ^ m % 256) :: digN m n
  | 0, n => by simp [digN]
  | m + 1, n => by
    rw [digN, digN_head m (n / 256), digN, Nat.div_div_eq_div_mul, Nat.pow_succ, Nat.mul_comm (256 ^ m)]
    rfl
theorem bytesN_one (l : List Nat) : ∀ u ∈ bytesN l, u.oneCell' = true := fun u hu => by
  obtain ⟨x, -, rfl⟩ := List.mem_map.1 hu
  rfl
theorem bytesN_len (l : List Nat) : (bytesN l).length = l.length * 1 := by simp [bytesN]
theorem bytesN_app (l r : List Nat) : bytesN (l ++ r) = bytesN l ++ bytesN r := by simp [bytesN]
/-- one row of bytes set behind another: the first is the call's own -/
theorem wpList_app8 {ops : Array Oper} {rest : List Oper} {o : Oper} {a : Act} {w : World} {Q : Exit → Act → World → Prop} (hgd : o.guard = none) (s x : Operand)
    (ho : o.op = .call { callee := .builtin .append, args := #[s, x], argTypes := #[36, 36] })
    (base base2 : Nat) (v v2 : Value) (n1 n2 : Nat) (l1 l2 : List Nat) (hs : a.eval s = v) (hx : a.eval x = v2) (h1 : w.ownsRow base 5 1 v n1 (bytesN l1)) (h2 : w.ownsRow base2 5 1 v2 n2 (bytesN l2))
    (hl : n1 + n2 ≤ 4294967296) (hbase : base ≤ w.heap.size)
    (h : ∀ A c w', w'.ownsRow base 5 1 (.slice A (n1 + n2) c) (n1 + n2) (bytesN (l1 ++ l2)) → Below base w w' → wpList Tryd.prog ops Q rest (a.put o.dst (.slice A (n1 + n2) c)) w') : wpList Tryd.prog ops Q (o :: rest) a w := by
  obtain ⟨i0, hi0, hz0, hz1, hz2⟩ := info_b8'
  have e1 : l1.length = n1 := by have := h1.1; rw [bytesN_len] at this; omega
  have e2 : l2.length = n2 := by have := h2.1; rw [bytesN_len] at this; omega
  have fin : ∀ v' w', w'.ownsRow base 5 1 v' (n1 + n2) (bytesN l1 ++ bytesN l2) → Below base w w' → wpList Tryd.prog ops Q rest (a.put o.dst v') w' := fun v' w' hown hb => by
    obtain ⟨A, c, rfl⟩ := own_slice hown
    rw [← bytesN_app] at hown
    exact h A c w' hown hb
  refine wpList_plain hgd fun K hK => ?_
  rcases h2.2 with ⟨rfl, hn⟩ | ⟨g2, cap2, cur2, rfl, -⟩
  · have hr := run_append_owned_none (P := Tryd.prog) (w := w) base 36 o.type 5 i0 1 Tryd.underlying36 hi0 v n1 (bytesN l1) h1
    subst hn
    have e0 : l2 = [] := List.length_eq_zero_iff.1 e2
    subst e0
    unfold Oper.wp execOp
    simp only [ho, resolve, invoke, builtin, Sem.run_bind, Sem.run_pure, Result.andThen_ok, List.map_toArray, List.map_cons, List.map_nil, hs, hx, hr]
    exact hK _ _ (fin v w (by simpa [bytesN] using h1) (Below.refl _ _))
  · refine wp_append_own w s x 36 ho base 5 i0 _ 1 1 Tryd.underlying36 hi0 hz0 hz1 hz2 rfl (by decide) v n1 (bytesN l1) hs h1 ⟨g2, 0, none⟩ n2 cap2 (bytesN l2) hx h2.1 (h2.cells (g := g2) rfl) (bytesN_one l2) (by simp only [maxLen]; omega) (by omega) hbase ?_
    intro v' w' hown hgrow hh
    exact hK _ _ (fin v' w' hown ((Below.refl _ _).grown hgrow hbase fun k hk => (h1.lt k hk).1))
set_option maxHeartbeats 2000000 in
set_option maxRecDepth 100000 in
theorem bytes_calls (n m : Nat) (hn : n < 18446744073709551616) (hm : m ≤ 8) (w : World) :
    Calls Tryd.prog 20 #[.int .u64 n, .int .i64 m] w fun r w' => ∃ A c, r = .returned (.slice A m c) ∧ w'.ownsRow w.heap.size 5 1 (.slice A m c) m (bytesN (digN m n)) ∧ Below w.heap.size w w' := by
  obtain ⟨i0, hi0, hz0, hz1, hz2⟩ := info_b8'
  go_enter Tryd.func20, Tryd.ntmps20
  go_wp2_with fail
  go_loopw [0, 5, 6] (fun x out i wr => ∃ k : Nat, k ≤ m ∧ i = .int .i64 k ∧ x = .int .u64 ((n / 256 ^ k : Nat) : Int) ∧ wr.ownsRow w.heap.size 5 1 out k (bytesN (digN k n)) ∧ Below w.heap.size w wr) (fun _ _ i _ => m - (intOf i).toNat)
  case atStart => exact ⟨0, by omega, rfl, by simp, World.ownsRow_nil _ _ _ _, Below.refl _ _⟩
  case round =>
    obtain ⟨k, hk, rfl, rfl, hown, hb⟩ := hrel
    by_cases hkm : k < m
    · have hgo : decide ((k : Int) < (m : Int)) = true := decide_eq_true (by omega)
      have hN : n / 256 ^ k < 18446744073709551616 := Nat.lt_of_le_of_lt (Nat.div_le_self _ _) hn
      have hn2 : n / 256 ^ (k + 1) = n / 256 ^ k / 256 := by rw [Nat.pow_succ, Nat.div_div_eq_div_mul]
      have hd := digN_head k n
      have hdl := digN_len k n
      generalize n / 256 ^ k = N at *
      generalize digN k n = D at *
      replace hd := Lib.hid hd
      have h1 := World.ownsRow_lit (base := w.heap.size) (e := 5) (size := 1) (w := wr) #[.int .u8 ((N : Int) % 256)] 1 hb.size (by decide) rfl
      have h1e : (#[Value.int .u8 ((N : Int) % 256)]).toList = bytesN [N % 256] := by simp [bytesN]
      rw [h1e] at h1
      have h2 := hown.alloc (.cells #[.int .u8 ((N : Int) % 256)] 5)
      have hbw : w.heap.size ≤ (wr.alloc (.cells #[.int .u8 ((N : Int) % 256)] 5)).heap.size := by have := hb.size; simp; omega
      have hb2 : Below w.heap.size w (wr.alloc (.cells #[.int .u8 ((N : Int) % 256)] 5)) := hb.trans ((below_new' _ _).mono hb.size)
      obtain ⟨A0, c0, rfl⟩ := own_slice hown
      replace h1 := Lib.hid h1
      replace h2 := Lib.hid h2
      clear hown h1e
      go_wp2_with (at_builtin; refine wpList_app8 rfl (.tmp 15) (.tmp 16) rfl w.heap.size w.heap.size _ _ 1 k [N % 256] D rfl rfl h1.out h2.out (by omega) hbw ?_; intro A c w3 hown3 hb3; replace hown3 := Lib.hid hown3)
      refine ⟨⟨k + 1, by omega, by go_num, by rw [hn2]; simp, ?_, hb2.trans hb3⟩, by simp [intOf]; omega⟩
      have h3 := hown3.out
      rw [show [N % 256] ++ D = digN (k + 1) n from hd.out.symm] at h3
      rw [Nat.add_comm 1 k] at h3 ⊢
      exact h3
    · obtain rfl : k = m := by omega
      have hgo : decide ((k : Int) < (k : Int)) = false := decide_eq_false (by omega)
      obtain ⟨A, c, rfl⟩ := own_slice hown
      replace hown := Lib.hid hown
      go_wp2_with fail
      go_ret
      exact ⟨_, _, rfl, hown.out, hb⟩
end Go.Proofs.YtbpjfjdndaoekaaDoor

namespace Go.Proofs.YtbpjfjdndaoekaaDoor
theorem byV_len (n m : Nat) : (byV n m).length = m := by simp [byV]
theorem byV_succ (n m : Nat) : byV n (m + 1) = byV (n / 256) m ++ [UInt8.ofNat n] := by
  unfold byV
  rw [List.range_succ, List.map_append]
  congr 1
  · refine List.map_congr_left fun i hi => ?_
    have hi : i < m := List.mem_range.1 hi
    rw [Nat.div_div_eq_div_mul, show m + 1 - 1 - i = (m - 1 - i) + 1 by omega, Nat.pow_succ, Nat.mul_comm 256]
  · simp
theorem byV_dig : ∀ m n, (byV n m).map (fun b => b.toNat) = digN m n
  | 0, _ => rfl
  | m + 1, n => by
    rw [byV_succ, List.map_append, byV_dig m, digN]
    simp
theorem byV_num : ∀ m n, numV (byV n m) = n % 256 ^ m
  | 0, n => by simp [byV, numV, Nat.mod_one]
  | m + 1, n => by
    rw [byV_succ, numV_snoc, byV_num m, Nat.pow_succ, Nat.mul_comm (256 ^ m), Nat.mod_mul]
    have : (UInt8.ofNat n).toNat = n % 256 := by simp
    rw [this]
    omega
theorem numV_byV (l : List UInt8) : byV (numV l) l.length = l := by
  have : ∀ k (l : List UInt8), l.length = k → byV (numV l) k = l := by
    intro k
    induction k with
    | zero => intro l h; rw [List.length_eq_zero_iff.1 h]; rfl
    | succ m ih =>
      intro l h
      have hne : l ≠ [] := fun e => by rw [e] at h; cases h
      obtain ⟨q, b, rfl⟩ : ∃ q b, l = q ++ [b] := ⟨l.dropLast, l.getLast hne, (List.dropLast_concat_getLast hne).symm⟩
      have hb := b.toNat_lt
      rw [numV_snoc, byV_succ, show (numV q * 256 + b.toNat) / 256 = numV q by omega, ih q (by simpa using h)]
      congr 2
      apply UInt8.toNat_inj.1
      simp
  exact this _ l rfl
end Go.Proofs.YtbpjfjdndaoekaaDoor

namespace Go.Proofs.YtbpjfjdndaoekaaDoor
open Go.RowKit Go.Proofs.YtbpjfjdndaoekaaDoorW.PrintWords
set_option maxHeartbeats 1000000 in
set_option maxRecDepth 100000 in
theorem summed_calls (g c : Nat) (xs : List ByteArray) (w : World) (hcells : ∀ (j : Nat) x, xs[j]? = some x → w.cell? ⟨g, j, none⟩ = some (.string x)) (hg : g < w.heap.size) (hcap : xs.length ≤ c) (hN : xs.length ≤ 100)
    (hlen : (Lib.join (xs.map (·.data.toList)) []).length ≤ 66000) (hE : Env w) :
    Calls Tryd.prog 17 #[.slice (some ⟨g, 0, none⟩) xs.length c] w fun e w' =>
      e = .returned (.string ⟨(Lib.join (xs.map (·.data.toList)) [] ++ byV (sumV 0 (Lib.join (xs.map (·.data.toList)) [])) 2).toArray⟩) ∧ Below w.heap.size w w' := by
  have hJ := Tryd.strings_Join g 0 c xs ⟨#[]⟩ w (fun j x h => by rw [Nat.zero_add]; exact hcells j x h) hg (by omega) hcap (by show (Lib.join _ []).length ≤ _; omega)
  change Calls Tryd.prog 29 #[.slice (some ⟨g, 0, none⟩) xs.length c, .string ⟨#[]⟩] w fun e w' => e = .returned (.string ⟨(Lib.join (xs.map (·.data.toList)) []).toArray⟩) ∧ Below w.heap.size w w' at hJ
  generalize Lib.join (xs.map (·.data.toList)) [] = T at *
  generalize xs.length = N at *
  clear hcells
  have hlt := sum_lt T (c := 0) (by decide)
  have kb := fun W => conv_bytes T W
  have hS := fun W hW cap => Sum_calls W.heap.size cap T (Lib.bytesWorld W 5 ⟨T.toArray⟩) (by omega) (fun j hj => bytes_cell W T j hj) hW
  generalize sumV 0 T = S at *
  have hnum := fun W => pkNumber_calls S 2 (by omega) (by decide) (by decide) W
  have happ : (⟨T.toArray⟩ ++ ⟨(byV S 2).toArray⟩ : ByteArray) = ⟨(T ++ byV S 2).toArray⟩ := by
    apply ByteArray.ext
    simp
  have hsum : ¬ 9223372036854775807 < T.length + (byV S 2).length := by rw [byV_len]; omega
  generalize byV S 2 = B at *
  go_enter Tryd.func17, Tryd.ntmps17
  go_wp2_with fail
  refine hJ.mono ?_
  rintro e w2 ⟨rfl, hb2⟩
  have hb3 := bytes_below (w := w2) (Below.refl w2.heap.size w2) (Nat.le_refl _) 5 ⟨T.toArray⟩
  have hE3 := (hE.below hb2).below hb3
  have hbw := hb2.trans (hb3.mono hb2.size)
  clear hJ hb3 hb2
  go_wp2_with fail
  refine (hS _ hE3 _).mono ?_
  rintro e w3 ⟨rfl, rfl⟩
  go_wp2_with fail
  refine (hnum _).mono ?_
  rintro e w4 ⟨rfl, hb4⟩
  have hbz := hbw.trans (hb4.mono hbw.size)
  clear hbw hb4 hE3
  go_wp2_with fail
  go_ret
  exact ⟨by first | rfl | rw [happ] | simp [happ], hbz⟩
end Go.Proofs.YtbpjfjdndaoekaaDoor

namespace Go.Proofs.YtbpjfjdndaoekaaDoor
/-- what stands before the sum -/
def headV (k fr o e cu : Nat) (t : List UInt8) : List UInt8 := [UInt8.ofNat k, UInt8.ofNat fr, UInt8.ofNat o] ++ byV e 8 ++ byV cu 8 ++ byV t.length 2 ++ t
def encV (k fr o e cu : Nat) (t : List UInt8) : List UInt8 := headV k fr o e cu t ++ byV (sumV 0 (headV k fr o e cu t)) 2
theorem encV_len (k fr o e cu : Nat) (t : List UInt8) : (encV k fr o e cu t).length = 23 + t.length := by
  simp [encV, headV, byV_len]; omega
theorem byV_inj {m a b : Nat} (ha : a < 256 ^ m) (hb : b < 256 ^ m) (h : byV a m = byV b m) : a = b := by
  have := congrArg numV h
  rwa [byV_num, byV_num, Nat.mod_eq_of_lt ha, Nat.mod_eq_of_lt hb] at this
theorem byte_inj {a b : Nat} (ha : a < 256) (hb : b < 256) (h : UInt8.ofNat a = UInt8.ofNat b) : a = b := by
  have := congrArg UInt8.toNat h
  simp at this
  omega
/-- unlike packets have unlike bytes -/
theorem encV_inj {k fr o e cu k' fr' o' e' cu' : Nat} {t t' : List UInt8} (hk : k < 256) (hk' : k' < 256) (hf : fr < 256) (hf' : fr' < 256) (ho : o < 256) (ho' : o' < 256)
    (he : e < 18446744073709551616) (he' : e' < 18446744073709551616) (hc : cu < 18446744073709551616) (hc' : cu' < 18446744073709551616) (ht : t.length < 65536) (ht' : t'.length < 65536)
    (h : encV k fr o e cu t = encV k' fr' o' e' cu' t') : k = k' ∧ fr = fr' ∧ o = o' ∧ e = e' ∧ cu = cu' ∧ t = t' := by
  have hl := congrArg List.length h
  rw [encV_len, encV_len] at hl
  unfold encV at h
  have h1 := (List.append_inj h (by simp [headV, byV_len]; omega)).1
  unfold headV at h1
  obtain ⟨h2, rfl⟩ := List.append_inj h1 (by simp [byV_len])
  obtain ⟨h3, -⟩ := List.append_inj h2 (by simp [byV_len])
  obtain ⟨h4, h5⟩ := List.append_inj h3 (by simp [byV_len])
  obtain ⟨h6, h7⟩ := List.append_inj h4 (by simp)
  simp only [List.cons.injEq, and_true] at h6
  exact ⟨byte_inj hk hk' h6.1, byte_inj hf hf' h6.2.1, byte_inj ho ho' h6.2.2, byV_inj (m := 8) he he' h7, byV_inj (m := 8) hc hc' h5, rfl⟩
/-- the bytes of a packet are no beginning of another's -/
theorem encV_prefix {k fr o e cu k' fr' o' e' cu' : Nat} {t t' more : List UInt8} (ht : t.length < 65536) (ht' : t'.length < 65536)
    (h : encV k fr o e cu t ++ more = encV k' fr' o' e' cu' t') : more = [] := by
  have hl := congrArg List.length h
  rw [List.length_append, encV_len, encV_len] at hl
  unfold encV at h
  have e0 : ∀ k fr o e cu (t : List UInt8), headV k fr o e cu t = ([UInt8.ofNat k, UInt8.ofNat fr, UInt8.ofNat o] ++ byV e 8 ++ byV cu 8 ++ byV t.length 2) ++ t := fun _ _ _ _ _ _ => rfl
  rw [e0, e0] at h
  generalize byV (sumV 0 _) 2 = s1 at h
  generalize byV (sumV 0 _) 2 = s2 at h
  have h' : ([UInt8.ofNat k, UInt8.ofNat fr, UInt8.ofNat o] ++ byV e 8 ++ byV cu 8 ++ byV t.length 2) ++ (t ++ s1 ++ more) = ([UInt8.ofNat k', UInt8.ofNat fr', UInt8.ofNat o'] ++ byV e' 8 ++ byV cu' 8 ++ byV t'.length 2) ++ (t' ++ s2) := by
    simpa only [List.append_assoc] using h
  have h1 := (List.append_inj h' (by simp [byV_len])).1
  have h2 := (List.append_inj h1 (by simp [byV_len])).2
  have h3 := byV_inj (m := 2) (by simpa using ht) (by simpa using ht') h2
  exact List.length_eq_zero_iff.1 (by omega)
end Go.Proofs.YtbpjfjdndaoekaaDoor
