/- The reference's Print: the same text. Conditions: none. -/
import Derived.Test.YtnlchdjknebmfaaDoorSlK
set_option linter.unusedVariables false
set_option linter.unusedSimpArgs false
namespace Go.Proofs.YtnlchdjknebmfaaDoor
open Go.RowKit Go.Proofs.YtnlchdjknebmfaaDoorW.PrintWords
open SlS SlT
def bI (l : List UInt8) : List Int := l.map fun b => (b.toNat : Int)
theorem bI_append (l r : List UInt8) : bI (l ++ r) = bI l ++ bI r := by simp [bI]
theorem bI_len (l : List UInt8) : (bI l).length = l.length := by simp [bI]
theorem bI_of (l : List UInt8) : bytesOf ⟨l.toArray⟩ = bI l := by simp [bytesOf, bI]
theorem str_bI (l : List UInt8) : strOfNums (bI l) = ⟨l.toArray⟩ := by
  unfold strOfNums bI
  congr 2
  rw [List.map_map]
  have e : ((fun (n : Int) => UInt8.ofNat n.toNat) ∘ fun (b : UInt8) => (b.toNat : Int)) = id := by funext b; simp
  rw [e, List.map_id]
theorem print_snoc (rs : List (Nat × Nat)) (k : Nat) (p : Nat × Nat) (h : rs[k]? = some p) : printV (rs.take (k + 1)) = printV (rs.take k) ++ (if k = 0 then [] else [32]) ++ rangeT p := by
  rw [List.take_add_one, h]
  unfold printV
  cases rs with
  | nil => simp at h
  | cons q rs =>
    cases k with
    | zero => simp at h; subst h; simp [Lib.join_one, Lib.join_nil]
    | succ k =>
      simp only [List.take_succ_cons, List.map_cons, List.cons_append, List.map_append, Option.toList_some, List.map_nil]
      rw [Lib.join_cons, Lib.join_cons]
      simp [Lib.joinTail]
theorem join_le (ps qs : List (List UInt8)) : (Lib.join ps [32]).length ≤ (Lib.join (ps ++ qs) [32]).length := by
  cases ps with
  | nil => simp [Lib.join]
  | cons x r =>
    rw [List.cons_append, Lib.join_cons, Lib.join_cons]
    simp [Lib.joinTail]
theorem print_take_le (rs : List (Nat × Nat)) (k : Nat) : (printV (rs.take k)).length ≤ (printV rs).length := by
  unfold printV
  have e : rs.map rangeT = (rs.take k).map rangeT ++ (rs.drop k).map rangeT := by rw [← List.map_append, List.take_append_drop]
  rw [e]
  exact join_le _ _
theorem info_u8 : (Tryd.prog.info? 5).map (fun i => (i.zero, i.size, i.bytes)) = some (some (.int .u8 0), 1, 1) := by kernel_rfl
theorem nums_app1 (xs : List Int) (z : Int) : nums .u8 (xs ++ [z]) = nums .u8 xs ++ [.int .u8 z] := by simp [nums]
/-- one byte more -/
theorem app_byte {w0 W : World} (base : Nat) {ops : Array Oper} {rest : List Oper} {o : Oper} {a : Act} {Q : Exit → Act → World → Prop} (hgd : o.guard = none) (s x : Operand)
    (ho : o.op = .call { callee := .builtin .append, args := #[s, x], argTypes := #[26, 26] })
    (v : Value) (xs : List Int) (z : Int) (hs : a.eval s = v) (hx : a.eval x = .slice (some ⟨W.heap.size, 0, none⟩) 1 1)
    (HO : W.ownsRow base 5 1 v xs.length (nums .u8 xs)) (HB : Below base w0 W) (hbase : base ≤ W.heap.size) (hl : xs.length + 1 ≤ 140737488355328)
    (h : ∀ v1 w1, w1.ownsRow base 5 1 v1 (xs ++ [z]).length (nums .u8 (xs ++ [z])) → Below base w0 w1 → (W.alloc (.cells #[.int .u8 z] 5)).grownBy w1 v.ownBlock → wpList Tryd.prog ops Q rest (a.put o.dst v1) w1) :
    wpList Tryd.prog ops Q (o :: rest) a (W.alloc (.cells #[.int .u8 z] 5)) := by
  obtain ⟨i0, hi0, hz0, hz1, hz2⟩ := info_parts info_u8
  refine wpList_append_own _ hgd s x 26 ho base 5 i0 (.int .u8 0) 1 1 Tryd.underlying26 hi0 hz0 hz1 hz2 rfl (by decide) v xs.length (nums .u8 xs) hs (HO.alloc _) ⟨W.heap.size, 0, none⟩ 1 1 [.int .u8 z] hx rfl (news1 _ _ _) (one_int _ _) (by unfold maxLen; omega) (by omega) (by simp; omega) ?_
  intro v1 w1 hown hg _
  have hbA : Below base w0 (W.alloc (.cells #[.int .u8 z] 5)) := HB.trans ((below_new' W _).mono hbase)
  refine h v1 w1 ?_ (hbA.grown hg (by simp; omega) (own_base HO)) hg
  rw [nums_app1, List.length_append]
  exact hown
set_option maxHeartbeats 4000000 in
set_option maxRecDepth 100000 in
theorem refPrint_calls (a : Array Value) (f : Nat → Nat) (ha : Words a f) (w : World) : Calls Tryd.prog 28 #[.agg a] w fun e w' => e = .returned (.string ⟨(printH (hasN f)).toArray⟩) ∧ Below w.heap.size w w' := by
  have hs1 : (Tryd.prog.info? 30).map (·.size) = some a.size := by rw [ha.size]; exact info30
  have hR := fun W => refRanges_calls a f ha W
  have hord := rngH_ord (hasN f)
  have hpl := printH_len (hasN f)
  have hrl := rng_len_le (hasN f)
  change ∀ W, Calls Tryd.prog 24 #[Value.agg a] W (RgPost W (rngH (hasN f))) at hR
  unfold printH at *
  generalize rngH (hasN f) = rs at *
  go_enter Tryd.func28, Tryd.ntmps28
  go_wp2_with (refine wpList_load_row rfl 30 _ rfl w.heap.size rfl 30 a (0, 0) _ (heapN w _) Tryd.underlying30 rfl hs1 ?_)
  refine (hR _).mono ?_
  rintro e w1 ⟨v, rfl, hl1, hb1⟩
  have hbw1 : Below w.heap.size w w1 := (below_new' w _).trans (hb1.mono (by simp))
  have hl1 := own_weaken hl1 (show w.heap.size ≤ _ by simp)
  obtain ⟨A, c, rfl⟩ := own_slice hl1
  clear hb1 hR
  go_wp2_with fail
  go_loopw [3, 5] (fun out i wr => ∃ k : Nat, k ≤ rs.length ∧ i = .int .i64 k ∧ wr.ownsRow w.heap.size 5 1 out (bI (printV (rs.take k))).length (nums .u8 (bI (printV (rs.take k)))) ∧ Below w.heap.size w wr ∧ wr.ownsRow w.heap.size 53 2 (.slice A rs.length c) rs.length (flatR rs)) (fun _ i _ => rs.length - (intOf i).toNat)
  case atStart => exact ⟨0, by omega, rfl, own_nil _ _ _ _, hbw1, hl1⟩
  case round =>
    obtain ⟨k, hk, rfl, hown, hb, hl⟩ := hrel
    clear hl1 hbw1
    have hpk := print_take_le rs k
    by_cases hkl : k < rs.length
    · obtain ⟨g, cap, hgA, -, -⟩ := hl.form (by omega)
      obtain rfl : A = some ⟨g, 0, none⟩ := by injection hgA
      clear hgA
      obtain ⟨p, hp⟩ : ∃ p, rs[k]? = some p := ⟨rs[k], List.getElem?_eq_getElem hkl⟩
      obtain ⟨hp12, hp2⟩ := hord p (List.mem_of_getElem? hp)
      obtain ⟨f1, f2⟩ := flatR_at rs k p hp
      have hcells : ∀ W : World, W.ownsRow w.heap.size 53 2 (.slice (some ⟨g, 0, none⟩) rs.length c) rs.length (flatR rs) → W.cell? ⟨g, k * 2, none⟩ = some (.int .i64 (p.1 : Int)) ∧ W.cell? ⟨g, k * 2 + 1, none⟩ = some (.int .i64 (p.2 : Int)) := fun W h =>
        ⟨(h.cellAt (k * 2) (by omega)).trans f1, (h.cellAt (k * 2 + 1) (by omega)).trans f2⟩
      have hnext := Lib.hid (print_snoc rs k p hp)
      have hgo : decide ((k : Int) < (rs.length : Int)) = true := decide_eq_true (by omega)
      have hD1 := fun W => decimal_calls p.1 (by omega) W
      have hD2 := fun W => decimal_calls p.2 hp2 W
      have hT : rangeT p = Lib.decDigits p.1 ++ if p.1 < p.2 then 45 :: Lib.decDigits p.2 else [] := rfl
      have hd1 := dig_len_le 4 p.1 (by omega)
      have hd2 := dig_len_le 4 p.2 (by omega)
      clear f1 f2
      generalize rangeT p = T at *
      generalize Lib.decDigits p.1 = D1 at *
      generalize Lib.decDigits p.2 = D2 at *
      generalize p.1 = p1 at *
      generalize p.2 = p2 at *
      have hs1 : (⟨D1.toArray⟩ : ByteArray).size ≤ 5 := by rw [size_mk]; exact hd1
      have hs2 : (⟨D2.toArray⟩ : ByteArray).size ≤ 5 := by rw [size_mk]; exact hd2
      replace hT := Lib.hid hT
      generalize hP : printV (rs.take k) = P at *
      have hPl := bI_len P
      have hBs := hb.size
      replace hcells := Lib.hid hcells
      have hlt : (p1 < p2 ∧ decide ((p1 : Int) < (p2 : Int)) = true) ∨ (¬ p1 < p2 ∧ decide ((p1 : Int) < (p2 : Int)) = false) := by
        by_cases h : p1 < p2
        · exact Or.inl ⟨h, decide_eq_true (by omega)⟩
        · exact Or.inr ⟨h, decide_eq_false (by omega)⟩
      replace hlt : (p1 < p2 ∧ decide (p1 < p2) = true) ∨ (¬ p1 < p2 ∧ decide (p1 < p2) = false) := by
        by_cases h : p1 < p2
        · exact Or.inl ⟨h, decide_eq_true h⟩
        · exact Or.inr ⟨h, decide_eq_false h⟩
      replace hP := Lib.hid hP
      have k0 : (0 : Int) ≤ (k : Int) := by omega
      have k1 : (k : Int) < (rs.length : Int) := by omega
      rcases Nat.eq_zero_or_pos k with hk0 | hk0
      · have hk1 : decide ((0 : Int) < (k : Int)) = false := decide_eq_false (by omega)
        have hk1n : decide (0 < k) = false := decide_eq_false (by omega)
        replace hk0 := Lib.hid hk0
        obtain ⟨c3, c4⟩ := hcells.out wr hl
        go_wp2_with fail
        refine (hD1 _).mono ?_
        rintro e w2 ⟨rfl, hb2⟩
        have ho2 := pw_own_below hown hb2
        have hl2 := pw_own_below hl hb2
        have hbw2 := hb.trans (hb2.mono hb.size)
        have hsz2 := hbw2.size
        clear hb2 hD1
        go_wp2_with (at_builtin; refine print_append_str w.heap.size rfl (.tmp 19) (.tmp 25) 26 9 5 rfl Tryd.underlying26 Tryd.underlying9 info_u8 u3 (bI P) ⟨D1.toArray⟩ rfl rfl ho2 hbw2 hsz2 (by first | omega | (simp; omega)) ?_; intro v3 w3 ho3 hb3 hg3; have hl3 := hl2.kept hg3 (own_type_ne hl2 ho2 (by decide)); obtain ⟨c5, c6⟩ := hcells.out w3 hl3)
        have e3 : (bI P) ++ bytesOf ⟨D1.toArray⟩ = bI (P ++ D1) := by rw [bI_of]; simp [bI]
        rw [e3] at ho3
        clear e3
        go_quiet (fail)
        have ho4 := own_drewN' ho3 nq
        have hl4 := own_drewN' hl3 nq
        have hb4 := below_drewN hb3 nq
        have c7 : (w3.drewN nq).cell? ⟨g, k * 2 + 1, none⟩ = some (.int .i64 (p2 : Int)) := c6
        generalize w3.drewN nq = w4 at *
        have hsz4 := hb4.size
        have hQ4 := bI_len (P ++ D1)
        simp only [List.length_append, List.length_cons, List.length_nil] at hQ4
        clear c5 c6 hg3 hl3 hb3 ho3 hl2 hbw2 ho2
        rcases hlt with ⟨hlt, h12⟩ | ⟨hlt, h12⟩
        · rw [if_pos hlt] at hT
          go_wp2_with (at_builtin; refine app_byte w.heap.size rfl (.tmp 38) (.tmp 39) rfl v3 (bI (P ++ D1)) 45 rfl rfl ho4 hb4 hsz4 (by omega) ?_; intro v5 w5 ho5 hb5 hg5; have hl5 := (hl4.alloc (.cells #[.int .u8 45] 5)).kept hg5 (own_type_ne hl4 ho4 (by decide)); obtain ⟨c5, c8⟩ := hcells.out w5 hl5)
          refine (hD2 _).mono ?_
          rintro e w6 ⟨rfl, hb6⟩
          have ho6 := pw_own_below ho5 hb6
          have hl6 := pw_own_below hl5 hb6
          have hbw6 := hb5.trans (hb6.mono hb5.size)
          have hsz6 := hbw6.size
          have e6 : (bI (P ++ D1) ++ [45]).length = P.length + D1.length + 1 := by rw [List.length_append, hQ4]; first | (simp; done) | (simp; omega)
          clear hb6 hD2 c5 c8 c7 ho4 hb4 hl4
          go_wp2_with (at_builtin; refine print_append_str w.heap.size rfl (.tmp 41) (.tmp 47) 26 9 5 rfl Tryd.underlying26 Tryd.underlying9 info_u8 v5 (bI (P ++ D1) ++ [45]) ⟨D2.toArray⟩ rfl rfl ho6 hbw6 hsz6 (by omega) ?_; intro v7 w7 ho7 hb7 hg7; have hl7 := hl6.kept hg7 (own_type_ne hl6 ho6 (by decide)))
          have e7 : bI (P ++ D1) ++ [45] ++ bytesOf ⟨D2.toArray⟩ = bI (printV (rs.take (k + 1))) := by rw [bI_of, hnext.out, hT.out, if_pos hk0.out]; simp [bI]
          rw [e7] at ho7
          exact ⟨⟨k + 1, by omega, by go_num, ho7, hb7, hl7⟩, by simp [intOf]; omega⟩
        · rw [if_neg hlt] at hT
          go_wp2_with fail
          have e7 : bI (P ++ D1) = bI (printV (rs.take (k + 1))) := by rw [hnext.out, hT.out, if_pos hk0.out]; simp [bI]
          rw [e7] at ho4
          exact ⟨⟨k + 1, by omega, by go_num, ho4, hb4, hl4⟩, by simp [intOf]; omega⟩
      · have hk1 : decide ((0 : Int) < (k : Int)) = true := decide_eq_true (by omega)
        have hk1n : decide (0 < k) = true := decide_eq_true hk0
        have hne : ¬ k = 0 := by omega
        go_wp2_with (at_builtin; refine app_byte w.heap.size rfl (.tmp 16) (.tmp 17) rfl u3 (bI P) 32 rfl rfl hown hb hb.size (by omega) ?_; intro v1 w1 ho1 hb1 hg1; have hl1 := (hl.alloc (.cells #[.int .u8 32] 5)).kept hg1 (own_type_ne hl hown (by decide)); obtain ⟨c3, c4⟩ := hcells.out w1 hl1)
        refine (hD1 _).mono ?_
        rintro e w2 ⟨rfl, hb2⟩
        have ho2 := pw_own_below ho1 hb2
        have hl2 := pw_own_below hl1 hb2
        have hbw2 := hb1.trans (hb2.mono hb1.size)
        have hsz2 := hbw2.size
        clear hb2 hD1
        go_wp2_with (at_builtin; refine print_append_str w.heap.size rfl (.tmp 19) (.tmp 25) 26 9 5 rfl Tryd.underlying26 Tryd.underlying9 info_u8 v1 (bI P ++ [32]) ⟨D1.toArray⟩ rfl rfl ho2 hbw2 hsz2 (by first | omega | (simp; omega)) ?_; intro v3 w3 ho3 hb3 hg3; have hl3 := hl2.kept hg3 (own_type_ne hl2 ho2 (by decide)); obtain ⟨c5, c6⟩ := hcells.out w3 hl3)
        have e3 : (bI P ++ [32]) ++ bytesOf ⟨D1.toArray⟩ = bI (P ++ [32] ++ D1) := by rw [bI_of]; simp [bI]
        rw [e3] at ho3
        clear e3
        go_quiet (fail)
        have ho4 := own_drewN' ho3 nq
        have hl4 := own_drewN' hl3 nq
        have hb4 := below_drewN hb3 nq
        have c7 : (w3.drewN nq).cell? ⟨g, k * 2 + 1, none⟩ = some (.int .i64 (p2 : Int)) := c6
        generalize w3.drewN nq = w4 at *
        have hsz4 := hb4.size
        have hQ4 := bI_len (P ++ [32] ++ D1)
        simp only [List.length_append, List.length_cons, List.length_nil] at hQ4
        clear c5 c6 hg3 hl3 hb3 ho3 hl2 hbw2 ho2
        rcases hlt with ⟨hlt, h12⟩ | ⟨hlt, h12⟩
        · rw [if_pos hlt] at hT
          go_wp2_with (at_builtin; refine app_byte w.heap.size rfl (.tmp 38) (.tmp 39) rfl v3 (bI (P ++ [32] ++ D1)) 45 rfl rfl ho4 hb4 hsz4 (by omega) ?_; intro v5 w5 ho5 hb5 hg5; have hl5 := (hl4.alloc (.cells #[.int .u8 45] 5)).kept hg5 (own_type_ne hl4 ho4 (by decide)); obtain ⟨c5, c8⟩ := hcells.out w5 hl5)
          refine (hD2 _).mono ?_
          rintro e w6 ⟨rfl, hb6⟩
          have ho6 := pw_own_below ho5 hb6
          have hl6 := pw_own_below hl5 hb6
          have hbw6 := hb5.trans (hb6.mono hb5.size)
          have hsz6 := hbw6.size
          have e6 : (bI (P ++ [32] ++ D1) ++ [45]).length = P.length + D1.length + 2 := by rw [List.length_append, hQ4]; first | (simp; done) | (simp; omega)
          clear hb6 hD2 c5 c8 c7 ho4 hb4 hl4
          go_wp2_with (at_builtin; refine print_append_str w.heap.size rfl (.tmp 41) (.tmp 47) 26 9 5 rfl Tryd.underlying26 Tryd.underlying9 info_u8 v5 (bI (P ++ [32] ++ D1) ++ [45]) ⟨D2.toArray⟩ rfl rfl ho6 hbw6 hsz6 (by omega) ?_; intro v7 w7 ho7 hb7 hg7; have hl7 := hl6.kept hg7 (own_type_ne hl6 ho6 (by decide)))
          have e7 : bI (P ++ [32] ++ D1) ++ [45] ++ bytesOf ⟨D2.toArray⟩ = bI (printV (rs.take (k + 1))) := by rw [bI_of, hnext.out, hT.out, if_neg hne]; simp [bI]
          rw [e7] at ho7
          exact ⟨⟨k + 1, by omega, by go_num, ho7, hb7, hl7⟩, by simp [intOf]; omega⟩
        · rw [if_neg hlt] at hT
          go_wp2_with fail
          have e7 : bI (P ++ [32] ++ D1) = bI (printV (rs.take (k + 1))) := by rw [hnext.out, hT.out, if_neg hne]; simp [bI]
          rw [e7] at ho4
          exact ⟨⟨k + 1, by omega, by go_num, ho4, hb4, hl4⟩, by simp [intOf]; omega⟩
    · obtain rfl : k = rs.length := by omega
      have hgo : decide ((rs.length : Int) < (rs.length : Int)) = false := decide_eq_false (by omega)
      rw [List.take_of_length_le (Nat.le_refl _)] at hown
      have hcv := own_string (P := Tryd.prog) (dst := 9) (src := 26) Tryd.underlying26 Tryd.underlying5 Tryd.underlying9 hown
      go_wp2_with fail
      go_ret
      exact ⟨ret_str (str_bI _), hb⟩
end Go.Proofs.YtnlchdjknebmfaaDoor
