/- Walks of the reference's numbers and Read: what they come to. Conditions: texts of at most 2^20 bytes. -/
import Derived.Test.YtpbiohnmmngccaaGreatDoorRtT
import Derived.OwnWalk
import Derived.Laws.AppendOwn
import Derived.Laws.OwnMore
set_option linter.unusedVariables false
set_option linter.unusedSimpArgs false
namespace Go.Proofs.YtpbiohnmmngccaaGreatDoor
open Go.RowKit Go.Proofs.YtpbiohnmmngccaaGreatDoorW.PrintWords
open RtS RtR R04P

theorem Whole_calls (s : ByteArray) (hs : s.size ≤ 140737488351232) : ∃ v : Int, (isNum s.data.toList = true → v = Dec.numVal s.data.toList) ∧ ∀ w : World,
    Calls Tryz.prog 48 #[.string s] w fun e w' => e = .returned (.tuple #[.int .i64 v, .bool (isNum s.data.toList)]) ∧ Below w.heap.size w w' := by
  obtain ⟨v, h1, h2⟩ := whole_eq s hs (2 * s.size + 41) (by omega)
  exact ⟨v, h2, fun w => RR04.marshalyardref04_Whole.calls _ s v _ w h1⟩

def nLoop (p : List UInt8) : List UInt8 → Option (List Int)
  | [] => if good p then some [Dec.numVal p] else none
  | c :: r => if c = 32 then (if good p then (nLoop [] r).map (Dec.numVal p :: ·) else none) else nLoop (p ++ [c]) r
theorem nLoop_eq (r : List UInt8) : ∀ p : List UInt8, (32 : UInt8) ∉ p → nLoop p r = if (sp (p ++ r)).all good then some ((sp (p ++ r)).map Dec.numVal) else none := by
  induction r with
  | nil => intro p hp; simp [nLoop, sp_of_free hp]
  | cons c r ih =>
    intro p hp
    unfold nLoop
    by_cases hc : c = 32
    · subst hc
      rw [if_pos rfl, sp_append hp, ih [] (by simp)]
      simp only [List.nil_append, List.all_cons, List.map_cons]
      cases good p <;> cases (sp r).all good <;> simp
    · rw [if_neg hc, ih (p ++ [c]) (by simp [hp]; exact fun e => hc e.symm)]
      simp
theorem nums_loop (l w : List UInt8) (h : ¬ (l.length ≤ w.length ∨ l.take w.length ≠ w ∨ l.getD w.length 0 ≠ 32)) : numsV l w = match nLoop [] (l.drop (w.length + 1)) with
    | some r => (r, true)
    | none => ([], false) := by
  unfold numsV
  rw [if_neg h, nLoop_eq _ [] (by simp)]
  simp only [List.nil_append]
  split <;> rename_i h2 <;> simp_all

/-- a slice of ints in new memory, read as a list -/
def IntsAt (W : World) (v : Value) (l : List Int) : Prop := W.ownsRow 0 3 1 v l.length (l.map (Value.int .i64))

theorem info_int : (Tryz.prog.info? 3).map (fun i => (i.zero, i.size, i.bytes)) = some (some (.int .i64 0), 1, 8) := by kernel_rfl

/-- what numbers answers: a flag, and a row of its own that holds the numbers -/
theorem nl_end {p : List UInt8} (h : good p = true) : nLoop p [] = some [Dec.numVal p] := by simp [nLoop, h]
theorem nl_end_bad {p : List UInt8} (h : good p = false) : nLoop p [] = none := by simp [nLoop, h]
theorem nl_blank {p r : List UInt8} (h : good p = true) : nLoop p (32 :: r) = (nLoop [] r).map (Dec.numVal p :: ·) := by simp [nLoop, h]
theorem nl_blank_bad {p r : List UInt8} (h : good p = false) : nLoop p (32 :: r) = none := by simp [nLoop, h]
theorem nl_other {p r : List UInt8} {c : UInt8} (h : c ≠ 32) : nLoop p (c :: r) = nLoop (p ++ [c]) r := by simp [nLoop, h]
theorem drop_at (s : ByteArray) (j : Nat) (h : j < s.size) : s.data.toList.drop j = (s[j]'h) :: s.data.toList.drop (j + 1) := by
  rw [R04P.drop_cons s j h]
  simp [ByteArray.getElem_eq_getElem_data]
theorem piece_next (s : ByteArray) (f j : Nat) (hf : f ≤ j) (h : j < s.size) : (s.data.toList.drop f).take (j + 1 - f) = (s.data.toList.drop f).take (j - f) ++ [s[j]'h] := by
  rw [show j + 1 - f = (j - f) + 1 from by omega, List.take_succ_eq_append_getElem (by rw [List.length_drop, R04P.len_data]; omega)]
  congr 2
  rw [List.getElem_drop]
  simp [show f + (j - f) = j from by omega, ByteArray.getElem_eq_getElem_data]
theorem map_map_cons {acc : List Int} {x : Int} {o : Option (List Int)} : ((o.map (x :: ·)).map (acc ++ ·)) = o.map ((acc ++ [x]) ++ ·) := by
  cases o <;> simp
theorem news1 (w : World) (v : Value) (T : TypeId) : ∀ (j : Nat) (u : Value), [v][j]? = some u → (w.alloc (.cells #[v] T)).cell? ((⟨w.heap.size, 0, none⟩ : Addr).add j) = some u := by
  intro j u h
  cases j with
  | zero =>
    simp only [List.getElem?_cons_zero, Option.some.injEq] at h
    subst h
    simp [Addr.add, go_sem]
  | succ j => simp at h
theorem one_int (k : IntKind) (v : Int) : ∀ u ∈ [Value.int k v], u.oneCell' = true := fun u h => by
  rw [List.mem_singleton.1 h]; rfl
theorem alloc_ge {n : Nat} {w : World} (h : n ≤ w.heap.size) (o : Obj) : n ≤ (w.alloc o).heap.size := by
  simp; omega
def NumsPost (w : World) (x : List Int × Bool) (e : Ending) (w' : World) : Prop :=
  ∃ v, e = .returned (.tuple #[v, .bool x.2]) ∧ w'.ownsRow w.heap.size 3 1 v x.1.length (x.1.map (Value.int .i64)) ∧ Below w.heap.size w w'

set_option maxHeartbeats 2000000 in
set_option maxRecDepth 100000 in
theorem numbers_calls (s wd : ByteArray) (hs : s.size ≤ 1048576) (w : World) :
    Calls Tryz.prog 35 #[.string s, .string wd] w (NumsPost w (numsV s.data.toList wd.data.toList)) := by
  obtain ⟨i0, hi0, hz0, hz1, hz2⟩ := info_parts info_int
  by_cases h1 : s.size ≤ wd.size
  · have hN : Hid (numsV s.data.toList wd.data.toList = ([], false)) := by
      show _ = _
      unfold numsV
      rw [if_pos (Or.inl (by rw [R04P.len_data, R04P.len_data]; exact h1))]
    generalize numsV s.data.toList wd.data.toList = X at *
    go_enter Tryz.func35, Tryz.ntmps35
    go_wp2
    go_ret2
    exact ⟨.slice none 0 0, by rw [hN.out]; rfl, by rw [hN.out]; exact own_nil _ _ _ _, Below.refl _ _⟩
  · have hlt : wd.size < s.size := by omega
    have hle : wd.size ≤ s.size := by omega
    have et : (s.extract 0 wd.size).data.toList = s.data.toList.take wd.data.toList.length := by rw [Lib.extract_data, R04P.len_data]; simp
    by_cases h2 : (s.extract 0 wd.size).toList = wd.toList
    · have ht : s.data.toList.take wd.data.toList.length = wd.data.toList := by
        rw [Lib.toList_data, Lib.toList_data, et] at h2
        exact h2
      have eg : s.data.toList.getD wd.data.toList.length 0 = s[wd.size]'hlt := by
        rw [R04P.len_data]
        have := R04P.len_data s
        simp [hlt, ByteArray.getElem_eq_getElem_data]
      by_cases h3 : s[wd.size]'hlt = 32
      · have hno : ¬ (s.data.toList.length ≤ wd.data.toList.length ∨ s.data.toList.take wd.data.toList.length ≠ wd.data.toList ∨ s.data.toList.getD wd.data.toList.length 0 ≠ 32) := by
          rintro (h | h | h)
          · rw [R04P.len_data, R04P.len_data] at h; omega
          · exact h ht
          · exact h (eg.trans h3)
        have hN := nums_loop _ _ hno
        rw [R04P.len_data wd] at hN
        clear hno eg ht et
        have HN := Lib.hid hN
        clear hN
        generalize numsV s.data.toList wd.data.toList = X at *
        have h3b : ((s[wd.size]'hlt).toNat : Int) = 32 := by rw [h3]; rfl
        clear h3
        go_enter Tryz.func35, Tryz.ntmps35
        go_wp2
        go_loopw [7, 8, 9] (fun out fr k wr => ∃ (acc : List Int) (f j : Nat), fr = .int .i64 f ∧ k = .int .i64 j ∧ f ≤ j ∧ j ≤ s.size + 1 ∧ acc.length ≤ j ∧
            wr.ownsRow w.heap.size 3 1 out acc.length (acc.map (Value.int .i64)) ∧ Below w.heap.size w wr ∧
            ((j ≤ s.size ∧ (32 : UInt8) ∉ (s.data.toList.drop f).take (j - f) ∧ nLoop [] (s.data.toList.drop (wd.size + 1)) = (nLoop ((s.data.toList.drop f).take (j - f)) (s.data.toList.drop j)).map (acc ++ ·)) ∨
             (j = s.size + 1 ∧ nLoop [] (s.data.toList.drop (wd.size + 1)) = some acc))) (fun _ _ k _ => s.size + 1 - (intOf k).toNat)
        case atStart =>
          refine ⟨[], wd.size + 1, wd.size + 1, by go_num, by go_num, Nat.le_refl _, by omega, by simp, own_nil _ _ _ _, Below.refl _ _, Or.inl ⟨by omega, by simp, ?_⟩⟩
          simp
        case round =>
          obtain ⟨acc, f, j, rfl, rfl, hfj, hj, hal, hown, hb, hst⟩ := hrel
          by_cases hjs : j ≤ s.size
          · have hst' : (32 : UInt8) ∉ (s.data.toList.drop f).take (j - f) ∧ nLoop [] (s.data.toList.drop (wd.size + 1)) = (nLoop ((s.data.toList.drop f).take (j - f)) (s.data.toList.drop j)).map (acc ++ ·) := by
              rcases hst with ⟨_, h1, h2⟩ | ⟨h1, _⟩
              · exact ⟨h1, h2⟩
              · omega
            clear hst
            obtain ⟨hfree, hR⟩ := hst'
            have hpe : (s.extract f j).data.toList = (s.data.toList.drop f).take (j - f) := Lib.extract_data s f j
            have hps : (s.extract f j).size ≤ 140737488351232 := by rw [ByteArray.size_extract]; omega
            obtain ⟨v, hv, hW⟩ := Whole_calls (s.extract f j) hps
            rw [hpe] at hv hW
            have hgd : good ((s.data.toList.drop f).take (j - f)) = (isNum ((s.data.toList.drop f).take (j - f)) && decide (0 ≤ v)) := by
              unfold good
              cases hi : isNum ((s.data.toList.drop f).take (j - f)) with
              | false => rfl
              | true => rw [hv hi]
            by_cases hsp : j = s.size ∨ ∃ h : j < s.size, s[j]'h = 32
            · -- a piece ends here
              have hbad : good ((s.data.toList.drop f).take (j - f)) = false → nLoop [] (s.data.toList.drop (wd.size + 1)) = none := by
                intro hg
                rw [hR]
                rcases hsp with e | ⟨h, e⟩
                · rw [List.drop_of_length_le (i := j) (by rw [R04P.len_data]; omega), nl_end_bad hg]; rfl
                · rw [drop_at s j h, e, nl_blank_bad hg]; rfl
              have hgood : good ((s.data.toList.drop f).take (j - f)) = true →
                  ((j + 1 ≤ s.size ∧ (32 : UInt8) ∉ (s.data.toList.drop (j + 1)).take (j + 1 - (j + 1)) ∧ nLoop [] (s.data.toList.drop (wd.size + 1)) = (nLoop ((s.data.toList.drop (j + 1)).take (j + 1 - (j + 1))) (s.data.toList.drop (j + 1))).map ((acc ++ [v]) ++ ·)) ∨
                   (j + 1 = s.size + 1 ∧ nLoop [] (s.data.toList.drop (wd.size + 1)) = some (acc ++ [v]))) := by
                intro hg
                have hi : isNum ((s.data.toList.drop f).take (j - f)) = true := by rw [hgd, Bool.and_eq_true] at hg; exact hg.1
                have hvv := hv hi
                rw [hR]
                rcases hsp with e | ⟨h, e⟩
                · right
                  refine ⟨by omega, ?_⟩
                  rw [List.drop_of_length_le (i := j) (by rw [R04P.len_data]; omega), nl_end hg, hvv]
                  rfl
                · left
                  refine ⟨by omega, by simp, ?_⟩
                  rw [drop_at s j h, e, nl_blank hg, map_map_cons, hvv]
                  simp
              clear hR
              generalize (s.data.toList.drop f).take (j - f) = P0 at *
              have Hbad := Lib.hid hbad
              have Hgood := Lib.hid hgood
              have Hgd := Lib.hid hgd
              clear hbad hgood hgd hv hpe hfree
              have hfj' : (f : Int) ≤ (j : Int) := by omega
              have hjs' : (j : Int) ≤ (s.size : Int) := by omega
              rcases hsp with e | ⟨h, e⟩
              · have ejb : ((j : Int) == (s.size : Int)) = true := by rw [beq_iff_eq]; omega
                clear e
                cases hn : isNum P0 with
                | false =>
                  rw [hn] at hW
                  have hgf : good P0 = false := by rw [Hgd.out, hn]; rfl
                  have HX := Lib.hid (show X = ([], false) by rw [HN.out, Hbad.out hgf])
                  clear hgf hn
                  go_wp2_with fail
                  refine (hW _).mono ?_
                  rintro e w1 ⟨rfl, hb1⟩
                  have hbb := hb.trans (hb1.mono hb.size)
                  go_wp2
                  go_ret2
                  exact ⟨.slice none 0 0, by rw [HX.out]; rfl, by rw [HX.out]; exact own_nil _ _ _ _, hbb⟩
                | true =>
                  rw [hn] at hW
                  by_cases hv0 : v < 0
                  · have hgf : good P0 = false := by rw [Hgd.out, hn]; simp; omega
                    have HX := Lib.hid (show X = ([], false) by rw [HN.out, Hbad.out hgf])
                    clear hgf hn
                    go_wp2_with fail
                    refine (hW _).mono ?_
                    rintro e w1 ⟨rfl, hb1⟩
                    have hbb := hb.trans (hb1.mono hb.size)
                    go_wp2
                    go_ret2
                    exact ⟨.slice none 0 0, by rw [HX.out]; rfl, by rw [HX.out]; exact own_nil _ _ _ _, hbb⟩
                  · have hgt : good P0 = true := by rw [Hgd.out, hn]; simp; omega
                    have Hg := Lib.hid (Hgood.out hgt)
                    clear hgt hn
                    go_wp2_with fail
                    refine (hW _).mono ?_
                    rintro e w1 ⟨rfl, hb1⟩
                    have hbb := hb.trans (hb1.mono hb.size)
                    have hown1 := pw_own_below hown hb1
                    have hc3 : acc.length + 1 ≤ maxLen := by unfold maxLen; omega
                    have hc4 : (acc.length + 1) * 8 ≤ 140737488355328 := by omega
                    have hc5 := alloc_ge hbb.size (.cells #[.int .i64 v] 3)
                    go_wp2_with (at_builtin; refine wpList_append_own _ rfl _ _ 79 rfl w.heap.size 3 i0 (.int .i64 0) 1 8 Tryz.underlying79 hi0 hz0 hz1 hz2 rfl (by decide) _ _ _ rfl (hown1.alloc _) ⟨w1.heap.size, 0, none⟩ 1 1 [.int .i64 v] rfl rfl (news1 _ _ _) (one_int _ _) hc3 hc4 hc5 ?_; intro v' w2 hown2 hgrow _)
                    have hb2 := (hbb.alloc hbb.size (.cells #[.int .i64 v] 3)).grown hgrow hc5 (fun k hk => own_base hown1 k hk)
                    go_wp2
                    go_roundw
                    case rel =>
                      refine ⟨acc ++ [v], j + 1, j + 1, by go_num, by go_num, Nat.le_refl _, by omega, by simp; omega, ?_, hb2, Hg.out⟩
                      simpa using hown2
                    case measure => simp [intOf]; omega
              · have ejb : ((j : Int) == (s.size : Int)) = false := by rw [beq_eq_false_iff_ne]; omega
                have e32 : ((s[j]'h).toNat : Int) = 32 := by rw [e]; rfl
                have hjlt : (j : Int) < (s.size : Int) := by omega
                clear e
                cases hn : isNum P0 with
                | false =>
                  rw [hn] at hW
                  have hgf : good P0 = false := by rw [Hgd.out, hn]; rfl
                  have HX := Lib.hid (show X = ([], false) by rw [HN.out, Hbad.out hgf])
                  clear hgf hn
                  go_wp2_with fail
                  refine (hW _).mono ?_
                  rintro e w1 ⟨rfl, hb1⟩
                  have hbb := hb.trans (hb1.mono hb.size)
                  go_wp2
                  go_ret2
                  exact ⟨.slice none 0 0, by rw [HX.out]; rfl, by rw [HX.out]; exact own_nil _ _ _ _, hbb⟩
                | true =>
                  rw [hn] at hW
                  by_cases hv0 : v < 0
                  · have hgf : good P0 = false := by rw [Hgd.out, hn]; simp; omega
                    have HX := Lib.hid (show X = ([], false) by rw [HN.out, Hbad.out hgf])
                    clear hgf hn
                    go_wp2_with fail
                    refine (hW _).mono ?_
                    rintro e w1 ⟨rfl, hb1⟩
                    have hbb := hb.trans (hb1.mono hb.size)
                    go_wp2
                    go_ret2
                    exact ⟨.slice none 0 0, by rw [HX.out]; rfl, by rw [HX.out]; exact own_nil _ _ _ _, hbb⟩
                  · have hgt : good P0 = true := by rw [Hgd.out, hn]; simp; omega
                    have Hg := Lib.hid (Hgood.out hgt)
                    clear hgt hn
                    go_wp2_with fail
                    refine (hW _).mono ?_
                    rintro e w1 ⟨rfl, hb1⟩
                    have hbb := hb.trans (hb1.mono hb.size)
                    have hown1 := pw_own_below hown hb1
                    have hc3 : acc.length + 1 ≤ maxLen := by unfold maxLen; omega
                    have hc4 : (acc.length + 1) * 8 ≤ 140737488355328 := by omega
                    have hc5 := alloc_ge hbb.size (.cells #[.int .i64 v] 3)
                    go_wp2_with (at_builtin; refine wpList_append_own _ rfl _ _ 79 rfl w.heap.size 3 i0 (.int .i64 0) 1 8 Tryz.underlying79 hi0 hz0 hz1 hz2 rfl (by decide) _ _ _ rfl (hown1.alloc _) ⟨w1.heap.size, 0, none⟩ 1 1 [.int .i64 v] rfl rfl (news1 _ _ _) (one_int _ _) hc3 hc4 hc5 ?_; intro v' w2 hown2 hgrow _)
                    have hb2 := (hbb.alloc hbb.size (.cells #[.int .i64 v] 3)).grown hgrow hc5 (fun k hk => own_base hown1 k hk)
                    go_wp2
                    go_roundw
                    case rel =>
                      refine ⟨acc ++ [v], j + 1, j + 1, by go_num, by go_num, Nat.le_refl _, by omega, by simp; omega, ?_, hb2, Hg.out⟩
                      simpa using hown2
                    case measure => simp [intOf]; omega
            · have hjlt0 : j < s.size := by
                by_cases e : j = s.size
                · exact absurd (Or.inl e) hsp
                · omega
              have hne : s[j]'hjlt0 ≠ 32 := fun e => hsp (Or.inr ⟨hjlt0, e⟩)
              have hnext : (32 : UInt8) ∉ (s.data.toList.drop f).take (j + 1 - f) ∧ nLoop [] (s.data.toList.drop (wd.size + 1)) = (nLoop ((s.data.toList.drop f).take (j + 1 - f)) (s.data.toList.drop (j + 1))).map (acc ++ ·) := by
                rw [piece_next s f j hfj hjlt0]
                refine ⟨by simp [hfree]; exact fun e => hne e.symm, ?_⟩
                rw [hR, drop_at s j hjlt0, nl_other hne]
              have Hnext := Lib.hid hnext
              have ejb : ((j : Int) == (s.size : Int)) = false := by rw [beq_eq_false_iff_ne]; omega
              have e32 : ¬ ((s[j]'hjlt0).toNat : Int) = 32 := fun h => hne (UInt8.toNat_inj.mp (by show (s[j]'hjlt0).toNat = 32; omega))
              have hjlt : (j : Int) < (s.size : Int) := by omega
              clear hnext hR hfree hsp hne hgd hv hpe hW hps
              go_wp2
              go_roundw
              case rel => exact ⟨acc, f, j + 1, rfl, by go_num, by omega, by omega, by omega, hown, hb, Or.inl ⟨by omega, Hnext.out.1, Hnext.out.2⟩⟩
              case measure => simp [intOf]; omega
          · have hX : nLoop [] (s.data.toList.drop (wd.size + 1)) = some acc := by
              rcases hst with ⟨h1, _⟩ | ⟨_, h1⟩
              · omega
              · exact h1
            have HX := Lib.hid (show X = (acc, true) by rw [HN.out, hX])
            obtain rfl : j = s.size + 1 := by omega
            clear hX hst
            go_wp2
            go_ret2
            exact ⟨u7, by rw [HX.out]; rfl, by rw [HX.out]; exact hown, hb⟩
      · have hN : Hid (numsV s.data.toList wd.data.toList = ([], false)) := by
          show _ = _
          unfold numsV
          rw [if_pos (Or.inr (Or.inr (by rw [eg]; exact h3)))]
        generalize numsV s.data.toList wd.data.toList = X at *
        have h3b : ¬ ((s[wd.size]'hlt).toNat : Int) = 32 := fun h => h3 (UInt8.toNat_inj.mp (by show (s[wd.size]'hlt).toNat = 32; omega))
        clear et eg ht h3
        go_enter Tryz.func35, Tryz.ntmps35
        go_wp2
        go_ret2
        exact ⟨.slice none 0 0, by rw [hN.out]; rfl, by rw [hN.out]; exact own_nil _ _ _ _, Below.refl _ _⟩
    · have hN : Hid (numsV s.data.toList wd.data.toList = ([], false)) := by
        show _ = _
        unfold numsV
        rw [if_pos (Or.inr (Or.inl (by rw [← et]; rw [Lib.toList_data, Lib.toList_data] at h2; exact h2)))]
      generalize numsV s.data.toList wd.data.toList = X at *
      clear et
      have h2b : ((s.extract 0 wd.size).toList == wd.toList) = false := by rw [beq_eq_false_iff_ne]; exact h2
      clear h2
      go_enter Tryz.func35, Tryz.ntmps35
      go_wp2
      go_ret2
      exact ⟨.slice none 0 0, by rw [hN.out]; rfl, by rw [hN.out]; exact own_nil _ _ _ _, Below.refl _ _⟩
end Go.Proofs.YtpbiohnmmngccaaGreatDoor
