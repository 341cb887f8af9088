/- slot.Parse: of a text that is written for a set of slots that set, else a refusal. Conditions: the listed variables as laid; texts within the form's reach. -/
import Derived.Test.YtnlchdjknebmfaaDoorSlL
set_option linter.unusedVariables false
set_option linter.unusedSimpArgs false
namespace Go.Proofs.YtnlchdjknebmfaaDoor
open Go.RowKit Go.Proofs.YtnlchdjknebmfaaDoorW.PrintWords
open SlS SlT
theorem fieldsGoD_len : ∀ (f : Nat) (l cur : List UInt8), ∀ x ∈ Lib.fieldsGoD f cur l, x.length ≤ cur.length + l.length
  | 0, l, cur, x, hx => by
    unfold Lib.fieldsGoD at hx
    split at hx
    · cases hx
    · rw [List.mem_singleton.1 hx]; omega
  | f + 1, l, cur, x, hx => by
    unfold Lib.fieldsGoD at hx
    split at hx
    · split at hx
      · cases hx
      · rw [List.mem_singleton.1 hx]; omega
    · split at hx
      · rcases List.mem_append.1 hx with hx | hx
        · split at hx
          · cases hx
          · rw [List.mem_singleton.1 hx]; omega
        · have := fieldsGoD_len f _ [] x hx
          simp at this; omega
      · have := fieldsGoD_len f _ _ x hx
        simp at this; omega
theorem fieldsD_len (l x : List UInt8) (h : x ∈ Lib.fieldsD l) : x.length ≤ l.length := by
  have := fieldsGoD_len _ l [] x h
  simpa using this
theorem fieldsGoD_count : ∀ (f : Nat) (l cur : List UInt8), (Lib.fieldsGoD f cur l).length ≤ f + 1
  | 0, l, cur => by unfold Lib.fieldsGoD; split <;> simp
  | f + 1, l, cur => by
    unfold Lib.fieldsGoD
    split
    · split <;> simp
    · split
      · have := fieldsGoD_count f (l.drop (Lib.decodeL l).2) []
        rw [List.length_append]
        split <;> simp <;> omega
      · have := fieldsGoD_count f (l.drop (Lib.decodeL l).2) (cur ++ l.take (Lib.decodeL l).2)
        omega
theorem fieldsD_count (l : List UInt8) : (Lib.fieldsD l).length ≤ l.length + 2 := fieldsGoD_count _ l []
theorem cut_len (x : List UInt8) : (Lib.cut x [45]).1.length ≤ x.length ∧ (Lib.cut x [45]).2.1.length ≤ x.length := by
  unfold Lib.cut
  split
  · simp; omega
  · simp
def flatI (l : List (Int × Int)) : List Value := l.flatMap fun p => [.int .i64 p.1, .int .i64 p.2]
theorem flatI_append (l r : List (Int × Int)) : flatI (l ++ r) = flatI l ++ flatI r := by simp [flatI]
theorem flatI_len (l : List (Int × Int)) : (flatI l).length = l.length * 2 := by
  induction l with
  | nil => rfl
  | cons p r ih => simp [flatI] at ih ⊢; omega
theorem flatI_at (rs : List (Int × Int)) (k : Nat) (p : Int × Int) (h : rs[k]? = some p) : (flatI rs)[k * 2]? = some (.int .i64 p.1) ∧ (flatI rs)[k * 2 + 1]? = some (.int .i64 p.2) := by
  induction rs generalizing k with
  | nil => simp at h
  | cons q rs ih =>
    have e : flatI (q :: rs) = .int .i64 q.1 :: .int .i64 q.2 :: flatI rs := rfl
    rw [e]
    cases k with
    | zero => simp at h; subst h; exact ⟨rfl, rfl⟩
    | succ k =>
      have := ih k (by simpa using h)
      rw [show (k + 1) * 2 = k * 2 + 1 + 1 by omega]
      simpa using this
theorem rd_of_own {w : World} {base c : Nat} {A : Option Addr} {l : List (Int × Int)} (h : w.ownsRow base 53 2 (.slice A l.length c) l.length (flatI l)) : RdR w A l := fun k p hk => by
  have hkl : k < l.length := (List.getElem?_eq_some_iff.1 hk).1
  obtain ⟨g, cap, hgA, -, hlt⟩ := h.form (by omega)
  obtain rfl : A = some ⟨g, 0, none⟩ := by injection hgA
  obtain ⟨f1, f2⟩ := flatI_at l k p hk
  refine ⟨g, 0, rfl, hlt, ?_, ?_⟩
  · rw [Nat.zero_add, h.cellAt (k * 2) (by omega)]; exact f1
  · rw [Nat.zero_add, h.cellAt (k * 2 + 1) (by omega)]; exact f2
theorem flatI_intR (rs : List (Nat × Nat)) : flatI (intR rs) = flatR rs := by
  unfold flatI intR flatR
  rw [List.flatMap_map]
theorem rd_of_rng {w : World} {base c : Nat} {A : Option Addr} {rs : List (Nat × Nat)} (h : w.ownsRow base 53 2 (.slice A rs.length c) rs.length (flatR rs)) : RdR w A (intR rs) := by
  have e : (intR rs).length = rs.length := by simp [intR]
  refine rd_of_own (base := base) (c := c) ?_
  rw [e, flatI_intR]; exact h
/-- just a text that is written for a set of slots is read, as that set -/
def PsPost (w : World) (s : List UInt8) (e : Ending) (w' : World) : Prop :=
  ((∃ a f, e = .returned (.tuple #[.agg a, .int .i64 0]) ∧ Words a f ∧ printH (hasN f) = s) ∨ ((∀ H, printH H ≠ s) ∧ e = .returned (.tuple #[.agg Tryd.zeroCells30, .int .i64 20]))) ∧ Below w.heap.size w w'
def one34 (x : List UInt8) : ByteArray := ⟨x.toArray⟩
/-- one piece read: the loop's round -/
theorem str_eq_list (a b : ByteArray) : (a.toList == b.toList) = decide (a.data.toList = b.data.toList) := by
  rw [ByteArray.toList_eq, ByteArray.toList_eq, Bool.beq_eq_decide_eq]
set_option maxHeartbeats 4000000 in
set_option maxRecDepth 100000 in
theorem Parse_calls (s : ByteArray) (hs : s.size ≤ 140737488351232) (w : World) (hE : Env w) : Calls Tryd.prog 27 #[.string s] w (PsPost w s.data.toList) := by
  have hsz : s.data.toList.length = s.size := Array.length_toList
  have hiZ : (Tryd.prog.info? 30).map (·.size) = some Tryd.zeroCells30.size := by rw [zero_size]; exact info30
  have hzo := zero_words.one
  by_cases hlong : 98304 < s.size
  · have hno := Lib.hid (show ∀ H, printH H ≠ s.data.toList from fun H e => by have := printH_len H; rw [e, hsz] at this; omega)
    have hl2 : (98304 : Int) < (s.size : Int) := by omega
    go_enter Tryd.func27, Tryd.ntmps27
    go_wp2_with (refine wpList_store_row rfl 30 _ _ rfl (w.heap.size) Tryd.zeroCells30 rfl rfl 30 Tryd.zeroCells30 (heapN w _) hiZ rfl hzo ?_)
    refine bodyPost_ret (v := .tuple #[.agg Tryd.zeroCells30, .int .i64 20]) (results_cell_row2 Tryd.results27 _ _ w.heap.size 30 Tryd.zeroCells30 (0, 0) _ _ rfl rfl (setRow_heap _ _ _ _ _ _ (heapN w _)) Tryd.underlying30 rfl hiZ) rfl ⟨Or.inr ⟨hno.out, rfl⟩, below_setRow (below_new' w _) (Nat.le_refl _) _⟩
  · have hl2 : ¬ (98304 : Int) < (s.size : Int) := by omega
    have hF := fun W h1 h2 => Tryd.strings_Fields_any s W (by omega) h1 h2
    have hfl := fieldsD_len s.data.toList
    have hfc := fieldsD_count s.data.toList
    have hrd : readS s.data.toList = (Lib.fieldsD s.data.toList).map pieceV := rfl
    have hrl : (readS s.data.toList).length = (Lib.fieldsD s.data.toList).length := by rw [hrd, List.length_map]
    generalize hfs : Lib.fieldsD s.data.toList = fs at *
    replace hrd := Lib.hid hrd
    replace hrl := Lib.hid hrl
    replace hfl : ∀ x ∈ fs, x.length ≤ s.size := fun x hx => by rw [← hsz]; exact hfl x hx
    have hfc2 : fs.length ≤ 98306 := by omega
    replace hfl := Lib.hid hfl
    clear hfs hfc
    replace hsz := Lib.hid hsz
    go_enter Tryd.func27, Tryd.ntmps27
    go_wp2_with fail
    refine (hF _ (hE.below (below_new' _ _)).spc (hE.below (below_new' _ _)).whs).mono ?_
    rintro e w1 ⟨F, rfl, -, hF1, hb1⟩
    have hbw1 : Below w.heap.size w w1 := (below_new' w _).trans (hb1.mono (by simp))
    have hz1 : w1.heap[w.heap.size]? = some (.cells Tryd.zeroCells30 30 (0, 0)) := (hb1.block _ (by simp)).trans (heapN w _)
    have hlt1 : w.heap.size < w1.heap.size := by have := hb1.size; simp at this; omega
    have hF1 := own_weaken hF1 (show w.heap.size + 1 ≤ _ by simp)
    clear hb1 hF
    obtain ⟨i0, hi0, hz0, hzz1, hz2⟩ := info_rng'
    go_wp2_with fail
    go_loopw [4, 19] (fun out i wr => ∃ k : Nat, k ≤ fs.length ∧ i = .int .i64 k ∧ wr.ownsRow (w.heap.size + 1) 53 2 out k (flatI ((fs.take k).map pieceV)) ∧ Below w.heap.size w wr ∧ wr.heap[w.heap.size]? = some (.cells Tryd.zeroCells30 30 (0, 0)) ∧ w.heap.size < wr.heap.size ∧
      wr.ownsRow (w.heap.size + 1) 9 1 (.slice (some ⟨F, 0, none⟩) fs.length fs.length) fs.length (fs.map fun x => .string ⟨x.toArray⟩)) (fun _ i _ => fs.length - (intOf i).toNat)
    case atStart => exact ⟨0, by omega, rfl, own_nil _ _ _ _, hbw1, hz1, hlt1, hF1⟩
    case round =>
      obtain ⟨k, hk, rfl, hown, hb, hz, hlt, hF⟩ := hrel
      clear hF1 hbw1 hz1 hlt1
      by_cases hkl : k < fs.length
      · obtain ⟨x, hx⟩ : ∃ x, fs[k]? = some x := ⟨fs[k], List.getElem?_eq_getElem hkl⟩
        have hxl := hfl.out x (List.mem_of_getElem? hx)
        have hnext := Lib.hid (show flatI ((fs.take (k + 1)).map pieceV) = flatI ((fs.take k).map pieceV) ++ [.int .i64 (pieceV x).1, .int .i64 (pieceV x).2] by rw [List.take_add_one, hx]; simp [flatI])
        have c1 : wr.cell? ⟨F, k, none⟩ = some (.string ⟨x.toArray⟩) := by
          rw [hF.cellAt k (by omega), List.getElem?_map, hx]; rfl
        have hgo : decide ((k : Int) < (fs.length : Int)) = true := decide_eq_true (by omega)
        have hEr := hE.below hb
        obtain ⟨mx, hmx⟩ := hEr.mx
        have hC := Tryd.strings_Cut ⟨x.toArray⟩ ⟨#[45]⟩ mx wr (by rw [size_mk]; omega) hmx
        have hcl := cut_len x
        have e1 : (⟨x.toArray⟩ : ByteArray).data.toList = x := rfl
        have e2 : (⟨#[45]⟩ : ByteArray).data.toList = [45] := rfl
        rw [e1, e2] at hC
        have hpv : pieceV x = (numS (Lib.cut x [45]).1, numS (if (Lib.cut x [45]).2.2 then (Lib.cut x [45]).2.1 else (Lib.cut x [45]).1)) := rfl
        rw [hpv] at hnext
        generalize Lib.cut x [45] = C at *
        obtain ⟨C1, C2, C3⟩ := C
        simp only at hC hnext hcl
        have hN1 := fun W h => number_calls ⟨C1.toArray⟩ (by rw [size_mk]; omega) W h
        have hN2 := fun W h => number_calls ⟨C2.toArray⟩ (by rw [size_mk]; omega) W h
        have e3 : (⟨C1.toArray⟩ : ByteArray).data.toList = C1 := rfl
        have e4 : (⟨C2.toArray⟩ : ByteArray).data.toList = C2 := rfl
        rw [e3] at hN1
        rw [e4] at hN2
        generalize hn1 : numS C1 = n1 at *
        replace hn1 := Lib.hid hn1
        clear e1 e2 e3 e4 hpv hmx hcl hx hE
        obtain ⟨wo, rfl⟩ : ∃ wo : World, wo = wr := ⟨_, rfl⟩
        go_wp2_with fail
        refine hC.mono ?_
        rintro e w2 ⟨rfl, nd, rfl⟩
        have hown := own_drewN' hown nd
        have hF := own_drewN' hF nd
        have hz : (wo.drewN nd).heap[w.heap.size]? = some (.cells Tryd.zeroCells30 30 (0, 0)) := hz
        have hlt : w.heap.size < (wo.drewN nd).heap.size := hlt
        have hb := below_drewN hb nd
        have hEr : Env (wo.drewN nd) := hEr.below (below_drewN (Below.refl _ _) nd)
        clear hC c1
        generalize wo.drewN nd = w2 at *
        cases C3 with
        | true =>
          rw [if_pos rfl] at hnext
          go_wp2_with fail
          refine (hN1 _ hEr).mono ?_
          rintro e w3 ⟨rfl, hb3⟩
          have hE3 := hEr.below hb3
          have hown3 := pw_own_below hown hb3
          have hF3 := pw_own_below hF hb3
          have hz3 : w3.heap[w.heap.size]? = some (.cells Tryd.zeroCells30 30 (0, 0)) := (hb3.block _ hlt).trans hz
          have hlt3 : w.heap.size < w3.heap.size := Nat.lt_of_lt_of_le hlt hb3.size
          have hbw3 := hb.trans (hb3.mono hb.size)
          clear hown hF hz hlt hb hEr hb3
          go_wp2_with fail
          refine (hN2 _ hE3).mono ?_
          rintro e w4 ⟨rfl, hb4⟩
          have hown4 := pw_own_below hown3 hb4
          have hF4 := pw_own_below hF3 hb4
          have hz4 : w4.heap[w.heap.size]? = some (.cells Tryd.zeroCells30 30 (0, 0)) := (hb4.block _ hlt3).trans hz3
          have hlt4 : w.heap.size < w4.heap.size := Nat.lt_of_lt_of_le hlt3 hb4.size
          have hbw4 := hbw3.trans (hb4.mono hbw3.size)
          clear hown3 hF3 hz3 hlt3 hbw3 hE3 hb4 hN1 hN2
          generalize numS C2 = n2 at *
          have hnI := flatI_len ((fs.take k).map pieceV)
          have hc5 : w.heap.size + 1 ≤ (w4.alloc (.cells #[.int .i64 n1, .int .i64 n2] 53)).heap.size := by simp; omega
          go_wp2_with (at_builtin; refine wpList_append_own _ rfl _ _ 35 rfl (w.heap.size + 1) 53 i0 (.agg #[.int .i64 0, .int .i64 0]) 2 16 Tryd.underlying35 hi0 hz0 hzz1 hz2 rfl (by decide) _ _ _ rfl (hown4.alloc _) ⟨w4.heap.size, 0, none⟩ 1 1 [.int .i64 n1, .int .i64 n2] rfl rfl (news2 _ _ _ _) (two_int _ _ _) (by unfold maxLen; omega) (by omega) hc5 ?_; intro v' w5 hown5 hgrow _)
          obtain ⟨k1, k2, k3⟩ := grown_keep hbw4 hz4 hlt4 hown4 hgrow
          have hF5 := (hF4.alloc (.cells #[.int .i64 n1, .int .i64 n2] 53)).kept hgrow (own_type_ne hF4 hown4 (by decide))
          exact ⟨⟨k + 1, by omega, by go_num, by rw [hnext.out]; exact hown5, k1, k2, k3, hF5⟩, by simp [intOf]; omega⟩
        | false =>
          rw [if_neg (by decide)] at hnext
          go_wp2_with fail
          refine (hN1 _ hEr).mono ?_
          rintro e w3 ⟨rfl, hb3⟩
          have hE3 := hEr.below hb3
          have hown3 := pw_own_below hown hb3
          have hF3 := pw_own_below hF hb3
          have hz3 : w3.heap[w.heap.size]? = some (.cells Tryd.zeroCells30 30 (0, 0)) := (hb3.block _ hlt).trans hz
          have hlt3 : w.heap.size < w3.heap.size := Nat.lt_of_lt_of_le hlt hb3.size
          have hbw3 := hb.trans (hb3.mono hb.size)
          clear hown hF hz hlt hb hEr hb3
          go_wp2_with fail
          refine (hN1 _ hE3).mono ?_
          rintro e w4 ⟨rfl, hb4⟩
          have hown4 := pw_own_below hown3 hb4
          have hF4 := pw_own_below hF3 hb4
          have hz4 : w4.heap[w.heap.size]? = some (.cells Tryd.zeroCells30 30 (0, 0)) := (hb4.block _ hlt3).trans hz3
          have hlt4 : w.heap.size < w4.heap.size := Nat.lt_of_lt_of_le hlt3 hb4.size
          have hbw4 := hbw3.trans (hb4.mono hbw3.size)
          clear hown3 hF3 hz3 hlt3 hbw3 hE3 hb4 hN1 hN2
          rw [hn1.out] at hnext
          have hnI := flatI_len ((fs.take k).map pieceV)
          have hc5 : w.heap.size + 1 ≤ (w4.alloc (.cells #[.int .i64 n1, .int .i64 n1] 53)).heap.size := by simp; omega
          go_wp2_with (at_builtin; refine wpList_append_own _ rfl _ _ 35 rfl (w.heap.size + 1) 53 i0 (.agg #[.int .i64 0, .int .i64 0]) 2 16 Tryd.underlying35 hi0 hz0 hzz1 hz2 rfl (by decide) _ _ _ rfl (hown4.alloc _) ⟨w4.heap.size, 0, none⟩ 1 1 [.int .i64 n1, .int .i64 n1] rfl rfl (news2 _ _ _ _) (two_int _ _ _) (by unfold maxLen; omega) (by omega) hc5 ?_; intro v' w5 hown5 hgrow _)
          obtain ⟨k1, k2, k3⟩ := grown_keep hbw4 hz4 hlt4 hown4 hgrow
          have hF5 := (hF4.alloc (.cells #[.int .i64 n1, .int .i64 n1] 53)).kept hgrow (own_type_ne hF4 hown4 (by decide))
          exact ⟨⟨k + 1, by omega, by go_num, by rw [hnext.out]; exact hown5, k1, k2, k3, hF5⟩, by simp [intOf]; omega⟩
      · obtain rfl : k = fs.length := by omega
        have hgo : decide ((fs.length : Int) < (fs.length : Int)) = false := decide_eq_false (by omega)
        have hown : wr.ownsRow (w.heap.size + 1) 53 2 u4 fs.length (flatI (readS s.data.toList)) := by rw [List.take_of_length_le (Nat.le_refl _), ← hrd.out] at hown; exact hown
        obtain ⟨A, c, rfl⟩ := own_slice hown
        have hlen := hrl.out
        have hEr := hE.below hb
        have hiff := read_iff (rd := fun s => some (readS s)) readS_rd s.data.toList
        have hlim : 16384 < fs.length → ∀ H, printH H ≠ s.data.toList := fun h H e => by
          obtain ⟨l, e2, _, _⟩ := read_back (rd := fun s => some (readS s)) readS_rd H
          have e3 := readS_print (rngH H) (rngH_ord H)
          have e4 : printV (rngH H) = s.data.toList := e
          rw [e4] at e3
          have e5 := rng_len_le H
          have e6 : (intR (rngH H)).length = (rngH H).length := by simp [intR]
          rw [e3] at hlen
          omega
        have hM := fun W (hW : Below wr.heap.size wr W) => Make_calls (readS s.data.toList) A c (by omega) W ((rd_of_own (base := w.heap.size + 1) (c := c) (by rw [hlen]; exact hown)).below hW)
        rw [hlen] at hM
        generalize readS s.data.toList = l at *
        clear hF hown hlen hrd hrl
        go_wp2_with fail
        refine (hM _ (Below.refl _ _)).mono ?_
        rintro e w2 ⟨hP, hb2⟩
        have hz2' : w2.heap[w.heap.size]? = some (.cells Tryd.zeroCells30 30 (0, 0)) := (hb2.block _ hlt).trans hz
        have hlt2 : w.heap.size < w2.heap.size := Nat.lt_of_lt_of_le hlt hb2.size
        have hbw2 := hb.trans (hb2.mono hb.size)
        have hE2 := hEr.below hb2
        clear hM hb2 hz hlt hb hEr
        cases hok : okR l with
        | false =>
          rw [hok, if_neg (by decide)] at hP
          subst hP
          have hno : ∀ H, printH H ≠ s.data.toList := fun H e => by
            obtain ⟨l', e1, e2, _⟩ := hiff.1 ⟨H, e⟩
            simp at e1
            subst e1
            rw [hok] at e2; cases e2
          replace hno := Lib.hid hno
          clear hiff hlim
          have hz3 : ((w2.alloc (.cells Tryd.zeroCells30 30)).setRow w2.heap.size Tryd.zeroCells30).heap[w.heap.size]? = some (.cells Tryd.zeroCells30 30 (0, 0)) := (setRow_other _ _ _ _ (by omega)).trans (((below_new' w2 _).block _ hlt2).trans hz2')
          have hbw3 : Below w.heap.size w ((w2.alloc (.cells Tryd.zeroCells30 30)).setRow w2.heap.size Tryd.zeroCells30) := below_setRow (hbw2.trans ((below_new' w2 _).mono hbw2.size)) hbw2.size _
          go_wp2_with (first | (refine wpList_store_row rfl 30 _ _ rfl (w2.heap.size) Tryd.zeroCells30 rfl rfl 30 Tryd.zeroCells30 (heapN w2 _) hiZ rfl hzo ?_) | (refine wpList_store_row rfl 30 _ _ rfl (w.heap.size) Tryd.zeroCells30 rfl rfl 30 Tryd.zeroCells30 hz3 hiZ rfl hzo ?_))
          refine bodyPost_ret (v := .tuple #[.agg Tryd.zeroCells30, .int .i64 20]) (results_cell_row2 Tryd.results27 _ _ w.heap.size 30 Tryd.zeroCells30 (0, 0) _ _ rfl rfl (setRow_heap _ _ _ _ _ _ hz3) Tryd.underlying30 rfl hiZ) rfl ⟨Or.inr ⟨hno.out, rfl⟩, below_setRow hbw3 (Nat.le_refl _) _⟩
        | true =>
          rw [hok, if_pos rfl] at hP
          obtain ⟨a, f, rfl, ha, hfl2⟩ := hP
          have hpr := printH_congr hfl2
          have hia : (Tryd.prog.info? 30).map (·.size) = some a.size := by rw [ha.size]; exact info30
          have hza : Tryd.zeroCells30.size = a.size := by rw [ha.size]; exact zero_size
          have ho := ha.one
          have hz3 : ((w2.alloc (.cells Tryd.zeroCells30 30)).setRow w2.heap.size a).heap[w.heap.size]? = some (.cells Tryd.zeroCells30 30 (0, 0)) := (setRow_other _ _ _ _ (by omega)).trans (((below_new' w2 _).block _ hlt2).trans hz2')
          have hbn : Below w2.heap.size w2 ((w2.alloc (.cells Tryd.zeroCells30 30)).setRow w2.heap.size a) := below_setRow (below_new' w2 _) (Nat.le_refl _) _
          have hbw3 : Below w.heap.size w ((w2.alloc (.cells Tryd.zeroCells30 30)).setRow w2.heap.size a) := hbw2.trans (hbn.mono hbw2.size)
          have hE3 := hE2.below hbn
          have ha3 : ((w2.alloc (.cells Tryd.zeroCells30 30)).setRow w2.heap.size a).heap[w2.heap.size]? = some (.cells a 30 (0, 0)) := setRow_heap _ _ _ _ _ _ (heapN w2 _)
          have hl3 : w2.heap.size < ((w2.alloc (.cells Tryd.zeroCells30 30)).setRow w2.heap.size a).heap.size := by simp [World.setRow]
          clear hfl2 hbn hbw2 hE2 hz2'
          by_cases h16 : 16384 < fs.length
          · have hno := Lib.hid (hlim h16)
            have h16' : (16384 : Int) < (fs.length : Int) := by omega
            have h16n : decide (16384 < fs.length) = true := decide_eq_true h16
            clear hlim hiff hpr
            go_wp2_with (first | (refine wpList_store_row rfl 30 _ _ rfl (w2.heap.size) a rfl rfl 30 Tryd.zeroCells30 (heapN w2 _) hia hza ho ?_) | (refine wpList_store_row rfl 30 _ _ rfl (w.heap.size) Tryd.zeroCells30 rfl rfl 30 Tryd.zeroCells30 hz3 hiZ rfl hzo ?_))
            refine bodyPost_ret (v := .tuple #[.agg Tryd.zeroCells30, .int .i64 20]) (results_cell_row2 Tryd.results27 _ _ w.heap.size 30 Tryd.zeroCells30 (0, 0) _ _ rfl rfl (setRow_heap _ _ _ _ _ _ hz3) Tryd.underlying30 rfl hiZ) rfl ⟨Or.inr ⟨hno.out, rfl⟩, below_setRow hbw3 (Nat.le_refl _) _⟩
          · have h16' : ¬ (16384 : Int) < (fs.length : Int) := by omega
            have h16n : decide (16384 < fs.length) = false := decide_eq_false h16
            have hPr := fun W h => Print_calls a f ha W h
            have hsame : (printH (hasN f) = s.data.toList) ∨ ((∀ H, printH H ≠ s.data.toList) ∧ printH (hasN f) ≠ s.data.toList) := by
              by_cases h : printH (hasN f) = s.data.toList
              · exact Or.inl h
              · refine Or.inr ⟨fun H e => ?_, h⟩
                obtain ⟨l', e1, e2, e3⟩ := hiff.1 ⟨H, e⟩
                simp at e1
                subst e1
                rw [hpr] at h
                exact h e3
            clear hlim hiff hpr
            have hpe : (⟨(printH (hasN f)).toArray⟩ : ByteArray).data.toList = printH (hasN f) := rfl
            have hcmp := str_eq_list ⟨(printH (hasN f)).toArray⟩ s
            rw [hpe] at hcmp
            clear hpe
            generalize hTT : (⟨(printH (hasN f)).toArray⟩ : ByteArray) = tt at *
            replace hTT := Lib.hid hTT
            go_wp2_with (first | (refine wpList_store_row rfl 30 _ _ rfl (w2.heap.size) a rfl rfl 30 Tryd.zeroCells30 (heapN w2 _) hia hza ho ?_) | (refine wpList_load_row_g (by first | rfl | simp [Region.wanted, yielded, h16', h16n]) 30 _ rfl w2.heap.size rfl 30 a (0, 0) _ ha3 Tryd.underlying30 rfl hia ?_))
            refine (hPr _ hE3).mono ?_
            rintro e w5 ⟨rfl, hb5⟩
            have hz5 := (hb5.block _ (show w.heap.size < _ by omega)).trans hz3
            have ha5 := (hb5.block _ hl3).trans ha3
            have hbw5 := hbw3.trans (hb5.mono hbw3.size)
            generalize hW3 : (w2.alloc (.cells Tryd.zeroCells30 30)).setRow w2.heap.size a = w3 at *
            clear hW3 hPr hb5 hE3 hz3 ha3 hbw3
            rcases hsame with hS | ⟨hno, hS⟩
            · rw [decide_eq_true hS] at hcmp
              have hcmp2 : (tt.toList != s.toList) = false := by rw [bne, hcmp]; rfl
              replace hS := Lib.hid hS
              go_wp2_with (first | (refine wpList_load_row rfl 30 _ rfl w2.heap.size rfl 30 a (0, 0) _ ha5 Tryd.underlying30 rfl hia ?_) | (refine wpList_store_row rfl 30 _ _ rfl (w.heap.size) a rfl rfl 30 Tryd.zeroCells30 hz5 hia hza ho ?_))
              refine bodyPost_ret (v := .tuple #[.agg a, .int .i64 0]) (results_cell_row2 Tryd.results27 _ _ w.heap.size 30 a (0, 0) _ _ rfl rfl (setRow_heap _ _ _ _ _ _ hz5) Tryd.underlying30 rfl hia) rfl ⟨Or.inl ⟨a, f, rfl, ha, hS.out⟩, below_setRow hbw5 (Nat.le_refl _) _⟩
            · rw [decide_eq_false hS] at hcmp
              have hcmp2 : (tt.toList != s.toList) = true := by rw [bne, hcmp]; rfl
              replace hno := Lib.hid hno
              clear hS
              go_wp2_with (refine wpList_store_row rfl 30 _ _ rfl (w.heap.size) Tryd.zeroCells30 rfl rfl 30 Tryd.zeroCells30 hz5 hiZ rfl hzo ?_)
              refine bodyPost_ret (v := .tuple #[.agg Tryd.zeroCells30, .int .i64 20]) (results_cell_row2 Tryd.results27 _ _ w.heap.size 30 Tryd.zeroCells30 (0, 0) _ _ rfl rfl (setRow_heap _ _ _ _ _ _ hz5) Tryd.underlying30 rfl hiZ) rfl ⟨Or.inr ⟨hno.out, rfl⟩, below_setRow hbw5 (Nat.le_refl _) _⟩
end Go.Proofs.YtnlchdjknebmfaaDoor
