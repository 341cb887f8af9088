/- Words in a line are told as the same words written one by one. Conditions: the listed variables as laid; texts within the machine's reach. -/
import Derived.Test.YtmdekodoicnmbaaDoorRsW
import Derived.Test.YtmdekodoicnmbaaDoorRsV
set_option linter.unusedVariables false
set_option linter.unusedSimpArgs false
namespace Go.Proofs.YtmdekodoicnmbaaDoor
open Go Go.ChangeShapes Go.WideShapes Go.ChangeAt Go.RowKit Go.Deep Go.Proofs.YtmdekodoicnmbaaDoorW.PrintWords
section
variable {H : Type} {enc : TypeId × Value → H} {W : World} {b : Nat} {v : Value} {d : DataW H} {p : List MemPlace}
theorem open_strs2 (hv : Value.okWide Tryd.prog W .any b 33 v) (h : DataW.Trod enc Tryd.prog W 0 (fun _ => true) true 33 v d p) :
    ∃ A c l, v = .slice A (l : List ByteArray).length c ∧ Kd.string.C W A l.length l ∧ l.length ≤ c ∧ (l = [] ∨ ∃ sp, d = .slice (strs l) sp) := by
  obtain ⟨A0, len, cap, rfl⟩ := okWide_slice Tryd.underlying33 hv
  obtain ⟨fuel, hf⟩ := h
  have hf' : DataW.trod enc Tryd.prog W 0 (fun _ => true) true fuel 33 [.slice A0 len cap] = some (d, p) := hf
  rcases open_strings Tryd.underlying33 Tryd.underlying9 (by kernel_rfl) hf' with ⟨h0, -⟩ | ⟨a, len', cap', ss, hcs, -, hl, hm, hlen, hx, hcell, -⟩
  · simp only [List.cons.injEq, Value.slice.injEq, and_true] at h0
    obtain ⟨rfl, rfl, rfl⟩ := h0
    exact ⟨none, 0, [], rfl, Kd.C_of_reads (d := (⟨#[]⟩ : ByteArray)) ⟨rfl, by decide, fun h => absurd h (by decide)⟩, Nat.le_refl _, Or.inl rfl⟩
  · simp only [List.cons.injEq, Value.slice.injEq, and_true] at hcs
    obtain ⟨rfl, rfl, rfl⟩ := hcs
    simp only [if_true] at hlen
    have hmx : cap ≤ 9223372036854775807 := by unfold maxLen at hm; omega
    have hxl : (ss.take len).length = len := by simp; omega
    refine ⟨some a, cap, ss.take len, by rw [hxl], Kd.C_of_reads (d := ByteArray.empty) ⟨rfl, by omega, fun _ => ⟨a, rfl, fun j hj => ?_⟩⟩, by omega, Or.inr ⟨_, congrArg Prod.fst hx⟩⟩
    rw [hxl] at hj
    have e : (ss.take len).getD j ByteArray.empty = ss.getD j ByteArray.empty := by
      simp [List.getD_eq_getElem?_getD, List.getElem?_take, hj]
    rw [e]
    exact hcell j (by omega)
theorem weigh_strs : ∀ (l : List ByteArray) (x : ByteArray), x ∈ l → x.size ∈ DataW.weightsAll Tryd.prog 9 (strs (H := H) l)
  | [], x, h => by simp at h
  | y :: l, x, h => by
    have e : y.data.toList.length = y.size := Array.length_toList
    simp only [strs, List.map_cons, DataW.weightsAll, DataW.weights] at *
    rcases List.mem_cons.1 h with rfl | h
    · rw [e]; simp
    · have := weigh_strs l x h
      simp only [strs] at this
      exact List.mem_append.2 (Or.inr this)
theorem reach_strs {l : List ByteArray} {ts : List TypeId} {gs : List (DataW H)} (hd : l = [] ∨ ∃ sp, d = .slice (strs l) sp) (hsz : (DataW.weightsEach Tryd.prog (33 :: ts) (d :: gs)).all (· ≤ reachBytes) = true) : ∀ x ∈ l, x.size ≤ 140737488351232 := by
  intro x hx
  rcases hd with rfl | ⟨sp, rfl⟩
  · simp at hx
  · have h1 := weigh_strs (H := H) l x hx
    rw [List.all_eq_true] at hsz
    have := hsz x.size (by
      simp only [DataW.weightsEach, DataW.weights, Tryd.underlying33]
      simp [h1])
    exact of_decide_eq_true this
end
theorem Par5.keeps {g g' : Nat} {b b' : List UInt8} {W W' : World} (h : Par5 g b W) (hp : Par5 g' b' W) (hne : g ≠ g') (hk : Keeps g' W W') : Par5 g b W' := by
  obtain ⟨A, c, h1, h2, h3, h4⟩ := h
  obtain ⟨A', c', p1, p2, p3, p4⟩ := hp
  exact ⟨A, c, (hk.block g h3 hne).trans h1, h2.keeps p1 (fun z => by simp) hk, Nat.lt_of_lt_of_le h3 hk.size, h4.keeps p1 hk⟩
def Word (x : ByteArray) : Prop := Plain x ∧ x.size ≤ 60
theorem line_snoc (ws : List ByteArray) (k : Nat) (x : ByteArray) (h : ws[k]? = some x) : lineV (ws.take (k + 1)) = lineV (ws.take k) ++ (x.data.toList ++ [32]) := by
  unfold lineV
  rw [List.take_add_one, h]
  simp
theorem line_len : ∀ (ws : List ByteArray), ws.length ≤ 32 → (∀ y ∈ ws, y.size ≤ 1024) → (cmdV ws).length ≤ 40000 := by
  intro ws h1 h2
  by_cases h : ws = []
  · subst h
    have : (Lib.decDigits 0).length ≤ 1 := dec_len 0 0 (by decide)
    simp [cmdV, argsB]
    omega
  · exact cmd_len ws ⟨h, h1, h2⟩
set_option maxHeartbeats 4000000 in
set_option maxRecDepth 100000 in
theorem RespWords_walk (A : Option Addr) (c : Nat) (ws : List ByteArray) (w : World) (hE : Env w) (hr : Kd.string.C w A ws.length ws) (hc : ws.length ≤ c) (hbig : ∀ x ∈ ws, x.size ≤ 140737488351232) :
    Calls Tryd.prog 6 #[.slice A ws.length c] w fun e w' => e = .returned (.bool true) ∧ Below w.heap.size w w' := by
  by_cases hn : 32 < ws.length
  · have hgo : decide ((32 : Int) < (ws.length : Int)) = true := decide_eq_true (by omega)
    go_enter Tryd.func6, Tryd.ntmps6
    go_wp2_with fail
    refine (New_calls _).mono ?_
    rintro e w1 ⟨rfl, hp1, hb1⟩
    go_wp2_with fail
    refine (New_calls _).mono ?_
    rintro e w2 ⟨rfl, hp2, hb2⟩
    have hb2' := hb1.trans (hb2.mono hb1.size)
    go_wp2_with fail
    refine (alive_calls _ (hE.below hb2')).mono ?_
    rintro e w3 ⟨rfl, hb3⟩
    have hb3' := hb2'.trans (hb3.mono hb2'.size)
    go_wp2_with fail
    go_ret
    exact ⟨rfl, hb3'⟩
  · have hgo : decide ((32 : Int) < (ws.length : Int)) = false := decide_eq_false (by omega)
    go_enter Tryd.func6, Tryd.ntmps6
    go_wp2_with fail
    refine (New5_calls _).mono ?_
    rintro e w1 ⟨rfl, hp1, hb1⟩
    go_wp2_with fail
    refine (New5_calls _).mono ?_
    rintro e w2 ⟨rfl, hp2, hb2⟩
    have hb2' := hb1.trans (hb2.mono hb1.size)
    have hp1' := hp1.keep hb2
    have hlt1 := hp1.lt
    clear hp1 hb1 hb2
    generalize w1.heap.size = g2 at *
    have hne : g2 ≠ w.heap.size := by omega
    replace hne := Lib.hid hne
    replace hlt1 := Lib.hid hlt1
    go_wp2_with fail
    go_loopw [5, 38] (fun s5 s38 wr => ∃ (k : Nat), k ≤ ws.length ∧ s38 = .int .i64 k ∧ s5 = .string ⟨(lineV (ws.take k)).toArray⟩ ∧ (∀ x ∈ ws.take k, Word x) ∧ (lineV (ws.take k)).length ≤ 461 ∧ Par5 w.heap.size [] wr ∧ Par5 g2 [] wr ∧ Below w.heap.size w wr) (fun _ s38 _ => ws.length - (intOf s38).toNat)
    case atStart => exact ⟨0, by omega, rfl, rfl, by simp, by simp [lineV], hp1', hp2, hb2'⟩
    case round =>
      obtain ⟨k, hk, rfl, rfl, hW, hL, hP, hQ, hb⟩ := hrel
      clear hp1' hp2 hb2'
      by_cases hkn : k < ws.length
      · have hgo2 : decide ((k : Int) < (ws.length : Int)) = true := decide_eq_true (by omega)
        obtain ⟨x, hx⟩ : ∃ x, ws[k]? = some x := ⟨ws[k], List.getElem?_eq_getElem hkn⟩
        have hxb := hbig x (List.mem_of_getElem? hx)
        obtain ⟨g0, o0, rfl, hg0, hcs⟩ := str_cells hr (by omega)
        have hcw := (hb.cell (p := ⟨g0, o0 + k, none⟩) hg0).trans (hcs k x hx)
        have hk0 : (0 : Int) ≤ (k : Int) := by omega
        have hcv := conv_in x wr
        have hrd := Lib.hid (rd_bytes wr x hxb)
        have hba := below_bytes w wr hb x
        have hbs := below_bytes wr wr (Below.refl _ _) x
        have hPa := Lib.hid (hP.keep hbs)
        have hQa := Lib.hid (hQ.keep hbs)
        have esz : x.data.toList.length = x.size := Array.length_toList
        clear hcs hP hQ hb
        replace hbs := Lib.hid hbs
        generalize Lib.bytesWorld wr 5 x = W0 at *
        generalize hAd : (some ⟨wr.heap.size, 0, none⟩ : Option Addr) = A1 at *
        generalize grownCap wr x.data.toList.length 0 5 = cap at *
        go_wp2_with fail
        go_loopw [45] (fun s45 wq => ∃ j : Nat, j ≤ x.size ∧ s45 = .int .i64 j ∧ (∀ i, i < j → 32 < (x.data.toList.getD i 0).toNat ∧ (x.data.toList.getD i 0).toNat ≠ 42) ∧ Below W0.heap.size W0 wq) (fun s45 _ => x.size - (intOf s45).toNat)
        case atStart => exact ⟨0, by omega, rfl, fun i hi => by omega, Below.refl _ _⟩
        case round =>
          obtain ⟨j, hj, rfl, hbf, hq⟩ := hrel
          have hbq := hba.trans (hq.mono hba.size)
          by_cases hjn : j < x.size
          · have hgo3 : decide ((j : Int) < (x.data.toList.length : Int)) = true := decide_eq_true (by omega)
            have hj0 : (0 : Int) ≤ (j : Int) := by omega
            obtain ⟨hl1, hl2, hl3⟩ := hrd.out
            rcases hl3 with hl3 | ⟨gb, ob, rfl, hgb, hcell⟩
            · have := hl3.2; omega
            · have hc1 := (hq.cell (p := ⟨gb, ob + j, none⟩) hgb).trans (hcell j (by omega))
              clear hcell
              obtain ⟨ch, hch⟩ : ∃ ch, ch = (x.data.toList.getD j 0).toNat := ⟨_, rfl⟩
              rw [← hch] at hc1
              replace hch := Lib.hid hch
              by_cases h32 : ch ≤ 32
              · have d32 : decide ((ch : Int) ≤ 32) = true := decide_eq_true (by omega)
                go_wp2_with fail
                refine (alive_calls _ (hE.below hbq)).mono ?_
                rintro e w3 ⟨rfl, hb3⟩
                have hb3' := hbq.trans (hb3.mono hbq.size)
                go_wp2_with fail
                go_ret
                exact ⟨rfl, hb3'⟩
              · have d32 : decide ((ch : Int) ≤ 32) = false := decide_eq_false (by omega)
                by_cases h42 : ch = 42
                · have d42 : ((ch : Int) == 42) = true := by subst h42; rfl
                  go_wp2_with fail
                  refine (alive_calls _ (hE.below hbq)).mono ?_
                  rintro e w3 ⟨rfl, hb3⟩
                  have hb3' := hbq.trans (hb3.mono hbq.size)
                  go_wp2_with fail
                  go_ret
                  exact ⟨rfl, hb3'⟩
                · have d42 : ((ch : Int) == 42) = false := by rw [beq_eq_false_iff_ne]; omega
                  go_wp2_with fail
                  refine ⟨⟨j + 1, by omega, by go_num, fun i hi => ?_, hq⟩, by simp [intOf]; omega⟩
                  by_cases hij : i < j
                  · exact hbf i hij
                  · obtain rfl : i = j := by omega
                    rw [← hch.out]
                    exact ⟨by omega, h42⟩
          · obtain rfl : j = x.size := by omega
            have hgo3 : decide ((x.size : Int) < (x.data.toList.length : Int)) = false := decide_eq_false (by omega)
            have hPq := Lib.hid (hPa.out.keep hq)
            have hQq := Lib.hid (hQa.out.keep hq)
            have hbf' := Lib.hid hbf
            clear hbf hPa hQa hrd hcw
            have eS : (⟨(lineV (ws.take k)).toArray⟩ : ByteArray).size = (lineV (ws.take k)).length := size_mk _
            by_cases h60 : 60 < x.size
            · have d60 : decide ((60 : Int) < (x.size : Int)) = true := decide_eq_true (by omega)
              go_wp2_with fail
              refine (alive_calls _ (hE.below hbq)).mono ?_
              rintro e w3 ⟨rfl, hb3⟩
              have hb3' := hbq.trans (hb3.mono hbq.size)
              go_wp2_with fail
              go_ret
              exact ⟨rfl, hb3'⟩
            · have d60 : decide ((60 : Int) < (x.size : Int)) = false := decide_eq_false (by omega)
              by_cases hx0 : x.size = 0
              · obtain rfl : x = ⟨#[]⟩ := by
                  have : x.data = #[] := Array.size_eq_zero_iff.1 hx0
                  cases x
                  simpa using this
                go_wp2_with fail
                refine (alive_calls _ (hE.below hbq)).mono ?_
                rintro e w3 ⟨rfl, hb3⟩
                have hb3' := hbq.trans (hb3.mono hbq.size)
                go_wp2_with fail
                go_ret
                exact ⟨rfl, hb3'⟩
              · have hSl : (⟨(lineV (ws.take k)).toArray⟩ : ByteArray).size ≤ 461 := by omega
                have hne0 : x.toList.isEmpty = false := by
                  rw [ByteArray.toList_eq, List.isEmpty_eq_false_iff]
                  intro h
                  rw [h] at esz
                  exact hx0 esz.symm
                replace hx0 := Lib.hid hx0
                have hxd : x.data.toList ≠ [] := fun h => by rw [h] at esz; exact hx0.out esz.symm
                replace hxd := Lib.hid hxd
                generalize hSv : (⟨(lineV (ws.take k)).toArray⟩ : ByteArray) = S at *
                replace eS := Lib.hid eS
                by_cases h400 : 400 < S.size
                · have d400 : decide ((400 : Int) < (S.size : Int)) = true := decide_eq_true (by omega)
                  go_wp2_with fail
                  refine (alive_calls _ (hE.below hbq)).mono ?_
                  rintro e w3 ⟨rfl, hb3⟩
                  have hb3' := hbq.trans (hb3.mono hbq.size)
                  go_wp2_with fail
                  go_ret
                  exact ⟨rfl, hb3'⟩
                · have d400 : decide ((400 : Int) < (S.size : Int)) = false := decide_eq_false (by omega)
                  have hlen : ¬ 9223372036854775807 < x.size + 1 := by omega
                  have hlen2 : ¬ 9223372036854775807 < S.size + (x.size + 1) := by omega
                  go_wp2_with fail
                  have hs := line_snoc ws k x hx
                  have eS' := eS.out
                  have hw' : ∀ y ∈ ws.take (k + 1), Word y := by
                    intro y hy
                    rw [List.take_add_one, hx] at hy
                    rcases List.mem_append.1 hy with hy | hy
                    · exact hW y hy
                    · obtain rfl : y = x := by simpa using hy
                      refine ⟨⟨hxd.out, fun ch hch => ?_⟩, by omega⟩
                      obtain ⟨i, hi, rfl⟩ := List.getElem_of_mem hch
                      have := hbf'.out i (by omega)
                      rw [List.getD_eq_getElem?_getD, List.getElem?_eq_getElem hi, Option.getD_some] at this
                      exact ⟨this.1, fun e => this.2 (by rw [e]; rfl)⟩
                  refine ⟨⟨k + 1, hkn, by go_num, ?_, hw', by rw [hs]; simp; omega, hPq.out, hQq.out, hbq⟩, by simp [intOf]; omega⟩
                  rw [hs, ← hSv]
                  exact congrArg Value.string ((congrArg _ (ba_append x.data.toList [32])).trans (ba_append _ _))
      · obtain rfl : k = ws.length := by omega
        have hgo2 : decide ((ws.length : Int) < (ws.length : Int)) = false := decide_eq_false (by omega)
        rw [List.take_length] at hW hL
        rw [List.take_length]
        have hwp : ∀ y ∈ ws, Plain y := fun y hy => (hW y hy).1
        have hsz : ∀ y ∈ ws, y.size ≤ 1024 := fun y hy => by have := (hW y hy).2; omega
        have hlV := line_len ws (by omega) hsz
        have eT : (⟨(lineV ws).toArray⟩ : ByteArray) ++ (⟨#[13, 10]⟩ : ByteArray) = ⟨(lineV ws ++ [13, 10]).toArray⟩ := ba_append _ _
        have hlen : ¬ 9223372036854775807 < (lineV ws).length + 2 := by omega
        have eT1 : (lineV ws ++ [13, 10]).length = (lineV ws).length + 2 := by simp
        have hcv := conv_in ⟨(lineV ws ++ [13, 10]).toArray⟩ wr
        have hrd := Lib.hid (rd_bytes wr ⟨(lineV ws ++ [13, 10]).toArray⟩ (by rw [size_mk]; omega))
        have hba := below_bytes w wr hb ⟨(lineV ws ++ [13, 10]).toArray⟩
        have hbs := below_bytes wr wr (Below.refl _ _) ⟨(lineV ws ++ [13, 10]).toArray⟩
        have hPa := Lib.hid (hP.keep hbs)
        have hQa := Lib.hid (hQ.keep hbs)
        have hA1 := all_line ws hwp (by omega) (by omega)
        have hA2 := all_cmd ws (by omega) hsz
        replace hA1 := Lib.hid hA1
        replace hA2 := Lib.hid hA2
        rw [← eT] at hcv
        clear hP hQ hb hbs hW
        replace eT := Lib.hid eT
        generalize hTv : lineV ws ++ [13, 10] = T at *
        generalize hSv : (⟨(lineV ws).toArray⟩ : ByteArray) = S at *
        have eL : S.size + 2 = T.length := by rw [← hSv, size_mk]; exact eT1.symm
        have hlen2 : ¬ 9223372036854775807 < S.size + 2 := by omega
        replace eL := Lib.hid eL
        go_wp2_with fail
        rw [eT.out, eL.out]
        have hrd2 : RdB (Lib.bytesWorld wr 5 ⟨T.toArray⟩) (some ⟨wr.heap.size, 0, none⟩) (grownCap wr T.length 0 5) T := hrd.out
        have hF := Feed5_calls _ w.heap.size _ hPa.out wr.heap.size 0 _ T hrd2 (by simp; omega)
        rw [List.nil_append] at hF
        refine hF.mono ?_
        rintro e w3 ⟨rfl, hP3, hk3⟩
        have hb3 := Keeps.base hba (Nat.le_refl _) hk3
        have hQ3 := Lib.hid (hQa.out.keeps hPa.out hne.out hk3)
        replace hP3 := Lib.hid hP3
        clear hrd hrd2 hcv hPa hQa hba hk3 hF
        have hC := Command_calls A c ws w3 (Kd.C_below hr hb3) hc (by omega) (by omega) (hE.below hb3)
        go_wp2_with fail
        refine hC.mono ?_
        rintro e w4 ⟨rfl, hb4⟩
        have hb4' := hb3.trans (hb4.mono hb3.size)
        have hP4 := hP3.out.keep hb4
        have hQ4 := hQ3.out.keep hb4
        have hcv := conv_in ⟨(cmdV ws).toArray⟩ w4
        have hrd : RdB (Lib.bytesWorld w4 5 ⟨(cmdV ws).toArray⟩) (some ⟨w4.heap.size, 0, none⟩) (grownCap w4 (cmdV ws).length 0 5) (cmdV ws) := rd_bytes w4 ⟨(cmdV ws).toArray⟩ (by rw [size_mk]; omega)
        have hbs := below_bytes w4 w4 (Below.refl _ _) ⟨(cmdV ws).toArray⟩
        have hb4a := below_bytes w w4 hb4' ⟨(cmdV ws).toArray⟩
        have hP4a := Lib.hid (hP4.keep hbs)
        have hQ4a := Lib.hid (hQ4.keep hbs)
        replace hrd := Lib.hid hrd
        clear hC hb4 hP4 hQ4 hP3 hQ3 hbs hb3 hb4'
        go_wp2_with fail
        have hF := Feed5_calls _ g2 _ hQ4a.out w4.heap.size 0 _ (cmdV ws) hrd.out (by simp; omega)
        rw [List.nil_append] at hF
        refine hF.mono ?_
        rintro e w5 ⟨rfl, hQ5, hk5⟩
        have hg2 : w.heap.size ≤ g2 := Nat.le_of_lt hlt1.out
        have hb5 := Keeps.base hb4a hg2 hk5
        have hP5 := hP4a.out.keeps hQ4a.out (Ne.symm hne.out) hk5
        clear hrd hcv hP4a hQ4a hb4a hk5 hF
        have hA := all_calls w hE w5 hb5 w.heap.size (Nat.le_refl _) _ 0 hP5.par (by omega) 2 (by decide)
        rw [hA1.out] at hA
        have hP5' := Lib.hid hP5
        replace hQ5 := Lib.hid hQ5
        clear hP5
        go_wp2_with fail
        refine hA.mono ?_
        rintro e w6 ⟨A6, c6, rfl, hR6, hp6, hk6⟩
        have hb6 := Keeps.base hb5 (Nat.le_refl _) hk6
        have hQ6 := hQ5.out.keeps hP5'.out hne.out hk6
        have hlt5 : g2 < w5.heap.size := hQ5.out.lt
        have hB := all_calls w hE w6 hb6 g2 hg2 _ 0 hQ6.par (by omega) 2 (by decide)
        rw [hA2.out] at hB
        replace hR6 := Lib.hid hR6
        clear hA hp6 hQ5 hP5' hQ6 hk6 hb5
        go_wp2_with fail
        refine hB.mono ?_
        rintro e w7 ⟨A7, c7, rfl, hR7, hp7, hk7⟩
        have hb7 := Keeps.base hb6 hg2 hk7
        have hR67 := Lib.hid (Kd.R_step (Kd.R_bound hR6.out) (fun q hq hlt => hk7.block q hlt (by have := hq.2.1; omega)))
        replace hR7 := Lib.hid hR7
        clear hB hp7 hk7 hb6
        go_wp2_with fail
        refine (alive_calls _ (hE.below hb7)).mono ?_
        rintro e w8 ⟨rfl, hb8⟩
        have hb8' := hb7.trans (hb8.mono hb7.size)
        have hR8 := Kd.R_below hR67.out hb8
        have hS8 := Kd.R_below hR7.out hb8
        obtain ⟨A5', c5', hu5, hc5, hC5⟩ := Kd.R_reads hR8
        injection hu5 with q1 q2 q3
        subst q1 q3
        obtain ⟨A4', c4', hu4, hc4, hC4⟩ := Kd.R_reads hS8
        injection hu4 with q1 q2 q3
        subst q1 q3
        obtain ⟨hl1, hl2, hl3⟩ := list_len ws
        have hwl : ws.length < 9223372036854775807 := Nat.lt_of_le_of_lt (Nat.not_lt.1 hn) (by decide)
        have hSame := Same_calls A6 A7 c6 c7 (listV ws) w8 hC5 hc5 hC4 hc4 (Nat.lt_of_le_of_lt hl2 (by decide)) (fun x hx => (congrArg List.length (hl3 x hx)).symm ▸ hwl)
        have hq : ((((listV ws).length : Int)) == 1) = decide (0 < ws.length) := by
          rw [Bool.eq_iff_iff, beq_iff_eq, decide_eq_true_eq]
          omega
        replace hSame := Lib.hid hSame
        generalize (listV ws).length = nF at hSame hq ⊢
        clear hR8 hS8 hC5 hC4 hR67 hR7 hR6 hl1 hl2 hl3 hb7 hb8 hc5 hc4
        go_wp2_with fail
        refine hSame.out.mono ?_
        rintro e w9 ⟨rfl, hb9⟩
        have hb9' := hb8'.trans (hb9.mono hb8'.size)
        go_wp2_with fail
        go_ret
        exact ⟨by simp, hb9'⟩
end Go.Proofs.YtmdekodoicnmbaaDoor
