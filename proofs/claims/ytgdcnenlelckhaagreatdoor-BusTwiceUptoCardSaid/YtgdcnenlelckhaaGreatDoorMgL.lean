/- What comes twice changes nothing the second time: the walk. BusTwice, for every input of moderate bulk: the walk. Conditions: the listed variables as laid; texts within the form's reach; the listed variables as laid. -/
import Derived.Test.YtgdcnenlelckhaaGreatDoorMgI
set_option linter.unusedVariables false
set_option linter.unusedSimpArgs false
namespace Go.Proofs.YtgdcnenlelckhaaGreatDoor
open Go.RowKit Go.Proofs.YtgdcnenlelckhaaGreatDoorW.PrintWords
open SlS SlT
inductive TwA (t1 t2 t3 t7 t8 t11 t12 t13 t14 t15 t16 : Value) : Act → Prop
  | mk {u0 u4 u5 u6 u9 u10 u17 u18 u19 u20 u21 u22 u23 u24 u25 u26 u27 u28 u29 u30 u31 u32 u33 u34 u35 u36 u37 u38 u39 u40 u41 u42 u43 u44 u45 u46 u47 u48 u49 u50 u51 u52 u53 u54 u55 u56 u57 u58 u59 u60 u61 u62 u63 u64 u65 u66 u67 u68 u69 u70 u71 u72 u73 u74 u75 u76 u77 u78 u79 u80 u81 u82 u83 u84 u85 u86 u87 u88 u89 u90 u91 u92 u93 u94 u95 u96 u97 u98 u99 u100 u101 u102 u103 u104 u105 u106 u107 u108 u109 u110 u111 u112 u113 u114 u115 u116 u117 u118 u119 u120 u121 u122 u123 u124 u125 u126 u127 u128 u129 u130 u131 u132 u133 u134 u135 u136 u137 u138 u139 : Value} : TwA t1 t2 t3 t7 t8 t11 t12 t13 t14 t15 t16 ⟨#[u0, t1, t2, t3, u4, u5, u6, t7, t8, u9, u10, t11, t12, t13, t14, t15, t16, u17, u18, u19, u20, u21, u22, u23, u24, u25, u26, u27, u28, u29, u30, u31, u32, u33, u34, u35, u36, u37, u38, u39, u40, u41, u42, u43, u44, u45, u46, u47, u48, u49, u50, u51, u52, u53, u54, u55, u56, u57, u58, u59, u60, u61, u62, u63, u64, u65, u66, u67, u68, u69, u70, u71, u72, u73, u74, u75, u76, u77, u78, u79, u80, u81, u82, u83, u84, u85, u86, u87, u88, u89, u90, u91, u92, u93, u94, u95, u96, u97, u98, u99, u100, u101, u102, u103, u104, u105, u106, u107, u108, u109, u110, u111, u112, u113, u114, u115, u116, u117, u118, u119, u120, u121, u122, u123, u124, u125, u126, u127, u128, u129, u130, u131, u132, u133, u134, u135, u136, u137, u138, u139], []⟩
set_option maxHeartbeats 4000000 in
set_option maxRecDepth 100000 in
theorem twice_calls (w : World) (hE : Env w) (cB : Array Value) (sf : Int) (ep : Nat) (a : Array Value) (f : Nat → Nat) (hB : BegIs cB sf ep a f) (A : Option Addr) (c : Nat) (l : List OpV) (hl : Ops w A l) (hc : l.length ≤ c) (hcm : c ≤ 9223372036854775807)
    (hsz : ∀ (i : Nat) (O : OpV), l[i]? = some O → O.s.size ≤ 4294967296) (s : ByteArray) (hs : s.size ≤ 4294967296) :
    Calls Tryz.prog 6 #[.agg cB, .slice A l.length c, .string s] w fun e w' => e = .returned (.bool true) ∧ Below w.heap.size w w' := by
  have hb1 := below_new' w (.cells cB 45)
  have hE1 := hE.below hb1
  have hl1 := hl.below hb1
  have hs1 : (w.alloc (.cells cB 45)).heap.size = w.heap.size + 1 := by simp
  have hbx := heapN w (.cells cB 45)
  obtain ⟨e0, e257, hr1⟩ := hB.at hbx
  have hia := info43l hB.words
  have hiB : (Tryz.prog.info? 45).map (·.size) = some cB.size := by rw [hB.size]; exact info_beg
  have hN := Lib.hid (fun W => bNew_calls sf a f hB.words ep hB.he W)
  have hF := Lib.hid (fun (W : World) hE hl => few_calls W hE cB sf ep a f hB A c l hl hc hcm hsz)
  have hF2 := Lib.hid (fun (W : World) hE A2 hl => few_calls W hE cB sf ep a f hB A2 1 [⟨0, 0, 0, 0, s⟩] hl (Nat.le_refl _) (by decide) (fun i O hO => by
    rcases Nat.eq_zero_or_pos i with h | h
    · subst h; injection hO with hO; rw [← hO]; exact hs
    · rw [List.getElem?_eq_none (by show 1 ≤ i; omega)] at hO; cases hO))
  have hBat := hB
  clear hB
  go_enter Tryz.func6, Tryz.ntmps6
  refine wp_cut (fun a W => (∃ t7 t8 t11 t12 t13 t14 t15 t16, TwA (.slice A l.length c) (.string s) (.pointer (some ⟨w.heap.size, 0, none⟩)) t7 t8 t11 t12 t13 t14 t15 t16 a) ∧ W = (w.alloc (.cells cB 45))) ?_ ?_
  · go_wp2_with fail
    exact ⟨⟨_, _, _, _, _, _, _, _, TwA.mk⟩, trivial⟩
  rintro _ _ ⟨⟨t7, t8, t11, t12, t13, t14, t15, t16, hA⟩, rfl⟩
  cases hA
  generalize hw1 : (w.alloc (.cells cB 45)) = w1 at *
  refine wp_cut (fun a W => ∃ t7 x, (∃ t11 t12 t13 t14 t15 t16, TwA (.slice A l.length c) (.string s) (.pointer (some ⟨w.heap.size, 0, none⟩)) t7 (.int .i64 x) t11 t12 t13 t14 t15 t16 a) ∧ Below w1.heap.size w1 W ∧ ((x = 1 ∨ x = 150) ∨ x = 0 ∧ ∃ b g, t7 = .pointer (some ⟨b, 0, none⟩) ∧ (0 ≤ sf ∧ sf < 64) ∧ ep ≤ 4611686018427387904 ∧ AllB w1 W [⟨b, g, .slice none 0 0, newV sf.toNat ep f, []⟩])) ?_ ?_
  · go_wp2_with (refine wpList_load_mid_g (by first | rfl | simp [Region.wanted, yielded]) 43 _ rfl w.heap.size 1 rfl a.toList _ hr1 Tryz.underlying43 rfl hia ?_; rw [Array.toArray_toList])
    refine (hN.out _).mono ?_
    intro e w2 hn
    unfold BNewPost at hn
    obtain ⟨hb2, hn⟩ := hn
    clear hN hF e0 e257 hr1 hbx
    by_cases h1 : 0 ≤ sf ∧ sf < 64
    · rw [if_pos h1] at hn
      by_cases h2 : ep ≤ 4611686018427387904
      · rw [if_pos h2] at hn
        obtain ⟨b, g, rfl, h3, h4, h5⟩ := hn
        have hAll := Lib.hid ((AllB.nil hE1).add hb2 h3 h4 h5)
        replace hb2 := Lib.hid hb2
        clear h3 h4 h5 hE1 hb1
        go_wp2_with fail
        exact ⟨_, _, ⟨_, _, _, _, _, _, TwA.mk⟩, hb2.out, Or.inr ⟨rfl, b, g, rfl, h1, h2, hAll.out⟩⟩
      · rw [if_neg h2] at hn
        subst hn
        replace hb2 := Lib.hid hb2
        clear hE1 hb1
        go_wp2_with fail
        exact ⟨_, _, ⟨_, _, _, _, _, _, TwA.mk⟩, hb2.out, Or.inl (Or.inl rfl)⟩
    · rw [if_neg h1] at hn
      subst hn
      replace hb2 := Lib.hid hb2
      clear hE1 hb1
      go_wp2_with fail
      exact ⟨_, _, ⟨_, _, _, _, _, _, TwA.mk⟩, hb2.out, Or.inl (Or.inr rfl)⟩
  clear hN e0 e257 hr1
  rintro _ w2 ⟨t7, x, ⟨t11, t12, t13, t14, t15, t16, hA⟩, hb2, hx⟩
  cases hA
  have hbw2 := hb1.trans (hb2.mono hb1.size)
  have hE2 := hE1.below hb2
  refine wp_cut (fun a W => ∃ b g, (∃ t8 t11 t12 t13 t14 t15 t16, TwA (.slice A l.length c) (.string s) (.pointer (some ⟨w.heap.size, 0, none⟩)) (.pointer (some ⟨b, 0, none⟩)) t8 t11 t12 t13 t14 t15 t16 a) ∧ (0 ≤ sf ∧ sf < 64) ∧ ep ≤ 4611686018427387904 ∧ AllB w1 W [⟨b, g, .slice none 0 0, newV sf.toNat ep f, []⟩] ∧ Few l) ?_ ?_
  · rcases hx with hx | ⟨rfl, b, g, rfl, h1, h2, hAll⟩
    · have hal := Lib.hid (alive_calls w2 hE2)
      have hbw := Lib.hid hbw2
      clear hF hbx hE2 hE1 hb1 hb2 hl1 hbw2
      rcases hx with rfl | rfl
      · go_wp2_with fail
        refine hal.out.mono ?_
        rintro e wz ⟨rfl, hbz⟩
        have hbwz := Lib.hid (hbw.out.trans (hbz.mono hbw.out.size))
        clear hbz
        go_wp2_with fail
        go_ret
        exact ⟨rfl, hbwz.out⟩
      · go_wp2_with fail
        refine hal.out.mono ?_
        rintro e wz ⟨rfl, hbz⟩
        have hbwz := Lib.hid (hbw.out.trans (hbz.mono hbw.out.size))
        clear hbz
        go_wp2_with fail
        go_ret
        exact ⟨rfl, hbwz.out⟩
    · have hf2 := Lib.hid (hF.out w2 hE2 (hl1.below hb2))
      have hbx2 := (hb2.block _ (by omega)).trans hbx
      replace hAll := Lib.hid hAll
      replace hbw2 := Lib.hid hbw2
      clear hF hbx hE2 hE1 hb1 hb2 hl1
      go_wp2_with (refine wpList_load_row_g (by first | rfl | simp [Region.wanted, yielded]) 45 (.tmp 3) rfl w.heap.size rfl 45 cB (0, 0) _ hbx2 Tryz.underlying45 rfl hiB ?_)
      refine hf2.out.mono ?_
      rintro e w3 ⟨r, rfl, hr, hb3⟩
      have hAll3 := Lib.hid (hAll.out.below hb3)
      have hbw := Lib.hid (hbw2.out.trans (hb3.mono hbw2.out.size))
      have hal := Lib.hid (alive_calls w3 hAll3.out.envW)
      have hbx3 := (hb3.block _ (blk_lt hbx2)).trans hbx2
      clear hb3 hf2 hbx2
      by_cases hrt : r = true
      · have hfew := Lib.hid (hr hrt)
        subst hrt
        go_wp2_with (refine wpList_load_row_g (by first | rfl | simp [Region.wanted, yielded]) 45 (.tmp 3) rfl w.heap.size rfl 45 cB (0, 0) _ hbx3 Tryz.underlying45 rfl hiB ?_)
        have n5 := below_new' w3 (.cells #[.int .i64 0, .int .i64 0, .int .i64 0, .int .u64 0, .string s] 59)
        have hN5 := heapN w3 (.cells #[.int .i64 0, .int .i64 0, .int .i64 0, .int .u64 0, .string s] 59)
        have hA5 := hAll3.out.below n5
        have hO5 : Ops (w3.alloc (.cells #[.int .i64 0, .int .i64 0, .int .i64 0, .int .u64 0, .string s] 59)) (some ⟨w3.heap.size, 0, none⟩) [⟨0, 0, 0, 0, s⟩] := fun i O hO => by
          rcases Nat.eq_zero_or_pos i with h0 | h0
          · subst h0
            injection hO with hO
            subst hO
            exact ⟨(by decide : 0 < 18446744073709551616), w3.heap.size, 0, rfl, blk_lt hN5, fun k v hk => by rw [show 0 + 0 * 5 + k = k by omega, cellBox hN5]; simpa [opC] using hk⟩
          · rw [List.getElem?_eq_none (by show 1 ≤ i; exact h0)] at hO; cases hO
        have hf5 := Lib.hid (hF2.out _ hA5.envW _ hO5)
        have hb5 := hbw.out.trans (n5.mono hbw.out.size)
        replace hA5 := Lib.hid hA5
        replace hb5 := Lib.hid hb5
        clear hN5 hO5 n5 hal hF2 hAll3 hbw
        go_wp2_with (refine wpList_load_row_g (by first | rfl | simp [Region.wanted, yielded]) 45 (.tmp 3) rfl w.heap.size rfl 45 cB (0, 0) _ hbx3 Tryz.underlying45 rfl hiB ?_)
        refine hf5.out.mono ?_
        rintro e w6 ⟨r2, rfl, -, hb6⟩
        have hA6 := Lib.hid (hA5.out.below hb6)
        have hbw := Lib.hid (hb5.out.trans (hb6.mono hb5.out.size))
        have hal := Lib.hid (alive_calls w6 hA6.out.envW)
        clear hb6 hf5 hA5 hb5
        cases r2
        · go_wp2_with fail
          refine hal.out.mono ?_
          rintro e wz ⟨rfl, hbz⟩
          have hbwz := Lib.hid (hbw.out.trans (hbz.mono hbw.out.size))
          clear hbz
          go_wp2_with fail
          go_ret
          exact ⟨rfl, hbwz.out⟩
        · go_wp2_with fail
          exact ⟨b, g, ⟨_, _, _, _, _, _, _, TwA.mk⟩, h1, h2, hA6.out, hfew.out⟩
      · obtain rfl : r = false := by simpa using hrt
        go_wp2_with fail
        refine hal.out.mono ?_
        rintro e wz ⟨rfl, hbz⟩
        have hbwz := Lib.hid (hbw.out.trans (hbz.mono hbw.out.size))
        clear hbz
        go_wp2_with fail
        go_ret
        exact ⟨rfl, hbwz.out⟩
  clear hF hx hb2 hE2 hbw2 t7 x hF2
  rintro _ w3 ⟨b, g, ⟨t8, t11, t12, t13, t14, t15, t16, hA⟩, h1, h2, hAll, hfew⟩
  cases hA
  have hsf : ((sf.toNat : Nat) : Int) = sf := Int.toNat_of_nonneg h1.1
  have hnum : Num sf.toNat 0 (newV sf.toNat ep f) := new_num _ _ _ h2
  refine wp_cut (fun a W => ∃ x v L, (∃ t8 t11 t12 t13 t14 t15 t16, TwA (.slice A l.length c) (.string s) (.pointer (some ⟨w.heap.size, 0, none⟩)) (.pointer (some ⟨b, 0, none⟩)) t8 t11 t12 t13 t14 t15 t16 a) ∧ AllB w1 W [⟨b, g, x, v, L⟩] ∧ Num sf.toNat l.length v ∧ L.length ≤ 2 * l.length) ?_ ?_
  · replace hAll := Lib.hid hAll
    clear hbx
    go_wp2_with fail
    go_loopw [52] (fun sC wr => ∃ i : Nat, i ≤ l.length ∧ sC = .int .i64 i ∧ ∃ x v L, AllB w1 wr [⟨b, g, x, v, L⟩] ∧ Num sf.toNat i v ∧ L.length ≤ 2 * i) (fun sC _ => l.length - (intOf sC).toNat)
    case atStart => exact ⟨0, by omega, rfl, _, _, _, hAll.out, hnum, Nat.le_refl _⟩
    case round =>
      clear hAll hnum
      obtain ⟨i, hi, rfl, x, v, L, hAll, hnum, hL⟩ := hrel
      by_cases hil : i < l.length
      · have hgo3 : decide ((i : Int) < (l.length : Int)) = true := decide_eq_true (by omega)
        have hi0 : (0 : Int) ≤ (i : Int) := by omega
        obtain ⟨O, hO⟩ : ∃ O, l[i]? = some O := ⟨l[i], List.getElem?_eq_getElem hil⟩
        have hlr := hl1.below hAll.bel
        have hle := (hlr i O hO).1
        have hos := hfew.2 i O hO
        have hlf := hfew.1
        obtain ⟨bo, o, rfl, hbl, u0, u1, u2, u3, u4⟩ := hlr.at hO
        have n1 := below_new' wr (.cells #[.int .i64 O.kind, .int .i64 O.n, .int .i64 O.slot, .int .u64 (O.least : Int), .string O.s] 59)
        have hbo := (below_drew (Below.refl _ _)).block _ (blk_lt (heapN wr (.cells #[.int .i64 O.kind, .int .i64 O.n, .int .i64 O.slot, .int .u64 (O.least : Int), .string O.s] 59))) |>.trans (heapN wr (.cells #[.int .i64 O.kind, .int .i64 O.n, .int .i64 O.slot, .int .u64 (O.least : Int), .string O.s] 59))
        have hA4 := (hAll.below n1).below (below_drew (Below.refl _ _))
        replace hbo := Lib.hid hbo
        replace hA4 := Lib.hid hA4
        replace hnum := Lib.hid hnum
        clear hlr n1 hAll hO hfew hl1
        go_wp2_with fail
        refine wp_region_held_drew (S := fun W => W.heap[wr.heap.size]? = some (.cells #[.int .i64 O.kind, .int .i64 O.n, .int .i64 O.slot, .int .u64 (O.least : Int), .string O.s] 59 (0, 0))) (by kernel_rfl) hbo.out (fun hHeld => ?_)
        clear hHeld
        have hS := hbo.out
        have hAll := hA4.out
        replace hnum := hnum.out
        clear hbo hA4 u0 u1 u2 u3 u4
        change (World.drew (wr.alloc (.cells #[.int .i64 O.kind, .int .i64 O.n, .int .i64 O.slot, .int .u64 (O.least : Int), .string O.s] 59))).heap[wr.heap.size]? = _ at hS
        generalize World.drew _ = W4 at *
        generalize wr.heap.size = p at *
        refine wpAnyH_take (i := 0) (oi := ⟨some 56, _, _, _, _, _⟩) (v := .pointer (some ⟨b, 0, none⟩)) rfl (by kernel_rfl) (by kernel_rfl) (by kernel_rfl) (fun _ _ _ h => h) (Or.inl ⟨by rfl, fun W hW => by go_simp⟩) hS ?_
        try simp only [Act.put, List.setIfInBounds_toArray, List.set_cons_zero, List.set_cons_succ]
        refine wpAnyH_take (i := 4) (oi := ⟨some 60, _, _, _, _, _⟩) (v := .agg #[.int .i64 O.kind, .int .i64 O.n, .int .i64 O.slot, .int .u64 (O.least : Int), .string O.s]) rfl (by kernel_rfl) (by kernel_rfl) (by kernel_rfl) (fun _ _ _ h => h) (yields_row (by rfl) 59 (.tmp 10) rfl p rfl 59 #[.int .i64 O.kind, .int .i64 O.n, .int .i64 O.slot, .int .u64 (O.least : Int), .string O.s] (0, 0) _ (fun W hW => hW) Tryz.underlying59 rfl info_op) hS ?_
        try simp only [Act.put, List.setIfInBounds_toArray, List.set_cons_zero, List.set_cons_succ]
        obtain ⟨W5, hrun, hX, hb5⟩ := make_nodes W4
        refine wpAnyH_ready (rs := [1]) (by kernel_rfl) (by simp) ?_
        refine AllReadyH.cons (o := ⟨some 57, _, _, _, _, _⟩) rfl (fun K hK => ?_) AllReadyH.nil
        rw [if_pos (by rfl)]
        refine wp_make rfl hrun ?_
        have hS5 := (hb5.block _ (blk_lt hS)).trans hS
        refine hK.out _ _ hS5 (fun hHeld => ?_)
        clear hK K hrun hHeld
        have hS := hS5
        replace hAll := hAll.below hb5
        have hXB : XBus W5 W4.heap.size (.slice none 0 0) X0 [] := ⟨hX, own_nil _ _ _ _⟩
        clear hX hb5 hS5
        generalize W4.heap.size = p2 at *
        try simp only [Act.put, List.setIfInBounds_toArray, List.set_cons_zero, List.set_cons_succ]
        refine wpAnyH_take (i := 2) (oi := ⟨some 58, _, _, _, _, _⟩) (v := .agg #[.int .i64 0, .slice (some ⟨p2, 0, none⟩) 64 64, .int .u64 0]) rfl (by kernel_rfl) (by kernel_rfl) (by kernel_rfl) (fun _ _ _ h => h) (Or.inl ⟨by rfl, fun W hW => by go_simp⟩) hS ?_
        try simp only [Act.put, List.setIfInBounds_toArray, List.set_cons_zero, List.set_cons_succ]
        refine wpAnyH_take (i := 3) (oi := ⟨some 59, _, _, _, _, _⟩) (v := .agg #[.int .i64 0, .slice (some ⟨p2, 0, none⟩) 64 64, .int .u64 0, .slice none 0 0]) rfl (by kernel_rfl) (by kernel_rfl) (by kernel_rfl) (fun _ _ _ h => h) (Or.inl ⟨by rfl, fun W hW => by go_simp⟩) hS ?_
        try simp only [Act.put, List.setIfInBounds_toArray, List.set_cons_zero, List.set_cons_succ]
        refine wpAnyH_ready (rs := [5]) (by kernel_rfl) (by simp) ?_
        refine AllReadyH.cons (o := ⟨some 61, _, _, _, _, _⟩) rfl (fun K hK => ?_) AllReadyH.nil
        rw [if_pos (by rfl)]
        go_simp
        have hD : Calls Tryz.prog 16 #[.pointer (some ⟨b, 0, none⟩), .agg #[.int .i64 0, .slice (some ⟨p2, 0, none⟩) 64 64, .int .u64 0, .slice none 0 0], .agg #[.int .i64 O.kind, .int .i64 O.n, .int .i64 O.slot, .int .u64 (O.least : Int), .string O.s]] W5 (DoesPost W5 b g x (doV v L O) (doX X0 [] O) (v.self = X0.self ∧ (takeB v O.s.data.toList).2.2 = (takeR X0 O.s.data.toList).2.2 ∧ L = [])) :=
          does_calls W5 hAll.envW (hAll.all 0 ⟨b, g, x, v, L⟩ rfl) (hAll.envs (i := 0) (β := ⟨b, g, x, v, L⟩) rfl) hXB (by decide) (by have := hnum.cur; show v.cur + 1 < _; omega) (by decide) (by show L.length ≤ _; omega) (by decide) O hle hos
        refine hD.mono ?_
        rintro e W6 ⟨g9, c9, y9, ok, rfl, -, hP, -⟩
        obtain ⟨x6, hA6, hbut6, -⟩ := hAll.post (i := 0) (β := ⟨b, g, x, v, L⟩) rfl hP
        have hA6 : AllB w1 W6 [⟨b, g, x6, (doV v L O).1, (doV v L O).2⟩] := hA6
        have hdn := do_num (O := O) hnum hL
        have hS6 := (hbut6.block _ (blk_lt hS) (foot_type (hAll.all 0 ⟨b, g, x, v, L⟩ rfl) hS (by decide) (by decide) (by decide))).trans hS
        replace hA6 := Lib.hid hA6
        replace hdn := Lib.hid hdn
        replace hS6 := Lib.hid hS6
        clear hD hP hAll hS hXB hnum hbut6
        generalize doV v L O = vl at *
        go_wp2_with fail
        refine hK.out _ _ hS6.out (fun hHeld => ?_)
        clear hK K hHeld
        try simp only [Act.put, List.setIfInBounds_toArray, List.set_cons_zero, List.set_cons_succ]
        refine wpAnyH_done (by kernel_rfl) ?_ _
        go_wp2_with fail
        exact ⟨⟨i + 1, by omega, by go_num, x6, vl.1, vl.2, hA6.out, hdn.out.1, hdn.out.2⟩, by simp [intOf]; omega⟩
      · obtain rfl : i = l.length := by omega
        have hgo3 : decide ((l.length : Int) < (l.length : Int)) = false := decide_eq_false (by omega)
        replace hAll := Lib.hid hAll
        go_wp2_with fail
        exact ⟨x, v, L, ⟨_, _, _, _, _, _, _, TwA.mk⟩, hAll.out, hnum, hL⟩
  have hlf := hfew.1
  clear hl1 hfew hnum hAll
  rintro _ w4 ⟨x, v, L, ⟨t8, t11, t12, t13, t14, t15, t16, hA⟩, hAll, hnum, hL⟩
  cases hA
  have htw := takeB_twice (s := s.data.toList) hnum
  have hn1 := takeB_num (s := s.data.toList) hnum
  generalize htk : takeB v s.data.toList = tk at *
  obtain ⟨v1, ps, ok⟩ := tk
  have htw : takeB v1 s.data.toList = (v1, ps, ok) := htw
  have hn1 : Num sf.toNat (l.length + 1) v1 ∧ ps.length ≤ 2 := hn1
  obtain ⟨hn1, hps⟩ := hn1
  have hcur := hnum.cur
  have hcur1 := hn1.cur
  refine wp_cut (fun a W => (∃ t8 t11 t12 t13 t14 t15 t16, TwA (.slice A l.length c) (.string s) (.pointer (some ⟨w.heap.size, 0, none⟩)) (.pointer (some ⟨b, 0, none⟩)) t8 t11 t12 t13 t14 t15 t16 a) ∧ AllB w1 W [⟨b, g, .slice none 0 0, v, []⟩]) ?_ ?_
  · have hO := Lib.hid (aOuts_calls hAll (i := 0) (β := ⟨b, g, x, v, L⟩) rfl)
    clear hAll hbx hb1
    go_wp2_with fail
    refine hO.out.mono ?_
    rintro e w7 ⟨Y, cy, rfl, hA7, -, -⟩
    have hA7 : AllB w1 w7 [⟨b, g, .slice none 0 0, v, []⟩] := hA7
    replace hA7 := Lib.hid hA7
    clear hO
    go_wp2_with fail
    exact ⟨⟨_, _, _, _, _, _, _, TwA.mk⟩, hA7.out⟩
  clear hAll x L hL
  rintro _ w5 ⟨⟨t8, t11, t12, t13, t14, t15, t16, hA⟩, hAll⟩
  cases hA
  refine wp_cut (fun a W => ∃ x, (∃ t8 t12 t13 t14 t15 t16, TwA (.slice A l.length c) (.string s) (.pointer (some ⟨w.heap.size, 0, none⟩)) (.pointer (some ⟨b, 0, none⟩)) t8 (.bool ok) t12 t13 t14 t15 t16 a) ∧ AllB w1 W [⟨b, g, x, v1, ps⟩]) ?_ ?_
  · have hT := bTake_calls w5 (hAll.all 0 ⟨b, g, .slice none 0 0, v, []⟩ rfl) (hAll.envs (i := 0) (β := ⟨b, g, .slice none 0 0, v, []⟩) rfl) s (Nat.le_trans hs (by decide)) (by show v.cur + 1 < _; omega) (Nat.zero_le _)
    unfold BtPost at hT
    rw [htk] at hT
    replace hT := Lib.hid hT
    replace hAll := Lib.hid hAll
    go_wp2_with fail
    refine hT.out.mono ?_
    rintro e w9 ⟨rfl, hP⟩
    obtain ⟨x9, hA9, hbut9, -⟩ := hAll.out.post (i := 0) (β := ⟨b, g, .slice none 0 0, v, []⟩) rfl hP
    have hA9 : AllB w1 w9 [⟨b, g, x9, v1, ps⟩] := hA9
    replace hA9 := Lib.hid hA9
    clear hT hP hbut9 hAll
    go_wp2_with fail
    exact ⟨x9, ⟨_, _, _, _, _, _, TwA.mk⟩, hA9.out⟩
  clear hAll
  rintro _ w6 ⟨x, ⟨t8, t12, t13, t14, t15, t16, hA⟩, hAll⟩
  cases hA
  refine wp_cut (fun a W => ∃ Y cy, (∃ t8 t13 t14 t15 t16, TwA (.slice A l.length c) (.string s) (.pointer (some ⟨w.heap.size, 0, none⟩)) (.pointer (some ⟨b, 0, none⟩)) t8 (.bool ok) (.slice Y ps.length cy) t13 t14 t15 t16 a) ∧ AllB w1 W [⟨b, g, .slice none 0 0, v1, []⟩] ∧ W.ownsRow 0 35 2 (.slice Y ps.length cy) ps.length (outR ps) ∧ (∀ k, (Value.slice Y ps.length cy).ownBlock = some k → ¬ foot b g (.slice none 0 0) k)) ?_ ?_
  · have hO := Lib.hid (aOuts_calls hAll (i := 0) (β := ⟨b, g, x, v1, ps⟩) rfl)
    clear hAll hbx hb1
    go_wp2_with fail
    refine hO.out.mono ?_
    rintro e w7 ⟨Y, cy, rfl, hA7, hr7, haw⟩
    have hA7 : AllB w1 w7 [⟨b, g, .slice none 0 0, v1, []⟩] := hA7
    have haw : (∀ k, (Value.slice Y ps.length cy).ownBlock = some k → ¬ foot b g (.slice none 0 0) k) := fun k hk => haw k hk 0 _ rfl
    replace hA7 := Lib.hid hA7
    replace hr7 := Lib.hid hr7
    replace haw := Lib.hid haw
    clear hO
    go_wp2_with fail
    exact ⟨Y, cy, ⟨_, _, _, _, _, TwA.mk⟩, hA7.out, hr7.out, haw.out⟩
  clear hAll x
  rintro _ w7 ⟨Y, cy, ⟨t8, t13, t14, t15, t16, hA⟩, hAll, hr, haw⟩
  cases hA
  refine wp_cut (fun a W => ∃ g1, (∃ t8 t14 t15 t16, TwA (.slice A l.length c) (.string s) (.pointer (some ⟨w.heap.size, 0, none⟩)) (.pointer (some ⟨b, 0, none⟩)) t8 (.bool ok) (.slice Y ps.length cy) (.pointer (some ⟨g1, 0, none⟩)) t14 t15 t16 a) ∧ AllB w1 W [⟨b, g, .slice none 0 0, v1, []⟩] ∧ W.ownsRow 0 35 2 (.slice Y ps.length cy) ps.length (outR ps) ∧ VB W g1 v1 ∧ g1 ≠ b ∧ g1 ≠ g) ?_ ?_
  · have hBB := hAll.all 0 ⟨b, g, .slice none 0 0, v1, []⟩ rfl
    have hV := Lib.hid (bView_calls w7 hBB)
    have hlb := hBB.lt.1
    have hlg := hBB.lt.2.1
    replace hAll := Lib.hid hAll
    replace hr := Lib.hid hr
    clear hBB
    go_wp2_with fail
    refine hV.out.mono ?_
    rintro e w8 ⟨g1, rfl, hg1, hv1, hb8⟩
    have hA8 := Lib.hid (hAll.out.below hb8)
    have hr8 := Lib.hid (pw_own_below hr.out hb8)
    replace hv1 := Lib.hid hv1
    clear hV hb8 hAll hr
    go_wp2_with fail
    exact ⟨g1, ⟨_, _, _, _, TwA.mk⟩, hA8.out, hr8.out, hv1.out, by omega, by omega⟩
  clear hAll hr
  rintro _ w8 ⟨g1, ⟨t8, t14, t15, t16, hA⟩, hAll, hr, hv1, hg1, hg2⟩
  cases hA
  refine wp_cut (fun a W => ∃ x, (∃ t8 t15 t16, TwA (.slice A l.length c) (.string s) (.pointer (some ⟨w.heap.size, 0, none⟩)) (.pointer (some ⟨b, 0, none⟩)) t8 (.bool ok) (.slice Y ps.length cy) (.pointer (some ⟨g1, 0, none⟩)) (.bool ok) t15 t16 a) ∧ AllB w1 W [⟨b, g, x, v1, ps⟩] ∧ W.ownsRow 0 35 2 (.slice Y ps.length cy) ps.length (outR ps) ∧ VB W g1 v1) ?_ ?_
  · have hT := bTake_calls w8 (hAll.all 0 ⟨b, g, .slice none 0 0, v1, []⟩ rfl) (hAll.envs (i := 0) (β := ⟨b, g, .slice none 0 0, v1, []⟩) rfl) s (Nat.le_trans hs (by decide)) (by show v1.cur + 1 < _; omega) (Nat.zero_le _)
    unfold BtPost at hT
    rw [htw] at hT
    replace hT := Lib.hid hT
    replace hAll := Lib.hid hAll
    replace hv1 := Lib.hid hv1
    replace hr := Lib.hid hr
    go_wp2_with fail
    refine hT.out.mono ?_
    rintro e w9 ⟨rfl, hP⟩
    obtain ⟨x9, hA9, hbut9, -⟩ := hAll.out.post (i := 0) (β := ⟨b, g, .slice none 0 0, v1, []⟩) rfl hP
    have hA9 : AllB w1 w9 [⟨b, g, x9, v1, ps⟩] := hA9
    have hv9 : VB w9 g1 v1 := hv1.out.keep hbut9 (fun h => Or.elim h hg1 fun h => Or.elim h hg2 fun h => by simp [Value.ownBlock] at h)
    have hr9 := own_keep hr.out hbut9 (fun k hk e => haw k hk e)
    replace hA9 := Lib.hid hA9
    replace hv9 := Lib.hid hv9
    replace hr9 := Lib.hid hr9
    clear hT hP hbut9 hAll hv1 hr
    go_wp2_with fail
    exact ⟨x9, ⟨_, _, _, TwA.mk⟩, hA9.out, hr9.out, hv9.out⟩
  clear hAll hv1 hr
  rintro _ w9 ⟨x, ⟨t8, t15, t16, hA⟩, hAll, hr, hv1⟩
  cases hA
  refine wp_cut (fun a W => ∃ Y2 cz, (∃ t8 t16, TwA (.slice A l.length c) (.string s) (.pointer (some ⟨w.heap.size, 0, none⟩)) (.pointer (some ⟨b, 0, none⟩)) t8 (.bool ok) (.slice Y ps.length cy) (.pointer (some ⟨g1, 0, none⟩)) (.bool ok) (.slice Y2 ps.length cz) t16 a) ∧ AllB w1 W [⟨b, g, .slice none 0 0, v1, []⟩] ∧ W.ownsRow 0 35 2 (.slice Y ps.length cy) ps.length (outR ps) ∧ VB W g1 v1 ∧ W.ownsRow 0 35 2 (.slice Y2 ps.length cz) ps.length (outR ps)) ?_ ?_
  · have hO := Lib.hid (bOuts_calls w9 (hAll.all 0 ⟨b, g, x, v1, ps⟩ rfl))
    replace hAll := Lib.hid hAll
    replace hv1 := Lib.hid hv1
    replace hr := Lib.hid hr
    clear hbx hb1
    go_wp2_with fail
    refine hO.out.mono ?_
    rintro e w10 ⟨rfl, hBB, hr2, hbut⟩
    obtain ⟨Y2, cz, hx⟩ := own_slice hr2
    have hx : x = .slice Y2 ps.length cz := hx
    subst hx
    have hA10 : AllB w1 w10 [⟨b, g, .slice none 0 0, v1, []⟩] := hAll.out.outs (i := 0) (β := ⟨b, g, .slice Y2 ps.length cz, v1, ps⟩) rfl hBB hbut
    have hv10 : VB w10 g1 v1 := hv1.out.keep hbut (fun h => hg1 h)
    have hr10 := own_keep hr.out hbut (fun k hk e => haw k hk (Or.inl e))
    replace hA10 := Lib.hid hA10
    replace hv10 := Lib.hid hv10
    replace hr10 := Lib.hid hr10
    replace hr2 := Lib.hid hr2
    clear hO hBB hbut hAll hv1 hr
    go_wp2_with fail
    exact ⟨Y2, cz, ⟨_, _, TwA.mk⟩, hA10.out, hr10.out, hv10.out, hr2.out⟩
  clear hAll hv1 hr x
  rintro _ w10 ⟨Y2, cz, ⟨t8, t16, hA⟩, hAll, hr, hv1, hr2⟩
  cases hA
  refine wp_cut (fun a W => ∃ g3, (∃ t7 t8, TwA (.slice A l.length c) (.string s) (.pointer (some ⟨w.heap.size, 0, none⟩)) t7 t8 (.bool ok) (.slice Y ps.length cy) (.pointer (some ⟨g1, 0, none⟩)) (.bool ok) (.slice Y2 ps.length cz) (.pointer (some ⟨g3, 0, none⟩)) a) ∧ Below w1.heap.size w1 W ∧ W.ownsRow 0 35 2 (.slice Y ps.length cy) ps.length (outR ps) ∧ VB W g1 v1 ∧ W.ownsRow 0 35 2 (.slice Y2 ps.length cz) ps.length (outR ps) ∧ VB W g3 v1) ?_ ?_
  · have hV := Lib.hid (bView_calls w10 (hAll.all 0 ⟨b, g, .slice none 0 0, v1, []⟩ rfl))
    have hbel := Lib.hid hAll.bel
    replace hr := Lib.hid hr
    replace hr2 := Lib.hid hr2
    replace hv1 := Lib.hid hv1
    clear hAll
    go_wp2_with fail
    refine hV.out.mono ?_
    rintro e w11 ⟨g3, rfl, -, hv3, hb8⟩
    have hb11 := Lib.hid (hbel.out.trans (hb8.mono hbel.out.size))
    have hr11 := Lib.hid (pw_own_below hr.out hb8)
    have hr12 := Lib.hid (pw_own_below hr2.out hb8)
    have hv11 := Lib.hid (hv1.out.below hb8)
    replace hv3 := Lib.hid hv3
    clear hV hb8 hbel hr hr2 hv1
    go_wp2_with fail
    exact ⟨g3, ⟨_, _, TwA.mk⟩, hb11.out, hr11.out, hv11.out, hr12.out, hv3.out⟩
  clear hAll hr hr2 hv1
  rintro _ w11 ⟨g3, ⟨t7, t8, hA⟩, hbel, hr, hv1, hr2, hv3⟩
  cases hA
  refine wp_cut (fun a W => (∃ t7 t8 t11 t14, TwA (.slice A l.length c) (.string s) (.pointer (some ⟨w.heap.size, 0, none⟩)) t7 t8 t11 (.slice Y ps.length cy) (.pointer (some ⟨g1, 0, none⟩)) t14 (.slice Y2 ps.length cz) (.pointer (some ⟨g3, 0, none⟩)) a) ∧ W = w11) ?_ ?_
  · have hC1 := Lib.hid (vCurrent_calls w11 hv1)
    have hC3 := Lib.hid (vCurrent_calls w11 hv3)
    clear hv1 hv3 hr hr2 hbel
    go_wp2_with fail
    refine hC1.out.mono ?_
    rintro e _ ⟨rfl, rfl⟩
    go_wp2_with fail
    refine hC3.out.mono ?_
    rintro e _ ⟨rfl, rfl⟩
    go_wp2_with fail
    exact ⟨⟨_, _, _, _, TwA.mk⟩, trivial⟩
  rintro _ w12 ⟨⟨t7, t8, t11, t14, hA⟩, rfl⟩
  cases hA
  obtain ⟨hlc, hlq⟩ := out_cells hr
  obtain ⟨hmc, hmq⟩ := out_cells hr2
  clear hr hr2
  refine wp_cut (fun a W => (∃ t7 t8 t11 t12 t14 t15, TwA (.slice A l.length c) (.string s) (.pointer (some ⟨w.heap.size, 0, none⟩)) t7 t8 t11 t12 (.pointer (some ⟨g1, 0, none⟩)) t14 t15 (.pointer (some ⟨g3, 0, none⟩)) a) ∧ Below w12.heap.size w12 W) ?_ ?_
  · replace hbel := Lib.hid hbel
    replace hv1 := Lib.hid hv1
    replace hv3 := Lib.hid hv3
    clear hb1 hbx
    go_wp2_with fail
    go_loopw [106] (fun sC wr => ∃ i : Nat, i ≤ ps.length ∧ sC = .int .i64 i ∧ Below w12.heap.size w12 wr) (fun sC _ => ps.length - (intOf sC).toNat)
    case atStart => exact ⟨0, by omega, rfl, Below.refl _ _⟩
    case round =>
      obtain ⟨i, hi, rfl, hb⟩ := hrel
      by_cases hil : i < ps.length
      · have hgo3 : decide ((i : Int) < (ps.length : Int)) = true := decide_eq_true (by omega)
        have hi0 : (0 : Int) ≤ (i : Int) := by omega
        obtain ⟨p, hp⟩ : ∃ p, ps[i]? = some p := ⟨ps[i], List.getElem?_eq_getElem hil⟩
        obtain ⟨k, rfl, hk, u0, u1⟩ := hlq i p hp
        obtain ⟨m, rfl, hm, y0, y1⟩ := hmq i p hp
        replace u0 := (hb.cell (p := ⟨k, i * 2, none⟩) hk).trans u0
        replace u1 := (hb.cell (p := ⟨k, i * 2 + 1, none⟩) hk).trans u1
        replace y0 := (hb.cell (p := ⟨m, i * 2, none⟩) hm).trans y0
        replace y1 := (hb.cell (p := ⟨m, i * 2 + 1, none⟩) hm).trans y1
        have hS : wr.drew.cell? ⟨k, i * 2, none⟩ = some (.int .i64 p.1) ∧ wr.drew.cell? ⟨k, i * 2 + 1, none⟩ = some (.string p.2) ∧ wr.drew.cell? ⟨m, i * 2, none⟩ = some (.int .i64 p.1) ∧ wr.drew.cell? ⟨m, i * 2 + 1, none⟩ = some (.string p.2) := ⟨u0, u1, y0, y1⟩
        replace hS := Lib.hid hS
        have hbd := Lib.hid (hb.trans ((below_drew (Below.refl wr.heap.size wr)).mono hb.size))
        clear u0 u1 y0 y1 hb hp hlq hmq
        go_wp2_with fail
        refine wp_region_held_drew (S := fun W => W.cell? ⟨k, i * 2, none⟩ = some (.int .i64 p.1) ∧ W.cell? ⟨k, i * 2 + 1, none⟩ = some (.string p.2) ∧ W.cell? ⟨m, i * 2, none⟩ = some (.int .i64 p.1) ∧ W.cell? ⟨m, i * 2 + 1, none⟩ = some (.string p.2)) (by kernel_rfl) hS.out (fun hHeld => ?_)
        clear hHeld
        replace hS := hS.out
        generalize World.drew _ = W2 at *
        refine wpAnyH_take (i := 0) (oi := ⟨some 109, _, _, _, _, _⟩) (v := .slice (some ⟨k, 0, none⟩) ps.length cy) rfl (by kernel_rfl) (by kernel_rfl) (by kernel_rfl) (fun _ _ _ h => h) (Or.inl ⟨by rfl, fun W hW => by go_simp; try (intro h; omega)⟩) hS ?_
        try simp only [Act.put, List.setIfInBounds_toArray, List.set_cons_zero, List.set_cons_succ]
        refine wpAnyH_take (i := 1) (oi := ⟨some 110, _, _, _, _, _⟩) (v := .int .i64 (i : Int)) rfl (by kernel_rfl) (by kernel_rfl) (by kernel_rfl) (fun _ _ _ h => h) (Or.inl ⟨by rfl, fun W hW => by go_simp; try (intro h; omega)⟩) hS ?_
        try simp only [Act.put, List.setIfInBounds_toArray, List.set_cons_zero, List.set_cons_succ]
        refine wpAnyH_take (i := 2) (oi := ⟨some 111, _, _, _, _, _⟩) (v := .pointer (some ⟨k, i * 2, none⟩)) rfl (by kernel_rfl) (by kernel_rfl) (by kernel_rfl) (fun _ _ _ h => h) (Or.inl ⟨by rfl, fun W hW => by go_simp; try (intro h; omega)⟩) hS ?_
        try simp only [Act.put, List.setIfInBounds_toArray, List.set_cons_zero, List.set_cons_succ]
        refine wpAnyH_take (i := 3) (oi := ⟨some 112, _, _, _, _, _⟩) (v := .agg #[.int .i64 p.1, .string p.2]) rfl (by kernel_rfl) (by kernel_rfl) (by kernel_rfl) (fun _ _ _ h => h) (Or.inl ⟨by rfl, fun W hW => by obtain ⟨p0, p1, p2, p3⟩ := hW; go_simp; try (intro h; omega)⟩) hS ?_
        try simp only [Act.put, List.setIfInBounds_toArray, List.set_cons_zero, List.set_cons_succ]
        refine wpAnyH_take (i := 4) (oi := ⟨some 113, _, _, _, _, _⟩) (v := .slice (some ⟨m, 0, none⟩) ps.length cz) rfl (by kernel_rfl) (by kernel_rfl) (by kernel_rfl) (fun _ _ _ h => h) (Or.inl ⟨by rfl, fun W hW => by go_simp; try (intro h; omega)⟩) hS ?_
        try simp only [Act.put, List.setIfInBounds_toArray, List.set_cons_zero, List.set_cons_succ]
        refine wpAnyH_take (i := 5) (oi := ⟨some 114, _, _, _, _, _⟩) (v := .int .i64 (i : Int)) rfl (by kernel_rfl) (by kernel_rfl) (by kernel_rfl) (fun _ _ _ h => h) (Or.inl ⟨by rfl, fun W hW => by go_simp; try (intro h; omega)⟩) hS ?_
        try simp only [Act.put, List.setIfInBounds_toArray, List.set_cons_zero, List.set_cons_succ]
        refine wpAnyH_take (i := 6) (oi := ⟨some 115, _, _, _, _, _⟩) (v := .pointer (some ⟨m, i * 2, none⟩)) rfl (by kernel_rfl) (by kernel_rfl) (by kernel_rfl) (fun _ _ _ h => h) (Or.inl ⟨by rfl, fun W hW => by go_simp; try (intro h; omega)⟩) hS ?_
        try simp only [Act.put, List.setIfInBounds_toArray, List.set_cons_zero, List.set_cons_succ]
        refine wpAnyH_take (i := 7) (oi := ⟨some 116, _, _, _, _, _⟩) (v := .agg #[.int .i64 p.1, .string p.2]) rfl (by kernel_rfl) (by kernel_rfl) (by kernel_rfl) (fun _ _ _ h => h) (Or.inl ⟨by rfl, fun W hW => by obtain ⟨p0, p1, p2, p3⟩ := hW; go_simp; try (intro h; omega)⟩) hS ?_
        try simp only [Act.put, List.setIfInBounds_toArray, List.set_cons_zero, List.set_cons_succ]
        refine wpAnyH_take (i := 8) (oi := ⟨some 117, _, _, _, _, _⟩) (v := .bool false) rfl (by kernel_rfl) (by kernel_rfl) (by kernel_rfl) (fun _ _ _ h => h) (Or.inl ⟨by rfl, fun W hW => by go_simp; try (intro h; omega)⟩) hS ?_
        try simp only [Act.put, List.setIfInBounds_toArray, List.set_cons_zero, List.set_cons_succ]
        refine wpAnyH_done (by kernel_rfl) ?_ _
        clear hS
        go_wp2_with fail
        exact ⟨⟨i + 1, by omega, by go_num, hbd.out⟩, by simp [intOf]; omega⟩
      · obtain rfl : i = ps.length := by omega
        have hgo3 : decide ((ps.length : Int) < (ps.length : Int)) = false := decide_eq_false (by omega)
        replace hb := Lib.hid hb
        go_wp2_with fail
        exact ⟨⟨_, _, _, _, _, _, TwA.mk⟩, hb.out⟩
  clear hlq hmq
  rintro _ w11 ⟨⟨t7, t8, t11, t12, t14, t15, hA⟩, hb11⟩
  cases hA
  replace hbel := hbel.trans (hb11.mono hbel.size)
  replace hv1 := hv1.below hb11
  replace hv3 := hv3.below hb11
  clear hb11
  refine wp_cut (fun a W => (∃ t7 t8 t11 t12 t13 t14 t15 t16, TwA (.slice A l.length c) (.string s) (.pointer (some ⟨w.heap.size, 0, none⟩)) t7 t8 t11 t12 t13 t14 t15 t16 a) ∧ Below w1.heap.size w1 W) ?_ ?_
  · replace hbel := Lib.hid hbel
    clear hb1 hbx
    go_wp2_with fail
    go_loopw [119] (fun sC wr => ∃ i : Nat, i ≤ 64 ∧ sC = .int .i64 i ∧ Below w11.heap.size w11 wr) (fun sC _ => 64 - (intOf sC).toNat)
    case atStart => exact ⟨0, by omega, rfl, Below.refl _ _⟩
    case round =>
      obtain ⟨i, hi, rfl, hb⟩ := hrel
      by_cases hi64 : i < 64
      · have hgo3 : decide ((i : Int) < 64) = true := decide_eq_true (by omega)
        have hE1' := Lib.hid (vEpoch_calls wr (hv1.below hb) i hi64)
        have hE3' := Lib.hid (vEpoch_calls wr (hv3.below hb) i hi64)
        have hC1 := Lib.hid (vClaims_calls wr (hv1.below hb) i hi64)
        have hv3' := Lib.hid (hv3.below hb)
        replace hb := Lib.hid hb
        go_wp2_with fail
        refine hE1'.out.mono ?_
        rintro e _ ⟨rfl, rfl⟩
        go_wp2_with fail
        refine hE3'.out.mono ?_
        rintro e _ ⟨rfl, rfl⟩
        clear hE1' hE3'
        go_wp2_with fail
        refine hC1.out.mono ?_
        rintro e w12 ⟨a1, rfl, ha1, hb12⟩
        have hb12' := Lib.hid (hb.out.trans (hb12.mono hb.out.size))
        have hC3 := Lib.hid (vClaims_calls w12 (hv3'.out.below hb12) i hi64)
        clear hC1 hb12
        go_wp2_with fail
        refine hC3.out.mono ?_
        rintro e w13 ⟨a3, rfl, ha3, hb13⟩
        obtain rfl : a1 = a3 := words_same ha1 ha3
        have hq := fun W => words_neq ha1 ha3 W
        have hb13' := Lib.hid (hb12'.out.trans (hb13.mono hb12'.out.size))
        clear hC3 hb13 ha1 ha3 hb12'
        go_wp2_with fail
        exact ⟨⟨i + 1, by omega, by go_num, hb13'.out⟩, by simp [intOf]; omega⟩
      · obtain rfl : i = 64 := by omega
        have hb14 := Lib.hid (hbel.out.trans (hb.mono hbel.out.size))
        clear hb
        go_wp2_with fail
        exact ⟨⟨_, _, _, _, _, _, _, _, TwA.mk⟩, hb14.out⟩
  clear hbel hv1 hv3
  rintro _ w14 ⟨⟨t7, t8, t11, t12, t13, t14, t15, t16, hA⟩, hbel⟩
  cases hA
  have hal := Lib.hid (alive_calls w14 (hE1.below hbel))
  have hbw := Lib.hid (hb1.trans (hbel.mono hb1.size))
  clear hbel hb1
  go_wp2_with fail
  refine hal.out.mono ?_
  rintro e wz ⟨rfl, hbz⟩
  have hbwz := Lib.hid (hbw.out.trans (hbz.mono hbw.out.size))
  clear hbz
  go_wp2_with fail
  go_ret
  exact ⟨rfl, hbwz.out⟩
end Go.Proofs.YtgdcnenlelckhaaGreatDoor

namespace Go.Proofs.YtgdcnenlelckhaaGreatDoor
open Go.RowKit
theorem BusTwice_walk (cB : Array Value) (sf : Int) (ep : Nat) (a : Array Value) (f : Nat → Nat) (A : Option Addr) (c : Nat) (l : List OpV) (s : ByteArray) (W : World) (hE : Env W) (hB : BegIs cB sf ep a f) (hl : Ops W A l) (hc : l.length ≤ c) (hcm : c ≤ 9223372036854775807)
    (hsz : ∀ (i : Nat) (O : OpV), l[i]? = some O → O.s.size ≤ 4294967296) (hs : s.size ≤ 1048576) : Calls Tryz.prog 6 #[.agg cB, .slice A l.length c, .string s] W fun e w' => e = .returned (.bool true) ∧ Below W.heap.size W w' :=
  twice_calls W hE cB sf ep a f hB A c l hl hc hcm hsz s (Nat.le_trans hs (by decide))
end Go.Proofs.YtgdcnenlelckhaaGreatDoor
