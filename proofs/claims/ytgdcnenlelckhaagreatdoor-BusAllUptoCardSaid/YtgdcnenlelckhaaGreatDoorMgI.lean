/- What is not a packet, or the node's own, changes nothing: the walk. A beginning, a script, as they come in. Conditions: the listed variables as laid; texts within the form's reach. -/
import Derived.Test.YtgdcnenlelckhaaGreatDoorMgH
import Derived.Test.YtgdcnenlelckhaaGreatDoorMgG
import Derived.Test.YtgdcnenlelckhaaGreatDoorRows
import Derived.ProofKit
import Derived.OpenShut
import Derived.Carry
import Derived.Deep.Slices
import Derived.SliceStrings
set_option linter.unusedVariables false
set_option linter.unusedSimpArgs false
namespace Go.Proofs.YtgdcnenlelckhaaGreatDoor
open Go.RowKit Go.Proofs.YtgdcnenlelckhaaGreatDoorW.PrintWords
open SlS SlT
theorem words_same {a b : Array Value} {f : Nat → Nat} (ha : Words a f) (hb : Words b f) : a = b := by
  apply Array.ext
  · rw [ha.size, hb.size]
  · intro i h1 h2
    have h3 := ha.get i (by rw [← ha.size]; exact h1)
    have h4 := hb.get i (by rw [← ha.size]; exact h1)
    rw [Array.getElem?_eq_getElem h1] at h3
    rw [Array.getElem?_eq_getElem h2] at h4
    rw [← h4] at h3
    injection h3
theorem words_neq {a b : Array Value} {f : Nat → Nat} (ha : Words a f) (hb : Words b f) (W : World) : (Op.equalIn 10000 43 (.agg a) (.agg b)).run Tryz.prog W = .ok true W := by
  rw [show (10000 : Nat) = 9998 + 2 from rfl, eqInW 9998 ha hb W, eqW_self fun _ _ => rfl]
theorem info_op : (Tryz.prog.info? 59).map (·.size) = some 5 := by kernel_rfl
theorem info_beg : (Tryz.prog.info? 45).map (·.size) = some 258 := by kernel_rfl
inductive IgA (t1 t2 t3 t7 t8 t11 t12 t13 t14 t15 : Value) : Act → Prop
  | mk {u0 u4 u5 u6 u9 u10 u16 u17 u18 u19 u20 u21 u22 u23 u24 u25 u26 u27 u28 u29 u30 u31 u32 u33 u34 u35 u36 u37 u38 u39 u40 u41 u42 u43 u44 u45 u46 u47 u48 u49 u50 u51 u52 u53 u54 u55 u56 u57 u58 u59 u60 u61 u62 u63 u64 u65 u66 u67 u68 u69 u70 u71 u72 u73 u74 u75 u76 u77 u78 u79 u80 u81 u82 u83 u84 u85 u86 u87 u88 u89 u90 u91 u92 u93 u94 u95 u96 u97 u98 u99 u100 u101 u102 u103 u104 u105 u106 u107 u108 u109 u110 u111 u112 u113 u114 u115 u116 u117 u118 u119 u120 u121 u122 u123 u124 : Value} : IgA t1 t2 t3 t7 t8 t11 t12 t13 t14 t15 ⟨#[u0, t1, t2, t3, u4, u5, u6, t7, t8, u9, u10, t11, t12, t13, t14, t15, u16, u17, u18, u19, u20, u21, u22, u23, u24, u25, u26, u27, u28, u29, u30, u31, u32, u33, u34, u35, u36, u37, u38, u39, u40, u41, u42, u43, u44, u45, u46, u47, u48, u49, u50, u51, u52, u53, u54, u55, u56, u57, u58, u59, u60, u61, u62, u63, u64, u65, u66, u67, u68, u69, u70, u71, u72, u73, u74, u75, u76, u77, u78, u79, u80, u81, u82, u83, u84, u85, u86, u87, u88, u89, u90, u91, u92, u93, u94, u95, u96, u97, u98, u99, u100, u101, u102, u103, u104, u105, u106, u107, u108, u109, u110, u111, u112, u113, u114, u115, u116, u117, u118, u119, u120, u121, u122, u123, u124], []⟩
set_option maxHeartbeats 4000000 in
set_option maxRecDepth 100000 in
theorem ignores_calls (w : World) (hE : Env w) (cB : Array Value) (sf : Int) (ep : Nat) (a : Array Value) (f : Nat → Nat) (hB : BegIs cB sf ep a f) (A : Option Addr) (c : Nat) (l : List OpV) (hl : Ops w A l) (hc : l.length ≤ c) (hcm : c ≤ 9223372036854775807)
    (hsz : ∀ (i : Nat) (O : OpV), l[i]? = some O → O.s.size ≤ 4294967296) (s : ByteArray) (hs : s.size ≤ 4294967296) :
    Calls Tryz.prog 5 #[.agg cB, .slice A l.length c, .string s] w fun e w' => e = .returned (.bool true) ∧ Below w.heap.size w w' := by
  have hb1 := below_new' w (.cells cB 45)
  have hE1 := hE.below hb1
  have hl1 := hl.below hb1
  have hs1 : (w.alloc (.cells cB 45)).heap.size = w.heap.size + 1 := by simp
  have hbx := heapN w (.cells cB 45)
  obtain ⟨e0, e257, hr1⟩ := hB.at hbx
  have hia := info43l hB.words
  have hiB : (Tryz.prog.info? 45).map (·.size) = some cB.size := by rw [hB.size]; exact info_beg
  have hN := Lib.hid (fun W => bNew_calls sf a f hB.words ep hB.he W)
  have hF := Lib.hid (fun (W : World) hE hl => few_calls W hE cB sf ep a f hB A c l hl hc hcm hsz)
  have hBat := hB
  clear hB
  go_enter Tryz.func5, Tryz.ntmps5
  refine wp_cut (fun a W => (∃ t7 t8 t11 t12 t13 t14 t15, IgA (.slice A l.length c) (.string s) (.pointer (some ⟨w.heap.size, 0, none⟩)) t7 t8 t11 t12 t13 t14 t15 a) ∧ W = (w.alloc (.cells cB 45))) ?_ ?_
  · go_wp2_with fail
    exact ⟨⟨_, _, _, _, _, _, _, IgA.mk⟩, trivial⟩
  rintro _ _ ⟨⟨t7, t8, t11, t12, t13, t14, t15, hA⟩, rfl⟩
  cases hA
  generalize hw1 : (w.alloc (.cells cB 45)) = w1 at *
  refine wp_cut (fun a W => ∃ t7 x, (∃ t11 t12 t13 t14 t15, IgA (.slice A l.length c) (.string s) (.pointer (some ⟨w.heap.size, 0, none⟩)) t7 (.int .i64 x) t11 t12 t13 t14 t15 a) ∧ Below w1.heap.size w1 W ∧ ((x = 1 ∨ x = 150) ∨ x = 0 ∧ ∃ b g, t7 = .pointer (some ⟨b, 0, none⟩) ∧ (0 ≤ sf ∧ sf < 64) ∧ ep ≤ 4611686018427387904 ∧ AllB w1 W [⟨b, g, .slice none 0 0, newV sf.toNat ep f, []⟩])) ?_ ?_
  · go_wp2_with (refine wpList_load_mid_g (by first | rfl | simp [Region.wanted, yielded]) 43 _ rfl w.heap.size 1 rfl a.toList _ hr1 Tryz.underlying43 rfl hia ?_; rw [Array.toArray_toList])
    refine (hN.out _).mono ?_
    intro e w2 hn
    unfold BNewPost at hn
    obtain ⟨hb2, hn⟩ := hn
    clear hN hF e0 e257 hr1 hbx
    by_cases h1 : 0 ≤ sf ∧ sf < 64
    · rw [if_pos h1] at hn
      by_cases h2 : ep ≤ 4611686018427387904
      · rw [if_pos h2] at hn
        obtain ⟨b, g, rfl, h3, h4, h5⟩ := hn
        have hAll := Lib.hid ((AllB.nil hE1).add hb2 h3 h4 h5)
        replace hb2 := Lib.hid hb2
        clear h3 h4 h5 hE1 hb1
        go_wp2_with fail
        exact ⟨_, _, ⟨_, _, _, _, _, IgA.mk⟩, hb2.out, Or.inr ⟨rfl, b, g, rfl, h1, h2, hAll.out⟩⟩
      · rw [if_neg h2] at hn
        subst hn
        replace hb2 := Lib.hid hb2
        clear hE1 hb1
        go_wp2_with fail
        exact ⟨_, _, ⟨_, _, _, _, _, IgA.mk⟩, hb2.out, Or.inl (Or.inl rfl)⟩
    · rw [if_neg h1] at hn
      subst hn
      replace hb2 := Lib.hid hb2
      clear hE1 hb1
      go_wp2_with fail
      exact ⟨_, _, ⟨_, _, _, _, _, IgA.mk⟩, hb2.out, Or.inl (Or.inr rfl)⟩
  clear hN e0 e257 hr1
  rintro _ w2 ⟨t7, x, ⟨t11, t12, t13, t14, t15, hA⟩, hb2, hx⟩
  cases hA
  have hbw2 := hb1.trans (hb2.mono hb1.size)
  have hE2 := hE1.below hb2
  refine wp_cut (fun a W => ∃ b g, (∃ t8 t11 t12 t13 t14 t15, IgA (.slice A l.length c) (.string s) (.pointer (some ⟨w.heap.size, 0, none⟩)) (.pointer (some ⟨b, 0, none⟩)) t8 t11 t12 t13 t14 t15 a) ∧ (0 ≤ sf ∧ sf < 64) ∧ ep ≤ 4611686018427387904 ∧ AllB w1 W [⟨b, g, .slice none 0 0, newV sf.toNat ep f, []⟩] ∧ Few l) ?_ ?_
  · rcases hx with hx | ⟨rfl, b, g, rfl, h1, h2, hAll⟩
    · have hal := Lib.hid (alive_calls w2 hE2)
      have hbw := Lib.hid hbw2
      clear hF hbx hE2 hE1 hb1 hb2 hl1 hbw2
      rcases hx with rfl | rfl
      · go_wp2_with fail
        refine hal.out.mono ?_
        rintro e wz ⟨rfl, hbz⟩
        have hbwz := Lib.hid (hbw.out.trans (hbz.mono hbw.out.size))
        clear hbz
        go_wp2_with fail
        go_ret
        exact ⟨rfl, hbwz.out⟩
      · go_wp2_with fail
        refine hal.out.mono ?_
        rintro e wz ⟨rfl, hbz⟩
        have hbwz := Lib.hid (hbw.out.trans (hbz.mono hbw.out.size))
        clear hbz
        go_wp2_with fail
        go_ret
        exact ⟨rfl, hbwz.out⟩
    · have hf2 := Lib.hid (hF.out w2 hE2 (hl1.below hb2))
      have hbx2 := (hb2.block _ (by omega)).trans hbx
      replace hAll := Lib.hid hAll
      replace hbw2 := Lib.hid hbw2
      clear hF hbx hE2 hE1 hb1 hb2 hl1
      go_wp2_with (refine wpList_load_row_g (by first | rfl | simp [Region.wanted, yielded]) 45 (.tmp 3) rfl w.heap.size rfl 45 cB (0, 0) _ hbx2 Tryz.underlying45 rfl hiB ?_)
      refine hf2.out.mono ?_
      rintro e w3 ⟨r, rfl, hr, hb3⟩
      have hAll3 := Lib.hid (hAll.out.below hb3)
      have hbw := Lib.hid (hbw2.out.trans (hb3.mono hbw2.out.size))
      have hal := Lib.hid (alive_calls w3 hAll3.out.envW)
      clear hb3 hf2 hbx2
      by_cases hrt : r = true
      · have hfew := hr hrt
        subst hrt
        by_cases h20 : 20000 < s.size
        · have d20 : decide ((20000 : Int) < (s.size : Int)) = true := decide_eq_true (by omega)
          go_wp2_with fail
          refine hal.out.mono ?_
          rintro e wz ⟨rfl, hbz⟩
          have hbwz := Lib.hid (hbw.out.trans (hbz.mono hbw.out.size))
          clear hbz
          go_wp2_with fail
          go_ret
          exact ⟨rfl, hbwz.out⟩
        · have d20 : decide ((20000 : Int) < (s.size : Int)) = false := decide_eq_false (by omega)
          replace hfew := Lib.hid hfew
          go_wp2_with fail
          exact ⟨b, g, ⟨_, _, _, _, _, _, IgA.mk⟩, h1, h2, hAll3.out, hfew.out⟩
      · obtain rfl : r = false := by simpa using hrt
        go_wp2_with fail
        refine hal.out.mono ?_
        rintro e wz ⟨rfl, hbz⟩
        have hbwz := Lib.hid (hbw.out.trans (hbz.mono hbw.out.size))
        clear hbz
        go_wp2_with fail
        go_ret
        exact ⟨rfl, hbwz.out⟩
  clear hF hx hb2 hE2 hbw2 t7 x
  rintro _ w3 ⟨b, g, ⟨t8, t11, t12, t13, t14, t15, hA⟩, h1, h2, hAll, hfew⟩
  cases hA
  have hsf : ((sf.toNat : Nat) : Int) = sf := Int.toNat_of_nonneg h1.1
  have hnum : Num sf.toNat 0 (newV sf.toNat ep f) := new_num _ _ _ h2
  refine wp_cut (fun a W => ∃ x v L, (∃ t8 t11 t12 t13 t14 t15, IgA (.slice A l.length c) (.string s) (.pointer (some ⟨w.heap.size, 0, none⟩)) (.pointer (some ⟨b, 0, none⟩)) t8 t11 t12 t13 t14 t15 a) ∧ AllB w1 W [⟨b, g, x, v, L⟩] ∧ Num sf.toNat l.length v ∧ L.length ≤ 2 * l.length) ?_ ?_
  · replace hAll := Lib.hid hAll
    clear hbx
    go_wp2_with fail
    go_loopw [47] (fun sC wr => ∃ i : Nat, i ≤ l.length ∧ sC = .int .i64 i ∧ ∃ x v L, AllB w1 wr [⟨b, g, x, v, L⟩] ∧ Num sf.toNat i v ∧ L.length ≤ 2 * i) (fun sC _ => l.length - (intOf sC).toNat)
    case atStart => exact ⟨0, by omega, rfl, _, _, _, hAll.out, hnum, Nat.le_refl _⟩
    case round =>
      clear hAll hnum
      obtain ⟨i, hi, rfl, x, v, L, hAll, hnum, hL⟩ := hrel
      by_cases hil : i < l.length
      · have hgo3 : decide ((i : Int) < (l.length : Int)) = true := decide_eq_true (by omega)
        have hi0 : (0 : Int) ≤ (i : Int) := by omega
        obtain ⟨O, hO⟩ : ∃ O, l[i]? = some O := ⟨l[i], List.getElem?_eq_getElem hil⟩
        have hlr := hl1.below hAll.bel
        have hle := (hlr i O hO).1
        have hos := hfew.2 i O hO
        have hlf := hfew.1
        obtain ⟨bo, o, rfl, hbl, u0, u1, u2, u3, u4⟩ := hlr.at hO
        have n1 := below_new' wr (.cells #[.int .i64 O.kind, .int .i64 O.n, .int .i64 O.slot, .int .u64 (O.least : Int), .string O.s] 59)
        have hbo := (below_drew (Below.refl _ _)).block _ (blk_lt (heapN wr (.cells #[.int .i64 O.kind, .int .i64 O.n, .int .i64 O.slot, .int .u64 (O.least : Int), .string O.s] 59))) |>.trans (heapN wr (.cells #[.int .i64 O.kind, .int .i64 O.n, .int .i64 O.slot, .int .u64 (O.least : Int), .string O.s] 59))
        have hA4 := (hAll.below n1).below (below_drew (Below.refl _ _))
        replace hbo := Lib.hid hbo
        replace hA4 := Lib.hid hA4
        replace hnum := Lib.hid hnum
        clear hlr n1 hAll hO hfew hl1
        go_wp2_with fail
        refine wp_region_held_drew (S := fun W => W.heap[wr.heap.size]? = some (.cells #[.int .i64 O.kind, .int .i64 O.n, .int .i64 O.slot, .int .u64 (O.least : Int), .string O.s] 59 (0, 0))) (by kernel_rfl) hbo.out (fun hHeld => ?_)
        clear hHeld
        have hS := hbo.out
        have hAll := hA4.out
        replace hnum := hnum.out
        clear hbo hA4 u0 u1 u2 u3 u4
        change (World.drew (wr.alloc (.cells #[.int .i64 O.kind, .int .i64 O.n, .int .i64 O.slot, .int .u64 (O.least : Int), .string O.s] 59))).heap[wr.heap.size]? = _ at hS
        generalize World.drew _ = W4 at *
        generalize wr.heap.size = p at *
        refine wpAnyH_take (i := 0) (oi := ⟨some 51, _, _, _, _, _⟩) (v := .pointer (some ⟨b, 0, none⟩)) rfl (by kernel_rfl) (by kernel_rfl) (by kernel_rfl) (fun _ _ _ h => h) (Or.inl ⟨by rfl, fun W hW => by go_simp⟩) hS ?_
        try simp only [Act.put, List.setIfInBounds_toArray, List.set_cons_zero, List.set_cons_succ]
        refine wpAnyH_take (i := 4) (oi := ⟨some 55, _, _, _, _, _⟩) (v := .agg #[.int .i64 O.kind, .int .i64 O.n, .int .i64 O.slot, .int .u64 (O.least : Int), .string O.s]) rfl (by kernel_rfl) (by kernel_rfl) (by kernel_rfl) (fun _ _ _ h => h) (yields_row (by rfl) 59 (.tmp 10) rfl p rfl 59 #[.int .i64 O.kind, .int .i64 O.n, .int .i64 O.slot, .int .u64 (O.least : Int), .string O.s] (0, 0) _ (fun W hW => hW) Tryz.underlying59 rfl info_op) hS ?_
        try simp only [Act.put, List.setIfInBounds_toArray, List.set_cons_zero, List.set_cons_succ]
        obtain ⟨W5, hrun, hX, hb5⟩ := make_nodes W4
        refine wpAnyH_ready (rs := [1]) (by kernel_rfl) (by simp) ?_
        refine AllReadyH.cons (o := ⟨some 52, _, _, _, _, _⟩) rfl (fun K hK => ?_) AllReadyH.nil
        rw [if_pos (by rfl)]
        refine wp_make rfl hrun ?_
        have hS5 := (hb5.block _ (blk_lt hS)).trans hS
        refine hK.out _ _ hS5 (fun hHeld => ?_)
        clear hK K hrun hHeld
        have hS := hS5
        replace hAll := hAll.below hb5
        have hXB : XBus W5 W4.heap.size (.slice none 0 0) X0 [] := ⟨hX, own_nil _ _ _ _⟩
        clear hX hb5 hS5
        generalize W4.heap.size = p2 at *
        try simp only [Act.put, List.setIfInBounds_toArray, List.set_cons_zero, List.set_cons_succ]
        refine wpAnyH_take (i := 2) (oi := ⟨some 53, _, _, _, _, _⟩) (v := .agg #[.int .i64 0, .slice (some ⟨p2, 0, none⟩) 64 64, .int .u64 0]) rfl (by kernel_rfl) (by kernel_rfl) (by kernel_rfl) (fun _ _ _ h => h) (Or.inl ⟨by rfl, fun W hW => by go_simp⟩) hS ?_
        try simp only [Act.put, List.setIfInBounds_toArray, List.set_cons_zero, List.set_cons_succ]
        refine wpAnyH_take (i := 3) (oi := ⟨some 54, _, _, _, _, _⟩) (v := .agg #[.int .i64 0, .slice (some ⟨p2, 0, none⟩) 64 64, .int .u64 0, .slice none 0 0]) rfl (by kernel_rfl) (by kernel_rfl) (by kernel_rfl) (fun _ _ _ h => h) (Or.inl ⟨by rfl, fun W hW => by go_simp⟩) hS ?_
        try simp only [Act.put, List.setIfInBounds_toArray, List.set_cons_zero, List.set_cons_succ]
        refine wpAnyH_ready (rs := [5]) (by kernel_rfl) (by simp) ?_
        refine AllReadyH.cons (o := ⟨some 56, _, _, _, _, _⟩) rfl (fun K hK => ?_) AllReadyH.nil
        rw [if_pos (by rfl)]
        go_simp
        have hD : Calls Tryz.prog 16 #[.pointer (some ⟨b, 0, none⟩), .agg #[.int .i64 0, .slice (some ⟨p2, 0, none⟩) 64 64, .int .u64 0, .slice none 0 0], .agg #[.int .i64 O.kind, .int .i64 O.n, .int .i64 O.slot, .int .u64 (O.least : Int), .string O.s]] W5 (DoesPost W5 b g x (doV v L O) (doX X0 [] O) (v.self = X0.self ∧ (takeB v O.s.data.toList).2.2 = (takeR X0 O.s.data.toList).2.2 ∧ L = [])) :=
          does_calls W5 hAll.envW (hAll.all 0 ⟨b, g, x, v, L⟩ rfl) (hAll.envs (i := 0) (β := ⟨b, g, x, v, L⟩) rfl) hXB (by decide) (by have := hnum.cur; show v.cur + 1 < _; omega) (by decide) (by show L.length ≤ _; omega) (by decide) O hle hos
        refine hD.mono ?_
        rintro e W6 ⟨g9, c9, y9, ok, rfl, -, hP, -⟩
        obtain ⟨x6, hA6, hbut6, -⟩ := hAll.post (i := 0) (β := ⟨b, g, x, v, L⟩) rfl hP
        have hA6 : AllB w1 W6 [⟨b, g, x6, (doV v L O).1, (doV v L O).2⟩] := hA6
        have hdn := do_num (O := O) hnum hL
        have hS6 := (hbut6.block _ (blk_lt hS) (foot_type (hAll.all 0 ⟨b, g, x, v, L⟩ rfl) hS (by decide) (by decide) (by decide))).trans hS
        replace hA6 := Lib.hid hA6
        replace hdn := Lib.hid hdn
        replace hS6 := Lib.hid hS6
        clear hD hP hAll hS hXB hnum hbut6
        generalize doV v L O = vl at *
        go_wp2_with fail
        refine hK.out _ _ hS6.out (fun hHeld => ?_)
        clear hK K hHeld
        try simp only [Act.put, List.setIfInBounds_toArray, List.set_cons_zero, List.set_cons_succ]
        refine wpAnyH_done (by kernel_rfl) ?_ _
        go_wp2_with fail
        exact ⟨⟨i + 1, by omega, by go_num, x6, vl.1, vl.2, hA6.out, hdn.out.1, hdn.out.2⟩, by simp [intOf]; omega⟩
      · obtain rfl : i = l.length := by omega
        have hgo3 : decide ((l.length : Int) < (l.length : Int)) = false := decide_eq_false (by omega)
        replace hAll := Lib.hid hAll
        go_wp2_with fail
        exact ⟨x, v, L, ⟨_, _, _, _, _, _, IgA.mk⟩, hAll.out, hnum, hL⟩
  have hlf := hfew.1
  clear hl1 hfew hnum hAll
  rintro _ w4 ⟨x, v, L, ⟨t8, t11, t12, t13, t14, t15, hA⟩, hAll, hnum, hL⟩
  cases hA
  have hself : v.self = sf.toNat := hnum.self
  have hcur := hnum.cur
  refine wp_cut (fun a W => ∃ p k xx, (∃ t8 t13 t14 t15, IgA (.slice A l.length c) (.string s) (.pointer (some ⟨w.heap.size, 0, none⟩)) (.pointer (some ⟨b, 0, none⟩)) t8 (.pointer (some ⟨p, 0, none⟩)) (.int .i64 xx) t13 t14 t15 a) ∧ AllB w1 W [⟨b, g, x, v, L⟩] ∧ W.heap[p]? = some (.cells k 67 (0, 0)) ∧ DcRes s.data.toList k xx) ?_ ?_
  · have hd := Lib.hid (refDecode_calls s hs w4 hAll.envW)
    replace hAll := Lib.hid hAll
    clear hbx hb1
    go_wp2_with fail
    refine hd.out.mono ?_
    intro e w5 hd
    obtain ⟨k, xx, rfl, hres, hcs, hone, hb5⟩ := dc_res hd
    have hN := heapN w5 (.cells Tryz.zeroCells67 67)
    have hbz := setRow_heap _ _ _ k _ _ hN
    have hi : (Tryz.prog.info? 67).map (·.size) = some k.size := by rw [hcs]; exact info26
    have hZ : Tryz.zeroCells67.size = k.size := by rw [hcs]; exact zero_pk.size
    have hA6 := Lib.hid (hAll.out.below (below_setRow (hb5.trans ((below_new' w5 (.cells Tryz.zeroCells67 67)).mono hb5.size)) hb5.size k))
    replace hbz := Lib.hid hbz
    replace hres := Lib.hid hres
    clear hd hb5 hAll
    go_wp2_with (refine wpList_store_row rfl 67 _ _ rfl w5.heap.size k rfl rfl 67 Tryz.zeroCells67 hN hi hZ hone ?_)
    exact ⟨_, k, xx, ⟨_, _, _, _, IgA.mk⟩, hA6.out, hbz.out, hres.out⟩
  clear hAll
  rintro _ w5 ⟨p, k, xx, ⟨t8, t13, t14, t15, hA⟩, hAll, hbp, hres⟩
  cases hA
  refine wp_cut (fun a W => (∃ t8 t11 t12 t13 t14 t15, IgA (.slice A l.length c) (.string s) (.pointer (some ⟨w.heap.size, 0, none⟩)) (.pointer (some ⟨b, 0, none⟩)) t8 t11 t12 t13 t14 t15 a) ∧ AllB w1 W [⟨b, g, x, v, L⟩] ∧ takeB v s.data.toList = (v, [], false)) ?_ ?_
  · have e0 : w5.cell? ⟨w.heap.size, 0, none⟩ = some (.int .i64 sf) := by
      rw [World.cell?_of_block (hAll.bel.block _ (blk_lt hbx)), (hBat.at hbx).1]
    unfold DcRes at hres
    cases hd : decP s.data.toList with
    | none =>
      rw [hd] at hres
      obtain ⟨rfl, -⟩ := hres
      have hid := takeB_idle (v := v) (s := s.data.toList) (fun q hq => by rw [hd] at hq; cases hq)
      replace hid := Lib.hid hid
      replace hAll := Lib.hid hAll
      clear hd hbp
      go_wp2_with fail
      exact ⟨⟨_, _, _, _, _, _, IgA.mk⟩, hAll.out, hid.out⟩
    | some q =>
      rw [hd] at hres
      obtain ⟨rfl, hpk⟩ := hres
      have m1 : w5.cell? ⟨p, 1, none⟩ = some (.int .i64 q.fr) := by rw [cellBox hbp]; exact hpk.at.2.1
      by_cases hfr : q.fr = sf
      · have hid := takeB_idle (v := v) (s := s.data.toList) (fun q' hq => by rw [hd] at hq; injection hq with hq; rw [← hq, hfr, hself, hsf])
        have hbe : (q.fr != sf) = false := by rw [hfr]; simp
        replace hid := Lib.hid hid
        replace hAll := Lib.hid hAll
        replace hfr := Lib.hid hfr
        clear hd hbp hpk
        generalize q.fr = fr at *
        go_wp2_with fail
        exact ⟨⟨_, _, _, _, _, _, IgA.mk⟩, hAll.out, hid.out⟩
      · have hbe : (q.fr == sf) = false := beq_eq_false_iff_ne.2 hfr
        have hbe2 : (q.fr != sf) = true := by rw [bne, hbe]; rfl
        have hal := Lib.hid (alive_calls w5 hAll.envW)
        have hbw := Lib.hid (hb1.trans (hAll.bel.mono hb1.size))
        replace hfr := Lib.hid hfr
        clear hd hbp hpk hAll
        generalize q.fr = fr at *
        go_wp2_with fail
        refine hal.out.mono ?_
        rintro e wz ⟨rfl, hbz⟩
        have hbwz := Lib.hid (hbw.out.trans (hbz.mono hbw.out.size))
        clear hbz
        go_wp2_with fail
        go_ret
        exact ⟨rfl, hbwz.out⟩
  clear hAll hbp hres
  rintro _ w6 ⟨⟨t8, t11, t12, t13, t14, t15, hA⟩, hAll, hid⟩
  cases hA
  refine wp_cut (fun a W => (∃ t8 t11 t12 t13 t14 t15, IgA (.slice A l.length c) (.string s) (.pointer (some ⟨w.heap.size, 0, none⟩)) (.pointer (some ⟨b, 0, none⟩)) t8 t11 t12 t13 t14 t15 a) ∧ AllB w1 W [⟨b, g, .slice none 0 0, v, []⟩]) ?_ ?_
  · have hO := Lib.hid (aOuts_calls hAll (i := 0) (β := ⟨b, g, x, v, L⟩) rfl)
    clear hAll hbx hb1
    go_wp2_with fail
    refine hO.out.mono ?_
    rintro e w7 ⟨Y, cy, rfl, hA7, -, -⟩
    have hA7 : AllB w1 w7 [⟨b, g, .slice none 0 0, v, []⟩] := hA7
    replace hA7 := Lib.hid hA7
    clear hO
    go_wp2_with fail
    exact ⟨⟨_, _, _, _, _, _, IgA.mk⟩, hA7.out⟩
  clear hAll x L hL
  rintro _ w7 ⟨⟨t8, t11, t12, t13, t14, t15, hA⟩, hAll⟩
  cases hA
  refine wp_cut (fun a W => ∃ g1, (∃ t8 t11 t12 t14 t15, IgA (.slice A l.length c) (.string s) (.pointer (some ⟨w.heap.size, 0, none⟩)) (.pointer (some ⟨b, 0, none⟩)) t8 t11 t12 (.pointer (some ⟨g1, 0, none⟩)) t14 t15 a) ∧ AllB w1 W [⟨b, g, .slice none 0 0, v, []⟩] ∧ VB W g1 v ∧ g1 ≠ b ∧ g1 ≠ g) ?_ ?_
  · have hBB := hAll.all 0 ⟨b, g, .slice none 0 0, v, []⟩ rfl
    have hV := Lib.hid (bView_calls w7 hBB)
    have hlb := hBB.lt.1
    have hlg := hBB.lt.2.1
    replace hAll := Lib.hid hAll
    clear hBB
    go_wp2_with fail
    refine hV.out.mono ?_
    rintro e w8 ⟨g1, rfl, hg1, hv1, hb8⟩
    have hA8 := Lib.hid (hAll.out.below hb8)
    replace hv1 := Lib.hid hv1
    clear hV hb8 hAll
    go_wp2_with fail
    exact ⟨g1, ⟨_, _, _, _, _, IgA.mk⟩, hA8.out, hv1.out, by omega, by omega⟩
  clear hAll
  rintro _ w8 ⟨g1, ⟨t8, t11, t12, t14, t15, hA⟩, hAll, hv1, hg1, hg2⟩
  cases hA
  refine wp_cut (fun a W => ∃ x, (∃ t8 t11 t12 t15, IgA (.slice A l.length c) (.string s) (.pointer (some ⟨w.heap.size, 0, none⟩)) (.pointer (some ⟨b, 0, none⟩)) t8 t11 t12 (.pointer (some ⟨g1, 0, none⟩)) (.bool false) t15 a) ∧ AllB w1 W [⟨b, g, x, v, []⟩] ∧ VB W g1 v) ?_ ?_
  · have hT := bTake_calls w8 (hAll.all 0 ⟨b, g, .slice none 0 0, v, []⟩ rfl) (hAll.envs (i := 0) (β := ⟨b, g, .slice none 0 0, v, []⟩) rfl) s (Nat.le_trans hs (by decide)) (by show v.cur + 1 < _; omega) (Nat.zero_le _)
    unfold BtPost at hT
    rw [hid] at hT
    replace hT := Lib.hid hT
    replace hAll := Lib.hid hAll
    replace hv1 := Lib.hid hv1
    go_wp2_with fail
    refine hT.out.mono ?_
    rintro e w9 ⟨rfl, hP⟩
    obtain ⟨x9, hA9, hbut9, -⟩ := hAll.out.post (i := 0) (β := ⟨b, g, .slice none 0 0, v, []⟩) rfl hP
    have hA9 : AllB w1 w9 [⟨b, g, x9, v, []⟩] := hA9
    have hv9 : VB w9 g1 v := hv1.out.keep hbut9 (fun h => Or.elim h hg1 fun h => Or.elim h hg2 fun h => by simp [Value.ownBlock] at h)
    replace hA9 := Lib.hid hA9
    replace hv9 := Lib.hid hv9
    clear hT hP hbut9 hAll hv1
    go_wp2_with fail
    exact ⟨x9, ⟨_, _, _, _, IgA.mk⟩, hA9.out, hv9.out⟩
  clear hAll hv1
  rintro _ w9 ⟨x, ⟨t8, t11, t12, t15, hA⟩, hAll, hv1⟩
  cases hA
  refine wp_cut (fun a W => ∃ g3, (∃ t8 t11 t12, IgA (.slice A l.length c) (.string s) (.pointer (some ⟨w.heap.size, 0, none⟩)) (.pointer (some ⟨b, 0, none⟩)) t8 t11 t12 (.pointer (some ⟨g1, 0, none⟩)) (.bool false) (.pointer (some ⟨g3, 0, none⟩)) a) ∧ AllB w1 W [⟨b, g, x, v, []⟩] ∧ VB W g1 v ∧ VB W g3 v ∧ g3 ≠ b) ?_ ?_
  · have hBB := hAll.all 0 ⟨b, g, x, v, []⟩ rfl
    have hV := Lib.hid (bView_calls w9 hBB)
    have hlb := hBB.lt.1
    replace hAll := Lib.hid hAll
    replace hv1 := Lib.hid hv1
    clear hBB
    go_wp2_with fail
    refine hV.out.mono ?_
    rintro e w10 ⟨g3, rfl, hg3, hv3, hb10⟩
    have hA10 := Lib.hid (hAll.out.below hb10)
    have hv10 := Lib.hid (hv1.out.below hb10)
    replace hv3 := Lib.hid hv3
    clear hV hb10 hAll hv1
    go_wp2_with fail
    exact ⟨g3, ⟨_, _, _, IgA.mk⟩, hA10.out, hv10.out, hv3.out, by omega⟩
  clear hAll hv1
  rintro _ w10 ⟨g3, ⟨t8, t11, t12, hA⟩, hAll, hv1, hv3, hg3⟩
  cases hA
  refine wp_cut (fun a W => (∃ t7 t8 t11 t12 t14, IgA (.slice A l.length c) (.string s) (.pointer (some ⟨w.heap.size, 0, none⟩)) t7 t8 t11 t12 (.pointer (some ⟨g1, 0, none⟩)) t14 (.pointer (some ⟨g3, 0, none⟩)) a) ∧ Below w1.heap.size w1 W ∧ VB W g1 v ∧ VB W g3 v) ?_ ?_
  · have hO := Lib.hid (bOuts_calls w10 (hAll.all 0 ⟨b, g, x, v, []⟩ rfl))
    have hlow : w1.heap.size ≤ b := hAll.low 0 ⟨b, g, x, v, []⟩ rfl b (Or.inl rfl)
    obtain ⟨A2, ca, hx⟩ := own_slice (hAll.all 0 ⟨b, g, x, v, []⟩ rfl).outs
    have hx : x = .slice A2 0 ca := hx
    subst hx
    have hbel := hAll.bel
    replace hv1 := Lib.hid hv1
    replace hv3 := Lib.hid hv3
    replace hbel := Lib.hid hbel
    clear hAll
    go_wp2_with fail
    refine hO.out.mono ?_
    rintro e w11 ⟨rfl, -, -, hbut⟩
    have hw1 := hv1.out.keep hbut (fun e => hg1 e)
    have hw3 := hv3.out.keep hbut (fun e => hg3 e)
    have hb11 := Lib.hid (hbel.out.trans (hbut.below hbel.out.size fun i hi e => by have e : i = b := e; omega))
    have hC1 := Lib.hid (vCurrent_calls w11 hw1)
    have hC3 := Lib.hid (vCurrent_calls w11 hw3)
    replace hw1 := Lib.hid hw1
    replace hw3 := Lib.hid hw3
    clear hO hbut hbel hv1 hv3
    go_wp2_with fail
    refine hC1.out.mono ?_
    rintro e _ ⟨rfl, rfl⟩
    go_wp2_with fail
    refine hC3.out.mono ?_
    rintro e _ ⟨rfl, rfl⟩
    go_wp2_with fail
    exact ⟨⟨_, _, _, _, _, IgA.mk⟩, hb11.out, hw1.out, hw3.out⟩
  clear hAll hv1 hv3
  rintro _ w11 ⟨⟨t7, t8, t11, t12, t14, hA⟩, hbel, hv1, hv3⟩
  cases hA
  refine wp_cut (fun a W => (∃ t7 t8 t11 t12 t13 t14 t15, IgA (.slice A l.length c) (.string s) (.pointer (some ⟨w.heap.size, 0, none⟩)) t7 t8 t11 t12 t13 t14 t15 a) ∧ Below w1.heap.size w1 W) ?_ ?_
  · replace hbel := Lib.hid hbel
    clear hb1 hbx
    go_wp2_with fail
    go_loopw [104] (fun sC wr => ∃ i : Nat, i ≤ 64 ∧ sC = .int .i64 i ∧ Below w11.heap.size w11 wr) (fun sC _ => 64 - (intOf sC).toNat)
    case atStart => exact ⟨0, by omega, rfl, Below.refl _ _⟩
    case round =>
      obtain ⟨i, hi, rfl, hb⟩ := hrel
      by_cases hi64 : i < 64
      · have hgo3 : decide ((i : Int) < 64) = true := decide_eq_true (by omega)
        have hE1' := Lib.hid (vEpoch_calls wr (hv1.below hb) i hi64)
        have hE3' := Lib.hid (vEpoch_calls wr (hv3.below hb) i hi64)
        have hC1 := Lib.hid (vClaims_calls wr (hv1.below hb) i hi64)
        have hv3' := Lib.hid (hv3.below hb)
        replace hb := Lib.hid hb
        go_wp2_with fail
        refine hE1'.out.mono ?_
        rintro e _ ⟨rfl, rfl⟩
        go_wp2_with fail
        refine hE3'.out.mono ?_
        rintro e _ ⟨rfl, rfl⟩
        clear hE1' hE3'
        go_wp2_with fail
        refine hC1.out.mono ?_
        rintro e w12 ⟨a1, rfl, ha1, hb12⟩
        have hb12' := Lib.hid (hb.out.trans (hb12.mono hb.out.size))
        have hC3 := Lib.hid (vClaims_calls w12 (hv3'.out.below hb12) i hi64)
        clear hC1 hb12
        go_wp2_with fail
        refine hC3.out.mono ?_
        rintro e w13 ⟨a3, rfl, ha3, hb13⟩
        obtain rfl : a1 = a3 := words_same ha1 ha3
        have hq := fun W => words_neq ha1 ha3 W
        have hb13' := Lib.hid (hb12'.out.trans (hb13.mono hb12'.out.size))
        clear hC3 hb13 ha1 ha3 hb12'
        go_wp2_with fail
        exact ⟨⟨i + 1, by omega, by go_num, hb13'.out⟩, by simp [intOf]; omega⟩
      · obtain rfl : i = 64 := by omega
        have hb14 := Lib.hid (hbel.out.trans (hb.mono hbel.out.size))
        clear hb
        go_wp2_with fail
        exact ⟨⟨_, _, _, _, _, _, _, IgA.mk⟩, hb14.out⟩
  clear hbel hv1 hv3
  rintro _ w14 ⟨⟨t7, t8, t11, t12, t13, t14, t15, hA⟩, hbel⟩
  cases hA
  have hal := Lib.hid (alive_calls w14 (hE1.below hbel))
  have hbw := Lib.hid (hb1.trans (hbel.mono hb1.size))
  clear hbel hb1
  go_wp2_with fail
  refine hal.out.mono ?_
  rintro e wz ⟨rfl, hbz⟩
  have hbwz := Lib.hid (hbw.out.trans (hbz.mono hbw.out.size))
  clear hbz
  go_wp2_with fail
  go_ret
  exact ⟨rfl, hbwz.out⟩
end Go.Proofs.YtgdcnenlelckhaaGreatDoor

namespace Go.Proofs.YtgdcnenlelckhaaGreatDoor
open Go Go.ChangeShapes Go.WideShapes Go.ChangeAt Go.RowKit Go.Deep Go.Proofs.YtgdcnenlelckhaaGreatDoorW.PrintWords
section
variable {H : Type} {enc : TypeId × Value → H} {W : World} {b : Nat} {v : Value} {d : DataW H} {p : List MemPlace}
theorem o_spot {w : World} {b o : Nat} {sp : Option Nat} {v : Value} (h : w.cell? ⟨b, o, sp⟩ = some v) : sp = none := by
  cases sp with
  | none => rfl
  | some x =>
    unfold World.cell? at h
    split at h <;> simp at h
theorem o_fields {P : Program} {t : TypeId} {fs : Array Field} {cs : List Value} {fuel : Nat} {y : DataW H × List MemPlace} (hs : P.underlying t = some (.struct fs)) (hf : DataW.trod enc P W 0 (fun _ => true) true fuel t cs = some y) :
    ∃ n, ∀ (i : Nat) (e : TypeId) (o k : Nat), (fs[i]?).map (fun f => (f.type, f.offset)) = some (e, o) → P.cellsOf e = k → ∃ z, DataW.trod enc P W 0 (fun _ => true) true n e ((cs.drop o).take k) = some z := by
  obtain ⟨xs, n, _, _, _, hl, hx⟩ := DataW.trod_struct hs hf
  refine ⟨n, fun i e o k hfi hk => ?_⟩
  cases h : fs[i]? with
  | none => rw [h] at hfi; cases hfi
  | some f =>
    rw [h] at hfi
    simp only [Option.map_some, Option.some.injEq, Prod.mk.injEq] at hfi
    obtain ⟨rfl, rfl⟩ := hfi
    have h1 : i < fs.size := (Array.getElem?_eq_some_iff.1 h).1
    subst hk
    exact ⟨_, (hx i f h).trans (List.getElem?_eq_getElem (by omega))⟩
theorem o_int {n : Nat} {x : Value} {z : DataW H × List MemPlace} (h : DataW.trod enc Tryz.prog W 0 (fun _ => true) true n 3 [x] = some z) : ∃ a, x = .int .i64 a := by
  obtain ⟨a, h1, _, h2⟩ := DataW.trod_int Tryz.underlying3 h
  cases h1
  exact ⟨a, rfl⟩
theorem o_u64 {n : Nat} {x : Value} {z : DataW H × List MemPlace} (h : DataW.trod enc Tryz.prog W 0 (fun _ => true) true n 41 [x] = some z) : ∃ a : Nat, x = .int .u64 (a : Int) ∧ a < 18446744073709551616 := by
  obtain ⟨a, h1, _, h2⟩ := DataW.trod_int Tryz.underlying41 h
  cases h1
  have := u64_of h2
  exact ⟨a.toNat, by rw [Int.toNat_of_nonneg this.1], by omega⟩
theorem o_str {n : Nat} {x : Value} {z : DataW H × List MemPlace} (h : DataW.trod enc Tryz.prog W 0 (fun _ => true) true n 9 [x] = some z) : ∃ s, x = .string s := by
  obtain ⟨s, h1, -⟩ := DataW.trod_string Tryz.underlying9 h
  cases h1
  exact ⟨s, rfl⟩
set_option maxRecDepth 100000 in
theorem open_beg (hv : Value.okWide Tryz.prog W .any b 45 v) (h : DataW.Trod enc Tryz.prog W 0 (fun _ => true) true 45 v d p) :
    ∃ c sf ep a f, v = .agg c ∧ BegIs c sf ep a f := by
  obtain ⟨cs, rfl, hsz⟩ := okWide_struct Tryz.underlying45 hv
  obtain ⟨fuel, hf⟩ := h
  have h258 : Tryz.prog.cellsOf 45 = 258 := by kernel_rfl
  have hl : cs.toList.length = 258 := by rw [Array.length_toList, hsz, h258]
  have hf' : DataW.trod enc Tryz.prog W 0 (fun _ => true) true fuel 45 cs.toList = some (d, p) := hf
  obtain ⟨n, hx⟩ := o_fields Tryz.underlying45 hf'
  obtain ⟨z0, g0⟩ := hx 0 3 0 1 (by kernel_rfl) (by kernel_rfl)
  obtain ⟨z1, g1⟩ := hx 1 43 1 256 (by kernel_rfl) (by kernel_rfl)
  obtain ⟨z2, g2⟩ := hx 2 41 257 1 (by kernel_rfl) (by kernel_rfl)
  have e : cs.toList = (cs.toList.drop 0).take 1 ++ ((cs.toList.drop 1).take 256 ++ (cs.toList.drop 257).take 1) := by
    apply List.ext_getElem?
    intro i
    rw [List.getElem?_append, List.getElem?_append]
    simp only [List.length_take, List.length_drop, hl, List.getElem?_take, List.getElem?_drop]
    by_cases h0 : i < 1
    · simp [h0]
    · by_cases h1 : i < 257
      · have : i - 1 < 256 := by omega
        simp [h0, this, show 1 + (i - 1) = i by omega]
      · have hn : ¬ i - 1 < 256 := by omega
        by_cases h2 : i < 258
        · have hi : i = 257 := by omega
          subst hi
          simp
        · rw [List.getElem?_eq_none (by omega)]
          have h3 : ¬ i - 1 - 256 < 1 := by omega
          simp [h0, hn, h3]
  have one : ∀ o, o < 258 → ∃ x, (cs.toList.drop o).take 1 = [x] := fun o ho => by
    refine ⟨cs.toList[o]'(by omega), ?_⟩
    rw [List.drop_eq_getElem_cons (by omega)]
    rfl
  obtain ⟨x0, k0⟩ := one 0 (by omega)
  obtain ⟨x2, k2⟩ := one 257 (by omega)
  rw [k0] at g0 e
  rw [k2] at g2 e
  obtain ⟨sf, rfl⟩ := o_int g0
  obtain ⟨ep, rfl, hep⟩ := o_u64 g2
  obtain ⟨f, hw⟩ := bits_words (cs := ((cs.toList.drop 1).take 256).toArray) Tryz.underlying43 Tryz.underlying41 cU64 rfl (by simp [hl]) (fuel := n) (x := z1) g1
  refine ⟨cs, sf, ep, _, f, rfl, ⟨?_, hw, hep⟩⟩
  apply Array.ext'
  rw [Array.toList_append, Array.toList_append]
  refine e.trans ?_
  simp
theorem o_bulk : ∀ (l : List (DataW H)) (x : DataW H), x ∈ l → Rows.uptoBulk x ≤ Rows.uptoBulkAll l
  | [], _, h => by cases h
  | y :: l, x, h => by
    rw [Rows.uptoBulkAll]
    rcases List.mem_cons.1 h with rfl | h
    · omega
    · have := o_bulk l x h
      omega
set_option maxRecDepth 100000 in
theorem o_op {cs : List Value} {fuel : Nat} {y : DataW H × List MemPlace} (hl : cs.length = 5) (h : DataW.trod enc Tryz.prog W 0 (fun _ => true) true fuel 59 cs = some y) : ∃ O : OpV, cs = opC O ∧ O.least < 18446744073709551616 ∧ O.s.size ≤ Rows.uptoBulk y.1 := by
  match cs, hl with
  | [c0, c1, c2, c3, c4], hl =>
    obtain ⟨xs, m, hn1, hx1, _, hxl, hx⟩ := DataW.trod_struct Tryz.underlying59 h
    have h2 : ∃ z, xs[4]? = some z ∧ DataW.trod enc Tryz.prog W 0 (fun _ => true) true m 9 [c4] = some z := by
      have h9 : Tryz.prog.cellsOf 9 = 1 := by kernel_rfl
      have hlt : 4 < xs.length := by rw [hxl]; decide
      refine ⟨xs[4], List.getElem?_eq_getElem hlt, ?_⟩
      have h0 := hx 4 _ rfl
      rw [List.getElem?_eq_getElem hlt] at h0
      have h1 : DataW.trod enc Tryz.prog W 0 (fun _ => true) true m 9 ((([c0, c1, c2, c3, c4] : List Value).drop 4).take (Tryz.prog.cellsOf 9)) = some xs[4] := h0
      rw [h9] at h1
      exact h1
    obtain ⟨z, hz, hzt⟩ := h2
    obtain ⟨s, hs, hzs, -⟩ := DataW.trod_string Tryz.underlying9 hzt
    simp only [List.cons.injEq, and_true] at hs
    subst hs
    have hm : z.1 ∈ xs.map (·.1) := List.mem_map_of_mem (List.mem_of_getElem? hz)
    have hbk := o_bulk _ _ hm
    rw [hzs] at hbk
    obtain ⟨n, hy⟩ := o_fields Tryz.underlying59 h
    obtain ⟨z0, g0⟩ := hy 0 3 0 1 (by kernel_rfl) (by kernel_rfl)
    obtain ⟨z1, g1⟩ := hy 1 3 1 1 (by kernel_rfl) (by kernel_rfl)
    obtain ⟨z2, g2⟩ := hy 2 3 2 1 (by kernel_rfl) (by kernel_rfl)
    obtain ⟨z3, g3⟩ := hy 3 41 3 1 (by kernel_rfl) (by kernel_rfl)
    obtain ⟨a0, rfl⟩ := o_int g0
    obtain ⟨a1, rfl⟩ := o_int g1
    obtain ⟨a2, rfl⟩ := o_int g2
    obtain ⟨a3, rfl, hlt⟩ := o_u64 g3
    refine ⟨⟨a0, a1, a2, a3, s⟩, rfl, hlt, ?_⟩
    rw [hx1]
    have e : s.data.toList.length = s.size := Array.length_toList
    simp only [Rows.uptoBulk, e] at hbk ⊢
    omega
set_option maxRecDepth 100000 in
theorem open_ops (hv : Value.okWide Tryz.prog W .any b 46 v) (h : DataW.Trod enc Tryz.prog W 0 (fun _ => true) true 46 v d p) :
    ∃ A c l, v = .slice A (l : List OpV).length c ∧ Ops W A l ∧ l.length ≤ c ∧ c ≤ 9223372036854775807 ∧ (Rows.uptoBulk d ≤ 1048576 → ∀ (i : Nat) (O : OpV), l[i]? = some O → O.s.size ≤ 4294967296) := by
  obtain ⟨A0, len0, cap0, rfl⟩ := okWide_slice Tryz.underlying46 hv
  obtain ⟨fuel, hf⟩ := h
  have hf' : DataW.trod enc Tryz.prog W 0 (fun _ => true) true fuel 46 [.slice A0 len0 cap0] = some (d, p) := hf
  rcases open_slice Tryz.underlying46 hf' with ⟨h0, -⟩ | ⟨a, len, cap, m, n, D, Pl, hcs, -, hl, hm, hmm, hd, hx⟩
  · simp only [List.cons.injEq, Value.slice.injEq, and_true] at h0
    obtain ⟨rfl, rfl, rfl⟩ := h0
    exact ⟨none, 0, [], rfl, fun i L h => by simp at h, Nat.le_refl _, Nat.zero_le _, fun _ i L h => by simp at h⟩
  · simp only [List.cons.injEq, Value.slice.injEq, and_true] at hcs
    obtain ⟨rfl, rfl, rfl⟩ := hcs
    simp only [if_true] at hmm
    have h5 : Tryz.prog.cellsOf 59 = 5 := by kernel_rfl
    rw [h5] at hx
    have hdd : d = .slice ((List.range len0).map D) ((List.range (m - len0)).map fun j => D (len0 + j)) := congrArg Prod.fst hd
    obtain ⟨F, hF⟩ := choose_lt (α := OpV) (p := fun i O => W.cells? 0 (a.add (i * 5)) 5 = some (opC O) ∧ O.least < 18446744073709551616 ∧ O.s.size ≤ Rows.uptoBulk d) (n := len0) (fun i hi => by
      obtain ⟨cs', h1, h2⟩ := hx i (by omega)
      obtain ⟨_, hlen, _⟩ := World.cells?_some h1
      obtain ⟨O, rfl, hO, hb⟩ := o_op hlen h2
      refine ⟨O, h1, hO, ?_⟩
      have hmem : D i ∈ (List.range len0).map D := List.mem_map_of_mem (List.mem_range.2 hi)
      have := o_bulk _ _ hmem
      rw [hdd]
      simp only [Rows.uptoBulk]
      have hb' : O.s.size ≤ Rows.uptoBulk (D i) := hb
      omega)
    have hxl : ((List.range len0).map F).length = len0 := by simp
    refine ⟨some a, cap0, (List.range len0).map F, by rw [hxl], fun i L hL => ?_, by rw [hxl]; exact hl, by unfold maxLen at hm; omega, fun hup i L hL => ?_⟩
    · obtain ⟨hi, hLx⟩ := List.getElem?_eq_some_iff.1 hL
      rw [hxl] at hi
      simp only [List.getElem_map, List.getElem_range] at hLx
      subst hLx
      refine ⟨(hF i hi).2.1, ?_⟩
      obtain ⟨_, _, hc⟩ := World.cells?_some (hF i hi).1
      obtain ⟨g, o, sp⟩ := a
      have hsp : sp = none := by
        obtain ⟨_, _, hz⟩ := World.cells?_some (hF 0 (by omega)).1
        have hz0 := hz 0 (by decide)
        have : (Addr.add (Addr.add ⟨g, o, sp⟩ (0 * 5)) 0) = ⟨g, o, sp⟩ := by simp [Addr.add]
        rw [this] at hz0
        exact o_spot (v := .int .i64 (F 0).kind) hz0
      subst hsp
      refine ⟨g, o, rfl, ?_, fun k v hk => ?_⟩
      · have hc0 := hc 0 (by decide)
        rw [Addr.add_mid, Addr.add_mid] at hc0
        exact World.block_lt_of_cell? (u := .int .i64 (F i).kind) W _ hc0
      · have hk5 : k < 5 := (List.getElem?_eq_some_iff.1 hk).1
        have := hc k hk5
        rw [Addr.add_mid, Addr.add_mid, hk] at this
        exact this
    · obtain ⟨hi, hLx⟩ := List.getElem?_eq_some_iff.1 hL
      rw [hxl] at hi
      simp only [List.getElem_map, List.getElem_range] at hLx
      subst hLx
      exact Nat.le_trans (hF i hi).2.2 (by omega)
theorem up2 {d0 d1 d2 : DataW H} {gs : List (DataW H)} (h : Rows.uptoSmall H ((d0 :: d1 :: d2 :: []) ++ gs) = true) : Rows.uptoBulk d1 ≤ 1048576 := by
  have := of_decide_eq_true h
  simp only [List.cons_append, Rows.uptoBulkAll] at this
  omega
theorem up2' {d0 d1 : DataW H} {gs : List (DataW H)} (h : Rows.uptoSmall H ((d0 :: d1 :: []) ++ gs) = true) : Rows.uptoBulk d1 ≤ 1048576 := by
  have := of_decide_eq_true h
  simp only [List.cons_append, Rows.uptoBulkAll] at this
  omega
end
end Go.Proofs.YtgdcnenlelckhaaGreatDoor
