/- Where a call is moved to is known from then on, and the next call of that slot goes there. Conditions: the listed variables as laid. -/
import Derived.Test.YtpbiohnmmngccaaDoorMgA
set_option linter.unusedVariables false
set_option linter.unusedSimpArgs false
namespace Go.Proofs.YtpbiohnmmngccaaDoor
open Go Go.RowKit Go.Maps Go.Proofs.YtpbiohnmmngccaaDoorW.PrintWords
open RtS
set_option maxHeartbeats 8000000 in
set_option maxRecDepth 100000 in
theorem ClientLearns_walk (home : Int) (A : Option Addr) (c : Nat) (l : List OV) (dk ds dn dt : Int) (bds : I64 ds) (bdn : I64 dn) (W : World) (hEW : Env W) (hlW : Steps W A l) (hc : l.length ≤ c) (hcm : c ≤ 9223372036854775807) :
    Calls Tryd.prog 5 #[.int .i64 home, .slice A l.length c, .agg #[.int .i64 dk, .int .i64 ds, .int .i64 dn, .int .i64 dt]] W fun e w' => e = .returned (.bool true) ∧ Below W.heap.size W w' := by
  have hbx : Below W.heap.size W (W.alloc (.cells #[.int .i64 dk, .int .i64 ds, .int .i64 dn, .int .i64 dt] 43)) := below_alloc (Below.refl _ _) _
  have hxx : (W.alloc (.cells #[.int .i64 dk, .int .i64 ds, .int .i64 dn, .int .i64 dt] 43)).heap[W.heap.size]? = some (.cells #[.int .i64 dk, .int .i64 ds, .int .i64 dn, .int .i64 dt] 43 (0, 0)) := heap_alloc_new _ _
  obtain ⟨w, hw⟩ : ∃ w, w = W.alloc (.cells #[.int .i64 dk, .int .i64 ds, .int .i64 dn, .int .i64 dt] 43) := ⟨_, rfl⟩
  rw [← hw] at hbx hxx
  have hE := hEW.below hbx
  have hl := hlW.below hbx
  have hltx : W.heap.size < w.heap.size := (Array.getElem?_eq_some_iff.1 hxx).1
  have hd1 : w.cell? ⟨W.heap.size, 1, none⟩ = some (.int .i64 ds) := by rw [cell_of_box hxx]; rfl
  have hd2 : w.cell? ⟨W.heap.size, 2, none⟩ = some (.int .i64 dn) := by rw [cell_of_box hxx]; rfl
  replace hw := Lib.hid hw
  replace hbx := Lib.hid hbx
  replace hxx := Lib.hid hxx
  replace hd1 := Lib.hid hd1
  replace hd2 := Lib.hid hd2
  go_enter Tryd.func5, Tryd.ntmps5
  go_wp2_with fail
  rw [← hw.out]
  refine (New_calls home w).mono ?_
  rintro e w1 ⟨rfl, hc1, hb1⟩
  replace hc1 := Lib.hid hc1
  replace hb1 := Lib.hid hb1
  go_wp2_with fail
  refine (few_calls A c l w1 (hl.below hb1.out) hc hcm).mono ?_
  rintro e w2 ⟨rfl, hb2⟩
  have hc2 := hc1.out.below hb2
  have hb2w := hb1.out.trans (hb2.mono hb1.out.size)
  have hv1 := (hb2w.cell (p := ⟨W.heap.size, 1, none⟩) hltx).trans hd1.out
  have hv2 := (hb2w.cell (p := ⟨W.heap.size, 2, none⟩) hltx).trans hd2.out
  replace hc2 := Lib.hid hc2
  replace hb2w := Lib.hid hb2w
  clear hc1 hb1 hb2
  cases hfew : fewV l with
  | false =>
    go_wp2_with fail
    refine (alive_calls _ (hE.below hb2w.out)).mono ?_
    rintro e w3 ⟨rfl, hb3⟩
    have hb3' := hbx.out.trans ((hb2w.out.trans (hb3.mono hb2w.out.size)).mono hbx.out.size)
    go_wp2_with fail
    go_ret
    exact ⟨rfl, hb3'⟩
  | true =>
    by_cases g1 : ds < 0
    · have g1d : decide (ds < 0) = true := decide_eq_true g1
      go_wp2_with fail
      refine (alive_calls _ (hE.below hb2w.out)).mono ?_
      rintro e w3 ⟨rfl, hb3⟩
      have hb3' := hbx.out.trans ((hb2w.out.trans (hb3.mono hb2w.out.size)).mono hbx.out.size)
      go_wp2_with fail
      go_ret
      exact ⟨rfl, hb3'⟩
    have g1d : decide (ds < 0) = false := decide_eq_false g1
    by_cases g2 : 16384 ≤ ds
    · have g2d : decide (16384 ≤ ds) = true := decide_eq_true g2
      go_wp2_with fail
      refine (alive_calls _ (hE.below hb2w.out)).mono ?_
      rintro e w3 ⟨rfl, hb3⟩
      have hb3' := hbx.out.trans ((hb2w.out.trans (hb3.mono hb2w.out.size)).mono hbx.out.size)
      go_wp2_with fail
      go_ret
      exact ⟨rfl, hb3'⟩
    have g2d : decide (16384 ≤ ds) = false := decide_eq_false g2
    by_cases g3 : dn < 0
    · have g3d : decide (dn < 0) = true := decide_eq_true g3
      go_wp2_with fail
      refine (alive_calls _ (hE.below hb2w.out)).mono ?_
      rintro e w3 ⟨rfl, hb3⟩
      have hb3' := hbx.out.trans ((hb2w.out.trans (hb3.mono hb2w.out.size)).mono hbx.out.size)
      go_wp2_with fail
      go_ret
      exact ⟨rfl, hb3'⟩
    have g3d : decide (dn < 0) = false := decide_eq_false g3
    by_cases g4 : 64 ≤ dn
    · have g4d : decide (64 ≤ dn) = true := decide_eq_true g4
      go_wp2_with fail
      refine (alive_calls _ (hE.below hb2w.out)).mono ?_
      rintro e w3 ⟨rfl, hb3⟩
      have hb3' := hbx.out.trans ((hb2w.out.trans (hb3.mono hb2w.out.size)).mono hbx.out.size)
      go_wp2_with fail
      go_ret
      exact ⟨rfl, hb3'⟩
    have g4d : decide (64 ≤ dn) = false := decide_eq_false g4
    obtain ⟨hl200, hlo⟩ := few_open hfew
    replace hlo := Lib.hid hlo
    go_wp2_with fail
    go_loopw [8, 49] (fun s8 s49 wr => ∃ (i : Nat) (s : CS), i ≤ l.length ∧ s8 = .int .i64 s.num ∧ s49 = .int .i64 i ∧ Cl w.heap.size (w.heap.size + 1) s wr ∧ Fine s i ∧ Below w.heap.size w wr) (fun _ s49 _ => l.length - (intOf s49).toNat)
    case atStart => exact ⟨0, ⟨home, fun _ => none, [], 0, 0, 0⟩, by omega, rfl, rfl, hc2.out, ⟨⟨Int.le_refl 0, Int.le_refl 0⟩, ⟨Int.le_refl 0, (by decide : (0 : Int) ≤ 16)⟩, Nat.le_refl 0, Nat.zero_le _, fun x hx => by simp at hx⟩, hb2w.out⟩
    case round =>
      obtain ⟨i, s, hi, rfl, rfl, hcl, hfi, hb⟩ := hrel
      clear hc2 hb2w hv1 hv2
      by_cases hil : i < l.length
      · have hgo2 : decide ((i : Int) < (l.length : Int)) = true := decide_eq_true (by omega)
        have hi0 : (0 : Int) ≤ (i : Int) := by omega
        obtain ⟨O, hO⟩ : ∃ O, l[i]? = some O := ⟨l[i], List.getElem?_eq_getElem hil⟩
        obtain ⟨ho64, ho10⟩ := hlo.out O (List.mem_of_getElem? hO)
        have hnum : 0 ≤ s.num ∧ s.num ≤ 1000000000 := ⟨hfi.num.1, by have := hfi.num.2; omega⟩
        obtain ⟨hOk, b, o, rfl, hbl, hcs⟩ := hl i O hO
        have hblr : b < wr.heap.size := Nat.lt_of_lt_of_le hbl hb.size
        have e0 : wr.cell? ⟨b, o + i * 15, none⟩ = some (.int .i64 O.kind) := (hb.cell (p := ⟨b, o + i * 15, none⟩) hbl).trans (hcs 0 _ rfl)
        have e1 : wr.cell? ⟨b, o + i * 15 + 1, none⟩ = some (.slice O.at_ O.args.length O.cap) := (hb.cell (p := ⟨b, o + i * 15 + 1, none⟩) hbl).trans (hcs 1 _ rfl)
        have e2 : wr.cell? ⟨b, o + i * 15 + 2, none⟩ = some (.int .i64 O.let_.kind) := (hb.cell (p := ⟨b, o + i * 15 + 2, none⟩) hbl).trans (hcs 2 _ rfl)
        have e3 : wr.cell? ⟨b, o + i * 15 + 3, none⟩ = some (.int .i64 O.let_.num) := (hb.cell (p := ⟨b, o + i * 15 + 3, none⟩) hbl).trans (hcs 3 _ rfl)
        have e4 : wr.cell? ⟨b, o + i * 15 + 4, none⟩ = some (.int .i64 O.let_.slot) := (hb.cell (p := ⟨b, o + i * 15 + 4, none⟩) hbl).trans (hcs 4 _ rfl)
        have e5 : wr.cell? ⟨b, o + i * 15 + 5, none⟩ = some (.int .i64 O.let_.ends) := (hb.cell (p := ⟨b, o + i * 15 + 5, none⟩) hbl).trans (hcs 5 _ rfl)
        have e6 : wr.cell? ⟨b, o + i * 15 + 6, none⟩ = some (.string O.let_.key) := (hb.cell (p := ⟨b, o + i * 15 + 6, none⟩) hbl).trans (hcs 6 _ rfl)
        have e7 : wr.cell? ⟨b, o + i * 15 + 7, none⟩ = some (.string O.let_.text) := (hb.cell (p := ⟨b, o + i * 15 + 7, none⟩) hbl).trans (hcs 7 _ rfl)
        have e8 : wr.cell? ⟨b, o + i * 15 + 8, none⟩ = some (.slice O.let_.args.1 O.let_.args.2.1 O.let_.args.2.2) := (hb.cell (p := ⟨b, o + i * 15 + 8, none⟩) hbl).trans (hcs 8 _ rfl)
        have e9 : wr.cell? ⟨b, o + i * 15 + 9, none⟩ = some (.int .i64 O.let_.rk) := (hb.cell (p := ⟨b, o + i * 15 + 9, none⟩) hbl).trans (hcs 9 _ rfl)
        have e10 : wr.cell? ⟨b, o + i * 15 + 10, none⟩ = some (.int .i64 O.let_.ri) := (hb.cell (p := ⟨b, o + i * 15 + 10, none⟩) hbl).trans (hcs 10 _ rfl)
        have e11 : wr.cell? ⟨b, o + i * 15 + 11, none⟩ = some (.string O.let_.rt) := (hb.cell (p := ⟨b, o + i * 15 + 11, none⟩) hbl).trans (hcs 11 _ rfl)
        have e12 : wr.cell? ⟨b, o + i * 15 + 12, none⟩ = some (.slice O.let_.rl.1 O.let_.rl.2.1 O.let_.rl.2.2) := (hb.cell (p := ⟨b, o + i * 15 + 12, none⟩) hbl).trans (hcs 12 _ rfl)
        have e13 : wr.cell? ⟨b, o + i * 15 + 13, none⟩ = some (.bool O.let_.good) := (hb.cell (p := ⟨b, o + i * 15 + 13, none⟩) hbl).trans (hcs 13 _ rfl)
        have e14 : wr.cell? ⟨b, o + i * 15 + 14, none⟩ = some (.int .i64 O.let_.asking) := (hb.cell (p := ⟨b, o + i * 15 + 14, none⟩) hbl).trans (hcs 14 _ rfl)
        clear hcs
        have hb3 : Below wr.heap.size wr (wr.alloc (.cells (ocells O).toArray 40)) := below_alloc (Below.refl _ _) _
        have hbw3 := hb.trans (hb3.mono hb.size)
        have hc3 := hcl.below hb3
        have hlt3 := hc3.lt
        obtain ⟨w3, hw3⟩ : ∃ w3, w3 = wr.alloc (.cells (ocells O).toArray 40) := ⟨_, rfl⟩
        have hm : ∀ (k : Nat) (v : Value), (ocells O)[k]? = some v → (w3.alloc (.cells #[.int .i64 0, .int .i64 0, .int .i64 0, .int .i64 0, .int .i64 0, .string ⟨#[]⟩, .string ⟨#[]⟩, .slice none 0 0, .int .i64 0, .int .i64 0, .string ⟨#[]⟩, .slice none 0 0, .bool false, .int .i64 0, .bool false, .int .i64 0, .int .i64 0, .string ⟨#[]⟩, .slice none 0 0, .bool false] 32)).cell? ⟨wr.heap.size, k, none⟩ = some v := by rw [hw3]; exact op_box wr O _
        rw [← hw3] at hbw3 hc3 hlt3
        have hb4 : Below w3.heap.size w3 (w3.alloc (.cells out0 32)) := below_alloc (Below.refl _ _) _
        have hbw4 := hbw3.trans (hb4.mono hbw3.size)
        have hc4 := hc3.below hb4
        have hone := Lib.hid (op_one O)
        have hbW4 := hbw4
        replace hw3 := Lib.hid hw3
        replace hbw3 := Lib.hid hbw3
        replace hc3 := Lib.hid hc3
        replace hb4 := Lib.hid hb4
        replace hbw4 := Lib.hid hbw4
        replace hc4 := Lib.hid hc4
        replace hlt3 := Lib.hid hlt3
        replace hbW4 := Lib.hid hbW4
        replace hfi := Lib.hid hfi
        clear hcl hb hb3
        by_cases hk0 : O.kind = 0
        · have hk0' : (O.kind == 0) = true := by rw [beq_iff_eq]; exact hk0
          have m0 : (w3.alloc (.cells #[.int .i64 0, .int .i64 0, .int .i64 0, .int .i64 0, .int .i64 0, .string ⟨#[]⟩, .string ⟨#[]⟩, .slice none 0 0, .int .i64 0, .int .i64 0, .string ⟨#[]⟩, .slice none 0 0, .bool false, .int .i64 0, .bool false, .int .i64 0, .int .i64 0, .string ⟨#[]⟩, .slice none 0 0, .bool false] 32)).cell? ⟨wr.heap.size, 0, none⟩ = some (.int .i64 O.kind) := hm 0 _ rfl
          have m1 : (w3.alloc (.cells #[.int .i64 0, .int .i64 0, .int .i64 0, .int .i64 0, .int .i64 0, .string ⟨#[]⟩, .string ⟨#[]⟩, .slice none 0 0, .int .i64 0, .int .i64 0, .string ⟨#[]⟩, .slice none 0 0, .bool false, .int .i64 0, .bool false, .int .i64 0, .int .i64 0, .string ⟨#[]⟩, .slice none 0 0, .bool false] 32)).cell? ⟨wr.heap.size, 1, none⟩ = some (.slice O.at_ O.args.length O.cap) := hm 1 _ rfl
          have hstr : Kd.string.C (w3.alloc (.cells out0 32)) O.at_ O.args.length O.args := Kd.C_below hOk.1 (by simpa using hbW4.out)
          have hT := Begin_calls w.heap.size (w.heap.size + 1) s O.at_ O.cap O.args hnum (by omega) hOk.2.2 _ hc4.out hstr hOk.2.1 w hE hbw4.out (Nat.le_refl _) (Nat.le_succ _)
          clear hm hk0
          go_wp2_with ((with_reducible refine store_at (ty := 40) (x := .tmp 10) (y := .tmp 52) ?_); refine ⟨wr.heap.size, (ocells O).toArray, 40, op0, rfl, rfl, heap_alloc_new _ _, info40, rfl, hone.out, ?_⟩; rw [World.setRow_alloc_new, ← hw3.out])
          refine hT.mono ?_
          rintro e w5 hpost
          obtain ⟨OUT, n, rfl, hB5, hsz, hone2, hn6, hc6, hb6, p14, p19, p2, hlt5⟩ := put_out hbw3.out (Nat.le_refl _) (Nat.le_succ _) hlt3.out.1 hlt3.out.2 (begin_rowed s O.args) hpost
          obtain ⟨w6, hw6⟩ : ∃ w6, w6 = w5.setRow w3.heap.size OUT := ⟨_, rfl⟩
          rw [← hw6] at hc6 hb6 p14 p19 p2
          replace hw6 := Lib.hid hw6
          replace hB5 := Lib.hid hB5
          replace hsz := Lib.hid hsz
          replace hone2 := Lib.hid hone2
          replace hc6 := Lib.hid hc6
          replace hb6 := Lib.hid hb6
          replace hn6 := Lib.hid hn6
          clear hT hpost e0 e1 e2 e3 e4 e5 e6 e7 e8 e9 e10 e11 e12 e13 e14 m0 m1
          have hnm := begin_num s O.args
          have hfn : Fine (beginV s O.args).1 (i + 1) := begin_fine hfi.out (by omega) hOk.2.2
          replace hnm := Lib.hid hnm
          replace hfn := Lib.hid hfn
          generalize beginV s O.args = x2 at *
          obtain ⟨s2, x2⟩ := x2
          cases hsd : x2.sends with
          | false =>
            rw [show (s2, x2).2.sends = false from hsd] at p14
            have hnm2 : s2.num = s.num := by have := hnm.out; simpa [hsd] using this
            go_wp2_with ((with_reducible refine store_at (ty := 32) (x := .tmp 11) (y := .tmp 59) ?_); refine ⟨w3.heap.size, OUT, 32, out0, rfl, rfl, hB5.out, (by rw [hsz.out]; exact info32), hsz.out.symm, hone2.out, ?_⟩; rw [← hw6.out])
            exact ⟨⟨i + 1, s2, by omega, by rw [hnm2], by go_num, hc6.out, hfn.out, hb6.out⟩, by simp [intOf]; omega⟩
          | true =>
            rw [show (s2, x2).2.sends = true from hsd] at p14
            have hn7 : n = s2.num := hn6.out hsd
            subst hn7
            go_wp2_with ((with_reducible refine store_at (ty := 32) (x := .tmp 11) (y := .tmp 59) ?_); refine ⟨w3.heap.size, OUT, 32, out0, rfl, rfl, hB5.out, (by rw [hsz.out]; exact info32), hsz.out.symm, hone2.out, ?_⟩; rw [← hw6.out])
            exact ⟨⟨i + 1, s2, by omega, rfl, by go_num, hc6.out, hfn.out, hb6.out⟩, by simp [intOf]; omega⟩
        · have hk0' : (O.kind == 0) = false := by rw [beq_eq_false_iff_ne]; exact hk0
          have m0 : (w3.alloc (.cells #[.int .i64 0, .int .i64 0, .int .i64 0, .int .i64 0, .int .i64 0, .string ⟨#[]⟩, .string ⟨#[]⟩, .slice none 0 0, .int .i64 0, .int .i64 0, .string ⟨#[]⟩, .slice none 0 0, .bool false, .int .i64 0, .bool false, .int .i64 0, .int .i64 0, .string ⟨#[]⟩, .slice none 0 0, .bool false] 32)).cell? ⟨wr.heap.size, 0, none⟩ = some (.int .i64 O.kind) := hm 0 _ rfl
          have m2 : (w3.alloc (.cells #[.int .i64 0, .int .i64 0, .int .i64 0, .int .i64 0, .int .i64 0, .string ⟨#[]⟩, .string ⟨#[]⟩, .slice none 0 0, .int .i64 0, .int .i64 0, .string ⟨#[]⟩, .slice none 0 0, .bool false, .int .i64 0, .bool false, .int .i64 0, .int .i64 0, .string ⟨#[]⟩, .slice none 0 0, .bool false] 32)).cell? ⟨wr.heap.size, 2, none⟩ = some (.int .i64 O.let_.kind) := hm 2 _ rfl
          have m3 : (w3.alloc (.cells #[.int .i64 0, .int .i64 0, .int .i64 0, .int .i64 0, .int .i64 0, .string ⟨#[]⟩, .string ⟨#[]⟩, .slice none 0 0, .int .i64 0, .int .i64 0, .string ⟨#[]⟩, .slice none 0 0, .bool false, .int .i64 0, .bool false, .int .i64 0, .int .i64 0, .string ⟨#[]⟩, .slice none 0 0, .bool false] 32)).cell? ⟨wr.heap.size, 3, none⟩ = some (.int .i64 O.let_.num) := hm 3 _ rfl
          have m4 : (w3.alloc (.cells #[.int .i64 0, .int .i64 0, .int .i64 0, .int .i64 0, .int .i64 0, .string ⟨#[]⟩, .string ⟨#[]⟩, .slice none 0 0, .int .i64 0, .int .i64 0, .string ⟨#[]⟩, .slice none 0 0, .bool false, .int .i64 0, .bool false, .int .i64 0, .int .i64 0, .string ⟨#[]⟩, .slice none 0 0, .bool false] 32)).cell? ⟨wr.heap.size, 4, none⟩ = some (.int .i64 O.let_.slot) := hm 4 _ rfl
          have m5 : (w3.alloc (.cells #[.int .i64 0, .int .i64 0, .int .i64 0, .int .i64 0, .int .i64 0, .string ⟨#[]⟩, .string ⟨#[]⟩, .slice none 0 0, .int .i64 0, .int .i64 0, .string ⟨#[]⟩, .slice none 0 0, .bool false, .int .i64 0, .bool false, .int .i64 0, .int .i64 0, .string ⟨#[]⟩, .slice none 0 0, .bool false] 32)).cell? ⟨wr.heap.size, 5, none⟩ = some (.int .i64 O.let_.ends) := hm 5 _ rfl
          have m6 : (w3.alloc (.cells #[.int .i64 0, .int .i64 0, .int .i64 0, .int .i64 0, .int .i64 0, .string ⟨#[]⟩, .string ⟨#[]⟩, .slice none 0 0, .int .i64 0, .int .i64 0, .string ⟨#[]⟩, .slice none 0 0, .bool false, .int .i64 0, .bool false, .int .i64 0, .int .i64 0, .string ⟨#[]⟩, .slice none 0 0, .bool false] 32)).cell? ⟨wr.heap.size, 6, none⟩ = some (.string O.let_.key) := hm 6 _ rfl
          have m7 : (w3.alloc (.cells #[.int .i64 0, .int .i64 0, .int .i64 0, .int .i64 0, .int .i64 0, .string ⟨#[]⟩, .string ⟨#[]⟩, .slice none 0 0, .int .i64 0, .int .i64 0, .string ⟨#[]⟩, .slice none 0 0, .bool false, .int .i64 0, .bool false, .int .i64 0, .int .i64 0, .string ⟨#[]⟩, .slice none 0 0, .bool false] 32)).cell? ⟨wr.heap.size, 7, none⟩ = some (.string O.let_.text) := hm 7 _ rfl
          have m8 : (w3.alloc (.cells #[.int .i64 0, .int .i64 0, .int .i64 0, .int .i64 0, .int .i64 0, .string ⟨#[]⟩, .string ⟨#[]⟩, .slice none 0 0, .int .i64 0, .int .i64 0, .string ⟨#[]⟩, .slice none 0 0, .bool false, .int .i64 0, .bool false, .int .i64 0, .int .i64 0, .string ⟨#[]⟩, .slice none 0 0, .bool false] 32)).cell? ⟨wr.heap.size, 8, none⟩ = some (.slice O.let_.args.1 O.let_.args.2.1 O.let_.args.2.2) := hm 8 _ rfl
          have m9 : (w3.alloc (.cells #[.int .i64 0, .int .i64 0, .int .i64 0, .int .i64 0, .int .i64 0, .string ⟨#[]⟩, .string ⟨#[]⟩, .slice none 0 0, .int .i64 0, .int .i64 0, .string ⟨#[]⟩, .slice none 0 0, .bool false, .int .i64 0, .bool false, .int .i64 0, .int .i64 0, .string ⟨#[]⟩, .slice none 0 0, .bool false] 32)).cell? ⟨wr.heap.size, 9, none⟩ = some (.int .i64 O.let_.rk) := hm 9 _ rfl
          have m10 : (w3.alloc (.cells #[.int .i64 0, .int .i64 0, .int .i64 0, .int .i64 0, .int .i64 0, .string ⟨#[]⟩, .string ⟨#[]⟩, .slice none 0 0, .int .i64 0, .int .i64 0, .string ⟨#[]⟩, .slice none 0 0, .bool false, .int .i64 0, .bool false, .int .i64 0, .int .i64 0, .string ⟨#[]⟩, .slice none 0 0, .bool false] 32)).cell? ⟨wr.heap.size, 10, none⟩ = some (.int .i64 O.let_.ri) := hm 10 _ rfl
          have m11 : (w3.alloc (.cells #[.int .i64 0, .int .i64 0, .int .i64 0, .int .i64 0, .int .i64 0, .string ⟨#[]⟩, .string ⟨#[]⟩, .slice none 0 0, .int .i64 0, .int .i64 0, .string ⟨#[]⟩, .slice none 0 0, .bool false, .int .i64 0, .bool false, .int .i64 0, .int .i64 0, .string ⟨#[]⟩, .slice none 0 0, .bool false] 32)).cell? ⟨wr.heap.size, 11, none⟩ = some (.string O.let_.rt) := hm 11 _ rfl
          have m12 : (w3.alloc (.cells #[.int .i64 0, .int .i64 0, .int .i64 0, .int .i64 0, .int .i64 0, .string ⟨#[]⟩, .string ⟨#[]⟩, .slice none 0 0, .int .i64 0, .int .i64 0, .string ⟨#[]⟩, .slice none 0 0, .bool false, .int .i64 0, .bool false, .int .i64 0, .int .i64 0, .string ⟨#[]⟩, .slice none 0 0, .bool false] 32)).cell? ⟨wr.heap.size, 12, none⟩ = some (.slice O.let_.rl.1 O.let_.rl.2.1 O.let_.rl.2.2) := hm 12 _ rfl
          have m13 : (w3.alloc (.cells #[.int .i64 0, .int .i64 0, .int .i64 0, .int .i64 0, .int .i64 0, .string ⟨#[]⟩, .string ⟨#[]⟩, .slice none 0 0, .int .i64 0, .int .i64 0, .string ⟨#[]⟩, .slice none 0 0, .bool false, .int .i64 0, .bool false, .int .i64 0, .int .i64 0, .string ⟨#[]⟩, .slice none 0 0, .bool false] 32)).cell? ⟨wr.heap.size, 13, none⟩ = some (.bool O.let_.good) := hm 13 _ rfl
          have m14 : (w3.alloc (.cells #[.int .i64 0, .int .i64 0, .int .i64 0, .int .i64 0, .int .i64 0, .string ⟨#[]⟩, .string ⟨#[]⟩, .slice none 0 0, .int .i64 0, .int .i64 0, .string ⟨#[]⟩, .slice none 0 0, .bool false, .int .i64 0, .bool false, .int .i64 0, .int .i64 0, .string ⟨#[]⟩, .slice none 0 0, .bool false] 32)).cell? ⟨wr.heap.size, 14, none⟩ = some (.int .i64 O.let_.asking) := hm 14 _ rfl
          have hT := Take_calls w.heap.size (w.heap.size + 1) s O.let_ i hfi.out (by omega) (by omega) _ hc4.out w hE hbw4.out (Nat.le_refl _) (Nat.le_succ _)
          clear hm hk0
          go_wp2_with ((with_reducible refine store_at (ty := 40) (x := .tmp 10) (y := .tmp 52) ?_); refine ⟨wr.heap.size, (ocells O).toArray, 40, op0, rfl, rfl, heap_alloc_new _ _, info40, rfl, hone.out, ?_⟩; rw [World.setRow_alloc_new, ← hw3.out])
          refine hT.mono ?_
          rintro e w5 hpost
          obtain ⟨OUT, n, rfl, hB5, hsz, hone2, hn6, hc6, hb6, p14, p19, p2, hlt5⟩ := put_out hbw3.out (Nat.le_refl _) (Nat.le_succ _) hlt3.out.1 hlt3.out.2 (take_rowed s O.let_) hpost
          obtain ⟨w6, hw6⟩ : ∃ w6, w6 = w5.setRow w3.heap.size OUT := ⟨_, rfl⟩
          rw [← hw6] at hc6 hb6 p14 p19 p2
          replace hw6 := Lib.hid hw6
          replace hB5 := Lib.hid hB5
          replace hsz := Lib.hid hsz
          replace hone2 := Lib.hid hone2
          replace hc6 := Lib.hid hc6
          replace hb6 := Lib.hid hb6
          replace hn6 := Lib.hid hn6
          clear hT hpost e0 e1 e2 e3 e4 e5 e6 e7 e8 e9 e10 e11 e12 e13 e14 m0 m2 m3 m4 m5 m6 m7 m8 m9 m10 m11 m12 m13 m14
          have hnm := take_num s O.let_
          have hfn : Fine (takeV s O.let_).1 (i + 1) := take_fine hfi.out O.let_
          replace hnm := Lib.hid hnm
          replace hfn := Lib.hid hfn
          generalize takeV s O.let_ = x2 at *
          obtain ⟨s2, x2⟩ := x2
          cases hsd : x2.sends with
          | false =>
            rw [show (s2, x2).2.sends = false from hsd] at p14
            have hnm2 : s2.num = s.num := by have := hnm.out; simpa [hsd] using this
            go_wp2_with ((with_reducible refine store_at (ty := 32) (x := .tmp 11) (y := .tmp 63) ?_); refine ⟨w3.heap.size, OUT, 32, out0, rfl, rfl, hB5.out, (by rw [hsz.out]; exact info32), hsz.out.symm, hone2.out, ?_⟩; rw [← hw6.out])
            exact ⟨⟨i + 1, s2, by omega, by rw [hnm2], by go_num, hc6.out, hfn.out, hb6.out⟩, by simp [intOf]; omega⟩
          | true =>
            rw [show (s2, x2).2.sends = true from hsd] at p14
            have hn7 : n = s2.num := hn6.out hsd
            subst hn7
            go_wp2_with ((with_reducible refine store_at (ty := 32) (x := .tmp 11) (y := .tmp 63) ?_); refine ⟨w3.heap.size, OUT, 32, out0, rfl, rfl, hB5.out, (by rw [hsz.out]; exact info32), hsz.out.symm, hone2.out, ?_⟩; rw [← hw6.out])
            exact ⟨⟨i + 1, s2, by omega, rfl, by go_num, hc6.out, hfn.out, hb6.out⟩, by simp [intOf]; omega⟩
      · obtain rfl : i = l.length := by omega
        have hgo2 : decide ((l.length : Int) < (l.length : Int)) = false := decide_eq_false (by omega)
        have hnum : 0 ≤ s.num ∧ s.num ≤ 1000000000 := ⟨hfi.num.1, by have := hfi.num.2; omega⟩
        have hBu := Busy_calls w.heap.size (w.heap.size + 1) s wr hcl
        replace hcl := Lib.hid hcl
        replace hb := Lib.hid hb
        replace hfi := Lib.hid hfi
        clear hl hlo g1d g2d g3d g4d
        go_wp2_with fail
        refine hBu.mono ?_
        rintro e w3 ⟨rfl, rfl⟩
        have hq1 : l.length + 1 ≤ 1000000 := by omega
        have l1 : (Lib.itoa ds).length ≤ 21 := Lib.itoa_length_le _ bds.1 bds.2
        have l2 : (Lib.itoa dn).length ≤ 21 := Lib.itoa_length_le _ bdn.1 bdn.2
        have dg1 := Digits_calls ds bds
        have dg2 := Digits_calls dn bdn
        have hrd := mov_read ds dn ⟨by omega, by omega⟩ ⟨by omega, by omega⟩
        have hmsz := mov_size (Lib.itoa ds) (Lib.itoa dn)
        have hTk0 : ∀ s : CS, 0 < s.args.length → s.bud = 0 → takeV s (learnL s.num (((((⟨#[77, 79, 86, 69, 68, 32]⟩ : ByteArray) ++ ⟨(Lib.itoa ds).toArray⟩) ++ ⟨#[32]⟩) ++ ⟨(Lib.itoa dn).toArray⟩) : ByteArray)) = ({ s with args := [] }, .done 2 0 wrongT (.slice none 0 0)) := fun s hz hb => learn_spent s _ ds dn hz hrd hb
        have hTk1 : ∀ s : CS, 0 < s.args.length → ¬ s.bud = 0 → takeV s (learnL s.num (((((⟨#[77, 79, 86, 69, 68, 32]⟩ : ByteArray) ++ ⟨(Lib.itoa ds).toArray⟩) ++ ⟨#[32]⟩) ++ ⟨(Lib.itoa dn).toArray⟩) : ByteArray)) = (learnS s ds dn, .send dn 0) := fun s hz hb => learn_told s _ ds dn hz hrd hb
        clear hrd
        generalize Lib.itoa ds = S1 at *
        generalize Lib.itoa dn = S2 at *
        have f1 : 6 + S1.length ≤ 9223372036854775807 := by omega
        have f2 : 6 + S1.length + 1 ≤ 9223372036854775807 := by omega
        have f3 : 6 + S1.length + 1 + S2.length ≤ 9223372036854775807 := by omega
        have g1 : ¬ 9223372036854775807 < 6 + S1.length := by omega
        have g2 : ¬ 9223372036854775807 < 6 + S1.length + 1 := by omega
        have g3 : ¬ 9223372036854775807 < 6 + S1.length + 1 + S2.length := by omega
        replace hmsz := Lib.hid hmsz
        replace hTk0 := Lib.hid hTk0
        replace hTk1 := Lib.hid hTk1
        by_cases hbz : 0 < s.args.length
        · have hbzd : decide (0 < s.args.length) = true := decide_eq_true hbz
          rw [hbzd]
          go_wp2_with fail
          have hltc := hcl.out.lt
          replace hfi := Lib.hid hfi.out.more
          replace hTk0 := Lib.hid (hTk0.out s hbz)
          replace hTk1 := Lib.hid (hTk1.out s hbz)
          refine wp_region_last (S := fun W9 => Below w.heap.size w W9) 15 (by kernel_rfl) ?_
          have hv0 : Below wr.heap.size wr wr.drew := ⟨rfl, rfl, rfl, Nat.le_refl _, fun _ _ => rfl⟩
          have sv0 := hb.out.trans (hv0.mono hb.out.size)
          generalize wr.drew = v0 at *
          refine wpAnyT_take (i := 0) (oi := ⟨some 78, _, _, _, _, _⟩) (v := .pointer (some ⟨w.heap.size + 1, 0, none⟩)) rfl (by kernel_rfl) (by kernel_rfl) (by kernel_rfl) (by kernel_rfl) (fun _ _ _ h => h) (Or.inl ⟨by rfl, fun W9 hW => by go_simp⟩) sv0 ?_
          try simp only [Act.put, List.setIfInBounds_toArray, List.set_cons_zero, List.set_cons_succ]
          refine wpAnyT_take (i := 1) (oi := ⟨some 79, _, _, _, _, _⟩) (v := .int .i64 s.num) rfl (by kernel_rfl) (by kernel_rfl) (by kernel_rfl) (by kernel_rfl) (fun _ _ _ h => h) (Or.inl ⟨by rfl, fun W9 hW => by go_simp⟩) sv0 ?_
          try simp only [Act.put, List.setIfInBounds_toArray, List.set_cons_zero, List.set_cons_succ]
          refine wpAnyT_take (i := 2) (oi := ⟨some 80, _, _, _, _, _⟩) (v := .pointer (some ⟨W.heap.size, 1, none⟩)) rfl (by kernel_rfl) (by kernel_rfl) (by kernel_rfl) (by kernel_rfl) (fun _ _ _ h => h) (Or.inl ⟨by rfl, fun W9 hW => by go_simp⟩) sv0 ?_
          try simp only [Act.put, List.setIfInBounds_toArray, List.set_cons_zero, List.set_cons_succ]
          refine wpAnyT_take (i := 3) (oi := ⟨some 81, _, _, _, _, _⟩) (v := .int .i64 ds) rfl (by kernel_rfl) (by kernel_rfl) (by kernel_rfl) (by kernel_rfl) (fun _ _ _ h => h) (Or.inl ⟨by rfl, fun W9 hW => by have q1 := (hW.cell (p := ⟨W.heap.size, 1, none⟩) hltx).trans hd1.out; go_simp⟩) sv0 ?_
          try simp only [Act.put, List.setIfInBounds_toArray, List.set_cons_zero, List.set_cons_succ]
          refine wpAnyT_take (i := 7) (oi := ⟨some 85, _, _, _, _, _⟩) (v := .pointer (some ⟨W.heap.size, 2, none⟩)) rfl (by kernel_rfl) (by kernel_rfl) (by kernel_rfl) (by kernel_rfl) (fun _ _ _ h => h) (Or.inl ⟨by rfl, fun W9 hW => by go_simp⟩) sv0 ?_
          try simp only [Act.put, List.setIfInBounds_toArray, List.set_cons_zero, List.set_cons_succ]
          refine wpAnyT_take (i := 8) (oi := ⟨some 86, _, _, _, _, _⟩) (v := .int .i64 dn) rfl (by kernel_rfl) (by kernel_rfl) (by kernel_rfl) (by kernel_rfl) (fun _ _ _ h => h) (Or.inl ⟨by rfl, fun W9 hW => by have q2 := (hW.cell (p := ⟨W.heap.size, 2, none⟩) hltx).trans hd2.out; go_simp⟩) sv0 ?_
          try simp only [Act.put, List.setIfInBounds_toArray, List.set_cons_zero, List.set_cons_succ]
          refine wpAnyT_two (i := 4) (j := 14) (oi := ⟨some 82, _, _, _, _, _⟩) (oj := ⟨some 12, _, _, _, _, _⟩) (by kernel_rfl) rfl rfl (fun K hK => ?_) (fun K hK => ?_)
          · go_simp
            refine (dg1 v0).mono ?_
            rintro e v1 ⟨rfl, bv1⟩
            have hv1 : Below wr.heap.size wr v1 := hv0.trans (bv1.mono hv0.size)
            have sv1 := hb.out.trans (hv1.mono hb.out.size)
            refine hK.out _ _ (fun _ => sv1) ?_
            clear hK K bv1
            try simp only [Act.put, List.setIfInBounds_toArray, List.set_cons_zero, List.set_cons_succ]
            refine wpAnyT_take (i := 5) (oi := ⟨some 83, _, _, _, _, _⟩) (v := .string ((⟨#[77, 79, 86, 69, 68, 32]⟩ : ByteArray) ++ ⟨S1.toArray⟩)) rfl (by kernel_rfl) (by kernel_rfl) (by kernel_rfl) (by kernel_rfl) (fun _ _ _ h => h) (Or.inl ⟨by rfl, fun W9 hW => by go_simp⟩) sv1 ?_
            try simp only [Act.put, List.setIfInBounds_toArray, List.set_cons_zero, List.set_cons_succ]
            refine wpAnyT_take (i := 6) (oi := ⟨some 84, _, _, _, _, _⟩) (v := .string (((⟨#[77, 79, 86, 69, 68, 32]⟩ : ByteArray) ++ ⟨S1.toArray⟩) ++ ⟨#[32]⟩)) rfl (by kernel_rfl) (by kernel_rfl) (by kernel_rfl) (by kernel_rfl) (fun _ _ _ h => h) (Or.inl ⟨by rfl, fun W9 hW => by go_simp⟩) sv1 ?_
            try simp only [Act.put, List.setIfInBounds_toArray, List.set_cons_zero, List.set_cons_succ]
            refine wpAnyT_two (i := 9) (j := 14) (oi := ⟨some 87, _, _, _, _, _⟩) (oj := ⟨some 12, _, _, _, _, _⟩) (by kernel_rfl) rfl rfl (fun K hK => ?_) (fun K hK => ?_)
            · go_simp
              refine (dg2 v1).mono ?_
              rintro e v2 ⟨rfl, bv2⟩
              have hv2 : Below wr.heap.size wr v2 := hv1.trans (bv2.mono hv1.size)
              have sv2 := hb.out.trans (hv2.mono hb.out.size)
              refine hK.out _ _ (fun _ => sv2) ?_
              clear hK K bv2
              try simp only [Act.put, List.setIfInBounds_toArray, List.set_cons_zero, List.set_cons_succ]
              refine wpAnyT_take (i := 10) (oi := ⟨some 88, _, _, _, _, _⟩) (v := .string ((((⟨#[77, 79, 86, 69, 68, 32]⟩ : ByteArray) ++ ⟨S1.toArray⟩) ++ ⟨#[32]⟩) ++ ⟨S2.toArray⟩)) rfl (by kernel_rfl) (by kernel_rfl) (by kernel_rfl) (by kernel_rfl) (fun _ _ _ h => h) (Or.inl ⟨by rfl, fun W9 hW => by go_simp⟩) sv2 ?_
              try simp only [Act.put, List.setIfInBounds_toArray, List.set_cons_zero, List.set_cons_succ]
              refine wpAnyT_take (i := 11) (oi := ⟨some 89, _, _, _, _, _⟩) (v := .agg #[.int .i64 2, .int .i64 0, .string ((((⟨#[77, 79, 86, 69, 68, 32]⟩ : ByteArray) ++ ⟨S1.toArray⟩) ++ ⟨#[32]⟩) ++ ⟨S2.toArray⟩), .slice none 0 0]) rfl (by kernel_rfl) (by kernel_rfl) (by kernel_rfl) (by kernel_rfl) (fun _ _ _ h => h) (Or.inl ⟨by rfl, fun W9 hW => by go_simp⟩) sv2 ?_
              try simp only [Act.put, List.setIfInBounds_toArray, List.set_cons_zero, List.set_cons_succ]
              refine wpAnyT_take (i := 12) (oi := ⟨some 90, _, _, _, _, _⟩) (v := .agg #[.int .i64 2, .int .i64 s.num, .int .i64 0, .int .i64 0, .string ⟨#[]⟩, .string ⟨#[]⟩, .slice none 0 0, .int .i64 2, .int .i64 0, .string ((((⟨#[77, 79, 86, 69, 68, 32]⟩ : ByteArray) ++ ⟨S1.toArray⟩) ++ ⟨#[32]⟩) ++ ⟨S2.toArray⟩), .slice none 0 0, .bool false, .int .i64 0]) rfl (by kernel_rfl) (by kernel_rfl) (by kernel_rfl) (by kernel_rfl) (fun _ _ _ h => h) (Or.inl ⟨by rfl, fun W9 hW => by go_simp⟩) sv2 ?_
              try simp only [Act.put, List.setIfInBounds_toArray, List.set_cons_zero, List.set_cons_succ]
              refine wpAnyT_two (i := 13) (j := 14) (oi := ⟨some 91, _, _, _, _, _⟩) (oj := ⟨some 12, _, _, _, _, _⟩) (by kernel_rfl) rfl rfl (fun K hK => ?_) (fun K hK => ?_)
              · go_simp
                have hcT := hcl.out.below hv2
                refine (Take_calls w.heap.size (w.heap.size + 1) s (learnL s.num (((((⟨#[77, 79, 86, 69, 68, 32]⟩ : ByteArray) ++ ⟨S1.toArray⟩) ++ ⟨#[32]⟩) ++ ⟨S2.toArray⟩) : ByteArray)) (l.length + 1) hfi.out hq1 (Nat.lt_of_le_of_lt (Nat.le_of_eq hmsz.out) (by omega)) v2 hcT w hE sv2 (Nat.le_refl _) (Nat.le_succ _)).mono ?_
                rintro e v3 hpost
                clear hcT
                by_cases hbd : s.bud = 0
                · rw [hTk0.out hbd] at hpost
                  obtain ⟨ho, hc5, hk5⟩ := hpost
                  have ho' : e = .returned (.agg (outC 0 0 0 (.slice none 0 0) 0 false 2 0 wrongT (.slice none 0 0) true)) := ho
                  subst ho'
                  have sv5 := Keep2.base sv2 (Nat.le_refl _) (Nat.le_succ _) hk5
                  obtain ⟨OUT, hO⟩ : ∃ OUT, OUT = (outC 0 0 0 (.slice none 0 0) 0 false 2 0 wrongT (.slice none 0 0) true) := ⟨_, rfl⟩
                  rw [← hO]
                  have hone : OUT.all (·.oneCell') = true := by rw [hO]; exact out_one _ _ _ _ _ _ _ _ _ _ _ _ _ _ _
                  have hiO : (Tryd.prog.info? 32).map (·.size) = some OUT.size := by rw [hO]; exact info32
                  have hs0 : out0.size = OUT.size := by rw [hO]; rfl
                  replace hiO := Lib.hid hiO
                  replace hO := Lib.hid hO
                  refine hK.out _ _ (fun _ => sv5) ?_
                  clear hK K
                  try simp only [Act.put, List.setIfInBounds_toArray, List.set_cons_zero, List.set_cons_succ]
                  refine wpAnyT_one (i := 14) (o := ⟨some 12, _, _, _, _, _⟩) (by kernel_rfl) rfl (fun K hK => ?_)
                  go_simp
                  obtain ⟨hB6, hc6, hb6⟩ := put_late (OUT := OUT) sv2 (Nat.le_refl _) (Nat.le_succ _) hc5 hk5
                  have hB5 : (v3.alloc (.cells out0 32)).heap[v3.heap.size]? = some (.cells out0 32 (0, 0)) := heap_alloc_new _ _
                  obtain ⟨vA, eA⟩ : ∃ W9, W9 = v3.alloc (.cells #[.int .i64 0, .int .i64 0, .int .i64 0, .int .i64 0, .int .i64 0, .string ⟨#[]⟩, .string ⟨#[]⟩, .slice none 0 0, .int .i64 0, .int .i64 0, .string ⟨#[]⟩, .slice none 0 0, .bool false, .int .i64 0, .bool false, .int .i64 0, .int .i64 0, .string ⟨#[]⟩, .slice none 0 0, .bool false] 32) := ⟨_, rfl⟩
                  rw [← eA]
                  rw [show v3.alloc (.cells out0 32) = vA from eA.symm] at hB5 hB6 hc6 hb6
                  have svA : Below w.heap.size w vA := by rw [eA]; exact below_alloc sv5 _
                  replace hB5 := Lib.hid hB5
                  clear eA
                  refine hK.out _ _ (fun _ => svA) ?_
                  clear hK K
                  try simp only [Act.put, List.setIfInBounds_toArray, List.set_cons_zero, List.set_cons_succ]
                  refine wpAnyT_one (i := 15) (o := ⟨none, _, _, _, _, _⟩) (by kernel_rfl) rfl (fun K hK => ?_)
                  refine wp_store_row 32 _ _ rfl v3.heap.size OUT rfl rfl 32 out0 hB5.out hiO.out hs0 hone (hK.out _ _ (fun h => absurd rfl h) ?_)
                  clear hK K
                  try simp only [Act.put, List.setIfInBounds_toArray, List.set_cons_zero, List.set_cons_succ]
                  refine wpAnyT_done (by kernel_rfl) ?_ _
                  obtain ⟨w6, hw6⟩ : ∃ w6, w6 = vA.setRow v3.heap.size OUT := ⟨_, rfl⟩
                  rw [← hw6] at hB6 hc6 hb6 ⊢
                  generalize v3.heap.size = B6 at *
                  clear hB5 hone hs0 hw6
                  have p19 : w6.cell? ⟨B6, 19, none⟩ = some (.bool true) := by rw [cell_of_box hB6, hO.out]; rfl
                  have p17 : w6.cell? ⟨B6, 17, none⟩ = some (.string wrongT) := by rw [cell_of_box hB6, hO.out]; rfl
                  have hltB : B6 < w6.heap.size := (Array.getElem?_eq_some_iff.1 hB6).1
                  replace hB6 := Lib.hid hB6
                  replace hc6 := Lib.hid hc6
                  replace hb6 := Lib.hid hb6
                  go_wp2_with fail
                  refine (alive_calls _ (hE.below hb6.out)).mono ?_
                  rintro e w7 ⟨rfl, hb7⟩
                  have p17' := (hb7.cell (p := ⟨B6, 17, none⟩) hltB).trans p17
                  have hb7' := hbx.out.trans ((hb6.out.trans (hb7.mono hb6.out.size)).mono hbx.out.size)
                  have hwt := wrong_eq
                  go_wp2_with fail
                  go_ret
                  exact ⟨rfl, hb7'⟩
                · rw [hTk1.out hbd] at hpost
                  obtain ⟨ho, hc5, hk5⟩ := hpost
                  have ho' : ∃ A5 c5, e = .returned (.agg (outC dn 1 (s.num + 1) (.slice A5 s.args.length c5) 0 true 0 0 ⟨#[]⟩ (.slice none 0 0) false)) := ho
                  obtain ⟨A5, c5, rfl⟩ := ho'
                  have sv5 := Keep2.base sv2 (Nat.le_refl _) (Nat.le_succ _) hk5
                  obtain ⟨OUT, hO⟩ : ∃ OUT, OUT = (outC dn 1 (s.num + 1) (.slice A5 s.args.length c5) 0 true 0 0 ⟨#[]⟩ (.slice none 0 0) false) := ⟨_, rfl⟩
                  rw [← hO]
                  have hone : OUT.all (·.oneCell') = true := by rw [hO]; exact out_one _ _ _ _ _ _ _ _ _ _ _ _ _ _ _
                  have hiO : (Tryd.prog.info? 32).map (·.size) = some OUT.size := by rw [hO]; exact info32
                  have hs0 : out0.size = OUT.size := by rw [hO]; rfl
                  replace hiO := Lib.hid hiO
                  replace hO := Lib.hid hO
                  refine hK.out _ _ (fun _ => sv5) ?_
                  clear hK K
                  try simp only [Act.put, List.setIfInBounds_toArray, List.set_cons_zero, List.set_cons_succ]
                  refine wpAnyT_one (i := 14) (o := ⟨some 12, _, _, _, _, _⟩) (by kernel_rfl) rfl (fun K hK => ?_)
                  go_simp
                  obtain ⟨hB6, hc6, hb6⟩ := put_late (OUT := OUT) sv2 (Nat.le_refl _) (Nat.le_succ _) hc5 hk5
                  have hB5 : (v3.alloc (.cells out0 32)).heap[v3.heap.size]? = some (.cells out0 32 (0, 0)) := heap_alloc_new _ _
                  obtain ⟨vA, eA⟩ : ∃ W9, W9 = v3.alloc (.cells #[.int .i64 0, .int .i64 0, .int .i64 0, .int .i64 0, .int .i64 0, .string ⟨#[]⟩, .string ⟨#[]⟩, .slice none 0 0, .int .i64 0, .int .i64 0, .string ⟨#[]⟩, .slice none 0 0, .bool false, .int .i64 0, .bool false, .int .i64 0, .int .i64 0, .string ⟨#[]⟩, .slice none 0 0, .bool false] 32) := ⟨_, rfl⟩
                  rw [← eA]
                  rw [show v3.alloc (.cells out0 32) = vA from eA.symm] at hB5 hB6 hc6 hb6
                  have svA : Below w.heap.size w vA := by rw [eA]; exact below_alloc sv5 _
                  replace hB5 := Lib.hid hB5
                  clear eA
                  refine hK.out _ _ (fun _ => svA) ?_
                  clear hK K
                  try simp only [Act.put, List.setIfInBounds_toArray, List.set_cons_zero, List.set_cons_succ]
                  refine wpAnyT_one (i := 15) (o := ⟨none, _, _, _, _, _⟩) (by kernel_rfl) rfl (fun K hK => ?_)
                  refine wp_store_row 32 _ _ rfl v3.heap.size OUT rfl rfl 32 out0 hB5.out hiO.out hs0 hone (hK.out _ _ (fun h => absurd rfl h) ?_)
                  clear hK K
                  try simp only [Act.put, List.setIfInBounds_toArray, List.set_cons_zero, List.set_cons_succ]
                  refine wpAnyT_done (by kernel_rfl) ?_ _
                  obtain ⟨w6, hw6⟩ : ∃ w6, w6 = vA.setRow v3.heap.size OUT := ⟨_, rfl⟩
                  rw [← hw6] at hB6 hc6 hb6 ⊢
                  generalize v3.heap.size = B6 at *
                  clear hB5 hone hs0 hw6
                  have p19 : w6.cell? ⟨B6, 19, none⟩ = some (.bool false) := by rw [cell_of_box hB6, hO.out]; rfl
                  have p14 : w6.cell? ⟨B6, 14, none⟩ = some (.bool true) := by rw [cell_of_box hB6, hO.out]; rfl
                  have p0 : w6.cell? ⟨B6, 0, none⟩ = some (.int .i64 dn) := by rw [cell_of_box hB6, hO.out]; rfl
                  have hltB : B6 < w6.heap.size := (Array.getElem?_eq_some_iff.1 hB6).1
                  replace hB6 := Lib.hid hB6
                  replace hc6 := Lib.hid hc6
                  replace hb6 := Lib.hid hb6
                  have hwv : whereV (learnS s ds dn) ds = dn := learn_where s ds dn
                  replace hwv := Lib.hid hwv
                  go_wp2_with fail
                  refine wp_region_last (S := fun W9 => Below w6.heap.size w6 W9) 21 (by kernel_rfl) ?_
                  have hr0 : Below w6.heap.size w6 w6.drew := ⟨rfl, rfl, rfl, Nat.le_refl _, fun _ _ => rfl⟩
                  have hlt6 : W.heap.size < w6.heap.size := Nat.lt_of_lt_of_le hltx hb6.out.size
                  have y1 := (hb6.out.cell (p := ⟨W.heap.size, 1, none⟩) hltx).trans hd1.out
                  have y2 := (hb6.out.cell (p := ⟨W.heap.size, 2, none⟩) hltx).trans hd2.out
                  replace y1 := Lib.hid y1
                  replace y2 := Lib.hid y2
                  replace p14 := Lib.hid p14
                  replace p0 := Lib.hid p0
                  replace p19 := Lib.hid p19
                  refine wpAnyT_one (i := 0) (o := ⟨some 101, _, _, _, _, _⟩) (by kernel_rfl) rfl (fun K hK => ?_)
                  go_simp
                  have hbr := hb6.out.trans (hr0.mono hb6.out.size)
                  refine (alive_calls w6.drew (hE.below hbr)).mono ?_
                  rintro e w7 ⟨rfl, hb7⟩
                  have hr7 : Below w6.heap.size w6 w7 := hr0.trans (hb7.mono hr0.size)
                  refine hK.out _ _ (fun _ => hr7) ?_
                  clear hK K
                  try simp only [Act.put, List.setIfInBounds_toArray, List.set_cons_zero, List.set_cons_succ]
                  refine wpAnyT_take (i := 1) (oi := ⟨some 102, _, _, _, _, _⟩) (v := .bool true) rfl (by kernel_rfl) (by kernel_rfl) (by kernel_rfl) (by kernel_rfl) (fun _ _ _ h => h) (Or.inl ⟨by rfl, fun W9 hW => by go_simp⟩) hr7 ?_
                  try simp only [Act.put, List.setIfInBounds_toArray, List.set_cons_zero, List.set_cons_succ]
                  refine wpAnyT_take (i := 2) (oi := ⟨some 103, _, _, _, _, _⟩) (v := .pointer (some ⟨B6, 14, none⟩)) rfl (by kernel_rfl) (by kernel_rfl) (by kernel_rfl) (by kernel_rfl) (fun _ _ _ h => h) (Or.inl ⟨by rfl, fun W9 hW => by go_simp⟩) hr7 ?_
                  try simp only [Act.put, List.setIfInBounds_toArray, List.set_cons_zero, List.set_cons_succ]
                  refine wpAnyT_take (i := 3) (oi := ⟨some 104, _, _, _, _, _⟩) (v := .bool true) rfl (by kernel_rfl) (by kernel_rfl) (by kernel_rfl) (by kernel_rfl) (fun _ _ _ h => h) (Or.inl ⟨by rfl, fun W9 hW => by have q9 := (hW.cell (p := ⟨B6, 14, none⟩) hltB).trans p14.out; go_simp⟩) hr7 ?_
                  try simp only [Act.put, List.setIfInBounds_toArray, List.set_cons_zero, List.set_cons_succ]
                  refine wpAnyT_take (i := 4) (oi := ⟨some 105, _, _, _, _, _⟩) (v := .bool true) rfl (by kernel_rfl) (by kernel_rfl) (by kernel_rfl) (by kernel_rfl) (fun _ _ _ h => h) (Or.inl ⟨by rfl, fun W9 hW => by go_simp⟩) hr7 ?_
                  try simp only [Act.put, List.setIfInBounds_toArray, List.set_cons_zero, List.set_cons_succ]
                  refine wpAnyT_take (i := 5) (oi := ⟨some 106, _, _, _, _, _⟩) (v := .bool true) rfl (by kernel_rfl) (by kernel_rfl) (by kernel_rfl) (by kernel_rfl) (fun _ _ _ h => h) (Or.inl ⟨by rfl, fun W9 hW => by go_simp⟩) hr7 ?_
                  try simp only [Act.put, List.setIfInBounds_toArray, List.set_cons_zero, List.set_cons_succ]
                  refine wpAnyT_take (i := 6) (oi := ⟨some 107, _, _, _, _, _⟩) (v := .pointer (some ⟨B6, 0, none⟩)) rfl (by kernel_rfl) (by kernel_rfl) (by kernel_rfl) (by kernel_rfl) (fun _ _ _ h => h) (Or.inl ⟨by rfl, fun W9 hW => by go_simp⟩) hr7 ?_
                  try simp only [Act.put, List.setIfInBounds_toArray, List.set_cons_zero, List.set_cons_succ]
                  refine wpAnyT_take (i := 7) (oi := ⟨some 108, _, _, _, _, _⟩) (v := .int .i64 dn) rfl (by kernel_rfl) (by kernel_rfl) (by kernel_rfl) (by kernel_rfl) (fun _ _ _ h => h) (Or.inl ⟨by rfl, fun W9 hW => by have q9 := (hW.cell (p := ⟨B6, 0, none⟩) hltB).trans p0.out; go_simp⟩) hr7 ?_
                  try simp only [Act.put, List.setIfInBounds_toArray, List.set_cons_zero, List.set_cons_succ]
                  refine wpAnyT_take (i := 8) (oi := ⟨some 109, _, _, _, _, _⟩) (v := .pointer (some ⟨W.heap.size, 2, none⟩)) rfl (by kernel_rfl) (by kernel_rfl) (by kernel_rfl) (by kernel_rfl) (fun _ _ _ h => h) (Or.inl ⟨by rfl, fun W9 hW => by go_simp⟩) hr7 ?_
                  try simp only [Act.put, List.setIfInBounds_toArray, List.set_cons_zero, List.set_cons_succ]
                  refine wpAnyT_take (i := 9) (oi := ⟨some 110, _, _, _, _, _⟩) (v := .int .i64 dn) rfl (by kernel_rfl) (by kernel_rfl) (by kernel_rfl) (by kernel_rfl) (fun _ _ _ h => h) (Or.inl ⟨by rfl, fun W9 hW => by have q9 := (hW.cell (p := ⟨W.heap.size, 2, none⟩) hlt6).trans y2.out; go_simp⟩) hr7 ?_
                  try simp only [Act.put, List.setIfInBounds_toArray, List.set_cons_zero, List.set_cons_succ]
                  refine wpAnyT_take (i := 10) (oi := ⟨some 111, _, _, _, _, _⟩) (v := .bool true) rfl (by kernel_rfl) (by kernel_rfl) (by kernel_rfl) (by kernel_rfl) (fun _ _ _ h => h) (Or.inl ⟨by rfl, fun W9 hW => by go_simp⟩) hr7 ?_
                  try simp only [Act.put, List.setIfInBounds_toArray, List.set_cons_zero, List.set_cons_succ]
                  refine wpAnyT_take (i := 11) (oi := ⟨some 112, _, _, _, _, _⟩) (v := .bool true) rfl (by kernel_rfl) (by kernel_rfl) (by kernel_rfl) (by kernel_rfl) (fun _ _ _ h => h) (Or.inl ⟨by rfl, fun W9 hW => by go_simp⟩) hr7 ?_
                  try simp only [Act.put, List.setIfInBounds_toArray, List.set_cons_zero, List.set_cons_succ]
                  refine wpAnyT_take (i := 12) (oi := ⟨some 113, _, _, _, _, _⟩) (v := .bool true) rfl (by kernel_rfl) (by kernel_rfl) (by kernel_rfl) (by kernel_rfl) (fun _ _ _ h => h) (Or.inl ⟨by rfl, fun W9 hW => by go_simp⟩) hr7 ?_
                  try simp only [Act.put, List.setIfInBounds_toArray, List.set_cons_zero, List.set_cons_succ]
                  refine wpAnyT_take (i := 13) (oi := ⟨some 114, _, _, _, _, _⟩) (v := .pointer (some ⟨w.heap.size + 1, 0, none⟩)) rfl (by kernel_rfl) (by kernel_rfl) (by kernel_rfl) (by kernel_rfl) (fun _ _ _ h => h) (Or.inl ⟨by rfl, fun W9 hW => by go_simp⟩) hr7 ?_
                  try simp only [Act.put, List.setIfInBounds_toArray, List.set_cons_zero, List.set_cons_succ]
                  refine wpAnyT_take (i := 14) (oi := ⟨some 115, _, _, _, _, _⟩) (v := .pointer (some ⟨W.heap.size, 1, none⟩)) rfl (by kernel_rfl) (by kernel_rfl) (by kernel_rfl) (by kernel_rfl) (fun _ _ _ h => h) (Or.inl ⟨by rfl, fun W9 hW => by go_simp⟩) hr7 ?_
                  try simp only [Act.put, List.setIfInBounds_toArray, List.set_cons_zero, List.set_cons_succ]
                  refine wpAnyT_take (i := 15) (oi := ⟨some 116, _, _, _, _, _⟩) (v := .int .i64 ds) rfl (by kernel_rfl) (by kernel_rfl) (by kernel_rfl) (by kernel_rfl) (fun _ _ _ h => h) (Or.inl ⟨by rfl, fun W9 hW => by have q9 := (hW.cell (p := ⟨W.heap.size, 1, none⟩) hlt6).trans y1.out; go_simp⟩) hr7 ?_
                  try simp only [Act.put, List.setIfInBounds_toArray, List.set_cons_zero, List.set_cons_succ]
                  refine wpAnyT_take (i := 17) (oi := ⟨some 118, _, _, _, _, _⟩) (v := .pointer (some ⟨W.heap.size, 2, none⟩)) rfl (by kernel_rfl) (by kernel_rfl) (by kernel_rfl) (by kernel_rfl) (fun _ _ _ h => h) (Or.inl ⟨by rfl, fun W9 hW => by go_simp⟩) hr7 ?_
                  try simp only [Act.put, List.setIfInBounds_toArray, List.set_cons_zero, List.set_cons_succ]
                  refine wpAnyT_take (i := 18) (oi := ⟨some 119, _, _, _, _, _⟩) (v := .int .i64 dn) rfl (by kernel_rfl) (by kernel_rfl) (by kernel_rfl) (by kernel_rfl) (fun _ _ _ h => h) (Or.inl ⟨by rfl, fun W9 hW => by have q9 := (hW.cell (p := ⟨W.heap.size, 2, none⟩) hlt6).trans y2.out; go_simp⟩) hr7 ?_
                  try simp only [Act.put, List.setIfInBounds_toArray, List.set_cons_zero, List.set_cons_succ]
                  refine wpAnyT_one (i := 16) (o := ⟨some 117, _, _, _, _, _⟩) (by kernel_rfl) rfl (fun K hK => ?_)
                  go_simp
                  refine (Where_calls w.heap.size (w.heap.size + 1) (learnS s ds dn) ds bds w7 (hc6.out.below hr7)).mono ?_
                  rintro e w8 ⟨rfl, rfl⟩
                  rw [hwv.out]
                  refine hK.out _ _ (fun _ => hr7) ?_
                  clear hK K
                  try simp only [Act.put, List.setIfInBounds_toArray, List.set_cons_zero, List.set_cons_succ]
                  refine wpAnyT_take (i := 19) (oi := ⟨some 120, _, _, _, _, _⟩) (v := .bool true) rfl (by kernel_rfl) (by kernel_rfl) (by kernel_rfl) (by kernel_rfl) (fun _ _ _ h => h) (Or.inl ⟨by rfl, fun W9 hW => by go_simp⟩) hr7 ?_
                  try simp only [Act.put, List.setIfInBounds_toArray, List.set_cons_zero, List.set_cons_succ]
                  refine wpAnyT_take (i := 20) (oi := ⟨some 121, _, _, _, _, _⟩) (v := .bool true) rfl (by kernel_rfl) (by kernel_rfl) (by kernel_rfl) (by kernel_rfl) (fun _ _ _ h => h) (Or.inl ⟨by rfl, fun W9 hW => by go_simp⟩) hr7 ?_
                  try simp only [Act.put, List.setIfInBounds_toArray, List.set_cons_zero, List.set_cons_succ]
                  refine wpAnyT_one (i := 21) (o := ⟨some 6, _, _, _, _, _⟩) (by kernel_rfl) rfl (fun K hK => ?_)
                  go_simp
                  refine hK.out _ _ (fun h => absurd rfl h) ?_
                  clear hK K
                  try simp only [Act.put, List.setIfInBounds_toArray, List.set_cons_zero, List.set_cons_succ]
                  refine wpAnyT_done (by kernel_rfl) ?_ _
                  have hb7' := hbx.out.trans ((hb6.out.trans (hr7.mono hb6.out.size)).mono hbx.out.size)
                  go_wp2_with fail
                  go_ret
                  exact ⟨rfl, hb7'⟩
              · go_simp
                obtain ⟨v4, ev4⟩ : ∃ W9, W9 = v2.alloc (.cells #[.int .i64 0, .int .i64 0, .int .i64 0, .int .i64 0, .int .i64 0, .string ⟨#[]⟩, .string ⟨#[]⟩, .slice none 0 0, .int .i64 0, .int .i64 0, .string ⟨#[]⟩, .slice none 0 0, .bool false, .int .i64 0, .bool false, .int .i64 0, .int .i64 0, .string ⟨#[]⟩, .slice none 0 0, .bool false] 32) := ⟨_, rfl⟩
                rw [← ev4]
                have hv4 : Below wr.heap.size wr v4 := by rw [ev4]; exact below_alloc hv2 _
                have sv4 := hb.out.trans (hv4.mono hb.out.size)
                have xv4 : v4.heap[v2.heap.size]? = some (.cells out0 32 (0, 0)) := by rw [ev4]; exact heap_alloc_new _ _
                replace xv4 := Lib.hid xv4
                clear ev4
                refine hK.out _ _ (fun _ => sv4) ?_
                clear hK K
                try simp only [Act.put, List.setIfInBounds_toArray, List.set_cons_zero, List.set_cons_succ]
                refine wpAnyT_one (i := 13) (o := ⟨some 91, _, _, _, _, _⟩) (by kernel_rfl) rfl (fun K hK => ?_)
                go_simp
                have hcT := hcl.out.below hv4
                refine (Take_calls w.heap.size (w.heap.size + 1) s (learnL s.num (((((⟨#[77, 79, 86, 69, 68, 32]⟩ : ByteArray) ++ ⟨S1.toArray⟩) ++ ⟨#[32]⟩) ++ ⟨S2.toArray⟩) : ByteArray)) (l.length + 1) hfi.out hq1 (Nat.lt_of_le_of_lt (Nat.le_of_eq hmsz.out) (by omega)) v4 hcT w hE sv4 (Nat.le_refl _) (Nat.le_succ _)).mono ?_
                rintro e v5 hpost
                clear hcT
                by_cases hbd : s.bud = 0
                · rw [hTk0.out hbd] at hpost
                  obtain ⟨ho, hc5, hk5⟩ := hpost
                  have ho' : e = .returned (.agg (outC 0 0 0 (.slice none 0 0) 0 false 2 0 wrongT (.slice none 0 0) true)) := ho
                  subst ho'
                  have sv5 := Keep2.base sv4 (Nat.le_refl _) (Nat.le_succ _) hk5
                  obtain ⟨OUT, hO⟩ : ∃ OUT, OUT = (outC 0 0 0 (.slice none 0 0) 0 false 2 0 wrongT (.slice none 0 0) true) := ⟨_, rfl⟩
                  rw [← hO]
                  have hone : OUT.all (·.oneCell') = true := by rw [hO]; exact out_one _ _ _ _ _ _ _ _ _ _ _ _ _ _ _
                  have hiO : (Tryd.prog.info? 32).map (·.size) = some OUT.size := by rw [hO]; exact info32
                  have hs0 : out0.size = OUT.size := by rw [hO]; rfl
                  replace hiO := Lib.hid hiO
                  replace hO := Lib.hid hO
                  have hlB : w.heap.size < v2.heap.size ∧ w.heap.size + 1 < v2.heap.size := ⟨Nat.lt_of_lt_of_le hltc.1 hv2.size, Nat.lt_of_lt_of_le hltc.2 hv2.size⟩
                  obtain ⟨hB5, hB6, hc6, hb6⟩ := put_row (B := v2.heap.size) (OUT := OUT) sv4 (Nat.le_refl _) (Nat.le_succ _) xv4.out (Nat.le_of_lt hlB.1) (by omega) (by omega) hc5 hk5
                  replace hB5 := Lib.hid hB5
                  refine hK.out _ _ (fun _ => sv5) ?_
                  clear hK K
                  try simp only [Act.put, List.setIfInBounds_toArray, List.set_cons_zero, List.set_cons_succ]
                  refine wpAnyT_one (i := 15) (o := ⟨none, _, _, _, _, _⟩) (by kernel_rfl) rfl (fun K hK => ?_)
                  refine wp_store_row 32 _ _ rfl v2.heap.size OUT rfl rfl 32 out0 hB5.out hiO.out hs0 hone (hK.out _ _ (fun h => absurd rfl h) ?_)
                  clear hK K
                  try simp only [Act.put, List.setIfInBounds_toArray, List.set_cons_zero, List.set_cons_succ]
                  refine wpAnyT_done (by kernel_rfl) ?_ _
                  obtain ⟨w6, hw6⟩ : ∃ w6, w6 = v5.setRow v2.heap.size OUT := ⟨_, rfl⟩
                  rw [← hw6] at hB6 hc6 hb6 ⊢
                  generalize v2.heap.size = B6 at *
                  clear hB5 hone hs0 hw6
                  have p19 : w6.cell? ⟨B6, 19, none⟩ = some (.bool true) := by rw [cell_of_box hB6, hO.out]; rfl
                  have p17 : w6.cell? ⟨B6, 17, none⟩ = some (.string wrongT) := by rw [cell_of_box hB6, hO.out]; rfl
                  have hltB : B6 < w6.heap.size := (Array.getElem?_eq_some_iff.1 hB6).1
                  replace hB6 := Lib.hid hB6
                  replace hc6 := Lib.hid hc6
                  replace hb6 := Lib.hid hb6
                  go_wp2_with fail
                  refine (alive_calls _ (hE.below hb6.out)).mono ?_
                  rintro e w7 ⟨rfl, hb7⟩
                  have p17' := (hb7.cell (p := ⟨B6, 17, none⟩) hltB).trans p17
                  have hb7' := hbx.out.trans ((hb6.out.trans (hb7.mono hb6.out.size)).mono hbx.out.size)
                  have hwt := wrong_eq
                  go_wp2_with fail
                  go_ret
                  exact ⟨rfl, hb7'⟩
                · rw [hTk1.out hbd] at hpost
                  obtain ⟨ho, hc5, hk5⟩ := hpost
                  have ho' : ∃ A5 c5, e = .returned (.agg (outC dn 1 (s.num + 1) (.slice A5 s.args.length c5) 0 true 0 0 ⟨#[]⟩ (.slice none 0 0) false)) := ho
                  obtain ⟨A5, c5, rfl⟩ := ho'
                  have sv5 := Keep2.base sv4 (Nat.le_refl _) (Nat.le_succ _) hk5
                  obtain ⟨OUT, hO⟩ : ∃ OUT, OUT = (outC dn 1 (s.num + 1) (.slice A5 s.args.length c5) 0 true 0 0 ⟨#[]⟩ (.slice none 0 0) false) := ⟨_, rfl⟩
                  rw [← hO]
                  have hone : OUT.all (·.oneCell') = true := by rw [hO]; exact out_one _ _ _ _ _ _ _ _ _ _ _ _ _ _ _
                  have hiO : (Tryd.prog.info? 32).map (·.size) = some OUT.size := by rw [hO]; exact info32
                  have hs0 : out0.size = OUT.size := by rw [hO]; rfl
                  replace hiO := Lib.hid hiO
                  replace hO := Lib.hid hO
                  have hlB : w.heap.size < v2.heap.size ∧ w.heap.size + 1 < v2.heap.size := ⟨Nat.lt_of_lt_of_le hltc.1 hv2.size, Nat.lt_of_lt_of_le hltc.2 hv2.size⟩
                  obtain ⟨hB5, hB6, hc6, hb6⟩ := put_row (B := v2.heap.size) (OUT := OUT) sv4 (Nat.le_refl _) (Nat.le_succ _) xv4.out (Nat.le_of_lt hlB.1) (by omega) (by omega) hc5 hk5
                  replace hB5 := Lib.hid hB5
                  refine hK.out _ _ (fun _ => sv5) ?_
                  clear hK K
                  try simp only [Act.put, List.setIfInBounds_toArray, List.set_cons_zero, List.set_cons_succ]
                  refine wpAnyT_one (i := 15) (o := ⟨none, _, _, _, _, _⟩) (by kernel_rfl) rfl (fun K hK => ?_)
                  refine wp_store_row 32 _ _ rfl v2.heap.size OUT rfl rfl 32 out0 hB5.out hiO.out hs0 hone (hK.out _ _ (fun h => absurd rfl h) ?_)
                  clear hK K
                  try simp only [Act.put, List.setIfInBounds_toArray, List.set_cons_zero, List.set_cons_succ]
                  refine wpAnyT_done (by kernel_rfl) ?_ _
                  obtain ⟨w6, hw6⟩ : ∃ w6, w6 = v5.setRow v2.heap.size OUT := ⟨_, rfl⟩
                  rw [← hw6] at hB6 hc6 hb6 ⊢
                  generalize v2.heap.size = B6 at *
                  clear hB5 hone hs0 hw6
                  have p19 : w6.cell? ⟨B6, 19, none⟩ = some (.bool false) := by rw [cell_of_box hB6, hO.out]; rfl
                  have p14 : w6.cell? ⟨B6, 14, none⟩ = some (.bool true) := by rw [cell_of_box hB6, hO.out]; rfl
                  have p0 : w6.cell? ⟨B6, 0, none⟩ = some (.int .i64 dn) := by rw [cell_of_box hB6, hO.out]; rfl
                  have hltB : B6 < w6.heap.size := (Array.getElem?_eq_some_iff.1 hB6).1
                  replace hB6 := Lib.hid hB6
                  replace hc6 := Lib.hid hc6
                  replace hb6 := Lib.hid hb6
                  have hwv : whereV (learnS s ds dn) ds = dn := learn_where s ds dn
                  replace hwv := Lib.hid hwv
                  go_wp2_with fail
                  refine wp_region_last (S := fun W9 => Below w6.heap.size w6 W9) 21 (by kernel_rfl) ?_
                  have hr0 : Below w6.heap.size w6 w6.drew := ⟨rfl, rfl, rfl, Nat.le_refl _, fun _ _ => rfl⟩
                  have hlt6 : W.heap.size < w6.heap.size := Nat.lt_of_lt_of_le hltx hb6.out.size
                  have y1 := (hb6.out.cell (p := ⟨W.heap.size, 1, none⟩) hltx).trans hd1.out
                  have y2 := (hb6.out.cell (p := ⟨W.heap.size, 2, none⟩) hltx).trans hd2.out
                  replace y1 := Lib.hid y1
                  replace y2 := Lib.hid y2
                  replace p14 := Lib.hid p14
                  replace p0 := Lib.hid p0
                  replace p19 := Lib.hid p19
                  refine wpAnyT_one (i := 0) (o := ⟨some 101, _, _, _, _, _⟩) (by kernel_rfl) rfl (fun K hK => ?_)
                  go_simp
                  have hbr := hb6.out.trans (hr0.mono hb6.out.size)
                  refine (alive_calls w6.drew (hE.below hbr)).mono ?_
                  rintro e w7 ⟨rfl, hb7⟩
                  have hr7 : Below w6.heap.size w6 w7 := hr0.trans (hb7.mono hr0.size)
                  refine hK.out _ _ (fun _ => hr7) ?_
                  clear hK K
                  try simp only [Act.put, List.setIfInBounds_toArray, List.set_cons_zero, List.set_cons_succ]
                  refine wpAnyT_take (i := 1) (oi := ⟨some 102, _, _, _, _, _⟩) (v := .bool true) rfl (by kernel_rfl) (by kernel_rfl) (by kernel_rfl) (by kernel_rfl) (fun _ _ _ h => h) (Or.inl ⟨by rfl, fun W9 hW => by go_simp⟩) hr7 ?_
                  try simp only [Act.put, List.setIfInBounds_toArray, List.set_cons_zero, List.set_cons_succ]
                  refine wpAnyT_take (i := 2) (oi := ⟨some 103, _, _, _, _, _⟩) (v := .pointer (some ⟨B6, 14, none⟩)) rfl (by kernel_rfl) (by kernel_rfl) (by kernel_rfl) (by kernel_rfl) (fun _ _ _ h => h) (Or.inl ⟨by rfl, fun W9 hW => by go_simp⟩) hr7 ?_
                  try simp only [Act.put, List.setIfInBounds_toArray, List.set_cons_zero, List.set_cons_succ]
                  refine wpAnyT_take (i := 3) (oi := ⟨some 104, _, _, _, _, _⟩) (v := .bool true) rfl (by kernel_rfl) (by kernel_rfl) (by kernel_rfl) (by kernel_rfl) (fun _ _ _ h => h) (Or.inl ⟨by rfl, fun W9 hW => by have q9 := (hW.cell (p := ⟨B6, 14, none⟩) hltB).trans p14.out; go_simp⟩) hr7 ?_
                  try simp only [Act.put, List.setIfInBounds_toArray, List.set_cons_zero, List.set_cons_succ]
                  refine wpAnyT_take (i := 4) (oi := ⟨some 105, _, _, _, _, _⟩) (v := .bool true) rfl (by kernel_rfl) (by kernel_rfl) (by kernel_rfl) (by kernel_rfl) (fun _ _ _ h => h) (Or.inl ⟨by rfl, fun W9 hW => by go_simp⟩) hr7 ?_
                  try simp only [Act.put, List.setIfInBounds_toArray, List.set_cons_zero, List.set_cons_succ]
                  refine wpAnyT_take (i := 5) (oi := ⟨some 106, _, _, _, _, _⟩) (v := .bool true) rfl (by kernel_rfl) (by kernel_rfl) (by kernel_rfl) (by kernel_rfl) (fun _ _ _ h => h) (Or.inl ⟨by rfl, fun W9 hW => by go_simp⟩) hr7 ?_
                  try simp only [Act.put, List.setIfInBounds_toArray, List.set_cons_zero, List.set_cons_succ]
                  refine wpAnyT_take (i := 6) (oi := ⟨some 107, _, _, _, _, _⟩) (v := .pointer (some ⟨B6, 0, none⟩)) rfl (by kernel_rfl) (by kernel_rfl) (by kernel_rfl) (by kernel_rfl) (fun _ _ _ h => h) (Or.inl ⟨by rfl, fun W9 hW => by go_simp⟩) hr7 ?_
                  try simp only [Act.put, List.setIfInBounds_toArray, List.set_cons_zero, List.set_cons_succ]
                  refine wpAnyT_take (i := 7) (oi := ⟨some 108, _, _, _, _, _⟩) (v := .int .i64 dn) rfl (by kernel_rfl) (by kernel_rfl) (by kernel_rfl) (by kernel_rfl) (fun _ _ _ h => h) (Or.inl ⟨by rfl, fun W9 hW => by have q9 := (hW.cell (p := ⟨B6, 0, none⟩) hltB).trans p0.out; go_simp⟩) hr7 ?_
                  try simp only [Act.put, List.setIfInBounds_toArray, List.set_cons_zero, List.set_cons_succ]
                  refine wpAnyT_take (i := 8) (oi := ⟨some 109, _, _, _, _, _⟩) (v := .pointer (some ⟨W.heap.size, 2, none⟩)) rfl (by kernel_rfl) (by kernel_rfl) (by kernel_rfl) (by kernel_rfl) (fun _ _ _ h => h) (Or.inl ⟨by rfl, fun W9 hW => by go_simp⟩) hr7 ?_
                  try simp only [Act.put, List.setIfInBounds_toArray, List.set_cons_zero, List.set_cons_succ]
                  refine wpAnyT_take (i := 9) (oi := ⟨some 110, _, _, _, _, _⟩) (v := .int .i64 dn) rfl (by kernel_rfl) (by kernel_rfl) (by kernel_rfl) (by kernel_rfl) (fun _ _ _ h => h) (Or.inl ⟨by rfl, fun W9 hW => by have q9 := (hW.cell (p := ⟨W.heap.size, 2, none⟩) hlt6).trans y2.out; go_simp⟩) hr7 ?_
                  try simp only [Act.put, List.setIfInBounds_toArray, List.set_cons_zero, List.set_cons_succ]
                  refine wpAnyT_take (i := 10) (oi := ⟨some 111, _, _, _, _, _⟩) (v := .bool true) rfl (by kernel_rfl) (by kernel_rfl) (by kernel_rfl) (by kernel_rfl) (fun _ _ _ h => h) (Or.inl ⟨by rfl, fun W9 hW => by go_simp⟩) hr7 ?_
                  try simp only [Act.put, List.setIfInBounds_toArray, List.set_cons_zero, List.set_cons_succ]
                  refine wpAnyT_take (i := 11) (oi := ⟨some 112, _, _, _, _, _⟩) (v := .bool true) rfl (by kernel_rfl) (by kernel_rfl) (by kernel_rfl) (by kernel_rfl) (fun _ _ _ h => h) (Or.inl ⟨by rfl, fun W9 hW => by go_simp⟩) hr7 ?_
                  try simp only [Act.put, List.setIfInBounds_toArray, List.set_cons_zero, List.set_cons_succ]
                  refine wpAnyT_take (i := 12) (oi := ⟨some 113, _, _, _, _, _⟩) (v := .bool true) rfl (by kernel_rfl) (by kernel_rfl) (by kernel_rfl) (by kernel_rfl) (fun _ _ _ h => h) (Or.inl ⟨by rfl, fun W9 hW => by go_simp⟩) hr7 ?_
                  try simp only [Act.put, List.setIfInBounds_toArray, List.set_cons_zero, List.set_cons_succ]
                  refine wpAnyT_take (i := 13) (oi := ⟨some 114, _, _, _, _, _⟩) (v := .pointer (some ⟨w.heap.size + 1, 0, none⟩)) rfl (by kernel_rfl) (by kernel_rfl) (by kernel_rfl) (by kernel_rfl) (fun _ _ _ h => h) (Or.inl ⟨by rfl, fun W9 hW => by go_simp⟩) hr7 ?_
                  try simp only [Act.put, List.setIfInBounds_toArray, List.set_cons_zero, List.set_cons_succ]
                  refine wpAnyT_take (i := 14) (oi := ⟨some 115, _, _, _, _, _⟩) (v := .pointer (some ⟨W.heap.size, 1, none⟩)) rfl (by kernel_rfl) (by kernel_rfl) (by kernel_rfl) (by kernel_rfl) (fun _ _ _ h => h) (Or.inl ⟨by rfl, fun W9 hW => by go_simp⟩) hr7 ?_
                  try simp only [Act.put, List.setIfInBounds_toArray, List.set_cons_zero, List.set_cons_succ]
                  refine wpAnyT_take (i := 15) (oi := ⟨some 116, _, _, _, _, _⟩) (v := .int .i64 ds) rfl (by kernel_rfl) (by kernel_rfl) (by kernel_rfl) (by kernel_rfl) (fun _ _ _ h => h) (Or.inl ⟨by rfl, fun W9 hW => by have q9 := (hW.cell (p := ⟨W.heap.size, 1, none⟩) hlt6).trans y1.out; go_simp⟩) hr7 ?_
                  try simp only [Act.put, List.setIfInBounds_toArray, List.set_cons_zero, List.set_cons_succ]
                  refine wpAnyT_take (i := 17) (oi := ⟨some 118, _, _, _, _, _⟩) (v := .pointer (some ⟨W.heap.size, 2, none⟩)) rfl (by kernel_rfl) (by kernel_rfl) (by kernel_rfl) (by kernel_rfl) (fun _ _ _ h => h) (Or.inl ⟨by rfl, fun W9 hW => by go_simp⟩) hr7 ?_
                  try simp only [Act.put, List.setIfInBounds_toArray, List.set_cons_zero, List.set_cons_succ]
                  refine wpAnyT_take (i := 18) (oi := ⟨some 119, _, _, _, _, _⟩) (v := .int .i64 dn) rfl (by kernel_rfl) (by kernel_rfl) (by kernel_rfl) (by kernel_rfl) (fun _ _ _ h => h) (Or.inl ⟨by rfl, fun W9 hW => by have q9 := (hW.cell (p := ⟨W.heap.size, 2, none⟩) hlt6).trans y2.out; go_simp⟩) hr7 ?_
                  try simp only [Act.put, List.setIfInBounds_toArray, List.set_cons_zero, List.set_cons_succ]
                  refine wpAnyT_one (i := 16) (o := ⟨some 117, _, _, _, _, _⟩) (by kernel_rfl) rfl (fun K hK => ?_)
                  go_simp
                  refine (Where_calls w.heap.size (w.heap.size + 1) (learnS s ds dn) ds bds w7 (hc6.out.below hr7)).mono ?_
                  rintro e w8 ⟨rfl, rfl⟩
                  rw [hwv.out]
                  refine hK.out _ _ (fun _ => hr7) ?_
                  clear hK K
                  try simp only [Act.put, List.setIfInBounds_toArray, List.set_cons_zero, List.set_cons_succ]
                  refine wpAnyT_take (i := 19) (oi := ⟨some 120, _, _, _, _, _⟩) (v := .bool true) rfl (by kernel_rfl) (by kernel_rfl) (by kernel_rfl) (by kernel_rfl) (fun _ _ _ h => h) (Or.inl ⟨by rfl, fun W9 hW => by go_simp⟩) hr7 ?_
                  try simp only [Act.put, List.setIfInBounds_toArray, List.set_cons_zero, List.set_cons_succ]
                  refine wpAnyT_take (i := 20) (oi := ⟨some 121, _, _, _, _, _⟩) (v := .bool true) rfl (by kernel_rfl) (by kernel_rfl) (by kernel_rfl) (by kernel_rfl) (fun _ _ _ h => h) (Or.inl ⟨by rfl, fun W9 hW => by go_simp⟩) hr7 ?_
                  try simp only [Act.put, List.setIfInBounds_toArray, List.set_cons_zero, List.set_cons_succ]
                  refine wpAnyT_one (i := 21) (o := ⟨some 6, _, _, _, _, _⟩) (by kernel_rfl) rfl (fun K hK => ?_)
                  go_simp
                  refine hK.out _ _ (fun h => absurd rfl h) ?_
                  clear hK K
                  try simp only [Act.put, List.setIfInBounds_toArray, List.set_cons_zero, List.set_cons_succ]
                  refine wpAnyT_done (by kernel_rfl) ?_ _
                  have hb7' := hbx.out.trans ((hb6.out.trans (hr7.mono hb6.out.size)).mono hbx.out.size)
                  go_wp2_with fail
                  go_ret
                  exact ⟨rfl, hb7'⟩
            · go_simp
              obtain ⟨v6, ev6⟩ : ∃ W9, W9 = v1.alloc (.cells #[.int .i64 0, .int .i64 0, .int .i64 0, .int .i64 0, .int .i64 0, .string ⟨#[]⟩, .string ⟨#[]⟩, .slice none 0 0, .int .i64 0, .int .i64 0, .string ⟨#[]⟩, .slice none 0 0, .bool false, .int .i64 0, .bool false, .int .i64 0, .int .i64 0, .string ⟨#[]⟩, .slice none 0 0, .bool false] 32) := ⟨_, rfl⟩
              rw [← ev6]
              have hv6 : Below wr.heap.size wr v6 := by rw [ev6]; exact below_alloc hv1 _
              have sv6 := hb.out.trans (hv6.mono hb.out.size)
              have xv6 : v6.heap[v1.heap.size]? = some (.cells out0 32 (0, 0)) := by rw [ev6]; exact heap_alloc_new _ _
              replace xv6 := Lib.hid xv6
              clear ev6
              refine hK.out _ _ (fun _ => sv6) ?_
              clear hK K
              try simp only [Act.put, List.setIfInBounds_toArray, List.set_cons_zero, List.set_cons_succ]
              refine wpAnyT_one (i := 9) (o := ⟨some 87, _, _, _, _, _⟩) (by kernel_rfl) rfl (fun K hK => ?_)
              go_simp
              refine (dg2 v6).mono ?_
              rintro e v7 ⟨rfl, bv7⟩
              have hv7 : Below wr.heap.size wr v7 := hv6.trans (bv7.mono hv6.size)
              have sv7 := hb.out.trans (hv7.mono hb.out.size)
              replace xv6 := Lib.hid ((bv7.block _ (Array.getElem?_eq_some_iff.1 xv6.out).1).trans xv6.out)
              refine hK.out _ _ (fun _ => sv7) ?_
              clear hK K bv7
              try simp only [Act.put, List.setIfInBounds_toArray, List.set_cons_zero, List.set_cons_succ]
              refine wpAnyT_take (i := 10) (oi := ⟨some 88, _, _, _, _, _⟩) (v := .string ((((⟨#[77, 79, 86, 69, 68, 32]⟩ : ByteArray) ++ ⟨S1.toArray⟩) ++ ⟨#[32]⟩) ++ ⟨S2.toArray⟩)) rfl (by kernel_rfl) (by kernel_rfl) (by kernel_rfl) (by kernel_rfl) (fun _ _ _ h => h) (Or.inl ⟨by rfl, fun W9 hW => by go_simp⟩) sv7 ?_
              try simp only [Act.put, List.setIfInBounds_toArray, List.set_cons_zero, List.set_cons_succ]
              refine wpAnyT_take (i := 11) (oi := ⟨some 89, _, _, _, _, _⟩) (v := .agg #[.int .i64 2, .int .i64 0, .string ((((⟨#[77, 79, 86, 69, 68, 32]⟩ : ByteArray) ++ ⟨S1.toArray⟩) ++ ⟨#[32]⟩) ++ ⟨S2.toArray⟩), .slice none 0 0]) rfl (by kernel_rfl) (by kernel_rfl) (by kernel_rfl) (by kernel_rfl) (fun _ _ _ h => h) (Or.inl ⟨by rfl, fun W9 hW => by go_simp⟩) sv7 ?_
              try simp only [Act.put, List.setIfInBounds_toArray, List.set_cons_zero, List.set_cons_succ]
              refine wpAnyT_take (i := 12) (oi := ⟨some 90, _, _, _, _, _⟩) (v := .agg #[.int .i64 2, .int .i64 s.num, .int .i64 0, .int .i64 0, .string ⟨#[]⟩, .string ⟨#[]⟩, .slice none 0 0, .int .i64 2, .int .i64 0, .string ((((⟨#[77, 79, 86, 69, 68, 32]⟩ : ByteArray) ++ ⟨S1.toArray⟩) ++ ⟨#[32]⟩) ++ ⟨S2.toArray⟩), .slice none 0 0, .bool false, .int .i64 0]) rfl (by kernel_rfl) (by kernel_rfl) (by kernel_rfl) (by kernel_rfl) (fun _ _ _ h => h) (Or.inl ⟨by rfl, fun W9 hW => by go_simp⟩) sv7 ?_
              try simp only [Act.put, List.setIfInBounds_toArray, List.set_cons_zero, List.set_cons_succ]
              refine wpAnyT_one (i := 13) (o := ⟨some 91, _, _, _, _, _⟩) (by kernel_rfl) rfl (fun K hK => ?_)
              go_simp
              have hcT := hcl.out.below hv7
              refine (Take_calls w.heap.size (w.heap.size + 1) s (learnL s.num (((((⟨#[77, 79, 86, 69, 68, 32]⟩ : ByteArray) ++ ⟨S1.toArray⟩) ++ ⟨#[32]⟩) ++ ⟨S2.toArray⟩) : ByteArray)) (l.length + 1) hfi.out hq1 (Nat.lt_of_le_of_lt (Nat.le_of_eq hmsz.out) (by omega)) v7 hcT w hE sv7 (Nat.le_refl _) (Nat.le_succ _)).mono ?_
              rintro e v8 hpost
              clear hcT
              by_cases hbd : s.bud = 0
              · rw [hTk0.out hbd] at hpost
                obtain ⟨ho, hc5, hk5⟩ := hpost
                have ho' : e = .returned (.agg (outC 0 0 0 (.slice none 0 0) 0 false 2 0 wrongT (.slice none 0 0) true)) := ho
                subst ho'
                have sv5 := Keep2.base sv7 (Nat.le_refl _) (Nat.le_succ _) hk5
                obtain ⟨OUT, hO⟩ : ∃ OUT, OUT = (outC 0 0 0 (.slice none 0 0) 0 false 2 0 wrongT (.slice none 0 0) true) := ⟨_, rfl⟩
                rw [← hO]
                have hone : OUT.all (·.oneCell') = true := by rw [hO]; exact out_one _ _ _ _ _ _ _ _ _ _ _ _ _ _ _
                have hiO : (Tryd.prog.info? 32).map (·.size) = some OUT.size := by rw [hO]; exact info32
                have hs0 : out0.size = OUT.size := by rw [hO]; rfl
                replace hiO := Lib.hid hiO
                replace hO := Lib.hid hO
                have hlB : w.heap.size < v1.heap.size ∧ w.heap.size + 1 < v1.heap.size := ⟨Nat.lt_of_lt_of_le hltc.1 hv1.size, Nat.lt_of_lt_of_le hltc.2 hv1.size⟩
                obtain ⟨hB5, hB6, hc6, hb6⟩ := put_row (B := v1.heap.size) (OUT := OUT) sv7 (Nat.le_refl _) (Nat.le_succ _) xv6.out (Nat.le_of_lt hlB.1) (by omega) (by omega) hc5 hk5
                replace hB5 := Lib.hid hB5
                refine hK.out _ _ (fun _ => sv5) ?_
                clear hK K
                try simp only [Act.put, List.setIfInBounds_toArray, List.set_cons_zero, List.set_cons_succ]
                refine wpAnyT_one (i := 15) (o := ⟨none, _, _, _, _, _⟩) (by kernel_rfl) rfl (fun K hK => ?_)
                refine wp_store_row 32 _ _ rfl v1.heap.size OUT rfl rfl 32 out0 hB5.out hiO.out hs0 hone (hK.out _ _ (fun h => absurd rfl h) ?_)
                clear hK K
                try simp only [Act.put, List.setIfInBounds_toArray, List.set_cons_zero, List.set_cons_succ]
                refine wpAnyT_done (by kernel_rfl) ?_ _
                obtain ⟨w6, hw6⟩ : ∃ w6, w6 = v8.setRow v1.heap.size OUT := ⟨_, rfl⟩
                rw [← hw6] at hB6 hc6 hb6 ⊢
                generalize v1.heap.size = B6 at *
                clear hB5 hone hs0 hw6
                have p19 : w6.cell? ⟨B6, 19, none⟩ = some (.bool true) := by rw [cell_of_box hB6, hO.out]; rfl
                have p17 : w6.cell? ⟨B6, 17, none⟩ = some (.string wrongT) := by rw [cell_of_box hB6, hO.out]; rfl
                have hltB : B6 < w6.heap.size := (Array.getElem?_eq_some_iff.1 hB6).1
                replace hB6 := Lib.hid hB6
                replace hc6 := Lib.hid hc6
                replace hb6 := Lib.hid hb6
                go_wp2_with fail
                refine (alive_calls _ (hE.below hb6.out)).mono ?_
                rintro e w7 ⟨rfl, hb7⟩
                have p17' := (hb7.cell (p := ⟨B6, 17, none⟩) hltB).trans p17
                have hb7' := hbx.out.trans ((hb6.out.trans (hb7.mono hb6.out.size)).mono hbx.out.size)
                have hwt := wrong_eq
                go_wp2_with fail
                go_ret
                exact ⟨rfl, hb7'⟩
              · rw [hTk1.out hbd] at hpost
                obtain ⟨ho, hc5, hk5⟩ := hpost
                have ho' : ∃ A5 c5, e = .returned (.agg (outC dn 1 (s.num + 1) (.slice A5 s.args.length c5) 0 true 0 0 ⟨#[]⟩ (.slice none 0 0) false)) := ho
                obtain ⟨A5, c5, rfl⟩ := ho'
                have sv5 := Keep2.base sv7 (Nat.le_refl _) (Nat.le_succ _) hk5
                obtain ⟨OUT, hO⟩ : ∃ OUT, OUT = (outC dn 1 (s.num + 1) (.slice A5 s.args.length c5) 0 true 0 0 ⟨#[]⟩ (.slice none 0 0) false) := ⟨_, rfl⟩
                rw [← hO]
                have hone : OUT.all (·.oneCell') = true := by rw [hO]; exact out_one _ _ _ _ _ _ _ _ _ _ _ _ _ _ _
                have hiO : (Tryd.prog.info? 32).map (·.size) = some OUT.size := by rw [hO]; exact info32
                have hs0 : out0.size = OUT.size := by rw [hO]; rfl
                replace hiO := Lib.hid hiO
                replace hO := Lib.hid hO
                have hlB : w.heap.size < v1.heap.size ∧ w.heap.size + 1 < v1.heap.size := ⟨Nat.lt_of_lt_of_le hltc.1 hv1.size, Nat.lt_of_lt_of_le hltc.2 hv1.size⟩
                obtain ⟨hB5, hB6, hc6, hb6⟩ := put_row (B := v1.heap.size) (OUT := OUT) sv7 (Nat.le_refl _) (Nat.le_succ _) xv6.out (Nat.le_of_lt hlB.1) (by omega) (by omega) hc5 hk5
                replace hB5 := Lib.hid hB5
                refine hK.out _ _ (fun _ => sv5) ?_
                clear hK K
                try simp only [Act.put, List.setIfInBounds_toArray, List.set_cons_zero, List.set_cons_succ]
                refine wpAnyT_one (i := 15) (o := ⟨none, _, _, _, _, _⟩) (by kernel_rfl) rfl (fun K hK => ?_)
                refine wp_store_row 32 _ _ rfl v1.heap.size OUT rfl rfl 32 out0 hB5.out hiO.out hs0 hone (hK.out _ _ (fun h => absurd rfl h) ?_)
                clear hK K
                try simp only [Act.put, List.setIfInBounds_toArray, List.set_cons_zero, List.set_cons_succ]
                refine wpAnyT_done (by kernel_rfl) ?_ _
                obtain ⟨w6, hw6⟩ : ∃ w6, w6 = v8.setRow v1.heap.size OUT := ⟨_, rfl⟩
                rw [← hw6] at hB6 hc6 hb6 ⊢
                generalize v1.heap.size = B6 at *
                clear hB5 hone hs0 hw6
                have p19 : w6.cell? ⟨B6, 19, none⟩ = some (.bool false) := by rw [cell_of_box hB6, hO.out]; rfl
                have p14 : w6.cell? ⟨B6, 14, none⟩ = some (.bool true) := by rw [cell_of_box hB6, hO.out]; rfl
                have p0 : w6.cell? ⟨B6, 0, none⟩ = some (.int .i64 dn) := by rw [cell_of_box hB6, hO.out]; rfl
                have hltB : B6 < w6.heap.size := (Array.getElem?_eq_some_iff.1 hB6).1
                replace hB6 := Lib.hid hB6
                replace hc6 := Lib.hid hc6
                replace hb6 := Lib.hid hb6
                have hwv : whereV (learnS s ds dn) ds = dn := learn_where s ds dn
                replace hwv := Lib.hid hwv
                go_wp2_with fail
                refine wp_region_last (S := fun W9 => Below w6.heap.size w6 W9) 21 (by kernel_rfl) ?_
                have hr0 : Below w6.heap.size w6 w6.drew := ⟨rfl, rfl, rfl, Nat.le_refl _, fun _ _ => rfl⟩
                have hlt6 : W.heap.size < w6.heap.size := Nat.lt_of_lt_of_le hltx hb6.out.size
                have y1 := (hb6.out.cell (p := ⟨W.heap.size, 1, none⟩) hltx).trans hd1.out
                have y2 := (hb6.out.cell (p := ⟨W.heap.size, 2, none⟩) hltx).trans hd2.out
                replace y1 := Lib.hid y1
                replace y2 := Lib.hid y2
                replace p14 := Lib.hid p14
                replace p0 := Lib.hid p0
                replace p19 := Lib.hid p19
                refine wpAnyT_one (i := 0) (o := ⟨some 101, _, _, _, _, _⟩) (by kernel_rfl) rfl (fun K hK => ?_)
                go_simp
                have hbr := hb6.out.trans (hr0.mono hb6.out.size)
                refine (alive_calls w6.drew (hE.below hbr)).mono ?_
                rintro e w7 ⟨rfl, hb7⟩
                have hr7 : Below w6.heap.size w6 w7 := hr0.trans (hb7.mono hr0.size)
                refine hK.out _ _ (fun _ => hr7) ?_
                clear hK K
                try simp only [Act.put, List.setIfInBounds_toArray, List.set_cons_zero, List.set_cons_succ]
                refine wpAnyT_take (i := 1) (oi := ⟨some 102, _, _, _, _, _⟩) (v := .bool true) rfl (by kernel_rfl) (by kernel_rfl) (by kernel_rfl) (by kernel_rfl) (fun _ _ _ h => h) (Or.inl ⟨by rfl, fun W9 hW => by go_simp⟩) hr7 ?_
                try simp only [Act.put, List.setIfInBounds_toArray, List.set_cons_zero, List.set_cons_succ]
                refine wpAnyT_take (i := 2) (oi := ⟨some 103, _, _, _, _, _⟩) (v := .pointer (some ⟨B6, 14, none⟩)) rfl (by kernel_rfl) (by kernel_rfl) (by kernel_rfl) (by kernel_rfl) (fun _ _ _ h => h) (Or.inl ⟨by rfl, fun W9 hW => by go_simp⟩) hr7 ?_
                try simp only [Act.put, List.setIfInBounds_toArray, List.set_cons_zero, List.set_cons_succ]
                refine wpAnyT_take (i := 3) (oi := ⟨some 104, _, _, _, _, _⟩) (v := .bool true) rfl (by kernel_rfl) (by kernel_rfl) (by kernel_rfl) (by kernel_rfl) (fun _ _ _ h => h) (Or.inl ⟨by rfl, fun W9 hW => by have q9 := (hW.cell (p := ⟨B6, 14, none⟩) hltB).trans p14.out; go_simp⟩) hr7 ?_
                try simp only [Act.put, List.setIfInBounds_toArray, List.set_cons_zero, List.set_cons_succ]
                refine wpAnyT_take (i := 4) (oi := ⟨some 105, _, _, _, _, _⟩) (v := .bool true) rfl (by kernel_rfl) (by kernel_rfl) (by kernel_rfl) (by kernel_rfl) (fun _ _ _ h => h) (Or.inl ⟨by rfl, fun W9 hW => by go_simp⟩) hr7 ?_
                try simp only [Act.put, List.setIfInBounds_toArray, List.set_cons_zero, List.set_cons_succ]
                refine wpAnyT_take (i := 5) (oi := ⟨some 106, _, _, _, _, _⟩) (v := .bool true) rfl (by kernel_rfl) (by kernel_rfl) (by kernel_rfl) (by kernel_rfl) (fun _ _ _ h => h) (Or.inl ⟨by rfl, fun W9 hW => by go_simp⟩) hr7 ?_
                try simp only [Act.put, List.setIfInBounds_toArray, List.set_cons_zero, List.set_cons_succ]
                refine wpAnyT_take (i := 6) (oi := ⟨some 107, _, _, _, _, _⟩) (v := .pointer (some ⟨B6, 0, none⟩)) rfl (by kernel_rfl) (by kernel_rfl) (by kernel_rfl) (by kernel_rfl) (fun _ _ _ h => h) (Or.inl ⟨by rfl, fun W9 hW => by go_simp⟩) hr7 ?_
                try simp only [Act.put, List.setIfInBounds_toArray, List.set_cons_zero, List.set_cons_succ]
                refine wpAnyT_take (i := 7) (oi := ⟨some 108, _, _, _, _, _⟩) (v := .int .i64 dn) rfl (by kernel_rfl) (by kernel_rfl) (by kernel_rfl) (by kernel_rfl) (fun _ _ _ h => h) (Or.inl ⟨by rfl, fun W9 hW => by have q9 := (hW.cell (p := ⟨B6, 0, none⟩) hltB).trans p0.out; go_simp⟩) hr7 ?_
                try simp only [Act.put, List.setIfInBounds_toArray, List.set_cons_zero, List.set_cons_succ]
                refine wpAnyT_take (i := 8) (oi := ⟨some 109, _, _, _, _, _⟩) (v := .pointer (some ⟨W.heap.size, 2, none⟩)) rfl (by kernel_rfl) (by kernel_rfl) (by kernel_rfl) (by kernel_rfl) (fun _ _ _ h => h) (Or.inl ⟨by rfl, fun W9 hW => by go_simp⟩) hr7 ?_
                try simp only [Act.put, List.setIfInBounds_toArray, List.set_cons_zero, List.set_cons_succ]
                refine wpAnyT_take (i := 9) (oi := ⟨some 110, _, _, _, _, _⟩) (v := .int .i64 dn) rfl (by kernel_rfl) (by kernel_rfl) (by kernel_rfl) (by kernel_rfl) (fun _ _ _ h => h) (Or.inl ⟨by rfl, fun W9 hW => by have q9 := (hW.cell (p := ⟨W.heap.size, 2, none⟩) hlt6).trans y2.out; go_simp⟩) hr7 ?_
                try simp only [Act.put, List.setIfInBounds_toArray, List.set_cons_zero, List.set_cons_succ]
                refine wpAnyT_take (i := 10) (oi := ⟨some 111, _, _, _, _, _⟩) (v := .bool true) rfl (by kernel_rfl) (by kernel_rfl) (by kernel_rfl) (by kernel_rfl) (fun _ _ _ h => h) (Or.inl ⟨by rfl, fun W9 hW => by go_simp⟩) hr7 ?_
                try simp only [Act.put, List.setIfInBounds_toArray, List.set_cons_zero, List.set_cons_succ]
                refine wpAnyT_take (i := 11) (oi := ⟨some 112, _, _, _, _, _⟩) (v := .bool true) rfl (by kernel_rfl) (by kernel_rfl) (by kernel_rfl) (by kernel_rfl) (fun _ _ _ h => h) (Or.inl ⟨by rfl, fun W9 hW => by go_simp⟩) hr7 ?_
                try simp only [Act.put, List.setIfInBounds_toArray, List.set_cons_zero, List.set_cons_succ]
                refine wpAnyT_take (i := 12) (oi := ⟨some 113, _, _, _, _, _⟩) (v := .bool true) rfl (by kernel_rfl) (by kernel_rfl) (by kernel_rfl) (by kernel_rfl) (fun _ _ _ h => h) (Or.inl ⟨by rfl, fun W9 hW => by go_simp⟩) hr7 ?_
                try simp only [Act.put, List.setIfInBounds_toArray, List.set_cons_zero, List.set_cons_succ]
                refine wpAnyT_take (i := 13) (oi := ⟨some 114, _, _, _, _, _⟩) (v := .pointer (some ⟨w.heap.size + 1, 0, none⟩)) rfl (by kernel_rfl) (by kernel_rfl) (by kernel_rfl) (by kernel_rfl) (fun _ _ _ h => h) (Or.inl ⟨by rfl, fun W9 hW => by go_simp⟩) hr7 ?_
                try simp only [Act.put, List.setIfInBounds_toArray, List.set_cons_zero, List.set_cons_succ]
                refine wpAnyT_take (i := 14) (oi := ⟨some 115, _, _, _, _, _⟩) (v := .pointer (some ⟨W.heap.size, 1, none⟩)) rfl (by kernel_rfl) (by kernel_rfl) (by kernel_rfl) (by kernel_rfl) (fun _ _ _ h => h) (Or.inl ⟨by rfl, fun W9 hW => by go_simp⟩) hr7 ?_
                try simp only [Act.put, List.setIfInBounds_toArray, List.set_cons_zero, List.set_cons_succ]
                refine wpAnyT_take (i := 15) (oi := ⟨some 116, _, _, _, _, _⟩) (v := .int .i64 ds) rfl (by kernel_rfl) (by kernel_rfl) (by kernel_rfl) (by kernel_rfl) (fun _ _ _ h => h) (Or.inl ⟨by rfl, fun W9 hW => by have q9 := (hW.cell (p := ⟨W.heap.size, 1, none⟩) hlt6).trans y1.out; go_simp⟩) hr7 ?_
                try simp only [Act.put, List.setIfInBounds_toArray, List.set_cons_zero, List.set_cons_succ]
                refine wpAnyT_take (i := 17) (oi := ⟨some 118, _, _, _, _, _⟩) (v := .pointer (some ⟨W.heap.size, 2, none⟩)) rfl (by kernel_rfl) (by kernel_rfl) (by kernel_rfl) (by kernel_rfl) (fun _ _ _ h => h) (Or.inl ⟨by rfl, fun W9 hW => by go_simp⟩) hr7 ?_
                try simp only [Act.put, List.setIfInBounds_toArray, List.set_cons_zero, List.set_cons_succ]
                refine wpAnyT_take (i := 18) (oi := ⟨some 119, _, _, _, _, _⟩) (v := .int .i64 dn) rfl (by kernel_rfl) (by kernel_rfl) (by kernel_rfl) (by kernel_rfl) (fun _ _ _ h => h) (Or.inl ⟨by rfl, fun W9 hW => by have q9 := (hW.cell (p := ⟨W.heap.size, 2, none⟩) hlt6).trans y2.out; go_simp⟩) hr7 ?_
                try simp only [Act.put, List.setIfInBounds_toArray, List.set_cons_zero, List.set_cons_succ]
                refine wpAnyT_one (i := 16) (o := ⟨some 117, _, _, _, _, _⟩) (by kernel_rfl) rfl (fun K hK => ?_)
                go_simp
                refine (Where_calls w.heap.size (w.heap.size + 1) (learnS s ds dn) ds bds w7 (hc6.out.below hr7)).mono ?_
                rintro e w8 ⟨rfl, rfl⟩
                rw [hwv.out]
                refine hK.out _ _ (fun _ => hr7) ?_
                clear hK K
                try simp only [Act.put, List.setIfInBounds_toArray, List.set_cons_zero, List.set_cons_succ]
                refine wpAnyT_take (i := 19) (oi := ⟨some 120, _, _, _, _, _⟩) (v := .bool true) rfl (by kernel_rfl) (by kernel_rfl) (by kernel_rfl) (by kernel_rfl) (fun _ _ _ h => h) (Or.inl ⟨by rfl, fun W9 hW => by go_simp⟩) hr7 ?_
                try simp only [Act.put, List.setIfInBounds_toArray, List.set_cons_zero, List.set_cons_succ]
                refine wpAnyT_take (i := 20) (oi := ⟨some 121, _, _, _, _, _⟩) (v := .bool true) rfl (by kernel_rfl) (by kernel_rfl) (by kernel_rfl) (by kernel_rfl) (fun _ _ _ h => h) (Or.inl ⟨by rfl, fun W9 hW => by go_simp⟩) hr7 ?_
                try simp only [Act.put, List.setIfInBounds_toArray, List.set_cons_zero, List.set_cons_succ]
                refine wpAnyT_one (i := 21) (o := ⟨some 6, _, _, _, _, _⟩) (by kernel_rfl) rfl (fun K hK => ?_)
                go_simp
                refine hK.out _ _ (fun h => absurd rfl h) ?_
                clear hK K
                try simp only [Act.put, List.setIfInBounds_toArray, List.set_cons_zero, List.set_cons_succ]
                refine wpAnyT_done (by kernel_rfl) ?_ _
                have hb7' := hbx.out.trans ((hb6.out.trans (hr7.mono hb6.out.size)).mono hbx.out.size)
                go_wp2_with fail
                go_ret
                exact ⟨rfl, hb7'⟩
          · go_simp
            obtain ⟨v9, ev9⟩ : ∃ W9, W9 = v0.alloc (.cells #[.int .i64 0, .int .i64 0, .int .i64 0, .int .i64 0, .int .i64 0, .string ⟨#[]⟩, .string ⟨#[]⟩, .slice none 0 0, .int .i64 0, .int .i64 0, .string ⟨#[]⟩, .slice none 0 0, .bool false, .int .i64 0, .bool false, .int .i64 0, .int .i64 0, .string ⟨#[]⟩, .slice none 0 0, .bool false] 32) := ⟨_, rfl⟩
            rw [← ev9]
            have hv9 : Below wr.heap.size wr v9 := by rw [ev9]; exact below_alloc hv0 _
            have sv9 := hb.out.trans (hv9.mono hb.out.size)
            have xv9 : v9.heap[v0.heap.size]? = some (.cells out0 32 (0, 0)) := by rw [ev9]; exact heap_alloc_new _ _
            replace xv9 := Lib.hid xv9
            clear ev9
            refine hK.out _ _ (fun _ => sv9) ?_
            clear hK K
            try simp only [Act.put, List.setIfInBounds_toArray, List.set_cons_zero, List.set_cons_succ]
            refine wpAnyT_one (i := 4) (o := ⟨some 82, _, _, _, _, _⟩) (by kernel_rfl) rfl (fun K hK => ?_)
            go_simp
            refine (dg1 v9).mono ?_
            rintro e v10 ⟨rfl, bv10⟩
            have hv10 : Below wr.heap.size wr v10 := hv9.trans (bv10.mono hv9.size)
            have sv10 := hb.out.trans (hv10.mono hb.out.size)
            replace xv9 := Lib.hid ((bv10.block _ (Array.getElem?_eq_some_iff.1 xv9.out).1).trans xv9.out)
            refine hK.out _ _ (fun _ => sv10) ?_
            clear hK K bv10
            try simp only [Act.put, List.setIfInBounds_toArray, List.set_cons_zero, List.set_cons_succ]
            refine wpAnyT_take (i := 5) (oi := ⟨some 83, _, _, _, _, _⟩) (v := .string ((⟨#[77, 79, 86, 69, 68, 32]⟩ : ByteArray) ++ ⟨S1.toArray⟩)) rfl (by kernel_rfl) (by kernel_rfl) (by kernel_rfl) (by kernel_rfl) (fun _ _ _ h => h) (Or.inl ⟨by rfl, fun W9 hW => by go_simp⟩) sv10 ?_
            try simp only [Act.put, List.setIfInBounds_toArray, List.set_cons_zero, List.set_cons_succ]
            refine wpAnyT_take (i := 6) (oi := ⟨some 84, _, _, _, _, _⟩) (v := .string (((⟨#[77, 79, 86, 69, 68, 32]⟩ : ByteArray) ++ ⟨S1.toArray⟩) ++ ⟨#[32]⟩)) rfl (by kernel_rfl) (by kernel_rfl) (by kernel_rfl) (by kernel_rfl) (fun _ _ _ h => h) (Or.inl ⟨by rfl, fun W9 hW => by go_simp⟩) sv10 ?_
            try simp only [Act.put, List.setIfInBounds_toArray, List.set_cons_zero, List.set_cons_succ]
            refine wpAnyT_one (i := 9) (o := ⟨some 87, _, _, _, _, _⟩) (by kernel_rfl) rfl (fun K hK => ?_)
            go_simp
            refine (dg2 v10).mono ?_
            rintro e v11 ⟨rfl, bv11⟩
            have hv11 : Below wr.heap.size wr v11 := hv10.trans (bv11.mono hv10.size)
            have sv11 := hb.out.trans (hv11.mono hb.out.size)
            replace xv9 := Lib.hid ((bv11.block _ (Array.getElem?_eq_some_iff.1 xv9.out).1).trans xv9.out)
            refine hK.out _ _ (fun _ => sv11) ?_
            clear hK K bv11
            try simp only [Act.put, List.setIfInBounds_toArray, List.set_cons_zero, List.set_cons_succ]
            refine wpAnyT_take (i := 10) (oi := ⟨some 88, _, _, _, _, _⟩) (v := .string ((((⟨#[77, 79, 86, 69, 68, 32]⟩ : ByteArray) ++ ⟨S1.toArray⟩) ++ ⟨#[32]⟩) ++ ⟨S2.toArray⟩)) rfl (by kernel_rfl) (by kernel_rfl) (by kernel_rfl) (by kernel_rfl) (fun _ _ _ h => h) (Or.inl ⟨by rfl, fun W9 hW => by go_simp⟩) sv11 ?_
            try simp only [Act.put, List.setIfInBounds_toArray, List.set_cons_zero, List.set_cons_succ]
            refine wpAnyT_take (i := 11) (oi := ⟨some 89, _, _, _, _, _⟩) (v := .agg #[.int .i64 2, .int .i64 0, .string ((((⟨#[77, 79, 86, 69, 68, 32]⟩ : ByteArray) ++ ⟨S1.toArray⟩) ++ ⟨#[32]⟩) ++ ⟨S2.toArray⟩), .slice none 0 0]) rfl (by kernel_rfl) (by kernel_rfl) (by kernel_rfl) (by kernel_rfl) (fun _ _ _ h => h) (Or.inl ⟨by rfl, fun W9 hW => by go_simp⟩) sv11 ?_
            try simp only [Act.put, List.setIfInBounds_toArray, List.set_cons_zero, List.set_cons_succ]
            refine wpAnyT_take (i := 12) (oi := ⟨some 90, _, _, _, _, _⟩) (v := .agg #[.int .i64 2, .int .i64 s.num, .int .i64 0, .int .i64 0, .string ⟨#[]⟩, .string ⟨#[]⟩, .slice none 0 0, .int .i64 2, .int .i64 0, .string ((((⟨#[77, 79, 86, 69, 68, 32]⟩ : ByteArray) ++ ⟨S1.toArray⟩) ++ ⟨#[32]⟩) ++ ⟨S2.toArray⟩), .slice none 0 0, .bool false, .int .i64 0]) rfl (by kernel_rfl) (by kernel_rfl) (by kernel_rfl) (by kernel_rfl) (fun _ _ _ h => h) (Or.inl ⟨by rfl, fun W9 hW => by go_simp⟩) sv11 ?_
            try simp only [Act.put, List.setIfInBounds_toArray, List.set_cons_zero, List.set_cons_succ]
            refine wpAnyT_one (i := 13) (o := ⟨some 91, _, _, _, _, _⟩) (by kernel_rfl) rfl (fun K hK => ?_)
            go_simp
            have hcT := hcl.out.below hv11
            refine (Take_calls w.heap.size (w.heap.size + 1) s (learnL s.num (((((⟨#[77, 79, 86, 69, 68, 32]⟩ : ByteArray) ++ ⟨S1.toArray⟩) ++ ⟨#[32]⟩) ++ ⟨S2.toArray⟩) : ByteArray)) (l.length + 1) hfi.out hq1 (Nat.lt_of_le_of_lt (Nat.le_of_eq hmsz.out) (by omega)) v11 hcT w hE sv11 (Nat.le_refl _) (Nat.le_succ _)).mono ?_
            rintro e v12 hpost
            clear hcT
            by_cases hbd : s.bud = 0
            · rw [hTk0.out hbd] at hpost
              obtain ⟨ho, hc5, hk5⟩ := hpost
              have ho' : e = .returned (.agg (outC 0 0 0 (.slice none 0 0) 0 false 2 0 wrongT (.slice none 0 0) true)) := ho
              subst ho'
              have sv5 := Keep2.base sv11 (Nat.le_refl _) (Nat.le_succ _) hk5
              obtain ⟨OUT, hO⟩ : ∃ OUT, OUT = (outC 0 0 0 (.slice none 0 0) 0 false 2 0 wrongT (.slice none 0 0) true) := ⟨_, rfl⟩
              rw [← hO]
              have hone : OUT.all (·.oneCell') = true := by rw [hO]; exact out_one _ _ _ _ _ _ _ _ _ _ _ _ _ _ _
              have hiO : (Tryd.prog.info? 32).map (·.size) = some OUT.size := by rw [hO]; exact info32
              have hs0 : out0.size = OUT.size := by rw [hO]; rfl
              replace hiO := Lib.hid hiO
              replace hO := Lib.hid hO
              have hlB : w.heap.size < v0.heap.size ∧ w.heap.size + 1 < v0.heap.size := ⟨Nat.lt_of_lt_of_le hltc.1 hv0.size, Nat.lt_of_lt_of_le hltc.2 hv0.size⟩
              obtain ⟨hB5, hB6, hc6, hb6⟩ := put_row (B := v0.heap.size) (OUT := OUT) sv11 (Nat.le_refl _) (Nat.le_succ _) xv9.out (Nat.le_of_lt hlB.1) (by omega) (by omega) hc5 hk5
              replace hB5 := Lib.hid hB5
              refine hK.out _ _ (fun _ => sv5) ?_
              clear hK K
              try simp only [Act.put, List.setIfInBounds_toArray, List.set_cons_zero, List.set_cons_succ]
              refine wpAnyT_one (i := 15) (o := ⟨none, _, _, _, _, _⟩) (by kernel_rfl) rfl (fun K hK => ?_)
              refine wp_store_row 32 _ _ rfl v0.heap.size OUT rfl rfl 32 out0 hB5.out hiO.out hs0 hone (hK.out _ _ (fun h => absurd rfl h) ?_)
              clear hK K
              try simp only [Act.put, List.setIfInBounds_toArray, List.set_cons_zero, List.set_cons_succ]
              refine wpAnyT_done (by kernel_rfl) ?_ _
              obtain ⟨w6, hw6⟩ : ∃ w6, w6 = v12.setRow v0.heap.size OUT := ⟨_, rfl⟩
              rw [← hw6] at hB6 hc6 hb6 ⊢
              generalize v0.heap.size = B6 at *
              clear hB5 hone hs0 hw6
              have p19 : w6.cell? ⟨B6, 19, none⟩ = some (.bool true) := by rw [cell_of_box hB6, hO.out]; rfl
              have p17 : w6.cell? ⟨B6, 17, none⟩ = some (.string wrongT) := by rw [cell_of_box hB6, hO.out]; rfl
              have hltB : B6 < w6.heap.size := (Array.getElem?_eq_some_iff.1 hB6).1
              replace hB6 := Lib.hid hB6
              replace hc6 := Lib.hid hc6
              replace hb6 := Lib.hid hb6
              go_wp2_with fail
              refine (alive_calls _ (hE.below hb6.out)).mono ?_
              rintro e w7 ⟨rfl, hb7⟩
              have p17' := (hb7.cell (p := ⟨B6, 17, none⟩) hltB).trans p17
              have hb7' := hbx.out.trans ((hb6.out.trans (hb7.mono hb6.out.size)).mono hbx.out.size)
              have hwt := wrong_eq
              go_wp2_with fail
              go_ret
              exact ⟨rfl, hb7'⟩
            · rw [hTk1.out hbd] at hpost
              obtain ⟨ho, hc5, hk5⟩ := hpost
              have ho' : ∃ A5 c5, e = .returned (.agg (outC dn 1 (s.num + 1) (.slice A5 s.args.length c5) 0 true 0 0 ⟨#[]⟩ (.slice none 0 0) false)) := ho
              obtain ⟨A5, c5, rfl⟩ := ho'
              have sv5 := Keep2.base sv11 (Nat.le_refl _) (Nat.le_succ _) hk5
              obtain ⟨OUT, hO⟩ : ∃ OUT, OUT = (outC dn 1 (s.num + 1) (.slice A5 s.args.length c5) 0 true 0 0 ⟨#[]⟩ (.slice none 0 0) false) := ⟨_, rfl⟩
              rw [← hO]
              have hone : OUT.all (·.oneCell') = true := by rw [hO]; exact out_one _ _ _ _ _ _ _ _ _ _ _ _ _ _ _
              have hiO : (Tryd.prog.info? 32).map (·.size) = some OUT.size := by rw [hO]; exact info32
              have hs0 : out0.size = OUT.size := by rw [hO]; rfl
              replace hiO := Lib.hid hiO
              replace hO := Lib.hid hO
              have hlB : w.heap.size < v0.heap.size ∧ w.heap.size + 1 < v0.heap.size := ⟨Nat.lt_of_lt_of_le hltc.1 hv0.size, Nat.lt_of_lt_of_le hltc.2 hv0.size⟩
              obtain ⟨hB5, hB6, hc6, hb6⟩ := put_row (B := v0.heap.size) (OUT := OUT) sv11 (Nat.le_refl _) (Nat.le_succ _) xv9.out (Nat.le_of_lt hlB.1) (by omega) (by omega) hc5 hk5
              replace hB5 := Lib.hid hB5
              refine hK.out _ _ (fun _ => sv5) ?_
              clear hK K
              try simp only [Act.put, List.setIfInBounds_toArray, List.set_cons_zero, List.set_cons_succ]
              refine wpAnyT_one (i := 15) (o := ⟨none, _, _, _, _, _⟩) (by kernel_rfl) rfl (fun K hK => ?_)
              refine wp_store_row 32 _ _ rfl v0.heap.size OUT rfl rfl 32 out0 hB5.out hiO.out hs0 hone (hK.out _ _ (fun h => absurd rfl h) ?_)
              clear hK K
              try simp only [Act.put, List.setIfInBounds_toArray, List.set_cons_zero, List.set_cons_succ]
              refine wpAnyT_done (by kernel_rfl) ?_ _
              obtain ⟨w6, hw6⟩ : ∃ w6, w6 = v12.setRow v0.heap.size OUT := ⟨_, rfl⟩
              rw [← hw6] at hB6 hc6 hb6 ⊢
              generalize v0.heap.size = B6 at *
              clear hB5 hone hs0 hw6
              have p19 : w6.cell? ⟨B6, 19, none⟩ = some (.bool false) := by rw [cell_of_box hB6, hO.out]; rfl
              have p14 : w6.cell? ⟨B6, 14, none⟩ = some (.bool true) := by rw [cell_of_box hB6, hO.out]; rfl
              have p0 : w6.cell? ⟨B6, 0, none⟩ = some (.int .i64 dn) := by rw [cell_of_box hB6, hO.out]; rfl
              have hltB : B6 < w6.heap.size := (Array.getElem?_eq_some_iff.1 hB6).1
              replace hB6 := Lib.hid hB6
              replace hc6 := Lib.hid hc6
              replace hb6 := Lib.hid hb6
              have hwv : whereV (learnS s ds dn) ds = dn := learn_where s ds dn
              replace hwv := Lib.hid hwv
              go_wp2_with fail
              refine wp_region_last (S := fun W9 => Below w6.heap.size w6 W9) 21 (by kernel_rfl) ?_
              have hr0 : Below w6.heap.size w6 w6.drew := ⟨rfl, rfl, rfl, Nat.le_refl _, fun _ _ => rfl⟩
              have hlt6 : W.heap.size < w6.heap.size := Nat.lt_of_lt_of_le hltx hb6.out.size
              have y1 := (hb6.out.cell (p := ⟨W.heap.size, 1, none⟩) hltx).trans hd1.out
              have y2 := (hb6.out.cell (p := ⟨W.heap.size, 2, none⟩) hltx).trans hd2.out
              replace y1 := Lib.hid y1
              replace y2 := Lib.hid y2
              replace p14 := Lib.hid p14
              replace p0 := Lib.hid p0
              replace p19 := Lib.hid p19
              refine wpAnyT_one (i := 0) (o := ⟨some 101, _, _, _, _, _⟩) (by kernel_rfl) rfl (fun K hK => ?_)
              go_simp
              have hbr := hb6.out.trans (hr0.mono hb6.out.size)
              refine (alive_calls w6.drew (hE.below hbr)).mono ?_
              rintro e w7 ⟨rfl, hb7⟩
              have hr7 : Below w6.heap.size w6 w7 := hr0.trans (hb7.mono hr0.size)
              refine hK.out _ _ (fun _ => hr7) ?_
              clear hK K
              try simp only [Act.put, List.setIfInBounds_toArray, List.set_cons_zero, List.set_cons_succ]
              refine wpAnyT_take (i := 1) (oi := ⟨some 102, _, _, _, _, _⟩) (v := .bool true) rfl (by kernel_rfl) (by kernel_rfl) (by kernel_rfl) (by kernel_rfl) (fun _ _ _ h => h) (Or.inl ⟨by rfl, fun W9 hW => by go_simp⟩) hr7 ?_
              try simp only [Act.put, List.setIfInBounds_toArray, List.set_cons_zero, List.set_cons_succ]
              refine wpAnyT_take (i := 2) (oi := ⟨some 103, _, _, _, _, _⟩) (v := .pointer (some ⟨B6, 14, none⟩)) rfl (by kernel_rfl) (by kernel_rfl) (by kernel_rfl) (by kernel_rfl) (fun _ _ _ h => h) (Or.inl ⟨by rfl, fun W9 hW => by go_simp⟩) hr7 ?_
              try simp only [Act.put, List.setIfInBounds_toArray, List.set_cons_zero, List.set_cons_succ]
              refine wpAnyT_take (i := 3) (oi := ⟨some 104, _, _, _, _, _⟩) (v := .bool true) rfl (by kernel_rfl) (by kernel_rfl) (by kernel_rfl) (by kernel_rfl) (fun _ _ _ h => h) (Or.inl ⟨by rfl, fun W9 hW => by have q9 := (hW.cell (p := ⟨B6, 14, none⟩) hltB).trans p14.out; go_simp⟩) hr7 ?_
              try simp only [Act.put, List.setIfInBounds_toArray, List.set_cons_zero, List.set_cons_succ]
              refine wpAnyT_take (i := 4) (oi := ⟨some 105, _, _, _, _, _⟩) (v := .bool true) rfl (by kernel_rfl) (by kernel_rfl) (by kernel_rfl) (by kernel_rfl) (fun _ _ _ h => h) (Or.inl ⟨by rfl, fun W9 hW => by go_simp⟩) hr7 ?_
              try simp only [Act.put, List.setIfInBounds_toArray, List.set_cons_zero, List.set_cons_succ]
              refine wpAnyT_take (i := 5) (oi := ⟨some 106, _, _, _, _, _⟩) (v := .bool true) rfl (by kernel_rfl) (by kernel_rfl) (by kernel_rfl) (by kernel_rfl) (fun _ _ _ h => h) (Or.inl ⟨by rfl, fun W9 hW => by go_simp⟩) hr7 ?_
              try simp only [Act.put, List.setIfInBounds_toArray, List.set_cons_zero, List.set_cons_succ]
              refine wpAnyT_take (i := 6) (oi := ⟨some 107, _, _, _, _, _⟩) (v := .pointer (some ⟨B6, 0, none⟩)) rfl (by kernel_rfl) (by kernel_rfl) (by kernel_rfl) (by kernel_rfl) (fun _ _ _ h => h) (Or.inl ⟨by rfl, fun W9 hW => by go_simp⟩) hr7 ?_
              try simp only [Act.put, List.setIfInBounds_toArray, List.set_cons_zero, List.set_cons_succ]
              refine wpAnyT_take (i := 7) (oi := ⟨some 108, _, _, _, _, _⟩) (v := .int .i64 dn) rfl (by kernel_rfl) (by kernel_rfl) (by kernel_rfl) (by kernel_rfl) (fun _ _ _ h => h) (Or.inl ⟨by rfl, fun W9 hW => by have q9 := (hW.cell (p := ⟨B6, 0, none⟩) hltB).trans p0.out; go_simp⟩) hr7 ?_
              try simp only [Act.put, List.setIfInBounds_toArray, List.set_cons_zero, List.set_cons_succ]
              refine wpAnyT_take (i := 8) (oi := ⟨some 109, _, _, _, _, _⟩) (v := .pointer (some ⟨W.heap.size, 2, none⟩)) rfl (by kernel_rfl) (by kernel_rfl) (by kernel_rfl) (by kernel_rfl) (fun _ _ _ h => h) (Or.inl ⟨by rfl, fun W9 hW => by go_simp⟩) hr7 ?_
              try simp only [Act.put, List.setIfInBounds_toArray, List.set_cons_zero, List.set_cons_succ]
              refine wpAnyT_take (i := 9) (oi := ⟨some 110, _, _, _, _, _⟩) (v := .int .i64 dn) rfl (by kernel_rfl) (by kernel_rfl) (by kernel_rfl) (by kernel_rfl) (fun _ _ _ h => h) (Or.inl ⟨by rfl, fun W9 hW => by have q9 := (hW.cell (p := ⟨W.heap.size, 2, none⟩) hlt6).trans y2.out; go_simp⟩) hr7 ?_
              try simp only [Act.put, List.setIfInBounds_toArray, List.set_cons_zero, List.set_cons_succ]
              refine wpAnyT_take (i := 10) (oi := ⟨some 111, _, _, _, _, _⟩) (v := .bool true) rfl (by kernel_rfl) (by kernel_rfl) (by kernel_rfl) (by kernel_rfl) (fun _ _ _ h => h) (Or.inl ⟨by rfl, fun W9 hW => by go_simp⟩) hr7 ?_
              try simp only [Act.put, List.setIfInBounds_toArray, List.set_cons_zero, List.set_cons_succ]
              refine wpAnyT_take (i := 11) (oi := ⟨some 112, _, _, _, _, _⟩) (v := .bool true) rfl (by kernel_rfl) (by kernel_rfl) (by kernel_rfl) (by kernel_rfl) (fun _ _ _ h => h) (Or.inl ⟨by rfl, fun W9 hW => by go_simp⟩) hr7 ?_
              try simp only [Act.put, List.setIfInBounds_toArray, List.set_cons_zero, List.set_cons_succ]
              refine wpAnyT_take (i := 12) (oi := ⟨some 113, _, _, _, _, _⟩) (v := .bool true) rfl (by kernel_rfl) (by kernel_rfl) (by kernel_rfl) (by kernel_rfl) (fun _ _ _ h => h) (Or.inl ⟨by rfl, fun W9 hW => by go_simp⟩) hr7 ?_
              try simp only [Act.put, List.setIfInBounds_toArray, List.set_cons_zero, List.set_cons_succ]
              refine wpAnyT_take (i := 13) (oi := ⟨some 114, _, _, _, _, _⟩) (v := .pointer (some ⟨w.heap.size + 1, 0, none⟩)) rfl (by kernel_rfl) (by kernel_rfl) (by kernel_rfl) (by kernel_rfl) (fun _ _ _ h => h) (Or.inl ⟨by rfl, fun W9 hW => by go_simp⟩) hr7 ?_
              try simp only [Act.put, List.setIfInBounds_toArray, List.set_cons_zero, List.set_cons_succ]
              refine wpAnyT_take (i := 14) (oi := ⟨some 115, _, _, _, _, _⟩) (v := .pointer (some ⟨W.heap.size, 1, none⟩)) rfl (by kernel_rfl) (by kernel_rfl) (by kernel_rfl) (by kernel_rfl) (fun _ _ _ h => h) (Or.inl ⟨by rfl, fun W9 hW => by go_simp⟩) hr7 ?_
              try simp only [Act.put, List.setIfInBounds_toArray, List.set_cons_zero, List.set_cons_succ]
              refine wpAnyT_take (i := 15) (oi := ⟨some 116, _, _, _, _, _⟩) (v := .int .i64 ds) rfl (by kernel_rfl) (by kernel_rfl) (by kernel_rfl) (by kernel_rfl) (fun _ _ _ h => h) (Or.inl ⟨by rfl, fun W9 hW => by have q9 := (hW.cell (p := ⟨W.heap.size, 1, none⟩) hlt6).trans y1.out; go_simp⟩) hr7 ?_
              try simp only [Act.put, List.setIfInBounds_toArray, List.set_cons_zero, List.set_cons_succ]
              refine wpAnyT_take (i := 17) (oi := ⟨some 118, _, _, _, _, _⟩) (v := .pointer (some ⟨W.heap.size, 2, none⟩)) rfl (by kernel_rfl) (by kernel_rfl) (by kernel_rfl) (by kernel_rfl) (fun _ _ _ h => h) (Or.inl ⟨by rfl, fun W9 hW => by go_simp⟩) hr7 ?_
              try simp only [Act.put, List.setIfInBounds_toArray, List.set_cons_zero, List.set_cons_succ]
              refine wpAnyT_take (i := 18) (oi := ⟨some 119, _, _, _, _, _⟩) (v := .int .i64 dn) rfl (by kernel_rfl) (by kernel_rfl) (by kernel_rfl) (by kernel_rfl) (fun _ _ _ h => h) (Or.inl ⟨by rfl, fun W9 hW => by have q9 := (hW.cell (p := ⟨W.heap.size, 2, none⟩) hlt6).trans y2.out; go_simp⟩) hr7 ?_
              try simp only [Act.put, List.setIfInBounds_toArray, List.set_cons_zero, List.set_cons_succ]
              refine wpAnyT_one (i := 16) (o := ⟨some 117, _, _, _, _, _⟩) (by kernel_rfl) rfl (fun K hK => ?_)
              go_simp
              refine (Where_calls w.heap.size (w.heap.size + 1) (learnS s ds dn) ds bds w7 (hc6.out.below hr7)).mono ?_
              rintro e w8 ⟨rfl, rfl⟩
              rw [hwv.out]
              refine hK.out _ _ (fun _ => hr7) ?_
              clear hK K
              try simp only [Act.put, List.setIfInBounds_toArray, List.set_cons_zero, List.set_cons_succ]
              refine wpAnyT_take (i := 19) (oi := ⟨some 120, _, _, _, _, _⟩) (v := .bool true) rfl (by kernel_rfl) (by kernel_rfl) (by kernel_rfl) (by kernel_rfl) (fun _ _ _ h => h) (Or.inl ⟨by rfl, fun W9 hW => by go_simp⟩) hr7 ?_
              try simp only [Act.put, List.setIfInBounds_toArray, List.set_cons_zero, List.set_cons_succ]
              refine wpAnyT_take (i := 20) (oi := ⟨some 121, _, _, _, _, _⟩) (v := .bool true) rfl (by kernel_rfl) (by kernel_rfl) (by kernel_rfl) (by kernel_rfl) (fun _ _ _ h => h) (Or.inl ⟨by rfl, fun W9 hW => by go_simp⟩) hr7 ?_
              try simp only [Act.put, List.setIfInBounds_toArray, List.set_cons_zero, List.set_cons_succ]
              refine wpAnyT_one (i := 21) (o := ⟨some 6, _, _, _, _, _⟩) (by kernel_rfl) rfl (fun K hK => ?_)
              go_simp
              refine hK.out _ _ (fun h => absurd rfl h) ?_
              clear hK K
              try simp only [Act.put, List.setIfInBounds_toArray, List.set_cons_zero, List.set_cons_succ]
              refine wpAnyT_done (by kernel_rfl) ?_ _
              have hb7' := hbx.out.trans ((hb6.out.trans (hr7.mono hb6.out.size)).mono hbx.out.size)
              go_wp2_with fail
              go_ret
              exact ⟨rfl, hb7'⟩
        · have hbzd : decide (0 < s.args.length) = false := decide_eq_false hbz
          rw [hbzd]
          obtain ⟨s2, d2, hbv, hn2, hz2, hf2⟩ := learn_begin s l.length hfi.out hbz
          have hba : Below wr.heap.size wr (wr.alloc (.cells #[.string pingB] 9)) := below_alloc (Below.refl _ _) _
          have hcs : (wr.alloc (.cells #[.string pingB] 9)).heap[wr.heap.size]? = some (.cells #[.string pingB] 9 (0, 0)) := heap_alloc_new _ _
          have hrr : Kd.string.C (wr.alloc (.cells #[.string pingB] 9)) (some ⟨wr.heap.size, 0, none⟩) [pingB].length [pingB] :=
            Kd.C_of_reads (d := (⟨#[]⟩ : ByteArray)) ⟨rfl, by decide, fun _ => ⟨_, rfl, fun j hj => by
              rw [Addr.add_mid, Nat.zero_add, cell_of_box hcs]
              have : j = 0 := by simp at hj; omega
              subst this; rfl⟩⟩
          have hbw := hb.out.trans (hba.mono hb.out.size)
          have hB := Begin_calls w.heap.size (w.heap.size + 1) s (some ⟨wr.heap.size, 0, none⟩) 1 [pingB] hnum (by decide) (fun x hx => by simp at hx; subst hx; decide) _ (hcl.out.below hba) hrr (Nat.le_refl _) w hE hbw (Nat.le_refl _) (Nat.le_succ _)
          rw [hbv] at hB
          have hB' : Calls Tryd.prog 9 #[.pointer (some ⟨w.heap.size + 1, 0, none⟩), .slice (some ⟨wr.heap.size, 0, none⟩) 1 1] (wr.alloc (.cells #[.string ⟨#[80, 73, 78, 71]⟩] 9)) (DoPost w.heap.size (w.heap.size + 1) (s2, .send d2 0) (wr.alloc (.cells #[.string pingB] 9))) := hB
          replace hbw := Lib.hid hbw
          clear hB hrr hcs hba hBu hcl hb hfi
          go_wp2_with fail
          refine hB'.mono ?_
          rintro e w5 ⟨⟨A5, c5, rfl⟩, hcl, hk5⟩
          have hb := Keep2.base hbw.out (Nat.le_refl _) (Nat.le_succ _) hk5
          have hltc := hcl.lt
          replace hcl := Lib.hid hcl
          replace hb := Lib.hid hb
          have hfi := Lib.hid hf2
          replace hTk0 := Lib.hid (hTk0.out s2 hz2)
          replace hTk1 := Lib.hid (hTk1.out s2 hz2)
          clear hB' hk5 hbw
          dsimp only [outC]
          clear hn2
          have hF1 : Sem.run Tryd.prog (Instr.field 32 (.agg #[.int .i64 d2, .int .i64 1, .int .i64 s2.num, .int .i64 0, .int .i64 0, .string ⟨#[]⟩, .string ⟨#[]⟩, .slice A5 s2.args.length c5, .int .i64 0, .int .i64 0, .string ⟨#[]⟩, .slice none 0 0, .bool false, .int .i64 0, .bool true, .int .i64 0, .int .i64 0, .string ⟨#[]⟩, .slice none 0 0, .bool false]) 1) w5 = .ok (.agg #[.int .i64 1, .int .i64 s2.num, .int .i64 0, .int .i64 0, .string ⟨#[]⟩, .string ⟨#[]⟩, .slice A5 s2.args.length c5, .int .i64 0, .int .i64 0, .string ⟨#[]⟩, .slice none 0 0, .bool false, .int .i64 0]) w5 := by kernel_rfl
          have hF2 : Sem.run Tryd.prog (Instr.field 30 (.agg #[.int .i64 1, .int .i64 s2.num, .int .i64 0, .int .i64 0, .string ⟨#[]⟩, .string ⟨#[]⟩, .slice A5 s2.args.length c5, .int .i64 0, .int .i64 0, .string ⟨#[]⟩, .slice none 0 0, .bool false, .int .i64 0]) 1) w5 = .ok (.int .i64 s2.num) w5 := by kernel_rfl
          go_wp2_with fail
          refine wp_region_last (S := fun W9 => Below w.heap.size w W9) 15 (by kernel_rfl) ?_
          have hv0 : Below w5.heap.size w5 w5.drew := ⟨rfl, rfl, rfl, Nat.le_refl _, fun _ _ => rfl⟩
          have sv0 := hb.out.trans (hv0.mono hb.out.size)
          generalize w5.drew = v0 at *
          refine wpAnyT_take (i := 0) (oi := ⟨some 78, _, _, _, _, _⟩) (v := .pointer (some ⟨w.heap.size + 1, 0, none⟩)) rfl (by kernel_rfl) (by kernel_rfl) (by kernel_rfl) (by kernel_rfl) (fun _ _ _ h => h) (Or.inl ⟨by rfl, fun W9 hW => by go_simp⟩) sv0 ?_
          try simp only [Act.put, List.setIfInBounds_toArray, List.set_cons_zero, List.set_cons_succ]
          refine wpAnyT_take (i := 1) (oi := ⟨some 79, _, _, _, _, _⟩) (v := .int .i64 s2.num) rfl (by kernel_rfl) (by kernel_rfl) (by kernel_rfl) (by kernel_rfl) (fun _ _ _ h => h) (Or.inl ⟨by rfl, fun W9 hW => by go_simp⟩) sv0 ?_
          try simp only [Act.put, List.setIfInBounds_toArray, List.set_cons_zero, List.set_cons_succ]
          refine wpAnyT_take (i := 2) (oi := ⟨some 80, _, _, _, _, _⟩) (v := .pointer (some ⟨W.heap.size, 1, none⟩)) rfl (by kernel_rfl) (by kernel_rfl) (by kernel_rfl) (by kernel_rfl) (fun _ _ _ h => h) (Or.inl ⟨by rfl, fun W9 hW => by go_simp⟩) sv0 ?_
          try simp only [Act.put, List.setIfInBounds_toArray, List.set_cons_zero, List.set_cons_succ]
          refine wpAnyT_take (i := 3) (oi := ⟨some 81, _, _, _, _, _⟩) (v := .int .i64 ds) rfl (by kernel_rfl) (by kernel_rfl) (by kernel_rfl) (by kernel_rfl) (fun _ _ _ h => h) (Or.inl ⟨by rfl, fun W9 hW => by have q1 := (hW.cell (p := ⟨W.heap.size, 1, none⟩) hltx).trans hd1.out; go_simp⟩) sv0 ?_
          try simp only [Act.put, List.setIfInBounds_toArray, List.set_cons_zero, List.set_cons_succ]
          refine wpAnyT_take (i := 7) (oi := ⟨some 85, _, _, _, _, _⟩) (v := .pointer (some ⟨W.heap.size, 2, none⟩)) rfl (by kernel_rfl) (by kernel_rfl) (by kernel_rfl) (by kernel_rfl) (fun _ _ _ h => h) (Or.inl ⟨by rfl, fun W9 hW => by go_simp⟩) sv0 ?_
          try simp only [Act.put, List.setIfInBounds_toArray, List.set_cons_zero, List.set_cons_succ]
          refine wpAnyT_take (i := 8) (oi := ⟨some 86, _, _, _, _, _⟩) (v := .int .i64 dn) rfl (by kernel_rfl) (by kernel_rfl) (by kernel_rfl) (by kernel_rfl) (fun _ _ _ h => h) (Or.inl ⟨by rfl, fun W9 hW => by have q2 := (hW.cell (p := ⟨W.heap.size, 2, none⟩) hltx).trans hd2.out; go_simp⟩) sv0 ?_
          try simp only [Act.put, List.setIfInBounds_toArray, List.set_cons_zero, List.set_cons_succ]
          refine wpAnyT_two (i := 4) (j := 14) (oi := ⟨some 82, _, _, _, _, _⟩) (oj := ⟨some 12, _, _, _, _, _⟩) (by kernel_rfl) rfl rfl (fun K hK => ?_) (fun K hK => ?_)
          · go_simp
            refine (dg1 v0).mono ?_
            rintro e v1 ⟨rfl, bv1⟩
            have hv1 : Below w5.heap.size w5 v1 := hv0.trans (bv1.mono hv0.size)
            have sv1 := hb.out.trans (hv1.mono hb.out.size)
            refine hK.out _ _ (fun _ => sv1) ?_
            clear hK K bv1
            try simp only [Act.put, List.setIfInBounds_toArray, List.set_cons_zero, List.set_cons_succ]
            refine wpAnyT_take (i := 5) (oi := ⟨some 83, _, _, _, _, _⟩) (v := .string ((⟨#[77, 79, 86, 69, 68, 32]⟩ : ByteArray) ++ ⟨S1.toArray⟩)) rfl (by kernel_rfl) (by kernel_rfl) (by kernel_rfl) (by kernel_rfl) (fun _ _ _ h => h) (Or.inl ⟨by rfl, fun W9 hW => by go_simp⟩) sv1 ?_
            try simp only [Act.put, List.setIfInBounds_toArray, List.set_cons_zero, List.set_cons_succ]
            refine wpAnyT_take (i := 6) (oi := ⟨some 84, _, _, _, _, _⟩) (v := .string (((⟨#[77, 79, 86, 69, 68, 32]⟩ : ByteArray) ++ ⟨S1.toArray⟩) ++ ⟨#[32]⟩)) rfl (by kernel_rfl) (by kernel_rfl) (by kernel_rfl) (by kernel_rfl) (fun _ _ _ h => h) (Or.inl ⟨by rfl, fun W9 hW => by go_simp⟩) sv1 ?_
            try simp only [Act.put, List.setIfInBounds_toArray, List.set_cons_zero, List.set_cons_succ]
            refine wpAnyT_two (i := 9) (j := 14) (oi := ⟨some 87, _, _, _, _, _⟩) (oj := ⟨some 12, _, _, _, _, _⟩) (by kernel_rfl) rfl rfl (fun K hK => ?_) (fun K hK => ?_)
            · go_simp
              refine (dg2 v1).mono ?_
              rintro e v2 ⟨rfl, bv2⟩
              have hv2 : Below w5.heap.size w5 v2 := hv1.trans (bv2.mono hv1.size)
              have sv2 := hb.out.trans (hv2.mono hb.out.size)
              refine hK.out _ _ (fun _ => sv2) ?_
              clear hK K bv2
              try simp only [Act.put, List.setIfInBounds_toArray, List.set_cons_zero, List.set_cons_succ]
              refine wpAnyT_take (i := 10) (oi := ⟨some 88, _, _, _, _, _⟩) (v := .string ((((⟨#[77, 79, 86, 69, 68, 32]⟩ : ByteArray) ++ ⟨S1.toArray⟩) ++ ⟨#[32]⟩) ++ ⟨S2.toArray⟩)) rfl (by kernel_rfl) (by kernel_rfl) (by kernel_rfl) (by kernel_rfl) (fun _ _ _ h => h) (Or.inl ⟨by rfl, fun W9 hW => by go_simp⟩) sv2 ?_
              try simp only [Act.put, List.setIfInBounds_toArray, List.set_cons_zero, List.set_cons_succ]
              refine wpAnyT_take (i := 11) (oi := ⟨some 89, _, _, _, _, _⟩) (v := .agg #[.int .i64 2, .int .i64 0, .string ((((⟨#[77, 79, 86, 69, 68, 32]⟩ : ByteArray) ++ ⟨S1.toArray⟩) ++ ⟨#[32]⟩) ++ ⟨S2.toArray⟩), .slice none 0 0]) rfl (by kernel_rfl) (by kernel_rfl) (by kernel_rfl) (by kernel_rfl) (fun _ _ _ h => h) (Or.inl ⟨by rfl, fun W9 hW => by go_simp⟩) sv2 ?_
              try simp only [Act.put, List.setIfInBounds_toArray, List.set_cons_zero, List.set_cons_succ]
              refine wpAnyT_take (i := 12) (oi := ⟨some 90, _, _, _, _, _⟩) (v := .agg #[.int .i64 2, .int .i64 s2.num, .int .i64 0, .int .i64 0, .string ⟨#[]⟩, .string ⟨#[]⟩, .slice none 0 0, .int .i64 2, .int .i64 0, .string ((((⟨#[77, 79, 86, 69, 68, 32]⟩ : ByteArray) ++ ⟨S1.toArray⟩) ++ ⟨#[32]⟩) ++ ⟨S2.toArray⟩), .slice none 0 0, .bool false, .int .i64 0]) rfl (by kernel_rfl) (by kernel_rfl) (by kernel_rfl) (by kernel_rfl) (fun _ _ _ h => h) (Or.inl ⟨by rfl, fun W9 hW => by go_simp⟩) sv2 ?_
              try simp only [Act.put, List.setIfInBounds_toArray, List.set_cons_zero, List.set_cons_succ]
              refine wpAnyT_two (i := 13) (j := 14) (oi := ⟨some 91, _, _, _, _, _⟩) (oj := ⟨some 12, _, _, _, _, _⟩) (by kernel_rfl) rfl rfl (fun K hK => ?_) (fun K hK => ?_)
              · go_simp
                have hcT := hcl.out.below hv2
                refine (Take_calls w.heap.size (w.heap.size + 1) s2 (learnL s2.num (((((⟨#[77, 79, 86, 69, 68, 32]⟩ : ByteArray) ++ ⟨S1.toArray⟩) ++ ⟨#[32]⟩) ++ ⟨S2.toArray⟩) : ByteArray)) (l.length + 1) hfi.out hq1 (Nat.lt_of_le_of_lt (Nat.le_of_eq hmsz.out) (by omega)) v2 hcT w hE sv2 (Nat.le_refl _) (Nat.le_succ _)).mono ?_
                rintro e v3 hpost
                clear hcT
                by_cases hbd : s2.bud = 0
                · rw [hTk0.out hbd] at hpost
                  obtain ⟨ho, hc5, hk5⟩ := hpost
                  have ho' : e = .returned (.agg (outC 0 0 0 (.slice none 0 0) 0 false 2 0 wrongT (.slice none 0 0) true)) := ho
                  subst ho'
                  have sv5 := Keep2.base sv2 (Nat.le_refl _) (Nat.le_succ _) hk5
                  obtain ⟨OUT, hO⟩ : ∃ OUT, OUT = (outC 0 0 0 (.slice none 0 0) 0 false 2 0 wrongT (.slice none 0 0) true) := ⟨_, rfl⟩
                  rw [← hO]
                  have hone : OUT.all (·.oneCell') = true := by rw [hO]; exact out_one _ _ _ _ _ _ _ _ _ _ _ _ _ _ _
                  have hiO : (Tryd.prog.info? 32).map (·.size) = some OUT.size := by rw [hO]; exact info32
                  have hs0 : out0.size = OUT.size := by rw [hO]; rfl
                  replace hiO := Lib.hid hiO
                  replace hO := Lib.hid hO
                  refine hK.out _ _ (fun _ => sv5) ?_
                  clear hK K
                  try simp only [Act.put, List.setIfInBounds_toArray, List.set_cons_zero, List.set_cons_succ]
                  refine wpAnyT_one (i := 14) (o := ⟨some 12, _, _, _, _, _⟩) (by kernel_rfl) rfl (fun K hK => ?_)
                  go_simp
                  obtain ⟨hB6, hc6, hb6⟩ := put_late (OUT := OUT) sv2 (Nat.le_refl _) (Nat.le_succ _) hc5 hk5
                  have hB5 : (v3.alloc (.cells out0 32)).heap[v3.heap.size]? = some (.cells out0 32 (0, 0)) := heap_alloc_new _ _
                  obtain ⟨vA, eA⟩ : ∃ W9, W9 = v3.alloc (.cells #[.int .i64 0, .int .i64 0, .int .i64 0, .int .i64 0, .int .i64 0, .string ⟨#[]⟩, .string ⟨#[]⟩, .slice none 0 0, .int .i64 0, .int .i64 0, .string ⟨#[]⟩, .slice none 0 0, .bool false, .int .i64 0, .bool false, .int .i64 0, .int .i64 0, .string ⟨#[]⟩, .slice none 0 0, .bool false] 32) := ⟨_, rfl⟩
                  rw [← eA]
                  rw [show v3.alloc (.cells out0 32) = vA from eA.symm] at hB5 hB6 hc6 hb6
                  have svA : Below w.heap.size w vA := by rw [eA]; exact below_alloc sv5 _
                  replace hB5 := Lib.hid hB5
                  clear eA
                  refine hK.out _ _ (fun _ => svA) ?_
                  clear hK K
                  try simp only [Act.put, List.setIfInBounds_toArray, List.set_cons_zero, List.set_cons_succ]
                  refine wpAnyT_one (i := 15) (o := ⟨none, _, _, _, _, _⟩) (by kernel_rfl) rfl (fun K hK => ?_)
                  refine wp_store_row 32 _ _ rfl v3.heap.size OUT rfl rfl 32 out0 hB5.out hiO.out hs0 hone (hK.out _ _ (fun h => absurd rfl h) ?_)
                  clear hK K
                  try simp only [Act.put, List.setIfInBounds_toArray, List.set_cons_zero, List.set_cons_succ]
                  refine wpAnyT_done (by kernel_rfl) ?_ _
                  obtain ⟨w6, hw6⟩ : ∃ w6, w6 = vA.setRow v3.heap.size OUT := ⟨_, rfl⟩
                  rw [← hw6] at hB6 hc6 hb6 ⊢
                  generalize v3.heap.size = B6 at *
                  clear hB5 hone hs0 hw6
                  have p19 : w6.cell? ⟨B6, 19, none⟩ = some (.bool true) := by rw [cell_of_box hB6, hO.out]; rfl
                  have p17 : w6.cell? ⟨B6, 17, none⟩ = some (.string wrongT) := by rw [cell_of_box hB6, hO.out]; rfl
                  have hltB : B6 < w6.heap.size := (Array.getElem?_eq_some_iff.1 hB6).1
                  replace hB6 := Lib.hid hB6
                  replace hc6 := Lib.hid hc6
                  replace hb6 := Lib.hid hb6
                  go_wp2_with fail
                  refine (alive_calls _ (hE.below hb6.out)).mono ?_
                  rintro e w7 ⟨rfl, hb7⟩
                  have p17' := (hb7.cell (p := ⟨B6, 17, none⟩) hltB).trans p17
                  have hb7' := hbx.out.trans ((hb6.out.trans (hb7.mono hb6.out.size)).mono hbx.out.size)
                  have hwt := wrong_eq
                  go_wp2_with fail
                  go_ret
                  exact ⟨rfl, hb7'⟩
                · rw [hTk1.out hbd] at hpost
                  obtain ⟨ho, hc5, hk5⟩ := hpost
                  have ho' : ∃ A5 c5, e = .returned (.agg (outC dn 1 (s2.num + 1) (.slice A5 s2.args.length c5) 0 true 0 0 ⟨#[]⟩ (.slice none 0 0) false)) := ho
                  obtain ⟨A5, c5, rfl⟩ := ho'
                  have sv5 := Keep2.base sv2 (Nat.le_refl _) (Nat.le_succ _) hk5
                  obtain ⟨OUT, hO⟩ : ∃ OUT, OUT = (outC dn 1 (s2.num + 1) (.slice A5 s2.args.length c5) 0 true 0 0 ⟨#[]⟩ (.slice none 0 0) false) := ⟨_, rfl⟩
                  rw [← hO]
                  have hone : OUT.all (·.oneCell') = true := by rw [hO]; exact out_one _ _ _ _ _ _ _ _ _ _ _ _ _ _ _
                  have hiO : (Tryd.prog.info? 32).map (·.size) = some OUT.size := by rw [hO]; exact info32
                  have hs0 : out0.size = OUT.size := by rw [hO]; rfl
                  replace hiO := Lib.hid hiO
                  replace hO := Lib.hid hO
                  refine hK.out _ _ (fun _ => sv5) ?_
                  clear hK K
                  try simp only [Act.put, List.setIfInBounds_toArray, List.set_cons_zero, List.set_cons_succ]
                  refine wpAnyT_one (i := 14) (o := ⟨some 12, _, _, _, _, _⟩) (by kernel_rfl) rfl (fun K hK => ?_)
                  go_simp
                  obtain ⟨hB6, hc6, hb6⟩ := put_late (OUT := OUT) sv2 (Nat.le_refl _) (Nat.le_succ _) hc5 hk5
                  have hB5 : (v3.alloc (.cells out0 32)).heap[v3.heap.size]? = some (.cells out0 32 (0, 0)) := heap_alloc_new _ _
                  obtain ⟨vA, eA⟩ : ∃ W9, W9 = v3.alloc (.cells #[.int .i64 0, .int .i64 0, .int .i64 0, .int .i64 0, .int .i64 0, .string ⟨#[]⟩, .string ⟨#[]⟩, .slice none 0 0, .int .i64 0, .int .i64 0, .string ⟨#[]⟩, .slice none 0 0, .bool false, .int .i64 0, .bool false, .int .i64 0, .int .i64 0, .string ⟨#[]⟩, .slice none 0 0, .bool false] 32) := ⟨_, rfl⟩
                  rw [← eA]
                  rw [show v3.alloc (.cells out0 32) = vA from eA.symm] at hB5 hB6 hc6 hb6
                  have svA : Below w.heap.size w vA := by rw [eA]; exact below_alloc sv5 _
                  replace hB5 := Lib.hid hB5
                  clear eA
                  refine hK.out _ _ (fun _ => svA) ?_
                  clear hK K
                  try simp only [Act.put, List.setIfInBounds_toArray, List.set_cons_zero, List.set_cons_succ]
                  refine wpAnyT_one (i := 15) (o := ⟨none, _, _, _, _, _⟩) (by kernel_rfl) rfl (fun K hK => ?_)
                  refine wp_store_row 32 _ _ rfl v3.heap.size OUT rfl rfl 32 out0 hB5.out hiO.out hs0 hone (hK.out _ _ (fun h => absurd rfl h) ?_)
                  clear hK K
                  try simp only [Act.put, List.setIfInBounds_toArray, List.set_cons_zero, List.set_cons_succ]
                  refine wpAnyT_done (by kernel_rfl) ?_ _
                  obtain ⟨w6, hw6⟩ : ∃ w6, w6 = vA.setRow v3.heap.size OUT := ⟨_, rfl⟩
                  rw [← hw6] at hB6 hc6 hb6 ⊢
                  generalize v3.heap.size = B6 at *
                  clear hB5 hone hs0 hw6
                  have p19 : w6.cell? ⟨B6, 19, none⟩ = some (.bool false) := by rw [cell_of_box hB6, hO.out]; rfl
                  have p14 : w6.cell? ⟨B6, 14, none⟩ = some (.bool true) := by rw [cell_of_box hB6, hO.out]; rfl
                  have p0 : w6.cell? ⟨B6, 0, none⟩ = some (.int .i64 dn) := by rw [cell_of_box hB6, hO.out]; rfl
                  have hltB : B6 < w6.heap.size := (Array.getElem?_eq_some_iff.1 hB6).1
                  replace hB6 := Lib.hid hB6
                  replace hc6 := Lib.hid hc6
                  replace hb6 := Lib.hid hb6
                  have hwv : whereV (learnS s2 ds dn) ds = dn := learn_where s2 ds dn
                  replace hwv := Lib.hid hwv
                  go_wp2_with fail
                  refine wp_region_last (S := fun W9 => Below w6.heap.size w6 W9) 21 (by kernel_rfl) ?_
                  have hr0 : Below w6.heap.size w6 w6.drew := ⟨rfl, rfl, rfl, Nat.le_refl _, fun _ _ => rfl⟩
                  have hlt6 : W.heap.size < w6.heap.size := Nat.lt_of_lt_of_le hltx hb6.out.size
                  have y1 := (hb6.out.cell (p := ⟨W.heap.size, 1, none⟩) hltx).trans hd1.out
                  have y2 := (hb6.out.cell (p := ⟨W.heap.size, 2, none⟩) hltx).trans hd2.out
                  replace y1 := Lib.hid y1
                  replace y2 := Lib.hid y2
                  replace p14 := Lib.hid p14
                  replace p0 := Lib.hid p0
                  replace p19 := Lib.hid p19
                  refine wpAnyT_one (i := 0) (o := ⟨some 101, _, _, _, _, _⟩) (by kernel_rfl) rfl (fun K hK => ?_)
                  go_simp
                  have hbr := hb6.out.trans (hr0.mono hb6.out.size)
                  refine (alive_calls w6.drew (hE.below hbr)).mono ?_
                  rintro e w7 ⟨rfl, hb7⟩
                  have hr7 : Below w6.heap.size w6 w7 := hr0.trans (hb7.mono hr0.size)
                  refine hK.out _ _ (fun _ => hr7) ?_
                  clear hK K
                  try simp only [Act.put, List.setIfInBounds_toArray, List.set_cons_zero, List.set_cons_succ]
                  refine wpAnyT_take (i := 1) (oi := ⟨some 102, _, _, _, _, _⟩) (v := .bool true) rfl (by kernel_rfl) (by kernel_rfl) (by kernel_rfl) (by kernel_rfl) (fun _ _ _ h => h) (Or.inl ⟨by rfl, fun W9 hW => by go_simp⟩) hr7 ?_
                  try simp only [Act.put, List.setIfInBounds_toArray, List.set_cons_zero, List.set_cons_succ]
                  refine wpAnyT_take (i := 2) (oi := ⟨some 103, _, _, _, _, _⟩) (v := .pointer (some ⟨B6, 14, none⟩)) rfl (by kernel_rfl) (by kernel_rfl) (by kernel_rfl) (by kernel_rfl) (fun _ _ _ h => h) (Or.inl ⟨by rfl, fun W9 hW => by go_simp⟩) hr7 ?_
                  try simp only [Act.put, List.setIfInBounds_toArray, List.set_cons_zero, List.set_cons_succ]
                  refine wpAnyT_take (i := 3) (oi := ⟨some 104, _, _, _, _, _⟩) (v := .bool true) rfl (by kernel_rfl) (by kernel_rfl) (by kernel_rfl) (by kernel_rfl) (fun _ _ _ h => h) (Or.inl ⟨by rfl, fun W9 hW => by have q9 := (hW.cell (p := ⟨B6, 14, none⟩) hltB).trans p14.out; go_simp⟩) hr7 ?_
                  try simp only [Act.put, List.setIfInBounds_toArray, List.set_cons_zero, List.set_cons_succ]
                  refine wpAnyT_take (i := 4) (oi := ⟨some 105, _, _, _, _, _⟩) (v := .bool true) rfl (by kernel_rfl) (by kernel_rfl) (by kernel_rfl) (by kernel_rfl) (fun _ _ _ h => h) (Or.inl ⟨by rfl, fun W9 hW => by go_simp⟩) hr7 ?_
                  try simp only [Act.put, List.setIfInBounds_toArray, List.set_cons_zero, List.set_cons_succ]
                  refine wpAnyT_take (i := 5) (oi := ⟨some 106, _, _, _, _, _⟩) (v := .bool true) rfl (by kernel_rfl) (by kernel_rfl) (by kernel_rfl) (by kernel_rfl) (fun _ _ _ h => h) (Or.inl ⟨by rfl, fun W9 hW => by go_simp⟩) hr7 ?_
                  try simp only [Act.put, List.setIfInBounds_toArray, List.set_cons_zero, List.set_cons_succ]
                  refine wpAnyT_take (i := 6) (oi := ⟨some 107, _, _, _, _, _⟩) (v := .pointer (some ⟨B6, 0, none⟩)) rfl (by kernel_rfl) (by kernel_rfl) (by kernel_rfl) (by kernel_rfl) (fun _ _ _ h => h) (Or.inl ⟨by rfl, fun W9 hW => by go_simp⟩) hr7 ?_
                  try simp only [Act.put, List.setIfInBounds_toArray, List.set_cons_zero, List.set_cons_succ]
                  refine wpAnyT_take (i := 7) (oi := ⟨some 108, _, _, _, _, _⟩) (v := .int .i64 dn) rfl (by kernel_rfl) (by kernel_rfl) (by kernel_rfl) (by kernel_rfl) (fun _ _ _ h => h) (Or.inl ⟨by rfl, fun W9 hW => by have q9 := (hW.cell (p := ⟨B6, 0, none⟩) hltB).trans p0.out; go_simp⟩) hr7 ?_
                  try simp only [Act.put, List.setIfInBounds_toArray, List.set_cons_zero, List.set_cons_succ]
                  refine wpAnyT_take (i := 8) (oi := ⟨some 109, _, _, _, _, _⟩) (v := .pointer (some ⟨W.heap.size, 2, none⟩)) rfl (by kernel_rfl) (by kernel_rfl) (by kernel_rfl) (by kernel_rfl) (fun _ _ _ h => h) (Or.inl ⟨by rfl, fun W9 hW => by go_simp⟩) hr7 ?_
                  try simp only [Act.put, List.setIfInBounds_toArray, List.set_cons_zero, List.set_cons_succ]
                  refine wpAnyT_take (i := 9) (oi := ⟨some 110, _, _, _, _, _⟩) (v := .int .i64 dn) rfl (by kernel_rfl) (by kernel_rfl) (by kernel_rfl) (by kernel_rfl) (fun _ _ _ h => h) (Or.inl ⟨by rfl, fun W9 hW => by have q9 := (hW.cell (p := ⟨W.heap.size, 2, none⟩) hlt6).trans y2.out; go_simp⟩) hr7 ?_
                  try simp only [Act.put, List.setIfInBounds_toArray, List.set_cons_zero, List.set_cons_succ]
                  refine wpAnyT_take (i := 10) (oi := ⟨some 111, _, _, _, _, _⟩) (v := .bool true) rfl (by kernel_rfl) (by kernel_rfl) (by kernel_rfl) (by kernel_rfl) (fun _ _ _ h => h) (Or.inl ⟨by rfl, fun W9 hW => by go_simp⟩) hr7 ?_
                  try simp only [Act.put, List.setIfInBounds_toArray, List.set_cons_zero, List.set_cons_succ]
                  refine wpAnyT_take (i := 11) (oi := ⟨some 112, _, _, _, _, _⟩) (v := .bool true) rfl (by kernel_rfl) (by kernel_rfl) (by kernel_rfl) (by kernel_rfl) (fun _ _ _ h => h) (Or.inl ⟨by rfl, fun W9 hW => by go_simp⟩) hr7 ?_
                  try simp only [Act.put, List.setIfInBounds_toArray, List.set_cons_zero, List.set_cons_succ]
                  refine wpAnyT_take (i := 12) (oi := ⟨some 113, _, _, _, _, _⟩) (v := .bool true) rfl (by kernel_rfl) (by kernel_rfl) (by kernel_rfl) (by kernel_rfl) (fun _ _ _ h => h) (Or.inl ⟨by rfl, fun W9 hW => by go_simp⟩) hr7 ?_
                  try simp only [Act.put, List.setIfInBounds_toArray, List.set_cons_zero, List.set_cons_succ]
                  refine wpAnyT_take (i := 13) (oi := ⟨some 114, _, _, _, _, _⟩) (v := .pointer (some ⟨w.heap.size + 1, 0, none⟩)) rfl (by kernel_rfl) (by kernel_rfl) (by kernel_rfl) (by kernel_rfl) (fun _ _ _ h => h) (Or.inl ⟨by rfl, fun W9 hW => by go_simp⟩) hr7 ?_
                  try simp only [Act.put, List.setIfInBounds_toArray, List.set_cons_zero, List.set_cons_succ]
                  refine wpAnyT_take (i := 14) (oi := ⟨some 115, _, _, _, _, _⟩) (v := .pointer (some ⟨W.heap.size, 1, none⟩)) rfl (by kernel_rfl) (by kernel_rfl) (by kernel_rfl) (by kernel_rfl) (fun _ _ _ h => h) (Or.inl ⟨by rfl, fun W9 hW => by go_simp⟩) hr7 ?_
                  try simp only [Act.put, List.setIfInBounds_toArray, List.set_cons_zero, List.set_cons_succ]
                  refine wpAnyT_take (i := 15) (oi := ⟨some 116, _, _, _, _, _⟩) (v := .int .i64 ds) rfl (by kernel_rfl) (by kernel_rfl) (by kernel_rfl) (by kernel_rfl) (fun _ _ _ h => h) (Or.inl ⟨by rfl, fun W9 hW => by have q9 := (hW.cell (p := ⟨W.heap.size, 1, none⟩) hlt6).trans y1.out; go_simp⟩) hr7 ?_
                  try simp only [Act.put, List.setIfInBounds_toArray, List.set_cons_zero, List.set_cons_succ]
                  refine wpAnyT_take (i := 17) (oi := ⟨some 118, _, _, _, _, _⟩) (v := .pointer (some ⟨W.heap.size, 2, none⟩)) rfl (by kernel_rfl) (by kernel_rfl) (by kernel_rfl) (by kernel_rfl) (fun _ _ _ h => h) (Or.inl ⟨by rfl, fun W9 hW => by go_simp⟩) hr7 ?_
                  try simp only [Act.put, List.setIfInBounds_toArray, List.set_cons_zero, List.set_cons_succ]
                  refine wpAnyT_take (i := 18) (oi := ⟨some 119, _, _, _, _, _⟩) (v := .int .i64 dn) rfl (by kernel_rfl) (by kernel_rfl) (by kernel_rfl) (by kernel_rfl) (fun _ _ _ h => h) (Or.inl ⟨by rfl, fun W9 hW => by have q9 := (hW.cell (p := ⟨W.heap.size, 2, none⟩) hlt6).trans y2.out; go_simp⟩) hr7 ?_
                  try simp only [Act.put, List.setIfInBounds_toArray, List.set_cons_zero, List.set_cons_succ]
                  refine wpAnyT_one (i := 16) (o := ⟨some 117, _, _, _, _, _⟩) (by kernel_rfl) rfl (fun K hK => ?_)
                  go_simp
                  refine (Where_calls w.heap.size (w.heap.size + 1) (learnS s2 ds dn) ds bds w7 (hc6.out.below hr7)).mono ?_
                  rintro e w8 ⟨rfl, rfl⟩
                  rw [hwv.out]
                  refine hK.out _ _ (fun _ => hr7) ?_
                  clear hK K
                  try simp only [Act.put, List.setIfInBounds_toArray, List.set_cons_zero, List.set_cons_succ]
                  refine wpAnyT_take (i := 19) (oi := ⟨some 120, _, _, _, _, _⟩) (v := .bool true) rfl (by kernel_rfl) (by kernel_rfl) (by kernel_rfl) (by kernel_rfl) (fun _ _ _ h => h) (Or.inl ⟨by rfl, fun W9 hW => by go_simp⟩) hr7 ?_
                  try simp only [Act.put, List.setIfInBounds_toArray, List.set_cons_zero, List.set_cons_succ]
                  refine wpAnyT_take (i := 20) (oi := ⟨some 121, _, _, _, _, _⟩) (v := .bool true) rfl (by kernel_rfl) (by kernel_rfl) (by kernel_rfl) (by kernel_rfl) (fun _ _ _ h => h) (Or.inl ⟨by rfl, fun W9 hW => by go_simp⟩) hr7 ?_
                  try simp only [Act.put, List.setIfInBounds_toArray, List.set_cons_zero, List.set_cons_succ]
                  refine wpAnyT_one (i := 21) (o := ⟨some 6, _, _, _, _, _⟩) (by kernel_rfl) rfl (fun K hK => ?_)
                  go_simp
                  refine hK.out _ _ (fun h => absurd rfl h) ?_
                  clear hK K
                  try simp only [Act.put, List.setIfInBounds_toArray, List.set_cons_zero, List.set_cons_succ]
                  refine wpAnyT_done (by kernel_rfl) ?_ _
                  have hb7' := hbx.out.trans ((hb6.out.trans (hr7.mono hb6.out.size)).mono hbx.out.size)
                  go_wp2_with fail
                  go_ret
                  exact ⟨rfl, hb7'⟩
              · go_simp
                obtain ⟨v4, ev4⟩ : ∃ W9, W9 = v2.alloc (.cells #[.int .i64 0, .int .i64 0, .int .i64 0, .int .i64 0, .int .i64 0, .string ⟨#[]⟩, .string ⟨#[]⟩, .slice none 0 0, .int .i64 0, .int .i64 0, .string ⟨#[]⟩, .slice none 0 0, .bool false, .int .i64 0, .bool false, .int .i64 0, .int .i64 0, .string ⟨#[]⟩, .slice none 0 0, .bool false] 32) := ⟨_, rfl⟩
                rw [← ev4]
                have hv4 : Below w5.heap.size w5 v4 := by rw [ev4]; exact below_alloc hv2 _
                have sv4 := hb.out.trans (hv4.mono hb.out.size)
                have xv4 : v4.heap[v2.heap.size]? = some (.cells out0 32 (0, 0)) := by rw [ev4]; exact heap_alloc_new _ _
                replace xv4 := Lib.hid xv4
                clear ev4
                refine hK.out _ _ (fun _ => sv4) ?_
                clear hK K
                try simp only [Act.put, List.setIfInBounds_toArray, List.set_cons_zero, List.set_cons_succ]
                refine wpAnyT_one (i := 13) (o := ⟨some 91, _, _, _, _, _⟩) (by kernel_rfl) rfl (fun K hK => ?_)
                go_simp
                have hcT := hcl.out.below hv4
                refine (Take_calls w.heap.size (w.heap.size + 1) s2 (learnL s2.num (((((⟨#[77, 79, 86, 69, 68, 32]⟩ : ByteArray) ++ ⟨S1.toArray⟩) ++ ⟨#[32]⟩) ++ ⟨S2.toArray⟩) : ByteArray)) (l.length + 1) hfi.out hq1 (Nat.lt_of_le_of_lt (Nat.le_of_eq hmsz.out) (by omega)) v4 hcT w hE sv4 (Nat.le_refl _) (Nat.le_succ _)).mono ?_
                rintro e v5 hpost
                clear hcT
                by_cases hbd : s2.bud = 0
                · rw [hTk0.out hbd] at hpost
                  obtain ⟨ho, hc5, hk5⟩ := hpost
                  have ho' : e = .returned (.agg (outC 0 0 0 (.slice none 0 0) 0 false 2 0 wrongT (.slice none 0 0) true)) := ho
                  subst ho'
                  have sv5 := Keep2.base sv4 (Nat.le_refl _) (Nat.le_succ _) hk5
                  obtain ⟨OUT, hO⟩ : ∃ OUT, OUT = (outC 0 0 0 (.slice none 0 0) 0 false 2 0 wrongT (.slice none 0 0) true) := ⟨_, rfl⟩
                  rw [← hO]
                  have hone : OUT.all (·.oneCell') = true := by rw [hO]; exact out_one _ _ _ _ _ _ _ _ _ _ _ _ _ _ _
                  have hiO : (Tryd.prog.info? 32).map (·.size) = some OUT.size := by rw [hO]; exact info32
                  have hs0 : out0.size = OUT.size := by rw [hO]; rfl
                  replace hiO := Lib.hid hiO
                  replace hO := Lib.hid hO
                  have hlB : w.heap.size < v2.heap.size ∧ w.heap.size + 1 < v2.heap.size := ⟨Nat.lt_of_lt_of_le hltc.1 hv2.size, Nat.lt_of_lt_of_le hltc.2 hv2.size⟩
                  obtain ⟨hB5, hB6, hc6, hb6⟩ := put_row (B := v2.heap.size) (OUT := OUT) sv4 (Nat.le_refl _) (Nat.le_succ _) xv4.out (Nat.le_of_lt hlB.1) (by omega) (by omega) hc5 hk5
                  replace hB5 := Lib.hid hB5
                  refine hK.out _ _ (fun _ => sv5) ?_
                  clear hK K
                  try simp only [Act.put, List.setIfInBounds_toArray, List.set_cons_zero, List.set_cons_succ]
                  refine wpAnyT_one (i := 15) (o := ⟨none, _, _, _, _, _⟩) (by kernel_rfl) rfl (fun K hK => ?_)
                  refine wp_store_row 32 _ _ rfl v2.heap.size OUT rfl rfl 32 out0 hB5.out hiO.out hs0 hone (hK.out _ _ (fun h => absurd rfl h) ?_)
                  clear hK K
                  try simp only [Act.put, List.setIfInBounds_toArray, List.set_cons_zero, List.set_cons_succ]
                  refine wpAnyT_done (by kernel_rfl) ?_ _
                  obtain ⟨w6, hw6⟩ : ∃ w6, w6 = v5.setRow v2.heap.size OUT := ⟨_, rfl⟩
                  rw [← hw6] at hB6 hc6 hb6 ⊢
                  generalize v2.heap.size = B6 at *
                  clear hB5 hone hs0 hw6
                  have p19 : w6.cell? ⟨B6, 19, none⟩ = some (.bool true) := by rw [cell_of_box hB6, hO.out]; rfl
                  have p17 : w6.cell? ⟨B6, 17, none⟩ = some (.string wrongT) := by rw [cell_of_box hB6, hO.out]; rfl
                  have hltB : B6 < w6.heap.size := (Array.getElem?_eq_some_iff.1 hB6).1
                  replace hB6 := Lib.hid hB6
                  replace hc6 := Lib.hid hc6
                  replace hb6 := Lib.hid hb6
                  go_wp2_with fail
                  refine (alive_calls _ (hE.below hb6.out)).mono ?_
                  rintro e w7 ⟨rfl, hb7⟩
                  have p17' := (hb7.cell (p := ⟨B6, 17, none⟩) hltB).trans p17
                  have hb7' := hbx.out.trans ((hb6.out.trans (hb7.mono hb6.out.size)).mono hbx.out.size)
                  have hwt := wrong_eq
                  go_wp2_with fail
                  go_ret
                  exact ⟨rfl, hb7'⟩
                · rw [hTk1.out hbd] at hpost
                  obtain ⟨ho, hc5, hk5⟩ := hpost
                  have ho' : ∃ A5 c5, e = .returned (.agg (outC dn 1 (s2.num + 1) (.slice A5 s2.args.length c5) 0 true 0 0 ⟨#[]⟩ (.slice none 0 0) false)) := ho
                  obtain ⟨A5, c5, rfl⟩ := ho'
                  have sv5 := Keep2.base sv4 (Nat.le_refl _) (Nat.le_succ _) hk5
                  obtain ⟨OUT, hO⟩ : ∃ OUT, OUT = (outC dn 1 (s2.num + 1) (.slice A5 s2.args.length c5) 0 true 0 0 ⟨#[]⟩ (.slice none 0 0) false) := ⟨_, rfl⟩
                  rw [← hO]
                  have hone : OUT.all (·.oneCell') = true := by rw [hO]; exact out_one _ _ _ _ _ _ _ _ _ _ _ _ _ _ _
                  have hiO : (Tryd.prog.info? 32).map (·.size) = some OUT.size := by rw [hO]; exact info32
                  have hs0 : out0.size = OUT.size := by rw [hO]; rfl
                  replace hiO := Lib.hid hiO
                  replace hO := Lib.hid hO
                  have hlB : w.heap.size < v2.heap.size ∧ w.heap.size + 1 < v2.heap.size := ⟨Nat.lt_of_lt_of_le hltc.1 hv2.size, Nat.lt_of_lt_of_le hltc.2 hv2.size⟩
                  obtain ⟨hB5, hB6, hc6, hb6⟩ := put_row (B := v2.heap.size) (OUT := OUT) sv4 (Nat.le_refl _) (Nat.le_succ _) xv4.out (Nat.le_of_lt hlB.1) (by omega) (by omega) hc5 hk5
                  replace hB5 := Lib.hid hB5
                  refine hK.out _ _ (fun _ => sv5) ?_
                  clear hK K
                  try simp only [Act.put, List.setIfInBounds_toArray, List.set_cons_zero, List.set_cons_succ]
                  refine wpAnyT_one (i := 15) (o := ⟨none, _, _, _, _, _⟩) (by kernel_rfl) rfl (fun K hK => ?_)
                  refine wp_store_row 32 _ _ rfl v2.heap.size OUT rfl rfl 32 out0 hB5.out hiO.out hs0 hone (hK.out _ _ (fun h => absurd rfl h) ?_)
                  clear hK K
                  try simp only [Act.put, List.setIfInBounds_toArray, List.set_cons_zero, List.set_cons_succ]
                  refine wpAnyT_done (by kernel_rfl) ?_ _
                  obtain ⟨w6, hw6⟩ : ∃ w6, w6 = v5.setRow v2.heap.size OUT := ⟨_, rfl⟩
                  rw [← hw6] at hB6 hc6 hb6 ⊢
                  generalize v2.heap.size = B6 at *
                  clear hB5 hone hs0 hw6
                  have p19 : w6.cell? ⟨B6, 19, none⟩ = some (.bool false) := by rw [cell_of_box hB6, hO.out]; rfl
                  have p14 : w6.cell? ⟨B6, 14, none⟩ = some (.bool true) := by rw [cell_of_box hB6, hO.out]; rfl
                  have p0 : w6.cell? ⟨B6, 0, none⟩ = some (.int .i64 dn) := by rw [cell_of_box hB6, hO.out]; rfl
                  have hltB : B6 < w6.heap.size := (Array.getElem?_eq_some_iff.1 hB6).1
                  replace hB6 := Lib.hid hB6
                  replace hc6 := Lib.hid hc6
                  replace hb6 := Lib.hid hb6
                  have hwv : whereV (learnS s2 ds dn) ds = dn := learn_where s2 ds dn
                  replace hwv := Lib.hid hwv
                  go_wp2_with fail
                  refine wp_region_last (S := fun W9 => Below w6.heap.size w6 W9) 21 (by kernel_rfl) ?_
                  have hr0 : Below w6.heap.size w6 w6.drew := ⟨rfl, rfl, rfl, Nat.le_refl _, fun _ _ => rfl⟩
                  have hlt6 : W.heap.size < w6.heap.size := Nat.lt_of_lt_of_le hltx hb6.out.size
                  have y1 := (hb6.out.cell (p := ⟨W.heap.size, 1, none⟩) hltx).trans hd1.out
                  have y2 := (hb6.out.cell (p := ⟨W.heap.size, 2, none⟩) hltx).trans hd2.out
                  replace y1 := Lib.hid y1
                  replace y2 := Lib.hid y2
                  replace p14 := Lib.hid p14
                  replace p0 := Lib.hid p0
                  replace p19 := Lib.hid p19
                  refine wpAnyT_one (i := 0) (o := ⟨some 101, _, _, _, _, _⟩) (by kernel_rfl) rfl (fun K hK => ?_)
                  go_simp
                  have hbr := hb6.out.trans (hr0.mono hb6.out.size)
                  refine (alive_calls w6.drew (hE.below hbr)).mono ?_
                  rintro e w7 ⟨rfl, hb7⟩
                  have hr7 : Below w6.heap.size w6 w7 := hr0.trans (hb7.mono hr0.size)
                  refine hK.out _ _ (fun _ => hr7) ?_
                  clear hK K
                  try simp only [Act.put, List.setIfInBounds_toArray, List.set_cons_zero, List.set_cons_succ]
                  refine wpAnyT_take (i := 1) (oi := ⟨some 102, _, _, _, _, _⟩) (v := .bool true) rfl (by kernel_rfl) (by kernel_rfl) (by kernel_rfl) (by kernel_rfl) (fun _ _ _ h => h) (Or.inl ⟨by rfl, fun W9 hW => by go_simp⟩) hr7 ?_
                  try simp only [Act.put, List.setIfInBounds_toArray, List.set_cons_zero, List.set_cons_succ]
                  refine wpAnyT_take (i := 2) (oi := ⟨some 103, _, _, _, _, _⟩) (v := .pointer (some ⟨B6, 14, none⟩)) rfl (by kernel_rfl) (by kernel_rfl) (by kernel_rfl) (by kernel_rfl) (fun _ _ _ h => h) (Or.inl ⟨by rfl, fun W9 hW => by go_simp⟩) hr7 ?_
                  try simp only [Act.put, List.setIfInBounds_toArray, List.set_cons_zero, List.set_cons_succ]
                  refine wpAnyT_take (i := 3) (oi := ⟨some 104, _, _, _, _, _⟩) (v := .bool true) rfl (by kernel_rfl) (by kernel_rfl) (by kernel_rfl) (by kernel_rfl) (fun _ _ _ h => h) (Or.inl ⟨by rfl, fun W9 hW => by have q9 := (hW.cell (p := ⟨B6, 14, none⟩) hltB).trans p14.out; go_simp⟩) hr7 ?_
                  try simp only [Act.put, List.setIfInBounds_toArray, List.set_cons_zero, List.set_cons_succ]
                  refine wpAnyT_take (i := 4) (oi := ⟨some 105, _, _, _, _, _⟩) (v := .bool true) rfl (by kernel_rfl) (by kernel_rfl) (by kernel_rfl) (by kernel_rfl) (fun _ _ _ h => h) (Or.inl ⟨by rfl, fun W9 hW => by go_simp⟩) hr7 ?_
                  try simp only [Act.put, List.setIfInBounds_toArray, List.set_cons_zero, List.set_cons_succ]
                  refine wpAnyT_take (i := 5) (oi := ⟨some 106, _, _, _, _, _⟩) (v := .bool true) rfl (by kernel_rfl) (by kernel_rfl) (by kernel_rfl) (by kernel_rfl) (fun _ _ _ h => h) (Or.inl ⟨by rfl, fun W9 hW => by go_simp⟩) hr7 ?_
                  try simp only [Act.put, List.setIfInBounds_toArray, List.set_cons_zero, List.set_cons_succ]
                  refine wpAnyT_take (i := 6) (oi := ⟨some 107, _, _, _, _, _⟩) (v := .pointer (some ⟨B6, 0, none⟩)) rfl (by kernel_rfl) (by kernel_rfl) (by kernel_rfl) (by kernel_rfl) (fun _ _ _ h => h) (Or.inl ⟨by rfl, fun W9 hW => by go_simp⟩) hr7 ?_
                  try simp only [Act.put, List.setIfInBounds_toArray, List.set_cons_zero, List.set_cons_succ]
                  refine wpAnyT_take (i := 7) (oi := ⟨some 108, _, _, _, _, _⟩) (v := .int .i64 dn) rfl (by kernel_rfl) (by kernel_rfl) (by kernel_rfl) (by kernel_rfl) (fun _ _ _ h => h) (Or.inl ⟨by rfl, fun W9 hW => by have q9 := (hW.cell (p := ⟨B6, 0, none⟩) hltB).trans p0.out; go_simp⟩) hr7 ?_
                  try simp only [Act.put, List.setIfInBounds_toArray, List.set_cons_zero, List.set_cons_succ]
                  refine wpAnyT_take (i := 8) (oi := ⟨some 109, _, _, _, _, _⟩) (v := .pointer (some ⟨W.heap.size, 2, none⟩)) rfl (by kernel_rfl) (by kernel_rfl) (by kernel_rfl) (by kernel_rfl) (fun _ _ _ h => h) (Or.inl ⟨by rfl, fun W9 hW => by go_simp⟩) hr7 ?_
                  try simp only [Act.put, List.setIfInBounds_toArray, List.set_cons_zero, List.set_cons_succ]
                  refine wpAnyT_take (i := 9) (oi := ⟨some 110, _, _, _, _, _⟩) (v := .int .i64 dn) rfl (by kernel_rfl) (by kernel_rfl) (by kernel_rfl) (by kernel_rfl) (fun _ _ _ h => h) (Or.inl ⟨by rfl, fun W9 hW => by have q9 := (hW.cell (p := ⟨W.heap.size, 2, none⟩) hlt6).trans y2.out; go_simp⟩) hr7 ?_
                  try simp only [Act.put, List.setIfInBounds_toArray, List.set_cons_zero, List.set_cons_succ]
                  refine wpAnyT_take (i := 10) (oi := ⟨some 111, _, _, _, _, _⟩) (v := .bool true) rfl (by kernel_rfl) (by kernel_rfl) (by kernel_rfl) (by kernel_rfl) (fun _ _ _ h => h) (Or.inl ⟨by rfl, fun W9 hW => by go_simp⟩) hr7 ?_
                  try simp only [Act.put, List.setIfInBounds_toArray, List.set_cons_zero, List.set_cons_succ]
                  refine wpAnyT_take (i := 11) (oi := ⟨some 112, _, _, _, _, _⟩) (v := .bool true) rfl (by kernel_rfl) (by kernel_rfl) (by kernel_rfl) (by kernel_rfl) (fun _ _ _ h => h) (Or.inl ⟨by rfl, fun W9 hW => by go_simp⟩) hr7 ?_
                  try simp only [Act.put, List.setIfInBounds_toArray, List.set_cons_zero, List.set_cons_succ]
                  refine wpAnyT_take (i := 12) (oi := ⟨some 113, _, _, _, _, _⟩) (v := .bool true) rfl (by kernel_rfl) (by kernel_rfl) (by kernel_rfl) (by kernel_rfl) (fun _ _ _ h => h) (Or.inl ⟨by rfl, fun W9 hW => by go_simp⟩) hr7 ?_
                  try simp only [Act.put, List.setIfInBounds_toArray, List.set_cons_zero, List.set_cons_succ]
                  refine wpAnyT_take (i := 13) (oi := ⟨some 114, _, _, _, _, _⟩) (v := .pointer (some ⟨w.heap.size + 1, 0, none⟩)) rfl (by kernel_rfl) (by kernel_rfl) (by kernel_rfl) (by kernel_rfl) (fun _ _ _ h => h) (Or.inl ⟨by rfl, fun W9 hW => by go_simp⟩) hr7 ?_
                  try simp only [Act.put, List.setIfInBounds_toArray, List.set_cons_zero, List.set_cons_succ]
                  refine wpAnyT_take (i := 14) (oi := ⟨some 115, _, _, _, _, _⟩) (v := .pointer (some ⟨W.heap.size, 1, none⟩)) rfl (by kernel_rfl) (by kernel_rfl) (by kernel_rfl) (by kernel_rfl) (fun _ _ _ h => h) (Or.inl ⟨by rfl, fun W9 hW => by go_simp⟩) hr7 ?_
                  try simp only [Act.put, List.setIfInBounds_toArray, List.set_cons_zero, List.set_cons_succ]
                  refine wpAnyT_take (i := 15) (oi := ⟨some 116, _, _, _, _, _⟩) (v := .int .i64 ds) rfl (by kernel_rfl) (by kernel_rfl) (by kernel_rfl) (by kernel_rfl) (fun _ _ _ h => h) (Or.inl ⟨by rfl, fun W9 hW => by have q9 := (hW.cell (p := ⟨W.heap.size, 1, none⟩) hlt6).trans y1.out; go_simp⟩) hr7 ?_
                  try simp only [Act.put, List.setIfInBounds_toArray, List.set_cons_zero, List.set_cons_succ]
                  refine wpAnyT_take (i := 17) (oi := ⟨some 118, _, _, _, _, _⟩) (v := .pointer (some ⟨W.heap.size, 2, none⟩)) rfl (by kernel_rfl) (by kernel_rfl) (by kernel_rfl) (by kernel_rfl) (fun _ _ _ h => h) (Or.inl ⟨by rfl, fun W9 hW => by go_simp⟩) hr7 ?_
                  try simp only [Act.put, List.setIfInBounds_toArray, List.set_cons_zero, List.set_cons_succ]
                  refine wpAnyT_take (i := 18) (oi := ⟨some 119, _, _, _, _, _⟩) (v := .int .i64 dn) rfl (by kernel_rfl) (by kernel_rfl) (by kernel_rfl) (by kernel_rfl) (fun _ _ _ h => h) (Or.inl ⟨by rfl, fun W9 hW => by have q9 := (hW.cell (p := ⟨W.heap.size, 2, none⟩) hlt6).trans y2.out; go_simp⟩) hr7 ?_
                  try simp only [Act.put, List.setIfInBounds_toArray, List.set_cons_zero, List.set_cons_succ]
                  refine wpAnyT_one (i := 16) (o := ⟨some 117, _, _, _, _, _⟩) (by kernel_rfl) rfl (fun K hK => ?_)
                  go_simp
                  refine (Where_calls w.heap.size (w.heap.size + 1) (learnS s2 ds dn) ds bds w7 (hc6.out.below hr7)).mono ?_
                  rintro e w8 ⟨rfl, rfl⟩
                  rw [hwv.out]
                  refine hK.out _ _ (fun _ => hr7) ?_
                  clear hK K
                  try simp only [Act.put, List.setIfInBounds_toArray, List.set_cons_zero, List.set_cons_succ]
                  refine wpAnyT_take (i := 19) (oi := ⟨some 120, _, _, _, _, _⟩) (v := .bool true) rfl (by kernel_rfl) (by kernel_rfl) (by kernel_rfl) (by kernel_rfl) (fun _ _ _ h => h) (Or.inl ⟨by rfl, fun W9 hW => by go_simp⟩) hr7 ?_
                  try simp only [Act.put, List.setIfInBounds_toArray, List.set_cons_zero, List.set_cons_succ]
                  refine wpAnyT_take (i := 20) (oi := ⟨some 121, _, _, _, _, _⟩) (v := .bool true) rfl (by kernel_rfl) (by kernel_rfl) (by kernel_rfl) (by kernel_rfl) (fun _ _ _ h => h) (Or.inl ⟨by rfl, fun W9 hW => by go_simp⟩) hr7 ?_
                  try simp only [Act.put, List.setIfInBounds_toArray, List.set_cons_zero, List.set_cons_succ]
                  refine wpAnyT_one (i := 21) (o := ⟨some 6, _, _, _, _, _⟩) (by kernel_rfl) rfl (fun K hK => ?_)
                  go_simp
                  refine hK.out _ _ (fun h => absurd rfl h) ?_
                  clear hK K
                  try simp only [Act.put, List.setIfInBounds_toArray, List.set_cons_zero, List.set_cons_succ]
                  refine wpAnyT_done (by kernel_rfl) ?_ _
                  have hb7' := hbx.out.trans ((hb6.out.trans (hr7.mono hb6.out.size)).mono hbx.out.size)
                  go_wp2_with fail
                  go_ret
                  exact ⟨rfl, hb7'⟩
            · go_simp
              obtain ⟨v6, ev6⟩ : ∃ W9, W9 = v1.alloc (.cells #[.int .i64 0, .int .i64 0, .int .i64 0, .int .i64 0, .int .i64 0, .string ⟨#[]⟩, .string ⟨#[]⟩, .slice none 0 0, .int .i64 0, .int .i64 0, .string ⟨#[]⟩, .slice none 0 0, .bool false, .int .i64 0, .bool false, .int .i64 0, .int .i64 0, .string ⟨#[]⟩, .slice none 0 0, .bool false] 32) := ⟨_, rfl⟩
              rw [← ev6]
              have hv6 : Below w5.heap.size w5 v6 := by rw [ev6]; exact below_alloc hv1 _
              have sv6 := hb.out.trans (hv6.mono hb.out.size)
              have xv6 : v6.heap[v1.heap.size]? = some (.cells out0 32 (0, 0)) := by rw [ev6]; exact heap_alloc_new _ _
              replace xv6 := Lib.hid xv6
              clear ev6
              refine hK.out _ _ (fun _ => sv6) ?_
              clear hK K
              try simp only [Act.put, List.setIfInBounds_toArray, List.set_cons_zero, List.set_cons_succ]
              refine wpAnyT_one (i := 9) (o := ⟨some 87, _, _, _, _, _⟩) (by kernel_rfl) rfl (fun K hK => ?_)
              go_simp
              refine (dg2 v6).mono ?_
              rintro e v7 ⟨rfl, bv7⟩
              have hv7 : Below w5.heap.size w5 v7 := hv6.trans (bv7.mono hv6.size)
              have sv7 := hb.out.trans (hv7.mono hb.out.size)
              replace xv6 := Lib.hid ((bv7.block _ (Array.getElem?_eq_some_iff.1 xv6.out).1).trans xv6.out)
              refine hK.out _ _ (fun _ => sv7) ?_
              clear hK K bv7
              try simp only [Act.put, List.setIfInBounds_toArray, List.set_cons_zero, List.set_cons_succ]
              refine wpAnyT_take (i := 10) (oi := ⟨some 88, _, _, _, _, _⟩) (v := .string ((((⟨#[77, 79, 86, 69, 68, 32]⟩ : ByteArray) ++ ⟨S1.toArray⟩) ++ ⟨#[32]⟩) ++ ⟨S2.toArray⟩)) rfl (by kernel_rfl) (by kernel_rfl) (by kernel_rfl) (by kernel_rfl) (fun _ _ _ h => h) (Or.inl ⟨by rfl, fun W9 hW => by go_simp⟩) sv7 ?_
              try simp only [Act.put, List.setIfInBounds_toArray, List.set_cons_zero, List.set_cons_succ]
              refine wpAnyT_take (i := 11) (oi := ⟨some 89, _, _, _, _, _⟩) (v := .agg #[.int .i64 2, .int .i64 0, .string ((((⟨#[77, 79, 86, 69, 68, 32]⟩ : ByteArray) ++ ⟨S1.toArray⟩) ++ ⟨#[32]⟩) ++ ⟨S2.toArray⟩), .slice none 0 0]) rfl (by kernel_rfl) (by kernel_rfl) (by kernel_rfl) (by kernel_rfl) (fun _ _ _ h => h) (Or.inl ⟨by rfl, fun W9 hW => by go_simp⟩) sv7 ?_
              try simp only [Act.put, List.setIfInBounds_toArray, List.set_cons_zero, List.set_cons_succ]
              refine wpAnyT_take (i := 12) (oi := ⟨some 90, _, _, _, _, _⟩) (v := .agg #[.int .i64 2, .int .i64 s2.num, .int .i64 0, .int .i64 0, .string ⟨#[]⟩, .string ⟨#[]⟩, .slice none 0 0, .int .i64 2, .int .i64 0, .string ((((⟨#[77, 79, 86, 69, 68, 32]⟩ : ByteArray) ++ ⟨S1.toArray⟩) ++ ⟨#[32]⟩) ++ ⟨S2.toArray⟩), .slice none 0 0, .bool false, .int .i64 0]) rfl (by kernel_rfl) (by kernel_rfl) (by kernel_rfl) (by kernel_rfl) (fun _ _ _ h => h) (Or.inl ⟨by rfl, fun W9 hW => by go_simp⟩) sv7 ?_
              try simp only [Act.put, List.setIfInBounds_toArray, List.set_cons_zero, List.set_cons_succ]
              refine wpAnyT_one (i := 13) (o := ⟨some 91, _, _, _, _, _⟩) (by kernel_rfl) rfl (fun K hK => ?_)
              go_simp
              have hcT := hcl.out.below hv7
              refine (Take_calls w.heap.size (w.heap.size + 1) s2 (learnL s2.num (((((⟨#[77, 79, 86, 69, 68, 32]⟩ : ByteArray) ++ ⟨S1.toArray⟩) ++ ⟨#[32]⟩) ++ ⟨S2.toArray⟩) : ByteArray)) (l.length + 1) hfi.out hq1 (Nat.lt_of_le_of_lt (Nat.le_of_eq hmsz.out) (by omega)) v7 hcT w hE sv7 (Nat.le_refl _) (Nat.le_succ _)).mono ?_
              rintro e v8 hpost
              clear hcT
              by_cases hbd : s2.bud = 0
              · rw [hTk0.out hbd] at hpost
                obtain ⟨ho, hc5, hk5⟩ := hpost
                have ho' : e = .returned (.agg (outC 0 0 0 (.slice none 0 0) 0 false 2 0 wrongT (.slice none 0 0) true)) := ho
                subst ho'
                have sv5 := Keep2.base sv7 (Nat.le_refl _) (Nat.le_succ _) hk5
                obtain ⟨OUT, hO⟩ : ∃ OUT, OUT = (outC 0 0 0 (.slice none 0 0) 0 false 2 0 wrongT (.slice none 0 0) true) := ⟨_, rfl⟩
                rw [← hO]
                have hone : OUT.all (·.oneCell') = true := by rw [hO]; exact out_one _ _ _ _ _ _ _ _ _ _ _ _ _ _ _
                have hiO : (Tryd.prog.info? 32).map (·.size) = some OUT.size := by rw [hO]; exact info32
                have hs0 : out0.size = OUT.size := by rw [hO]; rfl
                replace hiO := Lib.hid hiO
                replace hO := Lib.hid hO
                have hlB : w.heap.size < v1.heap.size ∧ w.heap.size + 1 < v1.heap.size := ⟨Nat.lt_of_lt_of_le hltc.1 hv1.size, Nat.lt_of_lt_of_le hltc.2 hv1.size⟩
                obtain ⟨hB5, hB6, hc6, hb6⟩ := put_row (B := v1.heap.size) (OUT := OUT) sv7 (Nat.le_refl _) (Nat.le_succ _) xv6.out (Nat.le_of_lt hlB.1) (by omega) (by omega) hc5 hk5
                replace hB5 := Lib.hid hB5
                refine hK.out _ _ (fun _ => sv5) ?_
                clear hK K
                try simp only [Act.put, List.setIfInBounds_toArray, List.set_cons_zero, List.set_cons_succ]
                refine wpAnyT_one (i := 15) (o := ⟨none, _, _, _, _, _⟩) (by kernel_rfl) rfl (fun K hK => ?_)
                refine wp_store_row 32 _ _ rfl v1.heap.size OUT rfl rfl 32 out0 hB5.out hiO.out hs0 hone (hK.out _ _ (fun h => absurd rfl h) ?_)
                clear hK K
                try simp only [Act.put, List.setIfInBounds_toArray, List.set_cons_zero, List.set_cons_succ]
                refine wpAnyT_done (by kernel_rfl) ?_ _
                obtain ⟨w6, hw6⟩ : ∃ w6, w6 = v8.setRow v1.heap.size OUT := ⟨_, rfl⟩
                rw [← hw6] at hB6 hc6 hb6 ⊢
                generalize v1.heap.size = B6 at *
                clear hB5 hone hs0 hw6
                have p19 : w6.cell? ⟨B6, 19, none⟩ = some (.bool true) := by rw [cell_of_box hB6, hO.out]; rfl
                have p17 : w6.cell? ⟨B6, 17, none⟩ = some (.string wrongT) := by rw [cell_of_box hB6, hO.out]; rfl
                have hltB : B6 < w6.heap.size := (Array.getElem?_eq_some_iff.1 hB6).1
                replace hB6 := Lib.hid hB6
                replace hc6 := Lib.hid hc6
                replace hb6 := Lib.hid hb6
                go_wp2_with fail
                refine (alive_calls _ (hE.below hb6.out)).mono ?_
                rintro e w7 ⟨rfl, hb7⟩
                have p17' := (hb7.cell (p := ⟨B6, 17, none⟩) hltB).trans p17
                have hb7' := hbx.out.trans ((hb6.out.trans (hb7.mono hb6.out.size)).mono hbx.out.size)
                have hwt := wrong_eq
                go_wp2_with fail
                go_ret
                exact ⟨rfl, hb7'⟩
              · rw [hTk1.out hbd] at hpost
                obtain ⟨ho, hc5, hk5⟩ := hpost
                have ho' : ∃ A5 c5, e = .returned (.agg (outC dn 1 (s2.num + 1) (.slice A5 s2.args.length c5) 0 true 0 0 ⟨#[]⟩ (.slice none 0 0) false)) := ho
                obtain ⟨A5, c5, rfl⟩ := ho'
                have sv5 := Keep2.base sv7 (Nat.le_refl _) (Nat.le_succ _) hk5
                obtain ⟨OUT, hO⟩ : ∃ OUT, OUT = (outC dn 1 (s2.num + 1) (.slice A5 s2.args.length c5) 0 true 0 0 ⟨#[]⟩ (.slice none 0 0) false) := ⟨_, rfl⟩
                rw [← hO]
                have hone : OUT.all (·.oneCell') = true := by rw [hO]; exact out_one _ _ _ _ _ _ _ _ _ _ _ _ _ _ _
                have hiO : (Tryd.prog.info? 32).map (·.size) = some OUT.size := by rw [hO]; exact info32
                have hs0 : out0.size = OUT.size := by rw [hO]; rfl
                replace hiO := Lib.hid hiO
                replace hO := Lib.hid hO
                have hlB : w.heap.size < v1.heap.size ∧ w.heap.size + 1 < v1.heap.size := ⟨Nat.lt_of_lt_of_le hltc.1 hv1.size, Nat.lt_of_lt_of_le hltc.2 hv1.size⟩
                obtain ⟨hB5, hB6, hc6, hb6⟩ := put_row (B := v1.heap.size) (OUT := OUT) sv7 (Nat.le_refl _) (Nat.le_succ _) xv6.out (Nat.le_of_lt hlB.1) (by omega) (by omega) hc5 hk5
                replace hB5 := Lib.hid hB5
                refine hK.out _ _ (fun _ => sv5) ?_
                clear hK K
                try simp only [Act.put, List.setIfInBounds_toArray, List.set_cons_zero, List.set_cons_succ]
                refine wpAnyT_one (i := 15) (o := ⟨none, _, _, _, _, _⟩) (by kernel_rfl) rfl (fun K hK => ?_)
                refine wp_store_row 32 _ _ rfl v1.heap.size OUT rfl rfl 32 out0 hB5.out hiO.out hs0 hone (hK.out _ _ (fun h => absurd rfl h) ?_)
                clear hK K
                try simp only [Act.put, List.setIfInBounds_toArray, List.set_cons_zero, List.set_cons_succ]
                refine wpAnyT_done (by kernel_rfl) ?_ _
                obtain ⟨w6, hw6⟩ : ∃ w6, w6 = v8.setRow v1.heap.size OUT := ⟨_, rfl⟩
                rw [← hw6] at hB6 hc6 hb6 ⊢
                generalize v1.heap.size = B6 at *
                clear hB5 hone hs0 hw6
                have p19 : w6.cell? ⟨B6, 19, none⟩ = some (.bool false) := by rw [cell_of_box hB6, hO.out]; rfl
                have p14 : w6.cell? ⟨B6, 14, none⟩ = some (.bool true) := by rw [cell_of_box hB6, hO.out]; rfl
                have p0 : w6.cell? ⟨B6, 0, none⟩ = some (.int .i64 dn) := by rw [cell_of_box hB6, hO.out]; rfl
                have hltB : B6 < w6.heap.size := (Array.getElem?_eq_some_iff.1 hB6).1
                replace hB6 := Lib.hid hB6
                replace hc6 := Lib.hid hc6
                replace hb6 := Lib.hid hb6
                have hwv : whereV (learnS s2 ds dn) ds = dn := learn_where s2 ds dn
                replace hwv := Lib.hid hwv
                go_wp2_with fail
                refine wp_region_last (S := fun W9 => Below w6.heap.size w6 W9) 21 (by kernel_rfl) ?_
                have hr0 : Below w6.heap.size w6 w6.drew := ⟨rfl, rfl, rfl, Nat.le_refl _, fun _ _ => rfl⟩
                have hlt6 : W.heap.size < w6.heap.size := Nat.lt_of_lt_of_le hltx hb6.out.size
                have y1 := (hb6.out.cell (p := ⟨W.heap.size, 1, none⟩) hltx).trans hd1.out
                have y2 := (hb6.out.cell (p := ⟨W.heap.size, 2, none⟩) hltx).trans hd2.out
                replace y1 := Lib.hid y1
                replace y2 := Lib.hid y2
                replace p14 := Lib.hid p14
                replace p0 := Lib.hid p0
                replace p19 := Lib.hid p19
                refine wpAnyT_one (i := 0) (o := ⟨some 101, _, _, _, _, _⟩) (by kernel_rfl) rfl (fun K hK => ?_)
                go_simp
                have hbr := hb6.out.trans (hr0.mono hb6.out.size)
                refine (alive_calls w6.drew (hE.below hbr)).mono ?_
                rintro e w7 ⟨rfl, hb7⟩
                have hr7 : Below w6.heap.size w6 w7 := hr0.trans (hb7.mono hr0.size)
                refine hK.out _ _ (fun _ => hr7) ?_
                clear hK K
                try simp only [Act.put, List.setIfInBounds_toArray, List.set_cons_zero, List.set_cons_succ]
                refine wpAnyT_take (i := 1) (oi := ⟨some 102, _, _, _, _, _⟩) (v := .bool true) rfl (by kernel_rfl) (by kernel_rfl) (by kernel_rfl) (by kernel_rfl) (fun _ _ _ h => h) (Or.inl ⟨by rfl, fun W9 hW => by go_simp⟩) hr7 ?_
                try simp only [Act.put, List.setIfInBounds_toArray, List.set_cons_zero, List.set_cons_succ]
                refine wpAnyT_take (i := 2) (oi := ⟨some 103, _, _, _, _, _⟩) (v := .pointer (some ⟨B6, 14, none⟩)) rfl (by kernel_rfl) (by kernel_rfl) (by kernel_rfl) (by kernel_rfl) (fun _ _ _ h => h) (Or.inl ⟨by rfl, fun W9 hW => by go_simp⟩) hr7 ?_
                try simp only [Act.put, List.setIfInBounds_toArray, List.set_cons_zero, List.set_cons_succ]
                refine wpAnyT_take (i := 3) (oi := ⟨some 104, _, _, _, _, _⟩) (v := .bool true) rfl (by kernel_rfl) (by kernel_rfl) (by kernel_rfl) (by kernel_rfl) (fun _ _ _ h => h) (Or.inl ⟨by rfl, fun W9 hW => by have q9 := (hW.cell (p := ⟨B6, 14, none⟩) hltB).trans p14.out; go_simp⟩) hr7 ?_
                try simp only [Act.put, List.setIfInBounds_toArray, List.set_cons_zero, List.set_cons_succ]
                refine wpAnyT_take (i := 4) (oi := ⟨some 105, _, _, _, _, _⟩) (v := .bool true) rfl (by kernel_rfl) (by kernel_rfl) (by kernel_rfl) (by kernel_rfl) (fun _ _ _ h => h) (Or.inl ⟨by rfl, fun W9 hW => by go_simp⟩) hr7 ?_
                try simp only [Act.put, List.setIfInBounds_toArray, List.set_cons_zero, List.set_cons_succ]
                refine wpAnyT_take (i := 5) (oi := ⟨some 106, _, _, _, _, _⟩) (v := .bool true) rfl (by kernel_rfl) (by kernel_rfl) (by kernel_rfl) (by kernel_rfl) (fun _ _ _ h => h) (Or.inl ⟨by rfl, fun W9 hW => by go_simp⟩) hr7 ?_
                try simp only [Act.put, List.setIfInBounds_toArray, List.set_cons_zero, List.set_cons_succ]
                refine wpAnyT_take (i := 6) (oi := ⟨some 107, _, _, _, _, _⟩) (v := .pointer (some ⟨B6, 0, none⟩)) rfl (by kernel_rfl) (by kernel_rfl) (by kernel_rfl) (by kernel_rfl) (fun _ _ _ h => h) (Or.inl ⟨by rfl, fun W9 hW => by go_simp⟩) hr7 ?_
                try simp only [Act.put, List.setIfInBounds_toArray, List.set_cons_zero, List.set_cons_succ]
                refine wpAnyT_take (i := 7) (oi := ⟨some 108, _, _, _, _, _⟩) (v := .int .i64 dn) rfl (by kernel_rfl) (by kernel_rfl) (by kernel_rfl) (by kernel_rfl) (fun _ _ _ h => h) (Or.inl ⟨by rfl, fun W9 hW => by have q9 := (hW.cell (p := ⟨B6, 0, none⟩) hltB).trans p0.out; go_simp⟩) hr7 ?_
                try simp only [Act.put, List.setIfInBounds_toArray, List.set_cons_zero, List.set_cons_succ]
                refine wpAnyT_take (i := 8) (oi := ⟨some 109, _, _, _, _, _⟩) (v := .pointer (some ⟨W.heap.size, 2, none⟩)) rfl (by kernel_rfl) (by kernel_rfl) (by kernel_rfl) (by kernel_rfl) (fun _ _ _ h => h) (Or.inl ⟨by rfl, fun W9 hW => by go_simp⟩) hr7 ?_
                try simp only [Act.put, List.setIfInBounds_toArray, List.set_cons_zero, List.set_cons_succ]
                refine wpAnyT_take (i := 9) (oi := ⟨some 110, _, _, _, _, _⟩) (v := .int .i64 dn) rfl (by kernel_rfl) (by kernel_rfl) (by kernel_rfl) (by kernel_rfl) (fun _ _ _ h => h) (Or.inl ⟨by rfl, fun W9 hW => by have q9 := (hW.cell (p := ⟨W.heap.size, 2, none⟩) hlt6).trans y2.out; go_simp⟩) hr7 ?_
                try simp only [Act.put, List.setIfInBounds_toArray, List.set_cons_zero, List.set_cons_succ]
                refine wpAnyT_take (i := 10) (oi := ⟨some 111, _, _, _, _, _⟩) (v := .bool true) rfl (by kernel_rfl) (by kernel_rfl) (by kernel_rfl) (by kernel_rfl) (fun _ _ _ h => h) (Or.inl ⟨by rfl, fun W9 hW => by go_simp⟩) hr7 ?_
                try simp only [Act.put, List.setIfInBounds_toArray, List.set_cons_zero, List.set_cons_succ]
                refine wpAnyT_take (i := 11) (oi := ⟨some 112, _, _, _, _, _⟩) (v := .bool true) rfl (by kernel_rfl) (by kernel_rfl) (by kernel_rfl) (by kernel_rfl) (fun _ _ _ h => h) (Or.inl ⟨by rfl, fun W9 hW => by go_simp⟩) hr7 ?_
                try simp only [Act.put, List.setIfInBounds_toArray, List.set_cons_zero, List.set_cons_succ]
                refine wpAnyT_take (i := 12) (oi := ⟨some 113, _, _, _, _, _⟩) (v := .bool true) rfl (by kernel_rfl) (by kernel_rfl) (by kernel_rfl) (by kernel_rfl) (fun _ _ _ h => h) (Or.inl ⟨by rfl, fun W9 hW => by go_simp⟩) hr7 ?_
                try simp only [Act.put, List.setIfInBounds_toArray, List.set_cons_zero, List.set_cons_succ]
                refine wpAnyT_take (i := 13) (oi := ⟨some 114, _, _, _, _, _⟩) (v := .pointer (some ⟨w.heap.size + 1, 0, none⟩)) rfl (by kernel_rfl) (by kernel_rfl) (by kernel_rfl) (by kernel_rfl) (fun _ _ _ h => h) (Or.inl ⟨by rfl, fun W9 hW => by go_simp⟩) hr7 ?_
                try simp only [Act.put, List.setIfInBounds_toArray, List.set_cons_zero, List.set_cons_succ]
                refine wpAnyT_take (i := 14) (oi := ⟨some 115, _, _, _, _, _⟩) (v := .pointer (some ⟨W.heap.size, 1, none⟩)) rfl (by kernel_rfl) (by kernel_rfl) (by kernel_rfl) (by kernel_rfl) (fun _ _ _ h => h) (Or.inl ⟨by rfl, fun W9 hW => by go_simp⟩) hr7 ?_
                try simp only [Act.put, List.setIfInBounds_toArray, List.set_cons_zero, List.set_cons_succ]
                refine wpAnyT_take (i := 15) (oi := ⟨some 116, _, _, _, _, _⟩) (v := .int .i64 ds) rfl (by kernel_rfl) (by kernel_rfl) (by kernel_rfl) (by kernel_rfl) (fun _ _ _ h => h) (Or.inl ⟨by rfl, fun W9 hW => by have q9 := (hW.cell (p := ⟨W.heap.size, 1, none⟩) hlt6).trans y1.out; go_simp⟩) hr7 ?_
                try simp only [Act.put, List.setIfInBounds_toArray, List.set_cons_zero, List.set_cons_succ]
                refine wpAnyT_take (i := 17) (oi := ⟨some 118, _, _, _, _, _⟩) (v := .pointer (some ⟨W.heap.size, 2, none⟩)) rfl (by kernel_rfl) (by kernel_rfl) (by kernel_rfl) (by kernel_rfl) (fun _ _ _ h => h) (Or.inl ⟨by rfl, fun W9 hW => by go_simp⟩) hr7 ?_
                try simp only [Act.put, List.setIfInBounds_toArray, List.set_cons_zero, List.set_cons_succ]
                refine wpAnyT_take (i := 18) (oi := ⟨some 119, _, _, _, _, _⟩) (v := .int .i64 dn) rfl (by kernel_rfl) (by kernel_rfl) (by kernel_rfl) (by kernel_rfl) (fun _ _ _ h => h) (Or.inl ⟨by rfl, fun W9 hW => by have q9 := (hW.cell (p := ⟨W.heap.size, 2, none⟩) hlt6).trans y2.out; go_simp⟩) hr7 ?_
                try simp only [Act.put, List.setIfInBounds_toArray, List.set_cons_zero, List.set_cons_succ]
                refine wpAnyT_one (i := 16) (o := ⟨some 117, _, _, _, _, _⟩) (by kernel_rfl) rfl (fun K hK => ?_)
                go_simp
                refine (Where_calls w.heap.size (w.heap.size + 1) (learnS s2 ds dn) ds bds w7 (hc6.out.below hr7)).mono ?_
                rintro e w8 ⟨rfl, rfl⟩
                rw [hwv.out]
                refine hK.out _ _ (fun _ => hr7) ?_
                clear hK K
                try simp only [Act.put, List.setIfInBounds_toArray, List.set_cons_zero, List.set_cons_succ]
                refine wpAnyT_take (i := 19) (oi := ⟨some 120, _, _, _, _, _⟩) (v := .bool true) rfl (by kernel_rfl) (by kernel_rfl) (by kernel_rfl) (by kernel_rfl) (fun _ _ _ h => h) (Or.inl ⟨by rfl, fun W9 hW => by go_simp⟩) hr7 ?_
                try simp only [Act.put, List.setIfInBounds_toArray, List.set_cons_zero, List.set_cons_succ]
                refine wpAnyT_take (i := 20) (oi := ⟨some 121, _, _, _, _, _⟩) (v := .bool true) rfl (by kernel_rfl) (by kernel_rfl) (by kernel_rfl) (by kernel_rfl) (fun _ _ _ h => h) (Or.inl ⟨by rfl, fun W9 hW => by go_simp⟩) hr7 ?_
                try simp only [Act.put, List.setIfInBounds_toArray, List.set_cons_zero, List.set_cons_succ]
                refine wpAnyT_one (i := 21) (o := ⟨some 6, _, _, _, _, _⟩) (by kernel_rfl) rfl (fun K hK => ?_)
                go_simp
                refine hK.out _ _ (fun h => absurd rfl h) ?_
                clear hK K
                try simp only [Act.put, List.setIfInBounds_toArray, List.set_cons_zero, List.set_cons_succ]
                refine wpAnyT_done (by kernel_rfl) ?_ _
                have hb7' := hbx.out.trans ((hb6.out.trans (hr7.mono hb6.out.size)).mono hbx.out.size)
                go_wp2_with fail
                go_ret
                exact ⟨rfl, hb7'⟩
          · go_simp
            obtain ⟨v9, ev9⟩ : ∃ W9, W9 = v0.alloc (.cells #[.int .i64 0, .int .i64 0, .int .i64 0, .int .i64 0, .int .i64 0, .string ⟨#[]⟩, .string ⟨#[]⟩, .slice none 0 0, .int .i64 0, .int .i64 0, .string ⟨#[]⟩, .slice none 0 0, .bool false, .int .i64 0, .bool false, .int .i64 0, .int .i64 0, .string ⟨#[]⟩, .slice none 0 0, .bool false] 32) := ⟨_, rfl⟩
            rw [← ev9]
            have hv9 : Below w5.heap.size w5 v9 := by rw [ev9]; exact below_alloc hv0 _
            have sv9 := hb.out.trans (hv9.mono hb.out.size)
            have xv9 : v9.heap[v0.heap.size]? = some (.cells out0 32 (0, 0)) := by rw [ev9]; exact heap_alloc_new _ _
            replace xv9 := Lib.hid xv9
            clear ev9
            refine hK.out _ _ (fun _ => sv9) ?_
            clear hK K
            try simp only [Act.put, List.setIfInBounds_toArray, List.set_cons_zero, List.set_cons_succ]
            refine wpAnyT_one (i := 4) (o := ⟨some 82, _, _, _, _, _⟩) (by kernel_rfl) rfl (fun K hK => ?_)
            go_simp
            refine (dg1 v9).mono ?_
            rintro e v10 ⟨rfl, bv10⟩
            have hv10 : Below w5.heap.size w5 v10 := hv9.trans (bv10.mono hv9.size)
            have sv10 := hb.out.trans (hv10.mono hb.out.size)
            replace xv9 := Lib.hid ((bv10.block _ (Array.getElem?_eq_some_iff.1 xv9.out).1).trans xv9.out)
            refine hK.out _ _ (fun _ => sv10) ?_
            clear hK K bv10
            try simp only [Act.put, List.setIfInBounds_toArray, List.set_cons_zero, List.set_cons_succ]
            refine wpAnyT_take (i := 5) (oi := ⟨some 83, _, _, _, _, _⟩) (v := .string ((⟨#[77, 79, 86, 69, 68, 32]⟩ : ByteArray) ++ ⟨S1.toArray⟩)) rfl (by kernel_rfl) (by kernel_rfl) (by kernel_rfl) (by kernel_rfl) (fun _ _ _ h => h) (Or.inl ⟨by rfl, fun W9 hW => by go_simp⟩) sv10 ?_
            try simp only [Act.put, List.setIfInBounds_toArray, List.set_cons_zero, List.set_cons_succ]
            refine wpAnyT_take (i := 6) (oi := ⟨some 84, _, _, _, _, _⟩) (v := .string (((⟨#[77, 79, 86, 69, 68, 32]⟩ : ByteArray) ++ ⟨S1.toArray⟩) ++ ⟨#[32]⟩)) rfl (by kernel_rfl) (by kernel_rfl) (by kernel_rfl) (by kernel_rfl) (fun _ _ _ h => h) (Or.inl ⟨by rfl, fun W9 hW => by go_simp⟩) sv10 ?_
            try simp only [Act.put, List.setIfInBounds_toArray, List.set_cons_zero, List.set_cons_succ]
            refine wpAnyT_one (i := 9) (o := ⟨some 87, _, _, _, _, _⟩) (by kernel_rfl) rfl (fun K hK => ?_)
            go_simp
            refine (dg2 v10).mono ?_
            rintro e v11 ⟨rfl, bv11⟩
            have hv11 : Below w5.heap.size w5 v11 := hv10.trans (bv11.mono hv10.size)
            have sv11 := hb.out.trans (hv11.mono hb.out.size)
            replace xv9 := Lib.hid ((bv11.block _ (Array.getElem?_eq_some_iff.1 xv9.out).1).trans xv9.out)
            refine hK.out _ _ (fun _ => sv11) ?_
            clear hK K bv11
            try simp only [Act.put, List.setIfInBounds_toArray, List.set_cons_zero, List.set_cons_succ]
            refine wpAnyT_take (i := 10) (oi := ⟨some 88, _, _, _, _, _⟩) (v := .string ((((⟨#[77, 79, 86, 69, 68, 32]⟩ : ByteArray) ++ ⟨S1.toArray⟩) ++ ⟨#[32]⟩) ++ ⟨S2.toArray⟩)) rfl (by kernel_rfl) (by kernel_rfl) (by kernel_rfl) (by kernel_rfl) (fun _ _ _ h => h) (Or.inl ⟨by rfl, fun W9 hW => by go_simp⟩) sv11 ?_
            try simp only [Act.put, List.setIfInBounds_toArray, List.set_cons_zero, List.set_cons_succ]
            refine wpAnyT_take (i := 11) (oi := ⟨some 89, _, _, _, _, _⟩) (v := .agg #[.int .i64 2, .int .i64 0, .string ((((⟨#[77, 79, 86, 69, 68, 32]⟩ : ByteArray) ++ ⟨S1.toArray⟩) ++ ⟨#[32]⟩) ++ ⟨S2.toArray⟩), .slice none 0 0]) rfl (by kernel_rfl) (by kernel_rfl) (by kernel_rfl) (by kernel_rfl) (fun _ _ _ h => h) (Or.inl ⟨by rfl, fun W9 hW => by go_simp⟩) sv11 ?_
            try simp only [Act.put, List.setIfInBounds_toArray, List.set_cons_zero, List.set_cons_succ]
            refine wpAnyT_take (i := 12) (oi := ⟨some 90, _, _, _, _, _⟩) (v := .agg #[.int .i64 2, .int .i64 s2.num, .int .i64 0, .int .i64 0, .string ⟨#[]⟩, .string ⟨#[]⟩, .slice none 0 0, .int .i64 2, .int .i64 0, .string ((((⟨#[77, 79, 86, 69, 68, 32]⟩ : ByteArray) ++ ⟨S1.toArray⟩) ++ ⟨#[32]⟩) ++ ⟨S2.toArray⟩), .slice none 0 0, .bool false, .int .i64 0]) rfl (by kernel_rfl) (by kernel_rfl) (by kernel_rfl) (by kernel_rfl) (fun _ _ _ h => h) (Or.inl ⟨by rfl, fun W9 hW => by go_simp⟩) sv11 ?_
            try simp only [Act.put, List.setIfInBounds_toArray, List.set_cons_zero, List.set_cons_succ]
            refine wpAnyT_one (i := 13) (o := ⟨some 91, _, _, _, _, _⟩) (by kernel_rfl) rfl (fun K hK => ?_)
            go_simp
            have hcT := hcl.out.below hv11
            refine (Take_calls w.heap.size (w.heap.size + 1) s2 (learnL s2.num (((((⟨#[77, 79, 86, 69, 68, 32]⟩ : ByteArray) ++ ⟨S1.toArray⟩) ++ ⟨#[32]⟩) ++ ⟨S2.toArray⟩) : ByteArray)) (l.length + 1) hfi.out hq1 (Nat.lt_of_le_of_lt (Nat.le_of_eq hmsz.out) (by omega)) v11 hcT w hE sv11 (Nat.le_refl _) (Nat.le_succ _)).mono ?_
            rintro e v12 hpost
            clear hcT
            by_cases hbd : s2.bud = 0
            · rw [hTk0.out hbd] at hpost
              obtain ⟨ho, hc5, hk5⟩ := hpost
              have ho' : e = .returned (.agg (outC 0 0 0 (.slice none 0 0) 0 false 2 0 wrongT (.slice none 0 0) true)) := ho
              subst ho'
              have sv5 := Keep2.base sv11 (Nat.le_refl _) (Nat.le_succ _) hk5
              obtain ⟨OUT, hO⟩ : ∃ OUT, OUT = (outC 0 0 0 (.slice none 0 0) 0 false 2 0 wrongT (.slice none 0 0) true) := ⟨_, rfl⟩
              rw [← hO]
              have hone : OUT.all (·.oneCell') = true := by rw [hO]; exact out_one _ _ _ _ _ _ _ _ _ _ _ _ _ _ _
              have hiO : (Tryd.prog.info? 32).map (·.size) = some OUT.size := by rw [hO]; exact info32
              have hs0 : out0.size = OUT.size := by rw [hO]; rfl
              replace hiO := Lib.hid hiO
              replace hO := Lib.hid hO
              have hlB : w.heap.size < v0.heap.size ∧ w.heap.size + 1 < v0.heap.size := ⟨Nat.lt_of_lt_of_le hltc.1 hv0.size, Nat.lt_of_lt_of_le hltc.2 hv0.size⟩
              obtain ⟨hB5, hB6, hc6, hb6⟩ := put_row (B := v0.heap.size) (OUT := OUT) sv11 (Nat.le_refl _) (Nat.le_succ _) xv9.out (Nat.le_of_lt hlB.1) (by omega) (by omega) hc5 hk5
              replace hB5 := Lib.hid hB5
              refine hK.out _ _ (fun _ => sv5) ?_
              clear hK K
              try simp only [Act.put, List.setIfInBounds_toArray, List.set_cons_zero, List.set_cons_succ]
              refine wpAnyT_one (i := 15) (o := ⟨none, _, _, _, _, _⟩) (by kernel_rfl) rfl (fun K hK => ?_)
              refine wp_store_row 32 _ _ rfl v0.heap.size OUT rfl rfl 32 out0 hB5.out hiO.out hs0 hone (hK.out _ _ (fun h => absurd rfl h) ?_)
              clear hK K
              try simp only [Act.put, List.setIfInBounds_toArray, List.set_cons_zero, List.set_cons_succ]
              refine wpAnyT_done (by kernel_rfl) ?_ _
              obtain ⟨w6, hw6⟩ : ∃ w6, w6 = v12.setRow v0.heap.size OUT := ⟨_, rfl⟩
              rw [← hw6] at hB6 hc6 hb6 ⊢
              generalize v0.heap.size = B6 at *
              clear hB5 hone hs0 hw6
              have p19 : w6.cell? ⟨B6, 19, none⟩ = some (.bool true) := by rw [cell_of_box hB6, hO.out]; rfl
              have p17 : w6.cell? ⟨B6, 17, none⟩ = some (.string wrongT) := by rw [cell_of_box hB6, hO.out]; rfl
              have hltB : B6 < w6.heap.size := (Array.getElem?_eq_some_iff.1 hB6).1
              replace hB6 := Lib.hid hB6
              replace hc6 := Lib.hid hc6
              replace hb6 := Lib.hid hb6
              go_wp2_with fail
              refine (alive_calls _ (hE.below hb6.out)).mono ?_
              rintro e w7 ⟨rfl, hb7⟩
              have p17' := (hb7.cell (p := ⟨B6, 17, none⟩) hltB).trans p17
              have hb7' := hbx.out.trans ((hb6.out.trans (hb7.mono hb6.out.size)).mono hbx.out.size)
              have hwt := wrong_eq
              go_wp2_with fail
              go_ret
              exact ⟨rfl, hb7'⟩
            · rw [hTk1.out hbd] at hpost
              obtain ⟨ho, hc5, hk5⟩ := hpost
              have ho' : ∃ A5 c5, e = .returned (.agg (outC dn 1 (s2.num + 1) (.slice A5 s2.args.length c5) 0 true 0 0 ⟨#[]⟩ (.slice none 0 0) false)) := ho
              obtain ⟨A5, c5, rfl⟩ := ho'
              have sv5 := Keep2.base sv11 (Nat.le_refl _) (Nat.le_succ _) hk5
              obtain ⟨OUT, hO⟩ : ∃ OUT, OUT = (outC dn 1 (s2.num + 1) (.slice A5 s2.args.length c5) 0 true 0 0 ⟨#[]⟩ (.slice none 0 0) false) := ⟨_, rfl⟩
              rw [← hO]
              have hone : OUT.all (·.oneCell') = true := by rw [hO]; exact out_one _ _ _ _ _ _ _ _ _ _ _ _ _ _ _
              have hiO : (Tryd.prog.info? 32).map (·.size) = some OUT.size := by rw [hO]; exact info32
              have hs0 : out0.size = OUT.size := by rw [hO]; rfl
              replace hiO := Lib.hid hiO
              replace hO := Lib.hid hO
              have hlB : w.heap.size < v0.heap.size ∧ w.heap.size + 1 < v0.heap.size := ⟨Nat.lt_of_lt_of_le hltc.1 hv0.size, Nat.lt_of_lt_of_le hltc.2 hv0.size⟩
              obtain ⟨hB5, hB6, hc6, hb6⟩ := put_row (B := v0.heap.size) (OUT := OUT) sv11 (Nat.le_refl _) (Nat.le_succ _) xv9.out (Nat.le_of_lt hlB.1) (by omega) (by omega) hc5 hk5
              replace hB5 := Lib.hid hB5
              refine hK.out _ _ (fun _ => sv5) ?_
              clear hK K
              try simp only [Act.put, List.setIfInBounds_toArray, List.set_cons_zero, List.set_cons_succ]
              refine wpAnyT_one (i := 15) (o := ⟨none, _, _, _, _, _⟩) (by kernel_rfl) rfl (fun K hK => ?_)
              refine wp_store_row 32 _ _ rfl v0.heap.size OUT rfl rfl 32 out0 hB5.out hiO.out hs0 hone (hK.out _ _ (fun h => absurd rfl h) ?_)
              clear hK K
              try simp only [Act.put, List.setIfInBounds_toArray, List.set_cons_zero, List.set_cons_succ]
              refine wpAnyT_done (by kernel_rfl) ?_ _
              obtain ⟨w6, hw6⟩ : ∃ w6, w6 = v12.setRow v0.heap.size OUT := ⟨_, rfl⟩
              rw [← hw6] at hB6 hc6 hb6 ⊢
              generalize v0.heap.size = B6 at *
              clear hB5 hone hs0 hw6
              have p19 : w6.cell? ⟨B6, 19, none⟩ = some (.bool false) := by rw [cell_of_box hB6, hO.out]; rfl
              have p14 : w6.cell? ⟨B6, 14, none⟩ = some (.bool true) := by rw [cell_of_box hB6, hO.out]; rfl
              have p0 : w6.cell? ⟨B6, 0, none⟩ = some (.int .i64 dn) := by rw [cell_of_box hB6, hO.out]; rfl
              have hltB : B6 < w6.heap.size := (Array.getElem?_eq_some_iff.1 hB6).1
              replace hB6 := Lib.hid hB6
              replace hc6 := Lib.hid hc6
              replace hb6 := Lib.hid hb6
              have hwv : whereV (learnS s2 ds dn) ds = dn := learn_where s2 ds dn
              replace hwv := Lib.hid hwv
              go_wp2_with fail
              refine wp_region_last (S := fun W9 => Below w6.heap.size w6 W9) 21 (by kernel_rfl) ?_
              have hr0 : Below w6.heap.size w6 w6.drew := ⟨rfl, rfl, rfl, Nat.le_refl _, fun _ _ => rfl⟩
              have hlt6 : W.heap.size < w6.heap.size := Nat.lt_of_lt_of_le hltx hb6.out.size
              have y1 := (hb6.out.cell (p := ⟨W.heap.size, 1, none⟩) hltx).trans hd1.out
              have y2 := (hb6.out.cell (p := ⟨W.heap.size, 2, none⟩) hltx).trans hd2.out
              replace y1 := Lib.hid y1
              replace y2 := Lib.hid y2
              replace p14 := Lib.hid p14
              replace p0 := Lib.hid p0
              replace p19 := Lib.hid p19
              refine wpAnyT_one (i := 0) (o := ⟨some 101, _, _, _, _, _⟩) (by kernel_rfl) rfl (fun K hK => ?_)
              go_simp
              have hbr := hb6.out.trans (hr0.mono hb6.out.size)
              refine (alive_calls w6.drew (hE.below hbr)).mono ?_
              rintro e w7 ⟨rfl, hb7⟩
              have hr7 : Below w6.heap.size w6 w7 := hr0.trans (hb7.mono hr0.size)
              refine hK.out _ _ (fun _ => hr7) ?_
              clear hK K
              try simp only [Act.put, List.setIfInBounds_toArray, List.set_cons_zero, List.set_cons_succ]
              refine wpAnyT_take (i := 1) (oi := ⟨some 102, _, _, _, _, _⟩) (v := .bool true) rfl (by kernel_rfl) (by kernel_rfl) (by kernel_rfl) (by kernel_rfl) (fun _ _ _ h => h) (Or.inl ⟨by rfl, fun W9 hW => by go_simp⟩) hr7 ?_
              try simp only [Act.put, List.setIfInBounds_toArray, List.set_cons_zero, List.set_cons_succ]
              refine wpAnyT_take (i := 2) (oi := ⟨some 103, _, _, _, _, _⟩) (v := .pointer (some ⟨B6, 14, none⟩)) rfl (by kernel_rfl) (by kernel_rfl) (by kernel_rfl) (by kernel_rfl) (fun _ _ _ h => h) (Or.inl ⟨by rfl, fun W9 hW => by go_simp⟩) hr7 ?_
              try simp only [Act.put, List.setIfInBounds_toArray, List.set_cons_zero, List.set_cons_succ]
              refine wpAnyT_take (i := 3) (oi := ⟨some 104, _, _, _, _, _⟩) (v := .bool true) rfl (by kernel_rfl) (by kernel_rfl) (by kernel_rfl) (by kernel_rfl) (fun _ _ _ h => h) (Or.inl ⟨by rfl, fun W9 hW => by have q9 := (hW.cell (p := ⟨B6, 14, none⟩) hltB).trans p14.out; go_simp⟩) hr7 ?_
              try simp only [Act.put, List.setIfInBounds_toArray, List.set_cons_zero, List.set_cons_succ]
              refine wpAnyT_take (i := 4) (oi := ⟨some 105, _, _, _, _, _⟩) (v := .bool true) rfl (by kernel_rfl) (by kernel_rfl) (by kernel_rfl) (by kernel_rfl) (fun _ _ _ h => h) (Or.inl ⟨by rfl, fun W9 hW => by go_simp⟩) hr7 ?_
              try simp only [Act.put, List.setIfInBounds_toArray, List.set_cons_zero, List.set_cons_succ]
              refine wpAnyT_take (i := 5) (oi := ⟨some 106, _, _, _, _, _⟩) (v := .bool true) rfl (by kernel_rfl) (by kernel_rfl) (by kernel_rfl) (by kernel_rfl) (fun _ _ _ h => h) (Or.inl ⟨by rfl, fun W9 hW => by go_simp⟩) hr7 ?_
              try simp only [Act.put, List.setIfInBounds_toArray, List.set_cons_zero, List.set_cons_succ]
              refine wpAnyT_take (i := 6) (oi := ⟨some 107, _, _, _, _, _⟩) (v := .pointer (some ⟨B6, 0, none⟩)) rfl (by kernel_rfl) (by kernel_rfl) (by kernel_rfl) (by kernel_rfl) (fun _ _ _ h => h) (Or.inl ⟨by rfl, fun W9 hW => by go_simp⟩) hr7 ?_
              try simp only [Act.put, List.setIfInBounds_toArray, List.set_cons_zero, List.set_cons_succ]
              refine wpAnyT_take (i := 7) (oi := ⟨some 108, _, _, _, _, _⟩) (v := .int .i64 dn) rfl (by kernel_rfl) (by kernel_rfl) (by kernel_rfl) (by kernel_rfl) (fun _ _ _ h => h) (Or.inl ⟨by rfl, fun W9 hW => by have q9 := (hW.cell (p := ⟨B6, 0, none⟩) hltB).trans p0.out; go_simp⟩) hr7 ?_
              try simp only [Act.put, List.setIfInBounds_toArray, List.set_cons_zero, List.set_cons_succ]
              refine wpAnyT_take (i := 8) (oi := ⟨some 109, _, _, _, _, _⟩) (v := .pointer (some ⟨W.heap.size, 2, none⟩)) rfl (by kernel_rfl) (by kernel_rfl) (by kernel_rfl) (by kernel_rfl) (fun _ _ _ h => h) (Or.inl ⟨by rfl, fun W9 hW => by go_simp⟩) hr7 ?_
              try simp only [Act.put, List.setIfInBounds_toArray, List.set_cons_zero, List.set_cons_succ]
              refine wpAnyT_take (i := 9) (oi := ⟨some 110, _, _, _, _, _⟩) (v := .int .i64 dn) rfl (by kernel_rfl) (by kernel_rfl) (by kernel_rfl) (by kernel_rfl) (fun _ _ _ h => h) (Or.inl ⟨by rfl, fun W9 hW => by have q9 := (hW.cell (p := ⟨W.heap.size, 2, none⟩) hlt6).trans y2.out; go_simp⟩) hr7 ?_
              try simp only [Act.put, List.setIfInBounds_toArray, List.set_cons_zero, List.set_cons_succ]
              refine wpAnyT_take (i := 10) (oi := ⟨some 111, _, _, _, _, _⟩) (v := .bool true) rfl (by kernel_rfl) (by kernel_rfl) (by kernel_rfl) (by kernel_rfl) (fun _ _ _ h => h) (Or.inl ⟨by rfl, fun W9 hW => by go_simp⟩) hr7 ?_
              try simp only [Act.put, List.setIfInBounds_toArray, List.set_cons_zero, List.set_cons_succ]
              refine wpAnyT_take (i := 11) (oi := ⟨some 112, _, _, _, _, _⟩) (v := .bool true) rfl (by kernel_rfl) (by kernel_rfl) (by kernel_rfl) (by kernel_rfl) (fun _ _ _ h => h) (Or.inl ⟨by rfl, fun W9 hW => by go_simp⟩) hr7 ?_
              try simp only [Act.put, List.setIfInBounds_toArray, List.set_cons_zero, List.set_cons_succ]
              refine wpAnyT_take (i := 12) (oi := ⟨some 113, _, _, _, _, _⟩) (v := .bool true) rfl (by kernel_rfl) (by kernel_rfl) (by kernel_rfl) (by kernel_rfl) (fun _ _ _ h => h) (Or.inl ⟨by rfl, fun W9 hW => by go_simp⟩) hr7 ?_
              try simp only [Act.put, List.setIfInBounds_toArray, List.set_cons_zero, List.set_cons_succ]
              refine wpAnyT_take (i := 13) (oi := ⟨some 114, _, _, _, _, _⟩) (v := .pointer (some ⟨w.heap.size + 1, 0, none⟩)) rfl (by kernel_rfl) (by kernel_rfl) (by kernel_rfl) (by kernel_rfl) (fun _ _ _ h => h) (Or.inl ⟨by rfl, fun W9 hW => by go_simp⟩) hr7 ?_
              try simp only [Act.put, List.setIfInBounds_toArray, List.set_cons_zero, List.set_cons_succ]
              refine wpAnyT_take (i := 14) (oi := ⟨some 115, _, _, _, _, _⟩) (v := .pointer (some ⟨W.heap.size, 1, none⟩)) rfl (by kernel_rfl) (by kernel_rfl) (by kernel_rfl) (by kernel_rfl) (fun _ _ _ h => h) (Or.inl ⟨by rfl, fun W9 hW => by go_simp⟩) hr7 ?_
              try simp only [Act.put, List.setIfInBounds_toArray, List.set_cons_zero, List.set_cons_succ]
              refine wpAnyT_take (i := 15) (oi := ⟨some 116, _, _, _, _, _⟩) (v := .int .i64 ds) rfl (by kernel_rfl) (by kernel_rfl) (by kernel_rfl) (by kernel_rfl) (fun _ _ _ h => h) (Or.inl ⟨by rfl, fun W9 hW => by have q9 := (hW.cell (p := ⟨W.heap.size, 1, none⟩) hlt6).trans y1.out; go_simp⟩) hr7 ?_
              try simp only [Act.put, List.setIfInBounds_toArray, List.set_cons_zero, List.set_cons_succ]
              refine wpAnyT_take (i := 17) (oi := ⟨some 118, _, _, _, _, _⟩) (v := .pointer (some ⟨W.heap.size, 2, none⟩)) rfl (by kernel_rfl) (by kernel_rfl) (by kernel_rfl) (by kernel_rfl) (fun _ _ _ h => h) (Or.inl ⟨by rfl, fun W9 hW => by go_simp⟩) hr7 ?_
              try simp only [Act.put, List.setIfInBounds_toArray, List.set_cons_zero, List.set_cons_succ]
              refine wpAnyT_take (i := 18) (oi := ⟨some 119, _, _, _, _, _⟩) (v := .int .i64 dn) rfl (by kernel_rfl) (by kernel_rfl) (by kernel_rfl) (by kernel_rfl) (fun _ _ _ h => h) (Or.inl ⟨by rfl, fun W9 hW => by have q9 := (hW.cell (p := ⟨W.heap.size, 2, none⟩) hlt6).trans y2.out; go_simp⟩) hr7 ?_
              try simp only [Act.put, List.setIfInBounds_toArray, List.set_cons_zero, List.set_cons_succ]
              refine wpAnyT_one (i := 16) (o := ⟨some 117, _, _, _, _, _⟩) (by kernel_rfl) rfl (fun K hK => ?_)
              go_simp
              refine (Where_calls w.heap.size (w.heap.size + 1) (learnS s2 ds dn) ds bds w7 (hc6.out.below hr7)).mono ?_
              rintro e w8 ⟨rfl, rfl⟩
              rw [hwv.out]
              refine hK.out _ _ (fun _ => hr7) ?_
              clear hK K
              try simp only [Act.put, List.setIfInBounds_toArray, List.set_cons_zero, List.set_cons_succ]
              refine wpAnyT_take (i := 19) (oi := ⟨some 120, _, _, _, _, _⟩) (v := .bool true) rfl (by kernel_rfl) (by kernel_rfl) (by kernel_rfl) (by kernel_rfl) (fun _ _ _ h => h) (Or.inl ⟨by rfl, fun W9 hW => by go_simp⟩) hr7 ?_
              try simp only [Act.put, List.setIfInBounds_toArray, List.set_cons_zero, List.set_cons_succ]
              refine wpAnyT_take (i := 20) (oi := ⟨some 121, _, _, _, _, _⟩) (v := .bool true) rfl (by kernel_rfl) (by kernel_rfl) (by kernel_rfl) (by kernel_rfl) (fun _ _ _ h => h) (Or.inl ⟨by rfl, fun W9 hW => by go_simp⟩) hr7 ?_
              try simp only [Act.put, List.setIfInBounds_toArray, List.set_cons_zero, List.set_cons_succ]
              refine wpAnyT_one (i := 21) (o := ⟨some 6, _, _, _, _, _⟩) (by kernel_rfl) rfl (fun K hK => ?_)
              go_simp
              refine hK.out _ _ (fun h => absurd rfl h) ?_
              clear hK K
              try simp only [Act.put, List.setIfInBounds_toArray, List.set_cons_zero, List.set_cons_succ]
              refine wpAnyT_done (by kernel_rfl) ?_ _
              have hb7' := hbx.out.trans ((hb6.out.trans (hr7.mono hb6.out.size)).mono hbx.out.size)
              go_wp2_with fail
              go_ret
              exact ⟨rfl, hb7'⟩
end Go.Proofs.YtpbiohnmmngccaaDoor
