/- The numbers of a client's letters rise by one; an answer to another number does nothing. Conditions: the listed variables as laid. -/
import Derived.Test.YtpbiohnmmngccaaDoorMgA
set_option linter.unusedVariables false
set_option linter.unusedSimpArgs false
namespace Go.Proofs.YtpbiohnmmngccaaDoor
open Go Go.RowKit Go.Maps Go.Proofs.YtpbiohnmmngccaaDoorW.PrintWords
open RtS
theorem info30 : (Tryd.prog.info? 30).map (·.size) = some 13 := by kernel_rfl
theorem letter_one (L : LV) : (lcells L).all (·.oneCell') = true := by
  simp [lcells, Value.oneCell']
def letter0 : Array Value := #[.int .i64 0, .int .i64 0, .int .i64 0, .int .i64 0, .string ⟨#[]⟩, .string ⟨#[]⟩, .slice none 0 0, .int .i64 0, .int .i64 0, .string ⟨#[]⟩, .slice none 0 0, .bool false, .int .i64 0]
set_option maxHeartbeats 4000000 in
set_option maxRecDepth 100000 in
theorem ClientNumbers_walk (home : Int) (A : Option Addr) (c : Nat) (l : List OV) (X : LV) (W : World) (hEW : Env W) (hlW : Steps W A l) (hc : l.length ≤ c) (hcm : c ≤ 9223372036854775807) :
    Calls Tryd.prog 4 #[.int .i64 home, .slice A l.length c, .agg (lcells X)] W fun e w' => e = .returned (.bool true) ∧ Below W.heap.size W w' := by
  have hbx : Below W.heap.size W (W.alloc (.cells (lcells X) 30)) := below_alloc (Below.refl _ _) _
  have hxx : (W.alloc (.cells (lcells X) 30)).heap[W.heap.size]? = some (.cells (lcells X) 30 (0, 0)) := heap_alloc_new _ _
  obtain ⟨w, hw⟩ : ∃ w, w = W.alloc (.cells (lcells X) 30) := ⟨_, rfl⟩
  rw [← hw] at hbx hxx
  have hE := hEW.below hbx
  have hl := hlW.below hbx
  have hltx : W.heap.size < w.heap.size := (Array.getElem?_eq_some_iff.1 hxx).1
  replace hw := Lib.hid hw
  replace hbx := Lib.hid hbx
  replace hxx := Lib.hid hxx
  go_enter Tryd.func4, Tryd.ntmps4
  go_wp2_with fail
  rw [← hw.out]
  refine (New_calls home w).mono ?_
  rintro e w1 ⟨rfl, hc1, hb1⟩
  replace hc1 := Lib.hid hc1
  replace hb1 := Lib.hid hb1
  go_wp2_with fail
  refine (few_calls A c l w1 (hl.below hb1.out) hc hcm).mono ?_
  rintro e w2 ⟨rfl, hb2⟩
  have hc2 := hc1.out.below hb2
  have hb2w := hb1.out.trans (hb2.mono hb1.out.size)
  replace hc2 := Lib.hid hc2
  replace hb2w := Lib.hid hb2w
  clear hc1 hb1 hb2
  cases hfew : fewV l with
  | false =>
    go_wp2_with fail
    refine (alive_calls _ (hE.below hb2w.out)).mono ?_
    rintro e w3 ⟨rfl, hb3⟩
    have hb3' := hbx.out.trans ((hb2w.out.trans (hb3.mono hb2w.out.size)).mono hbx.out.size)
    go_wp2_with fail
    go_ret
    exact ⟨rfl, hb3'⟩
  | true =>
    obtain ⟨hl200, hlo⟩ := few_open hfew
    replace hlo := Lib.hid hlo
    go_wp2_with fail
    go_loopw [8, 30] (fun s8 s30 wr => ∃ (i : Nat) (s : CS), i ≤ l.length ∧ s8 = .int .i64 s.num ∧ s30 = .int .i64 i ∧ Cl w.heap.size (w.heap.size + 1) s wr ∧ Fine s i ∧ Below w.heap.size w wr) (fun _ s30 _ => l.length - (intOf s30).toNat)
    case atStart => exact ⟨0, ⟨home, fun _ => none, [], 0, 0, 0⟩, by omega, rfl, rfl, hc2.out, ⟨⟨Int.le_refl 0, Int.le_refl 0⟩, ⟨Int.le_refl 0, (by decide : (0 : Int) ≤ 16)⟩, Nat.le_refl 0, Nat.zero_le _, fun x hx => by simp at hx⟩, hb2w.out⟩
    case round =>
      obtain ⟨i, s, hi, rfl, rfl, hcl, hfi, hb⟩ := hrel
      clear hc2 hb2w
      by_cases hil : i < l.length
      · have hgo2 : decide ((i : Int) < (l.length : Int)) = true := decide_eq_true (by omega)
        have hi0 : (0 : Int) ≤ (i : Int) := by omega
        obtain ⟨O, hO⟩ : ∃ O, l[i]? = some O := ⟨l[i], List.getElem?_eq_getElem hil⟩
        obtain ⟨ho64, ho10⟩ := hlo.out O (List.mem_of_getElem? hO)
        have hnum : 0 ≤ s.num ∧ s.num ≤ 1000000000 := ⟨hfi.num.1, by have := hfi.num.2; omega⟩
        have hwr : IntKind.i64.wrap (s.num + 1) = s.num + 1 := by simp [IntKind.wrap, IntKind.bits, IntKind.signed]; omega
        have hne : ¬ (s.num = s.num + 1) := by omega
        obtain ⟨hOk, b, o, rfl, hbl, hcs⟩ := hl i O hO
        have hblr : b < wr.heap.size := Nat.lt_of_lt_of_le hbl hb.size
        have e0 : wr.cell? ⟨b, o + i * 15, none⟩ = some (.int .i64 O.kind) := (hb.cell (p := ⟨b, o + i * 15, none⟩) hbl).trans (hcs 0 _ rfl)
        have e1 : wr.cell? ⟨b, o + i * 15 + 1, none⟩ = some (.slice O.at_ O.args.length O.cap) := (hb.cell (p := ⟨b, o + i * 15 + 1, none⟩) hbl).trans (hcs 1 _ rfl)
        have e2 : wr.cell? ⟨b, o + i * 15 + 2, none⟩ = some (.int .i64 O.let_.kind) := (hb.cell (p := ⟨b, o + i * 15 + 2, none⟩) hbl).trans (hcs 2 _ rfl)
        have e3 : wr.cell? ⟨b, o + i * 15 + 3, none⟩ = some (.int .i64 O.let_.num) := (hb.cell (p := ⟨b, o + i * 15 + 3, none⟩) hbl).trans (hcs 3 _ rfl)
        have e4 : wr.cell? ⟨b, o + i * 15 + 4, none⟩ = some (.int .i64 O.let_.slot) := (hb.cell (p := ⟨b, o + i * 15 + 4, none⟩) hbl).trans (hcs 4 _ rfl)
        have e5 : wr.cell? ⟨b, o + i * 15 + 5, none⟩ = some (.int .i64 O.let_.ends) := (hb.cell (p := ⟨b, o + i * 15 + 5, none⟩) hbl).trans (hcs 5 _ rfl)
        have e6 : wr.cell? ⟨b, o + i * 15 + 6, none⟩ = some (.string O.let_.key) := (hb.cell (p := ⟨b, o + i * 15 + 6, none⟩) hbl).trans (hcs 6 _ rfl)
        have e7 : wr.cell? ⟨b, o + i * 15 + 7, none⟩ = some (.string O.let_.text) := (hb.cell (p := ⟨b, o + i * 15 + 7, none⟩) hbl).trans (hcs 7 _ rfl)
        have e8 : wr.cell? ⟨b, o + i * 15 + 8, none⟩ = some (.slice O.let_.args.1 O.let_.args.2.1 O.let_.args.2.2) := (hb.cell (p := ⟨b, o + i * 15 + 8, none⟩) hbl).trans (hcs 8 _ rfl)
        have e9 : wr.cell? ⟨b, o + i * 15 + 9, none⟩ = some (.int .i64 O.let_.rk) := (hb.cell (p := ⟨b, o + i * 15 + 9, none⟩) hbl).trans (hcs 9 _ rfl)
        have e10 : wr.cell? ⟨b, o + i * 15 + 10, none⟩ = some (.int .i64 O.let_.ri) := (hb.cell (p := ⟨b, o + i * 15 + 10, none⟩) hbl).trans (hcs 10 _ rfl)
        have e11 : wr.cell? ⟨b, o + i * 15 + 11, none⟩ = some (.string O.let_.rt) := (hb.cell (p := ⟨b, o + i * 15 + 11, none⟩) hbl).trans (hcs 11 _ rfl)
        have e12 : wr.cell? ⟨b, o + i * 15 + 12, none⟩ = some (.slice O.let_.rl.1 O.let_.rl.2.1 O.let_.rl.2.2) := (hb.cell (p := ⟨b, o + i * 15 + 12, none⟩) hbl).trans (hcs 12 _ rfl)
        have e13 : wr.cell? ⟨b, o + i * 15 + 13, none⟩ = some (.bool O.let_.good) := (hb.cell (p := ⟨b, o + i * 15 + 13, none⟩) hbl).trans (hcs 13 _ rfl)
        have e14 : wr.cell? ⟨b, o + i * 15 + 14, none⟩ = some (.int .i64 O.let_.asking) := (hb.cell (p := ⟨b, o + i * 15 + 14, none⟩) hbl).trans (hcs 14 _ rfl)
        clear hcs
        have hb3 : Below wr.heap.size wr (wr.alloc (.cells (ocells O).toArray 40)) := below_alloc (Below.refl _ _) _
        have hbw3 := hb.trans (hb3.mono hb.size)
        have hc3 := hcl.below hb3
        have hlt3 := hc3.lt
        obtain ⟨w3, hw3⟩ : ∃ w3, w3 = wr.alloc (.cells (ocells O).toArray 40) := ⟨_, rfl⟩
        have hm : ∀ (k : Nat) (v : Value), (ocells O)[k]? = some v → (w3.alloc (.cells #[.int .i64 0, .int .i64 0, .int .i64 0, .int .i64 0, .int .i64 0, .string ⟨#[]⟩, .string ⟨#[]⟩, .slice none 0 0, .int .i64 0, .int .i64 0, .string ⟨#[]⟩, .slice none 0 0, .bool false, .int .i64 0, .bool false, .int .i64 0, .int .i64 0, .string ⟨#[]⟩, .slice none 0 0, .bool false] 32)).cell? ⟨wr.heap.size, k, none⟩ = some v := by rw [hw3]; exact op_box wr O _
        rw [← hw3] at hbw3 hc3 hlt3
        have hb4 : Below w3.heap.size w3 (w3.alloc (.cells out0 32)) := below_alloc (Below.refl _ _) _
        have hbw4 := hbw3.trans (hb4.mono hbw3.size)
        have hc4 := hc3.below hb4
        have hone := Lib.hid (op_one O)
        have hbW4 := hbw4
        have hltm : w.heap.size ≤ w.heap.size + 1 := Nat.le_succ _
        replace hw3 := Lib.hid hw3
        replace hbw3 := Lib.hid hbw3
        replace hc3 := Lib.hid hc3
        replace hb4 := Lib.hid hb4
        replace hbw4 := Lib.hid hbw4
        replace hc4 := Lib.hid hc4
        replace hlt3 := Lib.hid hlt3
        replace hbW4 := Lib.hid hbW4
        replace hfi := Lib.hid hfi
        clear hcl hb hb3
        by_cases hk0 : O.kind = 0
        · have hk0' : (O.kind == 0) = true := by rw [beq_iff_eq]; exact hk0
          have m0 : (w3.alloc (.cells #[.int .i64 0, .int .i64 0, .int .i64 0, .int .i64 0, .int .i64 0, .string ⟨#[]⟩, .string ⟨#[]⟩, .slice none 0 0, .int .i64 0, .int .i64 0, .string ⟨#[]⟩, .slice none 0 0, .bool false, .int .i64 0, .bool false, .int .i64 0, .int .i64 0, .string ⟨#[]⟩, .slice none 0 0, .bool false] 32)).cell? ⟨wr.heap.size, 0, none⟩ = some (.int .i64 O.kind) := hm 0 _ rfl
          have m1 : (w3.alloc (.cells #[.int .i64 0, .int .i64 0, .int .i64 0, .int .i64 0, .int .i64 0, .string ⟨#[]⟩, .string ⟨#[]⟩, .slice none 0 0, .int .i64 0, .int .i64 0, .string ⟨#[]⟩, .slice none 0 0, .bool false, .int .i64 0, .bool false, .int .i64 0, .int .i64 0, .string ⟨#[]⟩, .slice none 0 0, .bool false] 32)).cell? ⟨wr.heap.size, 1, none⟩ = some (.slice O.at_ O.args.length O.cap) := hm 1 _ rfl
          have hstr : Kd.string.C (w3.alloc (.cells out0 32)) O.at_ O.args.length O.args := Kd.C_below hOk.1 (by simpa using hbW4.out)
          have hT := Begin_calls w.heap.size (w.heap.size + 1) s O.at_ O.cap O.args hnum (by omega) hOk.2.2 _ hc4.out hstr hOk.2.1 w hE hbw4.out (Nat.le_refl _) (Nat.le_succ _)
          clear hm hk0
          go_wp2_with ((with_reducible refine store_at (ty := 40) (x := .tmp 10) (y := .tmp 33) ?_); refine ⟨wr.heap.size, (ocells O).toArray, 40, op0, rfl, rfl, heap_alloc_new _ _, info40, rfl, hone.out, ?_⟩; rw [World.setRow_alloc_new, ← hw3.out])
          refine hT.mono ?_
          rintro e w5 hpost
          obtain ⟨OUT, n, rfl, hB5, hsz, hone2, hn6, hc6, hb6, p14, p19, p2, hlt5⟩ := put_out hbw3.out (Nat.le_refl _) (Nat.le_succ _) hlt3.out.1 hlt3.out.2 (begin_rowed s O.args) hpost
          obtain ⟨w6, hw6⟩ : ∃ w6, w6 = w5.setRow w3.heap.size OUT := ⟨_, rfl⟩
          rw [← hw6] at hc6 hb6 p14 p19 p2
          replace hw6 := Lib.hid hw6
          replace hB5 := Lib.hid hB5
          replace hsz := Lib.hid hsz
          replace hone2 := Lib.hid hone2
          replace hc6 := Lib.hid hc6
          replace hb6 := Lib.hid hb6
          replace hn6 := Lib.hid hn6
          clear hT hpost e0 e1 e2 e3 e4 e5 e6 e7 e8 e9 e10 e11 e12 e13 e14 m0 m1
          have hnm := begin_num s O.args
          have hfn : Fine (beginV s O.args).1 (i + 1) := begin_fine hfi.out (by omega) hOk.2.2
          replace hnm := Lib.hid hnm
          replace hfn := Lib.hid hfn
          generalize beginV s O.args = x2 at *
          obtain ⟨s2, x2⟩ := x2
          cases hsd : x2.sends with
          | false =>
            rw [show (s2, x2).2.sends = false from hsd] at p14
            have hnm2 : s2.num = s.num := by have := hnm.out; simpa [hsd] using this
            go_wp2_with ((with_reducible refine store_at (ty := 32) (x := .tmp 11) (y := .tmp 40) ?_); refine ⟨w3.heap.size, OUT, 32, out0, rfl, rfl, hB5.out, (by rw [hsz.out]; exact info32), hsz.out.symm, hone2.out, ?_⟩; rw [← hw6.out])
            exact ⟨⟨i + 1, s2, by omega, by rw [hnm2], by go_num, hc6.out, hfn.out, hb6.out⟩, by simp [intOf]; omega⟩
          | true =>
            rw [show (s2, x2).2.sends = true from hsd] at p14
            have hnm2 : s2.num = s.num + 1 := by have := hnm.out; simpa [hsd] using this
            have hn7 : n = s.num + 1 := (hn6.out hsd).trans hnm2
            subst hn7
            go_wp2_with ((with_reducible refine store_at (ty := 32) (x := .tmp 11) (y := .tmp 40) ?_); refine ⟨w3.heap.size, OUT, 32, out0, rfl, rfl, hB5.out, (by rw [hsz.out]; exact info32), hsz.out.symm, hone2.out, ?_⟩; rw [← hw6.out])
            exact ⟨⟨i + 1, s2, by omega, by rw [hnm2], by go_num, hc6.out, hfn.out, hb6.out⟩, by simp [intOf]; omega⟩
        · have hk0' : (O.kind == 0) = false := by rw [beq_eq_false_iff_ne]; exact hk0
          have m0 : (w3.alloc (.cells #[.int .i64 0, .int .i64 0, .int .i64 0, .int .i64 0, .int .i64 0, .string ⟨#[]⟩, .string ⟨#[]⟩, .slice none 0 0, .int .i64 0, .int .i64 0, .string ⟨#[]⟩, .slice none 0 0, .bool false, .int .i64 0, .bool false, .int .i64 0, .int .i64 0, .string ⟨#[]⟩, .slice none 0 0, .bool false] 32)).cell? ⟨wr.heap.size, 0, none⟩ = some (.int .i64 O.kind) := hm 0 _ rfl
          have m2 : (w3.alloc (.cells #[.int .i64 0, .int .i64 0, .int .i64 0, .int .i64 0, .int .i64 0, .string ⟨#[]⟩, .string ⟨#[]⟩, .slice none 0 0, .int .i64 0, .int .i64 0, .string ⟨#[]⟩, .slice none 0 0, .bool false, .int .i64 0, .bool false, .int .i64 0, .int .i64 0, .string ⟨#[]⟩, .slice none 0 0, .bool false] 32)).cell? ⟨wr.heap.size, 2, none⟩ = some (.int .i64 O.let_.kind) := hm 2 _ rfl
          have m3 : (w3.alloc (.cells #[.int .i64 0, .int .i64 0, .int .i64 0, .int .i64 0, .int .i64 0, .string ⟨#[]⟩, .string ⟨#[]⟩, .slice none 0 0, .int .i64 0, .int .i64 0, .string ⟨#[]⟩, .slice none 0 0, .bool false, .int .i64 0, .bool false, .int .i64 0, .int .i64 0, .string ⟨#[]⟩, .slice none 0 0, .bool false] 32)).cell? ⟨wr.heap.size, 3, none⟩ = some (.int .i64 O.let_.num) := hm 3 _ rfl
          have m4 : (w3.alloc (.cells #[.int .i64 0, .int .i64 0, .int .i64 0, .int .i64 0, .int .i64 0, .string ⟨#[]⟩, .string ⟨#[]⟩, .slice none 0 0, .int .i64 0, .int .i64 0, .string ⟨#[]⟩, .slice none 0 0, .bool false, .int .i64 0, .bool false, .int .i64 0, .int .i64 0, .string ⟨#[]⟩, .slice none 0 0, .bool false] 32)).cell? ⟨wr.heap.size, 4, none⟩ = some (.int .i64 O.let_.slot) := hm 4 _ rfl
          have m5 : (w3.alloc (.cells #[.int .i64 0, .int .i64 0, .int .i64 0, .int .i64 0, .int .i64 0, .string ⟨#[]⟩, .string ⟨#[]⟩, .slice none 0 0, .int .i64 0, .int .i64 0, .string ⟨#[]⟩, .slice none 0 0, .bool false, .int .i64 0, .bool false, .int .i64 0, .int .i64 0, .string ⟨#[]⟩, .slice none 0 0, .bool false] 32)).cell? ⟨wr.heap.size, 5, none⟩ = some (.int .i64 O.let_.ends) := hm 5 _ rfl
          have m6 : (w3.alloc (.cells #[.int .i64 0, .int .i64 0, .int .i64 0, .int .i64 0, .int .i64 0, .string ⟨#[]⟩, .string ⟨#[]⟩, .slice none 0 0, .int .i64 0, .int .i64 0, .string ⟨#[]⟩, .slice none 0 0, .bool false, .int .i64 0, .bool false, .int .i64 0, .int .i64 0, .string ⟨#[]⟩, .slice none 0 0, .bool false] 32)).cell? ⟨wr.heap.size, 6, none⟩ = some (.string O.let_.key) := hm 6 _ rfl
          have m7 : (w3.alloc (.cells #[.int .i64 0, .int .i64 0, .int .i64 0, .int .i64 0, .int .i64 0, .string ⟨#[]⟩, .string ⟨#[]⟩, .slice none 0 0, .int .i64 0, .int .i64 0, .string ⟨#[]⟩, .slice none 0 0, .bool false, .int .i64 0, .bool false, .int .i64 0, .int .i64 0, .string ⟨#[]⟩, .slice none 0 0, .bool false] 32)).cell? ⟨wr.heap.size, 7, none⟩ = some (.string O.let_.text) := hm 7 _ rfl
          have m8 : (w3.alloc (.cells #[.int .i64 0, .int .i64 0, .int .i64 0, .int .i64 0, .int .i64 0, .string ⟨#[]⟩, .string ⟨#[]⟩, .slice none 0 0, .int .i64 0, .int .i64 0, .string ⟨#[]⟩, .slice none 0 0, .bool false, .int .i64 0, .bool false, .int .i64 0, .int .i64 0, .string ⟨#[]⟩, .slice none 0 0, .bool false] 32)).cell? ⟨wr.heap.size, 8, none⟩ = some (.slice O.let_.args.1 O.let_.args.2.1 O.let_.args.2.2) := hm 8 _ rfl
          have m9 : (w3.alloc (.cells #[.int .i64 0, .int .i64 0, .int .i64 0, .int .i64 0, .int .i64 0, .string ⟨#[]⟩, .string ⟨#[]⟩, .slice none 0 0, .int .i64 0, .int .i64 0, .string ⟨#[]⟩, .slice none 0 0, .bool false, .int .i64 0, .bool false, .int .i64 0, .int .i64 0, .string ⟨#[]⟩, .slice none 0 0, .bool false] 32)).cell? ⟨wr.heap.size, 9, none⟩ = some (.int .i64 O.let_.rk) := hm 9 _ rfl
          have m10 : (w3.alloc (.cells #[.int .i64 0, .int .i64 0, .int .i64 0, .int .i64 0, .int .i64 0, .string ⟨#[]⟩, .string ⟨#[]⟩, .slice none 0 0, .int .i64 0, .int .i64 0, .string ⟨#[]⟩, .slice none 0 0, .bool false, .int .i64 0, .bool false, .int .i64 0, .int .i64 0, .string ⟨#[]⟩, .slice none 0 0, .bool false] 32)).cell? ⟨wr.heap.size, 10, none⟩ = some (.int .i64 O.let_.ri) := hm 10 _ rfl
          have m11 : (w3.alloc (.cells #[.int .i64 0, .int .i64 0, .int .i64 0, .int .i64 0, .int .i64 0, .string ⟨#[]⟩, .string ⟨#[]⟩, .slice none 0 0, .int .i64 0, .int .i64 0, .string ⟨#[]⟩, .slice none 0 0, .bool false, .int .i64 0, .bool false, .int .i64 0, .int .i64 0, .string ⟨#[]⟩, .slice none 0 0, .bool false] 32)).cell? ⟨wr.heap.size, 11, none⟩ = some (.string O.let_.rt) := hm 11 _ rfl
          have m12 : (w3.alloc (.cells #[.int .i64 0, .int .i64 0, .int .i64 0, .int .i64 0, .int .i64 0, .string ⟨#[]⟩, .string ⟨#[]⟩, .slice none 0 0, .int .i64 0, .int .i64 0, .string ⟨#[]⟩, .slice none 0 0, .bool false, .int .i64 0, .bool false, .int .i64 0, .int .i64 0, .string ⟨#[]⟩, .slice none 0 0, .bool false] 32)).cell? ⟨wr.heap.size, 12, none⟩ = some (.slice O.let_.rl.1 O.let_.rl.2.1 O.let_.rl.2.2) := hm 12 _ rfl
          have m13 : (w3.alloc (.cells #[.int .i64 0, .int .i64 0, .int .i64 0, .int .i64 0, .int .i64 0, .string ⟨#[]⟩, .string ⟨#[]⟩, .slice none 0 0, .int .i64 0, .int .i64 0, .string ⟨#[]⟩, .slice none 0 0, .bool false, .int .i64 0, .bool false, .int .i64 0, .int .i64 0, .string ⟨#[]⟩, .slice none 0 0, .bool false] 32)).cell? ⟨wr.heap.size, 13, none⟩ = some (.bool O.let_.good) := hm 13 _ rfl
          have m14 : (w3.alloc (.cells #[.int .i64 0, .int .i64 0, .int .i64 0, .int .i64 0, .int .i64 0, .string ⟨#[]⟩, .string ⟨#[]⟩, .slice none 0 0, .int .i64 0, .int .i64 0, .string ⟨#[]⟩, .slice none 0 0, .bool false, .int .i64 0, .bool false, .int .i64 0, .int .i64 0, .string ⟨#[]⟩, .slice none 0 0, .bool false] 32)).cell? ⟨wr.heap.size, 14, none⟩ = some (.int .i64 O.let_.asking) := hm 14 _ rfl
          have hT := Take_calls w.heap.size (w.heap.size + 1) s O.let_ i hfi.out (by omega) (by omega) _ hc4.out w hE hbw4.out (Nat.le_refl _) (Nat.le_succ _)
          clear hm hk0
          go_wp2_with ((with_reducible refine store_at (ty := 40) (x := .tmp 10) (y := .tmp 33) ?_); refine ⟨wr.heap.size, (ocells O).toArray, 40, op0, rfl, rfl, heap_alloc_new _ _, info40, rfl, hone.out, ?_⟩; rw [World.setRow_alloc_new, ← hw3.out])
          refine hT.mono ?_
          rintro e w5 hpost
          obtain ⟨OUT, n, rfl, hB5, hsz, hone2, hn6, hc6, hb6, p14, p19, p2, hlt5⟩ := put_out hbw3.out (Nat.le_refl _) (Nat.le_succ _) hlt3.out.1 hlt3.out.2 (take_rowed s O.let_) hpost
          obtain ⟨w6, hw6⟩ : ∃ w6, w6 = w5.setRow w3.heap.size OUT := ⟨_, rfl⟩
          rw [← hw6] at hc6 hb6 p14 p19 p2
          replace hw6 := Lib.hid hw6
          replace hB5 := Lib.hid hB5
          replace hsz := Lib.hid hsz
          replace hone2 := Lib.hid hone2
          replace hc6 := Lib.hid hc6
          replace hb6 := Lib.hid hb6
          replace hn6 := Lib.hid hn6
          clear hT hpost e0 e1 e2 e3 e4 e5 e6 e7 e8 e9 e10 e11 e12 e13 e14 m0 m2 m3 m4 m5 m6 m7 m8 m9 m10 m11 m12 m13 m14
          have hnm := take_num s O.let_
          have hfn : Fine (takeV s O.let_).1 (i + 1) := take_fine hfi.out O.let_
          replace hnm := Lib.hid hnm
          replace hfn := Lib.hid hfn
          generalize takeV s O.let_ = x2 at *
          obtain ⟨s2, x2⟩ := x2
          cases hsd : x2.sends with
          | false =>
            rw [show (s2, x2).2.sends = false from hsd] at p14
            have hnm2 : s2.num = s.num := by have := hnm.out; simpa [hsd] using this
            go_wp2_with ((with_reducible refine store_at (ty := 32) (x := .tmp 11) (y := .tmp 44) ?_); refine ⟨w3.heap.size, OUT, 32, out0, rfl, rfl, hB5.out, (by rw [hsz.out]; exact info32), hsz.out.symm, hone2.out, ?_⟩; rw [← hw6.out])
            exact ⟨⟨i + 1, s2, by omega, by rw [hnm2], by go_num, hc6.out, hfn.out, hb6.out⟩, by simp [intOf]; omega⟩
          | true =>
            rw [show (s2, x2).2.sends = true from hsd] at p14
            have hnm2 : s2.num = s.num + 1 := by have := hnm.out; simpa [hsd] using this
            have hn7 : n = s.num + 1 := (hn6.out hsd).trans hnm2
            subst hn7
            go_wp2_with ((with_reducible refine store_at (ty := 32) (x := .tmp 11) (y := .tmp 44) ?_); refine ⟨w3.heap.size, OUT, 32, out0, rfl, rfl, hB5.out, (by rw [hsz.out]; exact info32), hsz.out.symm, hone2.out, ?_⟩; rw [← hw6.out])
            exact ⟨⟨i + 1, s2, by omega, by rw [hnm2], by go_num, hc6.out, hfn.out, hb6.out⟩, by simp [intOf]; omega⟩
      · obtain rfl : i = l.length := by omega
        have hgo2 : decide ((l.length : Int) < (l.length : Int)) = false := decide_eq_false (by omega)
        have hxr : wr.heap[W.heap.size]? = some (.cells (lcells X) 30 (0, 0)) := (hb.block _ hltx).trans hxx.out
        have hnum : 0 ≤ s.num ∧ s.num ≤ 1000000000 := ⟨hfi.num.1, by have := hfi.num.2; omega⟩
        have hbw := hbx.out.trans (hb.mono hbx.out.size)
        have x0 : wr.cell? ⟨W.heap.size, 0, none⟩ = some (.int .i64 X.kind) := by rw [cell_of_box hxr]; rfl
        have x1 : wr.cell? ⟨W.heap.size, 1, none⟩ = some (.int .i64 X.num) := by rw [cell_of_box hxr]; rfl
        have x2 : wr.cell? ⟨W.heap.size, 2, none⟩ = some (.int .i64 X.slot) := by rw [cell_of_box hxr]; rfl
        have x3 : wr.cell? ⟨W.heap.size, 3, none⟩ = some (.int .i64 X.ends) := by rw [cell_of_box hxr]; rfl
        have x4 : wr.cell? ⟨W.heap.size, 4, none⟩ = some (.string X.key) := by rw [cell_of_box hxr]; rfl
        have x5 : wr.cell? ⟨W.heap.size, 5, none⟩ = some (.string X.text) := by rw [cell_of_box hxr]; rfl
        have x6 : wr.cell? ⟨W.heap.size, 6, none⟩ = some (.slice X.args.1 X.args.2.1 X.args.2.2) := by rw [cell_of_box hxr]; rfl
        have x7 : wr.cell? ⟨W.heap.size, 7, none⟩ = some (.int .i64 X.rk) := by rw [cell_of_box hxr]; rfl
        have x8 : wr.cell? ⟨W.heap.size, 8, none⟩ = some (.int .i64 X.ri) := by rw [cell_of_box hxr]; rfl
        have x9 : wr.cell? ⟨W.heap.size, 9, none⟩ = some (.string X.rt) := by rw [cell_of_box hxr]; rfl
        have x10 : wr.cell? ⟨W.heap.size, 10, none⟩ = some (.slice X.rl.1 X.rl.2.1 X.rl.2.2) := by rw [cell_of_box hxr]; rfl
        have x11 : wr.cell? ⟨W.heap.size, 11, none⟩ = some (.bool X.good) := by rw [cell_of_box hxr]; rfl
        have x12 : wr.cell? ⟨W.heap.size, 12, none⟩ = some (.int .i64 X.asking) := by rw [cell_of_box hxr]; rfl
        replace hxr := Lib.hid hxr
        replace hbw := Lib.hid hbw
        replace hcl := Lib.hid hcl
        replace hb := Lib.hid hb
        clear hl hlo
        by_cases hxn : X.num = s.num
        · have hq : (X.num == s.num) = true := by rw [beq_iff_eq]; exact hxn
          go_wp2_with fail
          refine (alive_calls _ (hE.below hb.out)).mono ?_
          rintro e w3 ⟨rfl, hb3⟩
          have hb3' := hbw.out.trans (hb3.mono hbw.out.size)
          go_wp2_with fail
          go_ret
          exact ⟨rfl, hb3'⟩
        · have hq : (X.num == s.num) = false := by rw [beq_eq_false_iff_ne]; exact hxn
          have hBu := Busy_calls w.heap.size (w.heap.size + 1) s wr hcl.out
          have hT := Take_none w.heap.size (w.heap.size + 1) s X hnum wr hcl.out (Or.inr (Or.inr hxn))
          obtain ⟨bz, hbz⟩ : ∃ bz, decide (0 < s.args.length) = bz := ⟨_, rfl⟩
          rw [hbz] at hBu
          replace hbz := Lib.hid hbz
          go_wp2_with fail
          refine hBu.mono ?_
          rintro e w3 ⟨rfl, rfl⟩
          go_wp2_with fail
          refine hT.mono ?_
          rintro e w4 ⟨ho, hc4, hk4⟩
          have ho' : e = .returned (.agg out0) := ho
          subst ho'
          have hb4 := Keep2.base hb.out (Nat.le_refl _) (Nat.le_succ _) hk4
          have hb45 : Below w4.heap.size w4 (w4.alloc (.cells out0 32)) := below_alloc (Below.refl _ _) _
          have hx5 : (w4.alloc (.cells out0 32)).heap[w4.heap.size]? = some (.cells out0 32 (0, 0)) := heap_alloc_new _ _
          have hc5 := hc4.below hb45
          have hb5 := hb4.trans (hb45.mono hb4.size)
          obtain ⟨w5, hw5⟩ : ∃ w5, w5 = w4.alloc (.cells out0 32) := ⟨_, rfl⟩
          rw [← hw5] at hx5 hc5 hb5
          have hoo : out0.all (·.oneCell') = true := out_one _ _ _ _ _ _ _ _ _ _ _ _ _ _ _
          replace hoo := Lib.hid hoo
          replace hw5 := Lib.hid hw5
          replace hx5 := Lib.hid hx5
          replace hc5 := Lib.hid hc5
          replace hb5 := Lib.hid hb5
          clear hb4 hb45 hc4 hk4 hT hBu x0 x1 x2 x3 x4 x5 x6 x7 x8 x9 x10 x11 x12
          go_wp2_with ((with_reducible refine store_at (ty := 32) (x := .tmp 13) (y := .tmp 69) ?_); refine ⟨_, out0, 32, out0, rfl, rfl, heap_alloc_new _ _, info32, rfl, hoo.out, ?_⟩; rw [World.setRow_alloc_new, ← hw5.out])
          refine (alive_calls _ (hE.below hb5.out)).mono ?_
          rintro e w6 ⟨rfl, hb6⟩
          have hlt5 : w4.heap.size < w5.heap.size := (Array.getElem?_eq_some_iff.1 hx5.out).1
          have p14 : w6.cell? ⟨w4.heap.size, 14, none⟩ = some (.bool false) := by rw [hb6.cell (p := ⟨w4.heap.size, 14, none⟩) hlt5, cell_of_box hx5.out]; rfl
          have p19 : w6.cell? ⟨w4.heap.size, 19, none⟩ = some (.bool false) := by rw [hb6.cell (p := ⟨w4.heap.size, 19, none⟩) hlt5, cell_of_box hx5.out]; rfl
          have hc6 := hc5.out.below hb6
          have hBu := Busy_calls w.heap.size (w.heap.size + 1) s w6 hc6
          rw [hbz.out] at hBu
          have hb6' := hbx.out.trans ((hb5.out.trans (hb6.mono hb5.out.size)).mono hbx.out.size)
          replace hb6' := Lib.hid hb6'
          clear hc6
          go_wp2_with fail
          refine hBu.mono ?_
          rintro e w7 ⟨rfl, rfl⟩
          go_wp2_with fail
          go_ret
          exact ⟨by cases bz <;> rfl, hb6'.out⟩
end Go.Proofs.YtpbiohnmmngccaaDoor
