/- Walks of route.count and route.Decide: what they come to. Conditions: the slices read as given. -/
import Derived.Test.YtnccoopefajohaaDoorProg
import Derived.Test.YtnccoopefajohaaDoorWWords
import Derived.WalkKit
import Derived.BigQuiet
import Derived.Deep.QuietTactic
import Derived.Lib.Hide
import Derived.WalkMore
import Derived.Test.YtnccoopefajohaaDoorGo
import Derived.WalkSpells
set_option linter.unusedVariables false
set_option linter.unusedSimpArgs false
namespace Go.Proofs.YtnccoopefajohaaDoor
open Go.RowKit Go.Proofs.YtnccoopefajohaaDoorW.PrintWords

theorem drewN_alloc (w : World) (n : Nat) (o : Obj) : (w.drewN n).alloc o = (w.alloc o).drewN n := rfl
theorem drewN_setCell (w : World) (n : Nat) (a : Addr) (v : Value) : (w.drewN n).setCell a v = (w.setCell a v).drewN n := rfl
attribute [local go_sem] drewN_alloc drewN_setCell

/-- how many of the first are told to be -/
def cnt (l : List Bool) (n : Nat) : Nat := ((l.take n).filter id).length

theorem cnt_le (l : List Bool) (n : Nat) : cnt l n ≤ n ∧ cnt l n ≤ l.length := by
  unfold cnt
  have h1 := List.length_filter_le (id : Bool → Bool) (l.take n)
  have h2 := List.length_take_le n l
  have h3 := List.length_take_le' n l
  omega
theorem cnt_succ (l : List Bool) (k : Nat) (h : k < l.length) : cnt l (k + 1) = cnt l k + if l.getD k false = true then 1 else 0 := by
  unfold cnt
  rw [List.take_succ_eq_append_getElem h, List.filter_append, List.length_append]
  rw [show l.getD k false = l[k] from by simp [h]]
  cases l[k] <;> simp

theorem cnt_all (l : List Bool) (n : Nat) (h : l.length ≤ n) : cnt l n = cnt l l.length := by
  unfold cnt
  rw [List.take_of_length_le h, List.take_of_length_le (Nat.le_refl _)]

set_option maxHeartbeats 1000000 in
theorem count_calls (l : List Bool) (A : Option Addr) (c n : Nat) (w : World) (hr : Kd.C Kd.bool w A l.length l) (hc : l.length ≤ c) (hn : n ≤ 9223372036854775807) :
    Calls Tryd.prog 16 #[.slice A l.length c, .int .i64 n] w fun e w' => e = .returned (.int .i64 (cnt l n : Int)) ∧ w = w' := by
  have hrd := Kd.reads_of_C (d := false) hr
  obtain ⟨-, hm, hcell⟩ := hrd
  clear hr
  by_cases hlt : n < l.length
  · have hle : ¬ l.length ≤ n := by omega
    go_enter Tryd.func16, Tryd.ntmps16
    go_wp2
    go_loop [5, 15] (fun t i => ∃ k : Nat, k ≤ n ∧ i = .int .i64 k ∧ t = .int .i64 (cnt l k : Nat)) (fun _ i => n - (intOf i).toNat)
    case atStart => exact ⟨0, Nat.zero_le _, rfl, rfl⟩
    case round =>
      obtain ⟨k, hk, rfl, rfl⟩ := hrel
      have hcl := cnt_le l k
      obtain ⟨ad, rfl, hcl2⟩ := hcell (by omega)
      by_cases hkn : k < n
      · have hck := hcl2 k (by omega)
        have hs := Lib.hid (cnt_succ l k (by omega))
        have hrng : (k : Int) < (c : Int) := by omega
        cases hb : l.getD k false with
        | true =>
          rw [hb] at hck
          have hs2 : Hid (cnt l (k + 1) = cnt l k + 1) := by have := hs.out; rw [hb] at this; exact this
          clear hs hb hcell hcl2
          go_wp2
          go_round
          case rel => exact ⟨k + 1, by omega, by go_num, by rw [hs2.out]; go_num⟩
          case measure => simp [intOf]; omega
        | false =>
          rw [hb] at hck
          have hs2 : Hid (cnt l (k + 1) = cnt l k) := by have := hs.out; rw [hb] at this; exact this
          clear hs hb hcell hcl2
          go_wp2
          go_round
          case rel => exact ⟨k + 1, by omega, by go_num, by rw [hs2.out]⟩
          case measure => simp [intOf]; omega
      · obtain rfl : k = n := by omega
        go_wp2
        go_ret
        exact ⟨rfl, rfl⟩
  · have hle : l.length ≤ n := by omega
    have HE := Lib.hid (cnt_all l n hle)
    go_enter Tryd.func16, Tryd.ntmps16
    go_wp2
    go_loop [5, 15] (fun t i => ∃ k : Nat, k ≤ l.length ∧ i = .int .i64 k ∧ t = .int .i64 (cnt l k : Nat)) (fun _ i => l.length - (intOf i).toNat)
    case atStart => exact ⟨0, Nat.zero_le _, rfl, rfl⟩
    case round =>
      obtain ⟨k, hk, rfl, rfl⟩ := hrel
      have hcl := cnt_le l k
      by_cases hkn : k < l.length
      · obtain ⟨ad, rfl, hcl2⟩ := hcell (by omega)
        have hck := hcl2 k (by omega)
        have hs := Lib.hid (cnt_succ l k (by omega))
        have hrng : (k : Int) < (c : Int) := by omega
        cases hb : l.getD k false with
        | true =>
          rw [hb] at hck
          have hs2 : Hid (cnt l (k + 1) = cnt l k + 1) := by have := hs.out; rw [hb] at this; exact this
          clear hs hb hcell hcl2
          go_wp2
          go_round
          case rel => exact ⟨k + 1, by omega, by go_num, by rw [hs2.out]; go_num⟩
          case measure => simp [intOf]; omega
        | false =>
          rw [hb] at hck
          have hs2 : Hid (cnt l (k + 1) = cnt l k) := by have := hs.out; rw [hb] at this; exact this
          clear hs hb hcell hcl2
          go_wp2
          go_round
          case rel => exact ⟨k + 1, by omega, by go_num, by rw [hs2.out]⟩
          case measure => simp [intOf]; omega
      · obtain rfl : k = l.length := by omega
        go_wp2
        go_ret
        exact ⟨by rw [HE.out]; rfl, rfl⟩


theorem cell3 {w : World} {a : Addr} {v : Value} (h : w.cell? a = some v) : ∀ o1 o2 o3, (((w.alloc o1).alloc o2).alloc o3).cell? a = some v :=
  fun _ _ _ => pw_cell_below (by repeat (first | exact Below.refl _ _ | apply below_alloc)) h
theorem add_zero (a : Addr) : a.add 0 = a := by cases a; rfl
def same (l : List Int) : Bool := l.all fun x => x == l.getD 0 0
/-- what Decide answers: kind, slot, node, token -/
def decideV (self owner mig imp tok ask : Int) (slots : List Int) (here held : List Bool) : Int × Int × Int × Int :=
  if slots.length = 0 then (1, 0, 0, 0)
  else if same slots = false then (5, slots.getD 0 0, 0, 0)
  else if owner = self then
    (if 0 < cnt held slots.length then (4, slots.getD 0 0, 0, 0)
     else if mig < 0 ∨ cnt here slots.length = slots.length then (1, slots.getD 0 0, 0, 0)
     else if 0 < cnt here slots.length then (4, slots.getD 0 0, 0, 0)
     else (3, slots.getD 0 0, mig, tok))
  else if 0 ≤ imp ∧ 0 < ask ∧ ask = tok then
    (if 0 < cnt held slots.length ∨ (1 < slots.length ∧ cnt here slots.length < slots.length) then (4, slots.getD 0 0, 0, 0) else (1, slots.getD 0 0, 0, 0))
  else if owner < 0 then (6, slots.getD 0 0, 0, 0) else (2, slots.getD 0 0, owner, 0)

abbrev decV (x : Int × Int × Int × Int) : Value := .agg #[.int .i64 x.1, .int .i64 x.2.1, .int .i64 x.2.2.1, .int .i64 x.2.2.2]

theorem same_true {l : List Int} (h : same l = true) (k : Nat) (hk : k < l.length) : l.getD k 0 = l.getD 0 0 := by
  unfold same at h
  rw [List.all_eq_true] at h
  have := h (l[k]) (List.getElem_mem _)
  rw [show l.getD k 0 = l[k] from by simp [hk]]
  exact eq_of_beq this
theorem same_false {l : List Int} (h : same l = false) : ∃ k, k < l.length ∧ l.getD k 0 ≠ l.getD 0 0 ∧ ∀ j, j < k → l.getD j 0 = l.getD 0 0 := by
  by_cases hx : ∃ k, k < l.length ∧ l.getD k 0 ≠ l.getD 0 0
  · obtain ⟨k, h1, h2⟩ := hx
    induction k using Nat.strongRecOn with
    | _ k ih =>
      by_cases hy : ∃ j, j < k ∧ l.getD j 0 ≠ l.getD 0 0
      · obtain ⟨j, hj, hj2⟩ := hy
        exact ih j hj (by omega) hj2
      · exact ⟨k, h1, h2, fun j hj => by
          by_cases e : l.getD j 0 = l.getD 0 0
          · exact e
          · exact absurd ⟨j, hj, e⟩ hy⟩
  · exfalso
    have : same l = true := by
      unfold same
      rw [List.all_eq_true]
      intro x hx'
      obtain ⟨k, hk, rfl⟩ := List.mem_iff_getElem.1 hx'
      rw [beq_iff_eq]
      by_cases e : l.getD k 0 = l.getD 0 0
      · rw [show l.getD k 0 = l[k] from by simp [hk]] at e
        exact e
      · exact absurd ⟨k, hk, e⟩ hx
    rw [this] at h
    cases h

set_option maxHeartbeats 1000000 in
theorem Decide_calls (a0 a1 a2 a3 a4 a5 : Int) (A6 A7 A8 : Option Addr) (c6 c7 c8 : Nat) (l6 : List Int) (l7 l8 : List Bool) (w : World)
    (hr6 : Kd.C (Kd.int .i64) w A6 l6.length l6) (hc6 : l6.length ≤ c6) (hm6 : l6.length ≤ 9223372036854775807)
    (hr7 : Kd.C Kd.bool w A7 l7.length l7) (hc7 : l7.length ≤ c7) (hr8 : Kd.C Kd.bool w A8 l8.length l8) (hc8 : l8.length ≤ c8) :
    Calls Tryd.prog 10 #[.agg #[.int .i64 a0, .int .i64 a1, .int .i64 a2, .int .i64 a3, .int .i64 a4, .int .i64 a5, .slice A6 l6.length c6, .slice A7 l7.length c7, .slice A8 l8.length c8]] w
      fun e w' => e = .returned (decV (decideV a0 a1 a2 a3 a4 a5 l6 l7 l8)) ∧ Below w.heap.size w w' := by
  have h7 : ∀ W, Below w.heap.size w W → Calls Tryd.prog 16 #[.slice A7 l7.length c7, .int .i64 l6.length] W fun e w' => e = .returned (.int .i64 (cnt l7 l6.length : Nat)) ∧ w' = W := fun W hb =>
    (count_calls l7 A7 c7 l6.length W (Kd.C_below hr7 hb) hc7 hm6).mono fun _ _ h => ⟨h.1, h.2.symm⟩
  have h8 : ∀ W, Below w.heap.size w W → Calls Tryd.prog 16 #[.slice A8 l8.length c8, .int .i64 l6.length] W fun e w' => e = .returned (.int .i64 (cnt l8 l6.length : Nat)) ∧ w' = W := fun W hb =>
    (count_calls l8 A8 c8 l6.length W (Kd.C_below hr8 hb) hc8 hm6).mono fun _ _ h => ⟨h.1, h.2.symm⟩
  have g7 := (cnt_le l7 l6.length).1
  have g8 := (cnt_le l8 l6.length).1
  have hd : decideV a0 a1 a2 a3 a4 a5 l6 l7 l8 = decideV a0 a1 a2 a3 a4 a5 l6 l7 l8 := rfl
  conv at hd => rhs; unfold decideV
  clear hr7 hr8 hc7 hc8
  generalize cnt l7 l6.length = n7 at *
  generalize cnt l8 l6.length = n8 at *
  generalize decideV a0 a1 a2 a3 a4 a5 l6 l7 l8 = dv at *
  generalize l7.length = m7 at *
  generalize l8.length = m8 at *
  obtain ⟨-, -, hcell⟩ := Kd.reads_of_C (d := (0 : Int)) hr6
  clear hr6
  by_cases hz : l6.length = 0
  · rw [if_pos hz] at hd
    subst hd
    rw [hz] at h7 h8 ⊢
    clear hcell hm6 hc6 hz g7 g8
    go_enter Tryd.func10, Tryd.ntmps10
    go_wp2
    refine wp_scope_go 2 ?_
    go_wp2
    go_quiet ((go_at_call 16; first | (with_reducible exact Calls.quiet_of_same (h7 _ (by repeat (first | exact Below.refl _ _ | apply below_alloc | apply pw_below_drewN)))) | (with_reducible exact Calls.quiet_of_same (h8 _ (by repeat (first | exact Below.refl _ _ | apply below_alloc | apply pw_below_drewN))))))
    go_wp2
    apply wp_goto
    refine GoQ_goto rfl ?_
    go_wp2
    rw [GoQ_ret]
    exact bodyPost_ret (v := decV (1, 0, 0, 0)) (by simp [results, Tryd.results10, go_sem]) rfl ⟨rfl, by repeat (first | exact Below.refl _ _ | apply below_alloc | apply pw_below_drewN)⟩
  · rw [if_neg hz] at hd
    obtain ⟨ad, rfl, hcl⟩ := hcell (by omega)
    have hlt0 : ad.block < w.heap.size := World.block_lt_of_cell? w _ (hcl 0 (by omega))
    have hc0 := cell3 (hcl 0 (by omega))
    have hcl3 := fun j hj => cell3 (hcl j hj)
    clear hcl
    rw [add_zero] at hc0
    have hpos : 0 < l6.length := by omega
    clear hz hcell
    generalize hs0 : l6.getD 0 0 = s0 at *
    by_cases hsm : same l6 = false
    · rw [if_pos hsm] at hd
      subst hd
      obtain ⟨k0, hk0, hne, heq⟩ := same_false hsm
      rw [hs0] at hne heq
      clear hsm
      go_enter Tryd.func10, Tryd.ntmps10
      go_wp2
      refine wp_scope_go 2 ?_
      go_wp2
      go_quiet ((go_at_call 16; first | (with_reducible exact Calls.quiet_of_same (h7 _ (by repeat (first | exact Below.refl _ _ | apply below_alloc | apply pw_below_drewN)))) | (with_reducible exact Calls.quiet_of_same (h8 _ (by repeat (first | exact Below.refl _ _ | apply below_alloc | apply pw_below_drewN))))))
      have hk0m : (k0 : Int) < (l6.length : Int) := by omega
      go_wp2
      go_loop [8, 31] (fun t i => ∃ k : Nat, k ≤ k0 ∧ i = .int .i64 k) (fun _ i => k0 - (intOf i).toNat)
      case atStart => exact ⟨0, Nat.zero_le _, rfl⟩
      case round =>
        obtain ⟨k, hk, rfl⟩ := hrel
        have hck := hcl3 k (by omega)
        have hkl : (k : Int) < (l6.length : Int) := by omega
        clear hcl3
        by_cases hkk : k < k0
        · rw [heq k hkk] at hck
          clear heq hne
          go_wp2
          go_round
          case rel => exact ⟨k + 1, by omega, by go_num⟩
          case measure => simp [intOf]; omega
        · obtain rfl : k = k0 := by omega
          clear heq
          generalize l6.getD k 0 = sk at *
          have hnb : (sk != s0) = true := by simpa using hne
          clear hne
          go_wp2
          apply wp_goto
          refine GoQ_goto rfl ?_
          go_wp2
          rw [GoQ_ret]
          exact bodyPost_ret (v := decV (5, s0, 0, 0)) (by simp [results, Tryd.results10, go_sem]) rfl ⟨rfl, by repeat (first | exact Below.refl _ _ | apply below_alloc | apply pw_below_drewN)⟩
    · rw [if_neg hsm] at hd
      have hsm' : same l6 = true := by simpa using hsm
      have heq := same_true hsm'
      rw [hs0] at heq
      clear hsm hsm'
      go_enter Tryd.func10, Tryd.ntmps10
      go_wp2
      refine wp_scope_go 2 ?_
      go_wp2
      go_quiet ((go_at_call 16; first | (with_reducible exact Calls.quiet_of_same (h7 _ (by repeat (first | exact Below.refl _ _ | apply below_alloc | apply pw_below_drewN)))) | (with_reducible exact Calls.quiet_of_same (h8 _ (by repeat (first | exact Below.refl _ _ | apply below_alloc | apply pw_below_drewN))))))
      go_wp2
      clear h7 h8
      go_loop [8, 31] (fun t i => ∃ k : Nat, k ≤ l6.length ∧ i = .int .i64 k) (fun _ i => l6.length - (intOf i).toNat)
      case atStart => exact ⟨0, Nat.zero_le _, rfl⟩
      case round =>
        obtain ⟨k, hk, rfl⟩ := hrel
        by_cases hkk : k < l6.length
        · have hck := hcl3 k hkk
          have hkl : (k : Int) < (l6.length : Int) := by omega
          rw [heq k hkk] at hck
          clear heq hcl3 hd
          go_wp2
          go_round
          case rel => exact ⟨k + 1, by omega, by go_num⟩
          case measure => simp [intOf]; omega
        · obtain rfl : k = l6.length := by omega
          clear heq hcl3 hc0 hs0
          generalize l6.length = n at *
          by_cases ho : a1 = a0
          · rw [if_pos ho] at hd
            subst ho
            by_cases hh : 0 < n8
            · rw [if_pos hh] at hd
              subst hd
              go_wp2
              apply wp_goto
              refine GoQ_goto rfl ?_
              go_wp2
              apply wp_goto
              refine GoQ_goto rfl ?_
              go_wp2
              rw [GoQ_ret]
              exact bodyPost_ret (v := decV (4, s0, 0, 0)) (by simp [results, Tryd.results10, go_sem]) rfl ⟨rfl, by repeat (first | exact Below.refl _ _ | apply below_alloc | apply pw_below_drewN | apply below_drew)⟩
            · rw [if_neg hh] at hd
              by_cases hmg : a2 < 0
              · rw [if_pos (Or.inl hmg)] at hd
                subst hd
                go_wp2
                apply wp_goto
                refine GoQ_goto rfl ?_
                go_wp2
                apply wp_goto
                refine GoQ_goto rfl ?_
                go_wp2
                rw [GoQ_ret]
                exact bodyPost_ret (v := decV (1, s0, 0, 0)) (by simp [results, Tryd.results10, go_sem]) rfl ⟨rfl, by repeat (first | exact Below.refl _ _ | apply below_alloc | apply pw_below_drewN | apply below_drew)⟩
              · by_cases he : n7 = n
                · rw [if_pos (Or.inr he)] at hd
                  subst he
                  subst hd
                  go_wp2
                  apply wp_goto
                  refine GoQ_goto rfl ?_
                  go_wp2
                  apply wp_goto
                  refine GoQ_goto rfl ?_
                  go_wp2
                  rw [GoQ_ret]
                  exact bodyPost_ret (v := decV (1, s0, 0, 0)) (by simp [results, Tryd.results10, go_sem]) rfl ⟨rfl, by repeat (first | exact Below.refl _ _ | apply below_alloc | apply pw_below_drewN | apply below_drew)⟩
                · rw [if_neg (by omega)] at hd
                  have heb : ((n7 : Int) == (n : Int)) = false := by rw [beq_eq_false_iff_ne]; omega
                  by_cases h0 : 0 < n7
                  · rw [if_pos h0] at hd
                    subst hd
                    go_wp2
                    apply wp_goto
                    refine GoQ_goto rfl ?_
                    go_wp2
                    apply wp_goto
                    refine GoQ_goto rfl ?_
                    go_wp2
                    rw [GoQ_ret]
                    exact bodyPost_ret (v := decV (4, s0, 0, 0)) (by simp [results, Tryd.results10, go_sem]) rfl ⟨rfl, by repeat (first | exact Below.refl _ _ | apply below_alloc | apply pw_below_drewN | apply below_drew)⟩
                  · rw [if_neg h0] at hd
                    subst hd
                    go_wp2
                    apply wp_goto
                    refine GoQ_goto rfl ?_
                    go_wp2
                    go_region
                    go_wp2
                    apply wp_goto
                    refine GoQ_goto rfl ?_
                    go_wp2
                    rw [GoQ_ret]
                    exact bodyPost_ret (v := decV (3, s0, a2, a4)) (by simp [results, Tryd.results10, go_sem]) rfl ⟨rfl, by repeat (first | exact Below.refl _ _ | apply below_alloc | apply pw_below_drewN | apply below_drew)⟩
          · rw [if_neg ho] at hd
            have hob : (a1 == a0) = false := by rw [beq_eq_false_iff_ne]; exact ho
            by_cases hi : 0 ≤ a3 ∧ 0 < a5 ∧ a5 = a4
            · rw [if_pos hi] at hd
              obtain ⟨hi1, hi2, rfl⟩ := hi
              by_cases hh : 0 < n8
              · rw [if_pos (Or.inl hh)] at hd
                subst hd
                go_wp2
                apply wp_goto
                refine GoQ_goto rfl ?_
                go_wp2
                apply wp_label
                go_wp2
                rw [GoQ_ret]
                exact bodyPost_ret (v := decV (4, s0, 0, 0)) (by simp [results, Tryd.results10, go_sem]) rfl ⟨rfl, by repeat (first | exact Below.refl _ _ | apply below_alloc | apply pw_below_drewN | apply below_drew)⟩
              · by_cases h1 : 1 < n
                · by_cases h2 : n7 < n
                  · rw [if_pos (Or.inr ⟨h1, h2⟩)] at hd
                    subst hd
                    go_wp2
                    apply wp_goto
                    refine GoQ_goto rfl ?_
                    go_wp2
                    apply wp_label
                    go_wp2
                    rw [GoQ_ret]
                    exact bodyPost_ret (v := decV (4, s0, 0, 0)) (by simp [results, Tryd.results10, go_sem]) rfl ⟨rfl, by repeat (first | exact Below.refl _ _ | apply below_alloc | apply pw_below_drewN | apply below_drew)⟩
                  · rw [if_neg (by omega)] at hd
                    subst hd
                    go_wp2
                    apply wp_goto
                    refine GoQ_goto rfl ?_
                    go_wp2
                    apply wp_label
                    go_wp2
                    rw [GoQ_ret]
                    exact bodyPost_ret (v := decV (1, s0, 0, 0)) (by simp [results, Tryd.results10, go_sem]) rfl ⟨rfl, by repeat (first | exact Below.refl _ _ | apply below_alloc | apply pw_below_drewN | apply below_drew)⟩
                · rw [if_neg (by omega)] at hd
                  subst hd
                  go_wp2
                  apply wp_goto
                  refine GoQ_goto rfl ?_
                  go_wp2
                  apply wp_label
                  go_wp2
                  rw [GoQ_ret]
                  exact bodyPost_ret (v := decV (1, s0, 0, 0)) (by simp [results, Tryd.results10, go_sem]) rfl ⟨rfl, by repeat (first | exact Below.refl _ _ | apply below_alloc | apply pw_below_drewN | apply below_drew)⟩
            · rw [if_neg hi] at hd
              by_cases i1 : 0 ≤ a3
              · by_cases i2 : 0 < a5
                · have i3 : (a5 == a4) = false := by rw [beq_eq_false_iff_ne]; exact fun e => hi ⟨i1, i2, e⟩
                  by_cases hn : a1 < 0
                  · rw [if_pos hn] at hd
                    subst hd
                    go_wp2
                    go_region
                    go_wp2
                    apply wp_goto
                    refine GoQ_goto rfl ?_
                    go_wp2
                    rw [GoQ_ret]
                    exact bodyPost_ret (v := decV (6, s0, 0, 0)) (by simp [results, Tryd.results10, go_sem]) rfl ⟨rfl, by repeat (first | exact Below.refl _ _ | apply below_alloc | apply pw_below_drewN | apply below_drew)⟩
                  · rw [if_neg hn] at hd
                    subst hd
                    go_wp2
                    go_region
                    go_wp2
                    apply wp_goto
                    refine GoQ_goto rfl ?_
                    go_wp2
                    rw [GoQ_ret]
                    exact bodyPost_ret (v := decV (2, s0, a1, 0)) (by simp [results, Tryd.results10, go_sem]) rfl ⟨rfl, by repeat (first | exact Below.refl _ _ | apply below_alloc | apply pw_below_drewN | apply below_drew)⟩
                · clear hi
                  by_cases hn : a1 < 0
                  · rw [if_pos hn] at hd
                    subst hd
                    go_wp2
                    go_region
                    go_wp2
                    apply wp_goto
                    refine GoQ_goto rfl ?_
                    go_wp2
                    rw [GoQ_ret]
                    exact bodyPost_ret (v := decV (6, s0, 0, 0)) (by simp [results, Tryd.results10, go_sem]) rfl ⟨rfl, by repeat (first | exact Below.refl _ _ | apply below_alloc | apply pw_below_drewN | apply below_drew)⟩
                  · rw [if_neg hn] at hd
                    subst hd
                    go_wp2
                    go_region
                    go_wp2
                    apply wp_goto
                    refine GoQ_goto rfl ?_
                    go_wp2
                    rw [GoQ_ret]
                    exact bodyPost_ret (v := decV (2, s0, a1, 0)) (by simp [results, Tryd.results10, go_sem]) rfl ⟨rfl, by repeat (first | exact Below.refl _ _ | apply below_alloc | apply pw_below_drewN | apply below_drew)⟩
              · clear hi
                by_cases hn : a1 < 0
                · rw [if_pos hn] at hd
                  subst hd
                  go_wp2
                  go_region
                  go_wp2
                  apply wp_goto
                  refine GoQ_goto rfl ?_
                  go_wp2
                  rw [GoQ_ret]
                  exact bodyPost_ret (v := decV (6, s0, 0, 0)) (by simp [results, Tryd.results10, go_sem]) rfl ⟨rfl, by repeat (first | exact Below.refl _ _ | apply below_alloc | apply pw_below_drewN | apply below_drew)⟩
                · rw [if_neg hn] at hd
                  subst hd
                  go_wp2
                  go_region
                  go_wp2
                  apply wp_goto
                  refine GoQ_goto rfl ?_
                  go_wp2
                  rw [GoQ_ret]
                  exact bodyPost_ret (v := decV (2, s0, a1, 0)) (by simp [results, Tryd.results10, go_sem]) rfl ⟨rfl, by repeat (first | exact Below.refl _ _ | apply below_alloc | apply pw_below_drewN | apply below_drew)⟩
end Go.Proofs.YtnccoopefajohaaDoor
