/- An argument read. Conditions: the listed variables as laid; texts within the machine's reach. -/
import Derived.Test.YtmdekodoicnmbaaDoorRsE
set_option linter.unusedVariables false
set_option linter.unusedSimpArgs false
namespace Go.Proofs.YtmdekodoicnmbaaDoor
open Go.RowKit Go.Proofs.YtmdekodoicnmbaaDoorW.PrintWords
/-- an argument: its bytes, how many bytes it takes, what is amiss -/
def bulkV (l : List UInt8) : List UInt8 × Nat × Int :=
  if l ≠ [] ∧ l.getD 0 0 ≠ 36 then ([], 0, 31)
  else if lkV l < 0 then ([], 0, if 512 ≤ l.length then 33 else 0)
  else if numV (l.take ((lkV l).toNat + 1)) 1024 < 0 then ([], 0, 32)
  else
    let n := (numV (l.take ((lkV l).toNat + 1)) 1024).toNat
    let r := l.drop ((lkV l).toNat + 1)
    if (n < r.length ∧ r.getD n 0 ≠ 13) ∨ (n + 1 < r.length ∧ r.getD (n + 1) 0 ≠ 10) then ([], 0, 34)
    else if r.length < n + 2 then ([], 0, 0)
    else (r.take n, (lkV l).toNat + 1 + n + 2, 0)
def bulkR (l : List UInt8) : Ending := .returned (.tuple #[.string ⟨(bulkV l).1.toArray⟩, .int .i64 ((bulkV l).2.1 : Int), .int .i64 (bulkV l).2.2])
theorem numV_le (l : List UInt8) (most : Int) (h : -1 ≤ most) : numV l most ≤ most := by
  unfold numV
  simp only
  split
  · split
    · rename_i h1
      simp at h1
      omega
    · exact h
  · exact h
theorem neq_byte {x : UInt8} {k : Nat} (hk : k < 256) (h : x ≠ UInt8.ofNat k) : ((x.toNat : Int) == (k : Int)) = false := by
  rw [beq_eq_false_iff_ne]
  intro e
  apply h
  apply UInt8.toNat_inj.1
  simp
  omega
set_option maxHeartbeats 8000000 in
set_option maxRecDepth 100000 in
theorem bulk_calls (A : Option Addr) (c : Nat) (l : List UInt8) (hs : l.length ≤ 140737488351232) (w : World) (h : RdB w A c l) (hE : Env w) :
    Calls Tryd.prog 23 #[.slice A l.length c] w fun e w' => e = bulkR l ∧ Below w.heap.size w w' := by
  have hL := line_calls A c l w h
  have hlk := lk_bd l
  unfold lineR at hL
  by_cases c1 : l ≠ [] ∧ l.getD 0 0 ≠ 36
  · have hv : bulkV l = ([], 0, 31) := by unfold bulkV; rw [if_pos c1]
    unfold bulkR
    rw [hv]
    obtain ⟨h1, h2, h3⟩ := h
    have hpos : 0 < l.length := List.length_pos_iff.2 c1.1
    rcases h3 with ⟨-, rfl⟩ | ⟨g, o, rfl, hg, hc⟩
    · omega
    have hc0 := hc 0 hpos
    have hne := neq_byte (k := 36) (by decide) c1.2
    have hpi : (0 : Int) < (l.length : Int) := by omega
    generalize (l.getD 0 0).toNat = X at *
    rw [Nat.add_zero] at hc0
    have hnee : ((X : Int) == 36) = false := hne
    clear hc hL hne c1
    go_enter Tryd.func23, Tryd.ntmps23
    go_wp2_with fail
    go_ret3
    exact ⟨rfl, Below.refl _ _⟩
  · by_cases c2 : lkV l < 0
    · have hv : bulkV l = ([], 0, if 512 ≤ l.length then 33 else 0) := by unfold bulkV; rw [if_neg c1, if_pos c2]
      unfold bulkR
      rw [hv]
      rw [if_neg (by omega)] at hL
      simp only
      generalize hE5 : (if 512 ≤ l.length then (33 : Int) else 0) = E5 at *
      have hE5' : E5 = 0 ∨ E5 = 33 := by rw [← hE5]; split <;> simp
      clear hE5
      obtain ⟨h1, h2, h3⟩ := h
      by_cases hpos : 0 < l.length
      · rcases h3 with ⟨-, rfl⟩ | ⟨g, o, rfl, hg, hc⟩
        · omega
        have hc0 := hc 0 hpos
        have hx : l.getD 0 0 = 36 := by
          rcases Classical.em (l.getD 0 0 = 36) with h | h
          · exact h
          · exact absurd ⟨List.length_pos_iff.1 hpos, h⟩ c1
        rw [hx, Nat.add_zero] at hc0
        have hc0' : w.cell? ⟨g, o, none⟩ = some (.int .u8 36) := hc0
        have hpi : (0 : Int) < (l.length : Int) := by omega
        clear hc hc0 c1 hx
        rcases hE5' with rfl | rfl
        all_goals
          go_enter Tryd.func23, Tryd.ntmps23
          go_wp2_with fail
          refine hL.mono ?_
          rintro e w2 ⟨rfl, rfl⟩
          go_wp2_with fail
          go_ret3
          exact ⟨rfl, Below.refl _ _⟩
      · have hpi : ¬ (0 : Int) < (l.length : Int) := by omega
        clear c1 h3
        rcases hE5' with rfl | rfl
        all_goals
          go_enter Tryd.func23, Tryd.ntmps23
          go_wp2_with fail
          refine hL.mono ?_
          rintro e w2 ⟨rfl, rfl⟩
          go_wp2_with fail
          go_ret3
          exact ⟨rfl, Below.refl _ _⟩
    · have hk0 : 0 ≤ lkV l := by omega
      rw [if_pos hk0] at hL
      obtain ⟨k, hk⟩ : ∃ k : Nat, lkV l = k := ⟨(lkV l).toNat, by omega⟩
      rw [hk] at hL hlk
      simp only [Int.toNat_natCast] at hL
      have hkl : k + 1 ≤ l.length := by omega
      have hx : l.getD 0 0 = 36 := by
        rcases Classical.em (l.getD 0 0 = 36) with h | h
        · exact h
        · exact absurd ⟨fun e => by rw [e] at hkl; simp at hkl, h⟩ c1
      obtain ⟨-, hrl⟩ := cut_to A c l (k + 1) hkl h.1
      have hline := hrl w h
      have hll : (l.take (k + 1)).length = k + 1 := by simp; omega
      have hNum := fun W hW hE => number_calls A c (l.take (k + 1)) 1024 (by rw [hll]; omega) (by rw [hll]; omega) W hW hE
      rw [hll] at hNum
      obtain ⟨A2, hcut, hr2⟩ := cut_from A c l (k + 1) hkl h.1
      have hrest := hr2 w h
      have hbv : bulkV l = if numV (l.take (k + 1)) 1024 < 0 then ([], 0, 32) else
          if ((numV (l.take (k + 1)) 1024).toNat < (l.drop (k + 1)).length ∧ (l.drop (k + 1)).getD (numV (l.take (k + 1)) 1024).toNat 0 ≠ 13) ∨ ((numV (l.take (k + 1)) 1024).toNat + 1 < (l.drop (k + 1)).length ∧ (l.drop (k + 1)).getD ((numV (l.take (k + 1)) 1024).toNat + 1) 0 ≠ 10) then ([], 0, 34)
          else if (l.drop (k + 1)).length < (numV (l.take (k + 1)) 1024).toNat + 2 then ([], 0, 0)
          else ((l.drop (k + 1)).take (numV (l.take (k + 1)) 1024).toNat, k + 1 + (numV (l.take (k + 1)) 1024).toNat + 2, 0) := by
        unfold bulkV
        rw [if_neg c1, if_neg c2, hk]
        rfl
      have hle := numV_le (l.take (k + 1)) 1024 (by decide)
      obtain ⟨h1, h2, h3⟩ := h
      have hpos : 0 < l.length := by omega
      have hpi : (0 : Int) < (l.length : Int) := by omega
      rcases h3 with ⟨-, rfl⟩ | ⟨g, o, rfl, hg, hc⟩
      · omega
      have hc0 := hc 0 hpos
      rw [hx, Nat.add_zero] at hc0
      have hc0' : w.cell? ⟨g, o, none⟩ = some (.int .u8 36) := hc0
      have hrlen : l.length - (k + 1) = (l.drop (k + 1)).length := by simp
      rw [hrlen] at hcut
      unfold bulkR
      generalize l.drop (k + 1) = r at *
      generalize numV (l.take (k + 1)) 1024 = N at *
      clear hc hc0 c1 hx hk hr2 hrl hlk hll c2
      have hcut1 : ∀ W : World, (Instr.slice 26 (.slice (some ⟨g, o, none⟩) l.length c) (some (.int .i64 ((k : Int) + 1))) none none).run Tryd.prog W = .ok (.slice A2 r.length (c - (k + 1))) W := fun W => by
        have := hcut W
        rwa [Int.natCast_succ] at this
      have hkl' : (k : Int) + 1 ≤ (l.length : Int) := by omega
      by_cases cN : N < 0
      · rw [hbv, if_pos cN]
        clear hbv hcut hcut1 hrest
        replace hline := Lib.hid hline
        replace hrlen := Lib.hid hrlen
        go_enter Tryd.func23, Tryd.ntmps23
        go_wp2_with fail
        refine hL.mono ?_
        rintro e w2 ⟨rfl, rfl⟩
        go_wp2_with fail
        refine (hNum _ hline.out hE).mono ?_
        rintro e w3 ⟨rfl, hb⟩
        go_wp2_with fail
        go_ret3
        exact ⟨rfl, hb⟩
      · rw [hbv, if_neg cN]
        obtain ⟨n, rfl⟩ : ∃ n : Nat, N = n := ⟨N.toNat, by omega⟩
        simp only [Int.toNat_natCast]
        have hn1 : n ≤ 1024 := by omega
        obtain ⟨q1, q2, q3⟩ := hrest
        have hcl : ∀ j, j < r.length → ∃ g2 o2, A2 = some ⟨g2, o2, none⟩ ∧ g2 < w.heap.size ∧ w.cell? ⟨g2, o2 + j, none⟩ = some (.int .u8 ((r.getD j 0).toNat : Int)) := fun j hj => by
          rcases q3 with ⟨-, h0⟩ | ⟨g2, o2, e2, hg2, hc2⟩
          · omega
          · exact ⟨g2, o2, e2, hg2, hc2 j hj⟩
        have hr3 : r.length + (k + 1) = l.length := by rw [← hrlen]; exact Nat.sub_add_cancel hkl
        have hsum : IntKind.i64.wrap ((n : Int) + 1) = (n : Int) + 1 := by rw [IntKind.wrap_i64]; omega
        have hsum2 : IntKind.i64.wrap ((n : Int) + 2) = (n : Int) + 2 := by rw [IntKind.wrap_i64]; omega
        have hn0 : ¬ (n : Int) < 0 := by omega
        clear hbv hcut q3 hle
        replace hline := Lib.hid hline
        replace hrlen := Lib.hid hrlen
        by_cases r1 : n < r.length
        · obtain ⟨g2, o2, rfl, hg2, hX⟩ := hcl n r1
          have d1 : decide ((n : Int) < (r.length : Int)) = true := decide_eq_true (by omega)
          have d1' : (n : Int) < (r.length : Int) := by omega
          have d0 : (0 : Int) ≤ (n : Int) := by omega
          by_cases x13 : r.getD n 0 = 13
          · rw [x13] at hX
            have hX' : w.cell? ⟨g2, o2 + n, none⟩ = some (.int .u8 13) := hX
            by_cases r2 : n + 1 < r.length
            · obtain ⟨g3, o3, e3, hg3, hY⟩ := hcl (n + 1) r2
              obtain ⟨rfl, rfl⟩ : g2 = g3 ∧ o2 = o3 := by injection e3 with e3; injection e3 with e4 e5; exact ⟨e4, e5⟩
              have d2 : decide ((n : Int) + 1 < (r.length : Int)) = true := decide_eq_true (by omega)
              have d2' : (n : Int) + 1 < (r.length : Int) := by omega
              have d20 : (0 : Int) ≤ (n : Int) + 1 := by omega
              have dt : ((n : Int) + 1).toNat = n + 1 := by omega
              by_cases y10 : r.getD (n + 1) 0 = 10
              · rw [if_neg (by rintro (⟨-, h⟩ | ⟨-, h⟩); exact h x13; exact h y10), if_neg (by omega)]
                rw [y10] at hY
                have hY' : w.cell? ⟨g2, o2 + (n + 1), none⟩ = some (.int .u8 10) := hY
                have d3 : ¬ (r.length : Int) < (n : Int) + 2 := by omega
                have hcv : ∀ W, Below w.heap.size w W → (convert 26 9 (.slice (some ⟨g2, o2, none⟩) n (c - (k + 1)))).run Tryd.prog W = .ok (.string ⟨(r.take n).toArray⟩) W := fun W hb => by
                  have hh : RdB W (some ⟨g2, o2, none⟩) (c - (k + 1)) (r.take n) := by
                    refine ⟨by simp; omega, q2, Or.inr ⟨g2, o2, rfl, Nat.lt_of_lt_of_le hg2 hb.size, fun j hj => ?_⟩⟩
                    simp at hj
                    obtain ⟨g4, o4, e4, -, h4⟩ := hcl j (by omega)
                    injection e4 with e4
                    injection e4 with e5 e6
                    subst e5 e6
                    rw [(hb.cell (p := ⟨g2, o2 + j, none⟩) hg2).trans h4, List.getD_eq_getElem?_getD, List.getD_eq_getElem?_getD, List.getElem?_take, if_pos (by omega)]
                  have := conv_str hh
                  rwa [show (r.take n).length = n by simp; omega] at this
                replace hcv := Lib.hid hcv
                have s1 : IntKind.i64.wrap ((k : Int) + 1 + (n : Int)) = (k : Int) + 1 + (n : Int) := by rw [IntKind.wrap_i64]; omega
                have s2 : IntKind.i64.wrap ((k : Int) + 1 + (n : Int) + 2) = ((k + 1 + n + 2 : Nat) : Int) := by rw [IntKind.wrap_i64]; omega
                simp only
                generalize hSS : (⟨(r.take n).toArray⟩ : ByteArray) = SS at *
                generalize hKK : k + 1 + n + 2 = KK at *
                replace hSS := Lib.hid hSS
                replace hKK := Lib.hid hKK
                clear hcl hX hY x13 y10 e3
                go_enter Tryd.func23, Tryd.ntmps23
                go_wp2_with fail
                refine hL.mono ?_
                rintro e w2 ⟨rfl, rfl⟩
                go_wp2_with fail
                refine (hNum _ hline.out hE).mono ?_
                rintro e w3 ⟨rfl, hb⟩
                have hX3 := (hb.cell (p := ⟨g2, o2 + n, none⟩) hg2).trans hX'
                have hY3 := (hb.cell (p := ⟨g2, o2 + (n + 1), none⟩) hg2).trans hY'
                have hcv3 := hcv.out w3 hb
                clear hX' hY'
                go_wp2_with fail
                go_ret3
                exact ⟨rfl, hb⟩
              · rw [if_pos (Or.inr ⟨r2, y10⟩)]
                have hne := neq_byte (k := 10) (by decide) y10
                generalize (r.getD (n + 1) 0).toNat = Y at *
                have hnee : ((Y : Int) == 10) = false := hne
                clear hcl hX x13 y10 e3 hne
                go_enter Tryd.func23, Tryd.ntmps23
                go_wp2_with fail
                refine hL.mono ?_
                rintro e w2 ⟨rfl, rfl⟩
                go_wp2_with fail
                refine (hNum _ hline.out hE).mono ?_
                rintro e w3 ⟨rfl, hb⟩
                have hX3 := (hb.cell (p := ⟨g2, o2 + n, none⟩) hg2).trans hX'
                have hY3 := (hb.cell (p := ⟨g2, o2 + (n + 1), none⟩) hg2).trans hY
                clear hX' hY
                go_wp2_with fail
                go_ret3
                exact ⟨rfl, hb⟩
            · rw [if_neg (by rintro (⟨-, h⟩ | ⟨h, -⟩); exact h x13; exact r2 h), if_pos (by omega)]
              have d2 : decide ((n : Int) + 1 < (r.length : Int)) = false := decide_eq_false (by omega)
              have d3 : (r.length : Int) < (n : Int) + 2 := by omega
              clear hcl hX x13
              go_enter Tryd.func23, Tryd.ntmps23
              go_wp2_with fail
              refine hL.mono ?_
              rintro e w2 ⟨rfl, rfl⟩
              go_wp2_with fail
              refine (hNum _ hline.out hE).mono ?_
              rintro e w3 ⟨rfl, hb⟩
              have hX3 := (hb.cell (p := ⟨g2, o2 + n, none⟩) hg2).trans hX'
              clear hX'
              go_wp2_with fail
              go_ret3
              exact ⟨rfl, hb⟩
          · rw [if_pos (Or.inl ⟨r1, x13⟩)]
            have hne := neq_byte (k := 13) (by decide) x13
            generalize (r.getD n 0).toNat = X at *
            have hnee : ((X : Int) == 13) = false := hne
            have hnee2 : ((X : Int) != 13) = true := by rw [bne, hnee]; rfl
            have hnee3 : ¬ (X : Int) = 13 := by simpa using hne
            clear hcl x13 hne
            go_enter Tryd.func23, Tryd.ntmps23
            go_wp2_with fail
            refine hL.mono ?_
            rintro e w2 ⟨rfl, rfl⟩
            go_wp2_with fail
            refine (hNum _ hline.out hE).mono ?_
            rintro e w3 ⟨rfl, hb⟩
            have hX3 := (hb.cell (p := ⟨g2, o2 + n, none⟩) hg2).trans hX
            clear hX
            go_wp2_with fail
            go_ret3
            exact ⟨rfl, hb⟩
        · rw [if_neg (by rintro (⟨h, -⟩ | ⟨h, -⟩) <;> omega), if_pos (by omega)]
          have d1 : decide ((n : Int) < (r.length : Int)) = false := decide_eq_false (by omega)
          have d2 : decide ((n : Int) + 1 < (r.length : Int)) = false := decide_eq_false (by omega)
          have d3 : (r.length : Int) < (n : Int) + 2 := by omega
          clear hcl
          go_enter Tryd.func23, Tryd.ntmps23
          go_wp2_with fail
          refine hL.mono ?_
          rintro e w2 ⟨rfl, rfl⟩
          go_wp2_with fail
          refine (hNum _ hline.out hE).mono ?_
          rintro e w3 ⟨rfl, hb⟩
          go_wp2_with fail
          go_ret3
          exact ⟨rfl, hb⟩
end Go.Proofs.YtmdekodoicnmbaaDoor
