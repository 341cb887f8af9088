/- The stream that every law reads first, read. Conditions: the listed variables as laid. -/
import Derived.Test.YtmdekodoicnmbaaDoorRsP
import Derived.Lib.SlBytesConst
set_option linter.unusedVariables false
set_option linter.unusedSimpArgs false
namespace Go.Proofs.YtmdekodoicnmbaaDoor
open Go.RowKit Go.Proofs.YtmdekodoicnmbaaDoorW.PrintWords
theorem lists_cells {w : World} {A : Option Addr} {l : List (List ByteArray)} (h : kLists.C w A l.length l) (hn : 0 < l.length) : ∃ g o, A = some ⟨g, o, none⟩ ∧ g < w.heap.size ∧ ∀ j xs, l[j]? = some xs → ∃ A' c', w.cell? ⟨g, o + j, none⟩ = some (.slice A' xs.length c') ∧ xs.length ≤ c' ∧ Kd.string.C w A' xs.length xs := by
  obtain ⟨ad, rfl, hc⟩ := h.2.2 hn
  obtain ⟨g, o, sp⟩ := ad
  have hsz : kLists.sz = 1 := rfl
  obtain ⟨x0, hx0⟩ : ∃ x0, l[0]? = some x0 := ⟨l[0], List.getElem?_eq_getElem hn⟩
  obtain ⟨cs0, -, ⟨A0, c0, rfl, -, -⟩, hcell0⟩ := hc 0 x0 hx0
  have h0 := hcell0 0 _ rfl
  have e0 : (Addr.add ⟨g, o, sp⟩ (0 * kLists.sz + 0)) = ⟨g, o, sp⟩ := by simp [Addr.add]
  rw [e0] at h0
  obtain rfl : sp = none := spot_none h0
  refine ⟨g, o, rfl, World.block_lt_of_cell? w _ h0, fun j xs hj => ?_⟩
  obtain ⟨cs, -, ⟨A', c', rfl, h1, h2⟩, hcell⟩ := hc j xs hj
  refine ⟨A', c', ?_, h1, h2⟩
  have := hcell 0 _ rfl
  rw [Addr.add_mid, hsz, Nat.mul_one, Nat.add_zero] at this
  exact this
def pingC : Array Value := #[.int .u8 42, .int .u8 49, .int .u8 13, .int .u8 10, .int .u8 36, .int .u8 52, .int .u8 13, .int .u8 10, .int .u8 80, .int .u8 73, .int .u8 78, .int .u8 71, .int .u8 13, .int .u8 10, .int .u8 103, .int .u8 101, .int .u8 116, .int .u8 32, .int .u8 97, .int .u8 10]
theorem pingC_eq : pingC = (Lib.byteCells pingB).toArray := rfl
theorem ping_cell : ∀ j, j < 20 → pingC[j]? = some (.int .u8 ((pingB.getD j 0).toNat : Int)) := by
  intro j hj
  have hl : j < pingB.length := hj
  rw [pingC_eq, List.getElem?_toArray]
  unfold Lib.byteCells
  rw [List.getElem?_map, List.getElem?_eq_getElem hl, List.getD_eq_getElem?_getD, List.getElem?_eq_getElem hl]
  rfl
theorem rd_ping (w : World) (fr : Nat × Nat) : RdB (w.alloc (.cells pingC 5 fr)) (some ⟨w.heap.size, 0, none⟩) 20 pingB := by
  refine ⟨by decide, by decide, Or.inr ⟨_, _, rfl, by simp, fun j hj => ?_⟩⟩
  rw [World.cell?_alloc_mark, Nat.zero_add]
  exact ping_cell j hj
set_option maxHeartbeats 4000000 in
set_option maxRecDepth 100000 in
theorem alive_calls (w : World) (hE : Env w) : Calls Tryd.prog 8 #[] w fun e w' => e = .returned (.bool true) ∧ Below w.heap.size w w' := by
  go_enter Tryd.func8, Tryd.ntmps8
  go_wp2_with fail
  refine (New_calls _).mono ?_
  rintro e w1 ⟨rfl, hp1, hb1⟩
  have hcv := Lib.run_convert_bytes_const (P := Tryd.prog) w1 26 5 pingC 20 20 Tryd.underlying26 Tryd.underlying5
  have hrd := Lib.hid (rd_ping w1 (20, 21))
  have hp1a := Lib.hid (hp1.keep (below_alloc (Below.refl _ _) (.cells pingC 5 (20, 21))))
  have hb1a := Lib.hid (below_alloc hb1 (.cells pingC 5 (20, 21)))
  clear hp1 hb1
  unfold pingC at hcv
  go_wp2_with fail
  unfold pingC at hrd hp1a hb1a
  refine (Feed_calls _ w.heap.size [] 0 hp1a.out w1.heap.size 0 20 pingB hrd.out (by decide)).mono ?_
  rintro e w2 ⟨rfl, hp2, hk2⟩
  rw [if_pos rfl, List.nil_append] at hp2
  have hb2 := Keeps.base hb1a.out (Nat.le_refl _) hk2
  have hA := all_calls w hE w2 hb2 w.heap.size (Nat.le_refl _) pingB 0 hp2 (by decide) 9 (by decide)
  rw [all_ping] at hA
  clear hp1a hb1a hrd hcv hk2 hp2
  go_wp2_with fail
  refine hA.mono ?_
  rintro e w3 ⟨A, c, rfl, hR, hp3, hk3⟩
  have hb3 := Keeps.base hb2 (Nat.le_refl _) hk3
  obtain ⟨A', c', hAc, hcl, hC⟩ := Kd.R_reads hR
  injection hAc with h1 h2 h3
  subst h1 h3
  clear h2 hR hb2 hA hk3
  obtain ⟨g0, o0, rfl, -, hcs⟩ := lists_cells hC (by decide)
  obtain ⟨A1, c1, hc1, -, hC1⟩ := hcs 0 [pingS] rfl
  obtain ⟨A2, c2, hc2, -, hC2⟩ := hcs 1 [getS, aS] rfl
  obtain ⟨g1, o1, rfl, -, hs1⟩ := str_cells hC1 (by decide)
  have hs0 := hs1 0 pingS rfl
  clear hcs hs1 hC hC1 hC2
  replace hc1 : w3.cell? ⟨g0, o0, none⟩ = some (.slice (some ⟨g1, o1, none⟩) 1 c1) := hc1
  replace hc2 : w3.cell? ⟨g0, o0 + 1, none⟩ = some (.slice A2 2 c2) := hc2
  replace hs0 : w3.cell? ⟨g1, o1, none⟩ = some (.string ⟨#[80, 73, 78, 71]⟩) := hs0
  go_wp2_with fail
  refine (Left_calls w3 w.heap.size [] 0 hp3).mono ?_
  rintro e w4 ⟨rfl, rfl⟩
  go_wp2_with fail
  go_ret
  exact ⟨rfl, hb3⟩
end Go.Proofs.YtmdekodoicnmbaaDoor
