/- Bytes brought to a parser; how many are left; a new one. Conditions: none. -/
import Derived.Test.YtmdekodoicnmbaaDoorRsH
import Derived.ArgAppend
import Derived.Deep.RegionHeld3
set_option linter.unusedVariables false
set_option linter.unusedSimpArgs false
namespace Go.Proofs.YtmdekodoicnmbaaDoor
open Go.RowKit Go.Proofs.YtmdekodoicnmbaaDoorW.PrintWords
def byteCs (l : List UInt8) : List Value := l.map fun b => Value.int .u8 (b.toNat : Int)
theorem byteCs_len (l : List UInt8) : (byteCs l).length = l.length * 1 := by simp [byteCs]
theorem byteCs_one (l : List UInt8) : ∀ u ∈ byteCs l, u.oneCell' = true := fun u hu => by
  obtain ⟨x, -, rfl⟩ := List.mem_map.1 hu
  rfl
theorem byteCs_at {l : List UInt8} {j : Nat} {u : Value} (h : (byteCs l)[j]? = some u) : j < l.length ∧ u = .int .u8 ((l.getD j 0).toNat : Int) := by
  unfold byteCs at h
  rw [List.getElem?_map] at h
  cases hj : l[j]? with
  | none => rw [hj] at h; simp at h
  | some x =>
    rw [hj] at h
    simp at h
    exact ⟨(List.getElem?_eq_some_iff.1 hj).1, by rw [← h, List.getD_eq_getElem?_getD, hj]; rfl⟩
/-- a block of bytes -/
def T5 (W : World) (A : Option Addr) : Prop := ∀ ad, A = some ad → ∃ cs fr, W.heap[ad.block]? = some (.cells cs 5 fr)
theorem rd_own {W : World} {base n : Nat} {v : Value} {l : List UInt8} (h : W.ownsRow base 5 1 v n (byteCs l)) : ∃ A c, v = .slice A l.length c ∧ n = l.length ∧ RdB W A c l ∧ T5 W A := by
  have hn : n = l.length := by have := h.1; rw [byteCs_len] at this; omega
  subst hn
  rcases h.2 with ⟨rfl, h0⟩ | ⟨g, cap, cur, rfl, hb, hh, h1, h2, h3, h4⟩
  · have : l = [] := List.length_eq_zero_iff.1 h0
    subst this
    exact ⟨none, 0, rfl, rfl, RdB.nil W, fun ad h => by cases h⟩
  · refine ⟨some ⟨g, 0, none⟩, cap, rfl, rfl, ⟨h1, by unfold maxLen at h2; exact h2, Or.inr ⟨g, 0, rfl, (Array.getElem?_eq_some_iff.1 hh).1, fun j hj => ?_⟩⟩, fun ad h => by cases h; exact ⟨cur, (0, 0), hh⟩⟩
    have hc := h.cells (g := g) rfl j (.int .u8 ((l.getD j 0).toNat : Int)) (by
      unfold byteCs
      rw [List.getElem?_map, List.getElem?_eq_getElem hj, List.getD_eq_getElem?_getD, List.getElem?_eq_getElem hj]
      rfl)
    rw [Addr.add_mid] at hc
    exact hc
set_option maxRecDepth 100000 in
theorem run_feed (W : World) (A : Option Addr) (c : Nat) (l : List UInt8) (gb ob c2 : Nat) (l2 : List UInt8) (h1 : RdB W A c l) (h2 : RdB W (some ⟨gb, ob, none⟩) c2 l2) (hlen : l.length + l2.length ≤ 140737488355328) :
    ∃ A' c' W', (Builtin.append_ #[26, 26] 26 #[.slice A l.length l.length, .slice (some ⟨gb, ob, none⟩) l2.length c2]).run Tryd.prog W = .ok (.slice A' (l ++ l2).length c') W' ∧ Below W.heap.size W W' ∧ RdB W' A' c' (l ++ l2) ∧ (T5 W A → T5 W' A') := by
  obtain ⟨i0, hi0, hz0, hz1, hz2⟩ := info_u8
  have hnews : ∀ j u, (byteCs l2)[j]? = some u → W.cell? ((⟨gb, ob, none⟩ : Addr).add j) = some u := fun j u hu => by
    obtain ⟨hj, rfl⟩ := byteCs_at hu
    rcases h2.2.2 with ⟨h, -⟩ | ⟨g, o, e, -, hc⟩
    · cases h
    · injection e with e
      injection e with e1 e2
      subst e1 e2
      rw [Addr.add_mid]
      exact hc j hj
  rcases h1.2.2 with ⟨rfl, rfl⟩ | ⟨g, o, rfl, hg, hc⟩
  · have hl0 : l = [] := List.length_eq_zero_iff.1 (by have := h1.1; omega)
    subst hl0
    have hl2 : l2.length ≤ 140737488355328 := by simpa using hlen
    obtain ⟨v', w', hr, hown, hgrow, -⟩ := run_append_own (P := Tryd.prog) W W.heap.size 26 26 5 i0 _ 1 1 Tryd.underlying26 hi0 hz0 hz1 hz2 rfl (by decide) (.slice none 0 0) 0 [] (own_nil _ _ _ _) ⟨gb, ob, none⟩ l2.length c2 (byteCs l2) (byteCs_len l2) hnews (byteCs_one l2) (by unfold maxLen; omega) (by omega) (Nat.le_refl _)
    rw [List.nil_append] at hown
    obtain ⟨A', c', rfl, -, hrd, ht⟩ := rd_own hown
    exact ⟨A', c', w', hr, (Below.refl _ _).grown hgrow (Nat.le_refl _) (fun k hk => by simp [Value.ownBlock] at hk), hrd, fun _ => ht⟩
  · have holds : ∀ j u, (byteCs l)[j]? = some u → W.cell? ((⟨g, o, none⟩ : Addr).add j) = some u := fun j u hu => by
      obtain ⟨hj, rfl⟩ := byteCs_at hu
      rw [Addr.add_mid]
      exact hc j hj
    by_cases hm : l2 = []
    · subst hm
      have hrun := run_append_room_cells (P := Tryd.prog) W 26 26 5 i0 Tryd.underlying26 hi0 g o l.length l.length ⟨gb, ob, none⟩ 0 c2 [] (by simp) (fun j u hu => by simp at hu) (fun u hu => by simp at hu) (by omega) (fun j hj => by simp at hj) (fun j hj => by simp at hj)
      refine ⟨some ⟨g, o, none⟩, l.length, W, ?_, Below.refl _ _, ?_, fun h => h⟩
      · rw [List.append_nil]
        have hs : W.setCells g (o + l.length * i0.size) [] = W := rfl
        rw [hs] at hrun
        exact hrun
      · rw [List.append_nil]
        exact ⟨Nat.le_refl _, by have := h1.1; have := h1.2.1; omega, Or.inr ⟨g, o, rfl, hg, hc⟩⟩
    · have hpos : 0 < l2.length := List.length_pos_iff.2 hm
      have hr := run_append_grow (P := Tryd.prog) W 26 26 5 i0 _ Tryd.underlying26 hi0 hz0 ⟨g, o, none⟩ l.length l.length (byteCs l) (by rw [hz1]; exact byteCs_len l) holds ⟨gb, ob, none⟩ l2.length c2 (byteCs l2) (by rw [hz1]; exact byteCs_len l2) hnews (by omega) (by omega) (by rw [hz2]; exact growslice_fits (by omega) (by omega))
      refine ⟨_, _, _, by rw [List.length_append]; exact hr, below_alloc (below_drew (Below.refl _ _)) _, And.intro ?_ (fun _ ad h => by cases h; exact ⟨_, _, heap_alloc_new W.drew _⟩)⟩
      have hge := grownCap_ge W (l.length + l2.length) l.length 5
      have hcm : grownCap W (l.length + l2.length) l.length 5 ≤ maxLen := grownCap_le_maxLen W _ _ 5 (by unfold maxLen; omega)
      refine ⟨by rw [List.length_append]; exact hge, by unfold maxLen at hcm; exact hcm, Or.inr ⟨W.heap.size, 0, rfl, by simp, fun j hj => ?_⟩⟩
      have hnh : (W.drew.alloc (.cells ((byteCs l).toArray ++ (byteCs l2).toArray ++ Builtin.zeroCells (Value.int IntKind.u8 0).cells (grownCap W (l.length + l2.length) l.length 5 - (l.length + l2.length))) 5)).heap[W.heap.size]? = _ := heap_alloc_new W.drew _
      rw [cell_of_row _ _ _ _ 5 (0, 0) hnh]
      rw [List.length_append] at hj
      rw [Nat.zero_add]
      by_cases hjl : j < l.length
      · rw [Array.append_assoc, Array.getElem?_append_left (by simp [byteCs]; exact hjl)]
        simp [byteCs, List.getD_eq_getElem?_getD, List.getElem?_append_left hjl, hjl]
      · rw [Array.getElem?_append_left (by simp [byteCs]; omega), Array.getElem?_append_right (by simp [byteCs]; omega)]
        have h4 : j - l.length < l2.length := by omega
        simp [byteCs, List.getD_eq_getElem?_getD, List.getElem?_append_right (show l.length ≤ j by omega), h4]
end Go.Proofs.YtmdekodoicnmbaaDoor
