/- Two rows of commands that are alike. Conditions: rows of less than 2^63. -/
import Derived.Test.YtmdekodoicnmbaaDoorRsQ
set_option linter.unusedVariables false
set_option linter.unusedSimpArgs false
namespace Go.Proofs.YtmdekodoicnmbaaDoor
open Go.RowKit Go.Proofs.YtmdekodoicnmbaaDoorW.PrintWords
theorem w64s {x : Int} (h1 : -9223372036854775808 ≤ x) (h2 : x ≤ 9223372036854775807) : Go.RowKit.wrap64 x = x := by
  unfold Go.RowKit.wrap64; omega
theorem same_l1 (l : List (List ByteArray)) (i : Nat) (hi : i < l.length) (hl : l.length < 9223372036854775807) (hx : l[i].length < 9223372036854775807) (k0 : Nat) (h0 : RRp.marshalyardref03_Same.l0 k0 l l ((i + 1 : Nat) : Int) = some true) :
    ∀ d j : Nat, d = l[i].length - j → j ≤ l[i].length → ∃ k, RRp.marshalyardref03_Same.l1 k l l (i : Int) (j : Int) = some true := by
  have hr : RRp.rd_L2 l (i : Int) = l[i] := by simp [RRp.rd_L2, rdOf, List.getD, hi]
  have e1 : ((i : Int) + 1) = ((i + 1 : Nat) : Int) := by omega
  intro d
  induction d with
  | zero =>
    intro j hd hj
    refine ⟨k0 + 1, ?_⟩
    rw [RRp.marshalyardref03_Same.l1, if_pos (by omega), if_pos (by omega), hr, if_neg (by omega), w64s (by omega) (by omega), e1]
    exact h0
  | succ d ih =>
    intro j hd hj
    obtain ⟨k, hk⟩ := ih (j + 1) (by omega) (by omega)
    have e2 : ((j : Int) + 1) = ((j + 1 : Nat) : Int) := by omega
    refine ⟨k + 1, ?_⟩
    rw [RRp.marshalyardref03_Same.l1, if_pos (by omega), if_pos (by omega), hr, if_pos (by omega), if_pos (by omega), if_pos (by omega), if_pos (by omega), if_pos rfl, w64s (by omega) (by omega), e2]
    exact hk
theorem same_l0 (l : List (List ByteArray)) (hl : l.length < 9223372036854775807) (hx : ∀ x ∈ l, x.length < 9223372036854775807) : ∀ d i : Nat, d = l.length - i → i ≤ l.length → ∃ k, RRp.marshalyardref03_Same.l0 k l l (i : Int) = some true := by
  intro d
  induction d with
  | zero =>
    intro i hd hi
    exact ⟨1, by rw [RRp.marshalyardref03_Same.l0, if_neg (by omega)]⟩
  | succ d ih =>
    intro i hd hi
    have hil : i < l.length := by omega
    obtain ⟨k0, h0⟩ := ih (i + 1) (by omega) (by omega)
    obtain ⟨k, hk⟩ := same_l1 l i hil hl (hx _ (List.getElem_mem hil)) k0 h0 l[i].length 0 rfl (by omega)
    exact ⟨k + 1, by rw [RRp.marshalyardref03_Same.l0, if_pos (by omega), if_pos (by omega), if_pos (by omega), if_pos rfl]; exact hk⟩
theorem Same_calls (A0 A1 : Option Addr) (c0 c1 : Nat) (l : List (List ByteArray)) (w : World) (h0 : kLists.C w A0 l.length l) (hc0 : l.length ≤ c0) (h1 : kLists.C w A1 l.length l) (hc1 : l.length ≤ c1) (hl : l.length < 9223372036854775807) (hx : ∀ x ∈ l, x.length < 9223372036854775807) :
    Calls Tryd.prog 14 #[.slice A0 l.length c0, .slice A1 l.length c1] w fun e w' => e = .returned (.bool true) ∧ Below w.heap.size w w' := by
  obtain ⟨k, hk⟩ := same_l0 l hl hx l.length 0 rfl (by omega)
  refine (RRp.marshalyardref03_Same.calls k A0 c0 l A1 c1 l true w h0 hc0 h1 hc1 ?_).mono ?_
  · unfold RRp.marshalyardref03_Same.f
    rw [if_pos rfl]
    exact hk
  · rintro e w' ⟨rfl, m, rfl⟩
    exact ⟨rfl, pw_below_drewN (Below.refl _ _) m⟩
end Go.Proofs.YtmdekodoicnmbaaDoor
