/- Walk of the reference's Read: what it comes to. Conditions: texts of at most 2^20 bytes. -/
import Derived.Test.YtpbiohnmmngccaaDoorRtN
import Derived.Outline
set_option linter.unusedVariables false
set_option linter.unusedSimpArgs false
namespace Go.Proofs.YtpbiohnmmngccaaDoor
open Go.RowKit Go.Proofs.YtpbiohnmmngccaaDoorW.PrintWords
open RtS RtR R04P

theorem own_ints {W : World} {base : Nat} {e : TypeId} {v : Value} {l : List Int} (h : W.ownsRow base e 1 v l.length (l.map (Value.int .i64))) :
    ∃ A cap, v = .slice A l.length cap ∧ l.length ≤ cap ∧ (0 < l.length → ∃ g, A = some ⟨g, 0, none⟩ ∧ base ≤ g ∧ ∀ i, i < l.length → W.cell? ⟨g, i, none⟩ = some (.int .i64 (l.getD i 0))) := by
  rcases h with ⟨hl, ⟨rfl, hn⟩ | ⟨g, cap, cur, rfl, hb, hh, hc, hm, hs, ht⟩⟩
  · rw [hn]
    exact ⟨none, 0, rfl, Nat.le_refl _, fun h => absurd h (Nat.lt_irrefl _)⟩
  · refine ⟨some ⟨g, 0, none⟩, cap, rfl, hc, fun _ => ⟨g, rfl, hb, fun i hi => ?_⟩⟩
    have hcell : W.cell? ⟨g, i, none⟩ = cur[i]? := by
      unfold World.cell?
      simp [hh]
    rw [hcell]
    have h1 : (cur.toList.take (l.length * 1))[i]? = (l.map (Value.int .i64))[i]? := by rw [ht]
    rw [List.getElem?_take_of_lt (by omega)] at h1
    simp at h1
    rw [h1]
    simp [hi]

abbrev decR (x : Int × Int × Int × Int × Bool) : Value := .tuple #[.agg #[.int .i64 x.1, .int .i64 x.2.1, .int .i64 x.2.2.1, .int .i64 x.2.2.2.1], .bool x.2.2.2.2]

theorem word2 : wordV 2 = [77, 79, 86, 69, 68] := rfl
theorem word3 : wordV 3 = [65, 83, 75] := rfl


end Go.Proofs.YtpbiohnmmngccaaDoor
