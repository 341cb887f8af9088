/- The reference's Decide in plain words: it is what route.Decide answers. Conditions: slices within the form's reach. -/
import Derived.Test.YtnccoopefajohaaDoorRRtx2
import Derived.Test.YtnccoopefajohaaDoorRtD
set_option linter.unusedVariables false
set_option linter.unusedSimpArgs false
namespace Go.Proofs.YtnccoopefajohaaDoor.RtP
open Go.RowKit Go.Proofs.YtnccoopefajohaaDoor Go.Proofs.YtnccoopefajohaaDoor.RRt Go.Proofs.YtnccoopefajohaaDoorW.PrintWords

theorem w64 {x : Int} (h1 : -9223372036854775808 ≤ x) (h2 : x ≤ 9223372036854775807) : wrap64 x = x := by
  unfold wrap64; omega
theorem at_eq (l : List Bool) (i : Nat) : marshalyardref17_at.f l (i : Int) = some (l.getD i false) := by
  unfold marshalyardref17_at.f
  by_cases h : i < l.length
  · rw [if_pos (by omega), if_pos (by omega)]
    unfold rdOf
    simp
  · rw [if_neg (by omega)]
    rw [show l.getD i false = false from by simp [List.getD, List.getElem?_eq_none (by omega : l.length ≤ i)]]
theorem cnt_step (l : List Bool) (i : Nat) : cnt l (i + 1) = cnt l i + if l.getD i false = true then 1 else 0 := by
  by_cases h : i < l.length
  · exact cnt_succ l i h
  · rw [show l.getD i false = false from by simp [List.getD, List.getElem?_eq_none (by omega : l.length ≤ i)]]
    rw [cnt_all l (i + 1) (by omega), cnt_all l i (by omega)]
    simp

theorem refDecide_l0 (self owner mig imp tok ask : Int) (slots : List Int) (here held : List Bool) (hm : slots.length ≤ 9223372036854775807) (s0 : Int) (h0 : s0 = slots.getD 0 0) (hpos : 0 < slots.length) :
    ∀ (d i k : Nat), slots.length - i = d → d + 4 < k → i ≤ slots.length → (∀ j, j < i → slots.getD j 0 = s0) →
      marshalyardref17_Decide.l0 k s0 (decide (0 < cnt here i)) (decide (cnt here i = i)) (decide (0 < cnt held i)) (i : Int) self owner mig imp tok ask slots here held = some (decideV self owner mig imp tok ask slots here held) := by
  intro d
  induction d with
  | zero =>
    intro i k hd hk hi heq
    obtain ⟨k, rfl⟩ : ∃ m, k = m + 1 + 1 + 1 := ⟨k - 3, by omega⟩
    obtain rfl : i = slots.length := by omega
    have hs : same slots = true := by
      unfold same
      rw [List.all_eq_true]
      intro x hx
      obtain ⟨j, hj, rfl⟩ := List.mem_iff_getElem.1 hx
      have := heq j hj
      rw [show slots.getD j 0 = slots[j] from by simp [hj]] at this
      rw [← h0, this]
      exact beq_self_eq_true _
    unfold decideV
    rw [if_neg (by omega), if_neg (by rw [hs]; decide), ← h0]
    simp only [marshalyardref17_Decide.l0]
    rw [if_neg (by omega)]
    have c1 := (cnt_le here slots.length).1
    simp only [marshalyardref17_Decide.j1, marshalyardref17_Decide.j2, marshalyardref17_Decide.j3, decide_eq_true_eq, beq_iff_eq, if_true, Bool.not_eq_true', decide_eq_false_iff_not, Bool.false_eq_true, if_false]
    clear hs heq h0 hd hi hk
    generalize slots.length = n at *
    generalize cnt here n = a at *
    generalize cnt held n = b at *
    repeat' split
    all_goals first | rfl | (exfalso; omega)
  | succ d ih =>
    intro i k hd hk hi heq
    obtain ⟨k, rfl⟩ : ∃ m, k = m + 1 := ⟨k - 1, by omega⟩
    simp only [marshalyardref17_Decide.l0]
    rw [if_pos (by omega), if_pos (by omega)]
    have hrd : rd slots (i : Int) = slots.getD i 0 := by unfold rd; simp
    rw [hrd]
    by_cases he : slots.getD i 0 = s0
    · rw [if_pos he, at_eq, at_eq, w64 (by omega) (by omega)]
      simp only [Option.bind_some]
      have hn := ih (i + 1) k (by omega) (by omega) (by omega) (fun j hj => by
        by_cases e : j = i
        · rw [e]; exact he
        · exact heq j (by omega))
      rw [cnt_step here i, cnt_step held i] at hn
      have c1 := (cnt_le here i).1
      rw [show ((i : Int) + 1) = ((i + 1 : Nat) : Int) from by omega]
      cases h1 : here.getD i false <;> cases h2 : held.getD i false
      all_goals rw [h1, h2] at hn
      all_goals simp only [if_true, if_false, Bool.false_eq_true, Nat.add_zero] at hn ⊢
      · rw [show decide (cnt here i = i + 1) = false from decide_eq_false (by omega)] at hn
        exact hn
      · rw [show decide (cnt here i = i + 1) = false from decide_eq_false (by omega), show decide (0 < cnt held i + 1) = true from decide_eq_true (by omega)] at hn
        exact hn
      · rw [show decide (0 < cnt here i + 1) = true from decide_eq_true (by omega), show decide (cnt here i + 1 = i + 1) = decide (cnt here i = i) from by congr 1; exact propext ⟨fun h => by omega, fun h => by omega⟩] at hn
        exact hn
      · rw [show decide (0 < cnt here i + 1) = true from decide_eq_true (by omega), show decide (cnt here i + 1 = i + 1) = decide (cnt here i = i) from by congr 1; exact propext ⟨fun h => by omega, fun h => by omega⟩, show decide (0 < cnt held i + 1) = true from decide_eq_true (by omega)] at hn
        exact hn
    · rw [if_neg he]
      have hs : same slots = false := by
        rw [← Bool.not_eq_true]
        intro hs
        have := same_true hs i (by omega)
        exact he (this.trans h0.symm)
      unfold decideV
      rw [if_neg (by omega), if_pos hs, ← h0]

theorem refDecide_eq (self owner mig imp tok ask : Int) (slots : List Int) (here held : List Bool) (hm : slots.length ≤ 9223372036854775807) (k : Nat) (hk : slots.length + 4 < k) :
    marshalyardref17_Decide.f k self owner mig imp tok ask slots here held = some (decideV self owner mig imp tok ask slots here held) := by
  unfold marshalyardref17_Decide.f
  by_cases hz : slots.length = 0
  · rw [if_pos (by omega)]
    unfold decideV
    rw [if_pos hz]
  · rw [if_neg (by omega), if_pos (by omega)]
    have h := refDecide_l0 self owner mig imp tok ask slots here held hm (slots.getD 0 0) rfl (by omega) slots.length 0 k (by omega) hk (by omega) (fun j hj => by omega)
    have c0 : ∀ l : List Bool, cnt l 0 = 0 := fun l => by simp [cnt]
    rw [c0, c0] at h
    exact h
end Go.Proofs.YtnccoopefajohaaDoor.RtP
