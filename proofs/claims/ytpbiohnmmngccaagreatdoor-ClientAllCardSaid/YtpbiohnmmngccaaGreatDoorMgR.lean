/- Walks of the reference functions ref12.Alike, Find, Check, Keys and ref06.Same, printed by the kit's print program (All by hand). Conditions: none. -/
import Derived.Test.YtpbiohnmmngccaaGreatDoorClT
import Derived.Test.YtpbiohnmmngccaaGreatDoorRAlx0
set_option linter.unusedVariables false
set_option linter.unusedSimpArgs false
-- written by the kit's print program, called by wip/tools/myprint.sh, for the functions Al
namespace Go.Proofs.YtpbiohnmmngccaaGreatDoor.RAl
open Go.RowKit Go.Proofs.YtpbiohnmmngccaaGreatDoorW.PrintWords Go.Proofs.YtpbiohnmmngccaaGreatDoorW.PrintLast Go.Proofs.YtpbiohnmmngccaaGreatDoorW.PrintMore
attribute [local go_sem] max2_int min2_int max_two min_two max_three min_three max_four min_four   -- for this text's walks alone

/-! ### marshalyardref12_Alike: function 71 -/
mutual
def marshalyardref12_Alike.l0 : Nat → ByteArray → ByteArray → Int → Option (Bool)
  | 0, _, _, _ => none
  | k + 1, x0, x1, x5 => if x5 < (x0.size : Int) then (if 0 ≤ x5 then (if x5 < (x1.size : Int) then (if (bt x0 x5) ≥ 97 then (marshalyardref12_Alike.j1 k x0 x1 x5 (bt x0 x5) (bt x1 x5) (decide ((bt x0 x5) ≤ 122))) else (marshalyardref12_Alike.j1 k x0 x1 x5 (bt x0 x5) (bt x1 x5) false)) else (none)) else (none)) else (some true)
def marshalyardref12_Alike.j1 : Nat → ByteArray → ByteArray → Int → Int → Int → Bool → Option (Bool)
  | 0, _, _, _, _, _, _ => none
  | k + 1, x0, x1, x5, x6, x7, x30 => if x30 = true then (marshalyardref12_Alike.j2 k x0 x1 x5 ((x6 - 32) % 256) x7) else (marshalyardref12_Alike.j2 k x0 x1 x5 x6 x7)
def marshalyardref12_Alike.j2 : Nat → ByteArray → ByteArray → Int → Int → Int → Option (Bool)
  | 0, _, _, _, _, _ => none
  | k + 1, x0, x1, x5, x6, x7 => if x7 ≥ 97 then (marshalyardref12_Alike.j3 k x0 x1 x5 x6 x7 (decide (x7 ≤ 122))) else (marshalyardref12_Alike.j3 k x0 x1 x5 x6 x7 false)
def marshalyardref12_Alike.j3 : Nat → ByteArray → ByteArray → Int → Int → Int → Bool → Option (Bool)
  | 0, _, _, _, _, _, _ => none
  | k + 1, x0, x1, x5, x6, x7, x38 => if x38 = true then (if x6 = ((x7 - 32) % 256) then (marshalyardref12_Alike.l0 k x0 x1 (wrap64 (x5 + 1))) else (some false)) else (if x6 = x7 then (marshalyardref12_Alike.l0 k x0 x1 (wrap64 (x5 + 1))) else (some false))
end
def marshalyardref12_Alike.f (k : Nat) (a0 : ByteArray) (a1 : ByteArray) : Option (Bool) := if (a0.size : Int) = (a1.size : Int) then (marshalyardref12_Alike.l0 k a0 a1 0) else (some false)
theorem marshalyardref12_Alike.mono_l : ∀ k, (∀ y0 y1 y2, LeO (marshalyardref12_Alike.l0 k y0 y1 y2) (marshalyardref12_Alike.l0 (k + 1) y0 y1 y2)) ∧ (∀ y0 y1 y2 y3 y4 y5, LeO (marshalyardref12_Alike.j1 k y0 y1 y2 y3 y4 y5) (marshalyardref12_Alike.j1 (k + 1) y0 y1 y2 y3 y4 y5)) ∧ (∀ y0 y1 y2 y3 y4, LeO (marshalyardref12_Alike.j2 k y0 y1 y2 y3 y4) (marshalyardref12_Alike.j2 (k + 1) y0 y1 y2 y3 y4)) ∧ (∀ y0 y1 y2 y3 y4 y5, LeO (marshalyardref12_Alike.j3 k y0 y1 y2 y3 y4 y5) (marshalyardref12_Alike.j3 (k + 1) y0 y1 y2 y3 y4 y5))
  | 0 => ⟨fun _ _ _ r h => by simp [marshalyardref12_Alike.l0] at h, fun _ _ _ _ _ _ r h => by simp [marshalyardref12_Alike.j1] at h, fun _ _ _ _ _ r h => by simp [marshalyardref12_Alike.j2] at h, fun _ _ _ _ _ _ r h => by simp [marshalyardref12_Alike.j3] at h⟩
  | k + 1 => by
    obtain ⟨ih0, ih1, ih2, ih3⟩ := marshalyardref12_Alike.mono_l k
    refine ⟨?_, ?_, ?_, ?_⟩
    · intro y0 y1 y2
      unfold marshalyardref12_Alike.l0
      repeat' first
      | (with_reducible exact ih0 _ _ _)
      | (with_reducible exact ih1 _ _ _ _ _ _)
      | (with_reducible exact ih2 _ _ _ _ _)
      | (with_reducible exact ih3 _ _ _ _ _ _)
      | (with_reducible exact LeO.refl _)
      | (with_reducible exact LeO.none _)
      | (with_reducible refine LeO.ite ?_ ?_)
      | (with_reducible refine LeO.bind ?_ (fun _ => ?_))
      | exact ih0 _ _ _
      | exact ih1 _ _ _ _ _ _
      | exact ih2 _ _ _ _ _
      | exact ih3 _ _ _ _ _ _
      | exact LeO.none _
      | refine LeO.ite ?_ ?_
      | refine LeO.bind ?_ (fun _ => ?_)
    · intro y0 y1 y2 y3 y4 y5
      unfold marshalyardref12_Alike.j1
      repeat' first
      | (with_reducible exact ih0 _ _ _)
      | (with_reducible exact ih1 _ _ _ _ _ _)
      | (with_reducible exact ih2 _ _ _ _ _)
      | (with_reducible exact ih3 _ _ _ _ _ _)
      | (with_reducible exact LeO.refl _)
      | (with_reducible exact LeO.none _)
      | (with_reducible refine LeO.ite ?_ ?_)
      | (with_reducible refine LeO.bind ?_ (fun _ => ?_))
      | exact ih0 _ _ _
      | exact ih1 _ _ _ _ _ _
      | exact ih2 _ _ _ _ _
      | exact ih3 _ _ _ _ _ _
      | exact LeO.none _
      | refine LeO.ite ?_ ?_
      | refine LeO.bind ?_ (fun _ => ?_)
    · intro y0 y1 y2 y3 y4
      unfold marshalyardref12_Alike.j2
      repeat' first
      | (with_reducible exact ih0 _ _ _)
      | (with_reducible exact ih1 _ _ _ _ _ _)
      | (with_reducible exact ih2 _ _ _ _ _)
      | (with_reducible exact ih3 _ _ _ _ _ _)
      | (with_reducible exact LeO.refl _)
      | (with_reducible exact LeO.none _)
      | (with_reducible refine LeO.ite ?_ ?_)
      | (with_reducible refine LeO.bind ?_ (fun _ => ?_))
      | exact ih0 _ _ _
      | exact ih1 _ _ _ _ _ _
      | exact ih2 _ _ _ _ _
      | exact ih3 _ _ _ _ _ _
      | exact LeO.none _
      | refine LeO.ite ?_ ?_
      | refine LeO.bind ?_ (fun _ => ?_)
    · intro y0 y1 y2 y3 y4 y5
      unfold marshalyardref12_Alike.j3
      repeat' first
      | (with_reducible exact ih0 _ _ _)
      | (with_reducible exact ih1 _ _ _ _ _ _)
      | (with_reducible exact ih2 _ _ _ _ _)
      | (with_reducible exact ih3 _ _ _ _ _ _)
      | (with_reducible exact LeO.refl _)
      | (with_reducible exact LeO.none _)
      | (with_reducible refine LeO.ite ?_ ?_)
      | (with_reducible refine LeO.bind ?_ (fun _ => ?_))
      | exact ih0 _ _ _
      | exact ih1 _ _ _ _ _ _
      | exact ih2 _ _ _ _ _
      | exact ih3 _ _ _ _ _ _
      | exact LeO.none _
      | refine LeO.ite ?_ ?_
      | refine LeO.bind ?_ (fun _ => ?_)
theorem marshalyardref12_Alike.mono : ∀ a0 a1 k, LeO (marshalyardref12_Alike.f k a0 a1) (marshalyardref12_Alike.f (k + 1) a0 a1) := by
  intro a0 a1 k
  obtain ⟨ih0, ih1, ih2, ih3⟩ := marshalyardref12_Alike.mono_l k
  unfold marshalyardref12_Alike.f
  repeat' first
      | (with_reducible exact ih0 _ _ _)
      | (with_reducible exact ih1 _ _ _ _ _ _)
      | (with_reducible exact ih2 _ _ _ _ _)
      | (with_reducible exact ih3 _ _ _ _ _ _)
      | (with_reducible exact LeO.refl _)
      | (with_reducible exact LeO.none _)
      | (with_reducible refine LeO.ite ?_ ?_)
      | (with_reducible refine LeO.bind ?_ (fun _ => ?_))
      | exact ih0 _ _ _
      | exact ih1 _ _ _ _ _ _
      | exact ih2 _ _ _ _ _
      | exact ih3 _ _ _ _ _ _
      | exact LeO.none _
      | refine LeO.ite ?_ ?_
      | refine LeO.bind ?_ (fun _ => ?_)
set_option maxHeartbeats 8000000 in
set_option maxRecDepth 100000 in
theorem marshalyardref12_Alike.calls (k : Nat) (a0 : ByteArray) (a1 : ByteArray) (r : Bool) (w : World) (h : marshalyardref12_Alike.f k a0 a1 = some r) :
    Calls Tryz.prog 71 #[.string a0, .string a1] w fun e w' => e = .returned (.bool r) ∧ Drawn0 w w' := by
  have H : (if (a0.size : Int) = (a1.size : Int) then (marshalyardref12_Alike.l0 k a0 a1 0) else (some false)) = some r := h
  clear h
  by_cases c3 : (a0.size : Int) = (a1.size : Int)
  · rw [if_pos c3] at H
    have c3b0 : ((a0.size : Int) == (a1.size : Int)) = true := beq_iff_eq.mpr c3
    have c3b1 : ((a0.size : Int) != (a1.size : Int)) = false := bne_eq_false_iff_eq.mpr c3
    have c3b2 : (a0.size == a1.size) = true := by first | simpa using c3 | (simp at c3 ⊢; omega)
    clear c3
    have H' := Aside0.mk H
    clear H
    go_enter Tryz.func71, Tryz.ntmps71
    go_wp2
    go_loopg [5] k (fun kq v5 w' => ∃ (x5_1 : Int), v5 = .int .i64 x5_1 ∧ Aside0 (marshalyardref12_Alike.l0 kq a0 a1 x5_1 = some r) ∧ Aside0 (kq ≤ k) ∧ Drawn0 w w')
    case atStart => exact ⟨(0), (by first | rfl | (simp; done) | (simp [*]; done)), H', ⟨Nat.le_refl _⟩, by repeat (first | exact Drawn0.refl _ | apply Drawn0.step)⟩
    case round =>
      clear H'
      try clear p2
      try clear c3
      try clear c3b0
      try clear c3b1
      try clear c3b2
      obtain ⟨x5_1, rfl, HA, HK1, ⟨m1, rfl⟩⟩ := hrel
      cases gk with
      | zero => exact absurd HA.out (by simp [marshalyardref12_Alike.l0])
      | succ k1 =>
        have H := HA.out
        clear HA
        simp only [marshalyardref12_Alike.l0] at H
        by_cases c4 : x5_1 < (a0.size : Int)
        · rw [if_pos c4] at H
          have c4b0 : decide (x5_1 < (a0.size : Int)) = true := decide_eq_true c4
          clear c4
          by_cases c5 : 0 ≤ x5_1
          · rw [if_pos c5] at H
            have c5b0 : decide (0 ≤ x5_1) = true := decide_eq_true c5
            clear c5
            by_cases c7 : x5_1 < (a1.size : Int)
            · rw [if_pos c7] at H
              have c7b0 : decide (x5_1 < (a1.size : Int)) = true := decide_eq_true c7
              clear c7
              have HC9 := Aside0.mk H
              clear H
              have p6 : 0 ≤ (x5_1 : Int) := of_decide_eq_true (by first | (with_reducible assumption) | assumption)
              have q6 : x5_1 < (a0.size : Int) := of_decide_eq_true (by first | (with_reducible assumption) | assumption)
              have hx6 := bt_at a0 x5_1
              replace p6 := eq_true p6
              replace q6 := eq_true q6
              have p8 : 0 ≤ (x5_1 : Int) := of_decide_eq_true (by first | (with_reducible assumption) | assumption)
              have q8 : x5_1 < (a1.size : Int) := of_decide_eq_true (by first | (with_reducible assumption) | assumption)
              have hx8 := bt_at a1 x5_1
              replace p8 := eq_true p8
              replace q8 := eq_true q8
              go_upto_region 8 with (fail)
              go_cut [30] (fun v30 wc => ∃ (kq : Nat) (x30_8 : Bool), v30 = .bool x30_8 ∧ Aside0 (marshalyardref12_Alike.j1 kq a0 a1 x5_1 (bt a0 x5_1) (bt a1 x5_1) x30_8 = some r) ∧ Aside0 (kq ≤ k1) ∧ Drawn0 w wc)
              case first =>
                have H := HC9.out
                clear HC9
                by_cases c10 : (bt a0 x5_1) ≥ 97
                · rw [if_pos c10] at H
                  have c10b0 : decide (97 ≤ (bt a0 x5_1)) = true := decide_eq_true c10
                  clear c10
                  (first | rw [c10b0] | (simp only [i64_w, i32_w]; rw [c10b0]) | skip)
                  have H' := Aside0.mk H
                  clear H
                  go_wp2
                  go_meet
                  case rel => exact ⟨_, (decide ((bt a0 x5_1) ≤ 122)), (by first | rfl | (simp; done) | (simp [*]; done)), H', ⟨by have := HK1.out; first | omega | exact Nat.le_refl _⟩, by repeat (first | exact Drawn0.refl _ | apply Drawn0.step)⟩
                · rw [if_neg c10] at H
                  have c10b0 : decide (97 ≤ (bt a0 x5_1)) = false := decide_eq_false c10
                  clear c10
                  (first | rw [c10b0] | (simp only [i64_w, i32_w]; rw [c10b0]) | skip)
                  have H' := Aside0.mk H
                  clear H
                  go_wp2
                  go_meet
                  case rel => exact ⟨_, (false), (by first | rfl | (simp; done) | (simp [*]; done)), H', ⟨by have := HK1.out; first | omega | exact Nat.le_refl _⟩, by repeat (first | exact Drawn0.refl _ | apply Drawn0.step)⟩
              case rest =>
                clear HC9
                try clear c1
                try clear p2
                try clear c3
                try clear c3b0
                try clear c3b1
                try clear c3b2
                try clear c4
                try clear c4b0
                try clear c5
                try clear c5b0
                try clear p6
                try clear q6
                try clear hx6
                try clear c7
                try clear c7b0
                try clear p8
                try clear q8
                try clear hx8
                try clear c10
                try clear c10b0
                try clear p2
                try clear p6
                try clear p8
                try clear q6
                try clear q8
                obtain ⟨kq, x30_8, rfl, HA, HJ8, ⟨mc8, rfl⟩⟩ := hcut
                cases kq with
                | zero => exact absurd HA.out (by simp [marshalyardref12_Alike.j1])
                | succ kj8 =>
                  have H := HA.out
                  clear HA
                  simp only [marshalyardref12_Alike.j1] at H
                  have HC11 := Aside0.mk H
                  clear H
                  go_upto_if 30 with (fail)
                  go_cut [6] (fun v6 wc => ∃ (kq : Nat) (x6_10 : Int), v6 = .int .u8 x6_10 ∧ Aside0 (marshalyardref12_Alike.j2 kq a0 a1 x5_1 x6_10 (bt a1 x5_1) = some r) ∧ Aside0 (kq ≤ kj8) ∧ Drawn0 w wc)
                  case first =>
                    have H := HC11.out
                    clear HC11
                    by_cases c12 : x30_8 = true
                    · subst c12
                      have H1 : (marshalyardref12_Alike.j2 kj8 a0 a1 x5_1 (((bt a0 x5_1) - 32) % 256) (bt a1 x5_1)) = some r := by rw [if_pos rfl] at H; exact H
                      clear H
                      have H := H1
                      clear H1
                      have H' := Aside0.mk H
                      clear H
                      go_wp2
                      go_meet
                      case rel => exact ⟨_, (((bt a0 x5_1) - 32) % 256), (by first | rfl | (simp; done) | (simp [*]; done)), H', ⟨by have := HK1.out; have := HJ8.out; first | omega | exact Nat.le_refl _⟩, by repeat (first | exact Drawn0.refl _ | apply Drawn0.step)⟩
                    · replace c12 := Bool.eq_false_iff.mpr c12
                      subst c12
                      have H1 : (marshalyardref12_Alike.j2 kj8 a0 a1 x5_1 (bt a0 x5_1) (bt a1 x5_1)) = some r := by rw [if_neg (show ¬ (false = true) by decide)] at H; exact H
                      clear H
                      have H := H1
                      clear H1
                      have H' := Aside0.mk H
                      clear H
                      go_wp2
                      go_meet
                      case rel => exact ⟨_, ((bt a0 x5_1)), (by first | rfl | (simp; done) | (simp [*]; done)), H', ⟨by have := HK1.out; have := HJ8.out; first | omega | exact Nat.le_refl _⟩, by repeat (first | exact Drawn0.refl _ | apply Drawn0.step)⟩
                  case rest =>
                    clear HC11
                    try clear c1
                    try clear p2
                    try clear c3
                    try clear c3b0
                    try clear c3b1
                    try clear c3b2
                    try clear c4
                    try clear c4b0
                    try clear c5
                    try clear c5b0
                    try clear p6
                    try clear q6
                    try clear hx6
                    try clear c7
                    try clear c7b0
                    try clear c8
                    try clear p8
                    try clear q8
                    try clear hx8
                    try clear c10
                    try clear c10b0
                    try clear c12
                    try clear p2
                    try clear p6
                    try clear p8
                    try clear q6
                    try clear q8
                    obtain ⟨kq, x6_10, rfl, HA, HJ10, ⟨mc10, rfl⟩⟩ := hcut
                    cases kq with
                    | zero => exact absurd HA.out (by simp [marshalyardref12_Alike.j2])
                    | succ kj10 =>
                      have H := HA.out
                      clear HA
                      simp only [marshalyardref12_Alike.j2] at H
                      have HC13 := Aside0.mk H
                      clear H
                      go_upto_region 10 with (fail)
                      go_cut [38] (fun v38 wc => ∃ (kq : Nat) (x38_12 : Bool), v38 = .bool x38_12 ∧ Aside0 (marshalyardref12_Alike.j3 kq a0 a1 x5_1 x6_10 (bt a1 x5_1) x38_12 = some r) ∧ Aside0 (kq ≤ kj10) ∧ Drawn0 w wc)
                      case first =>
                        have H := HC13.out
                        clear HC13
                        by_cases c14 : (bt a1 x5_1) ≥ 97
                        · rw [if_pos c14] at H
                          have c14b0 : decide (97 ≤ (bt a1 x5_1)) = true := decide_eq_true c14
                          clear c14
                          (first | rw [c14b0] | (simp only [i64_w, i32_w]; rw [c14b0]) | skip)
                          have H' := Aside0.mk H
                          clear H
                          go_wp2
                          go_meet
                          case rel => exact ⟨_, (decide ((bt a1 x5_1) ≤ 122)), (by first | rfl | (simp; done) | (simp [*]; done)), H', ⟨by have := HK1.out; have := HJ8.out; have := HJ10.out; first | omega | exact Nat.le_refl _⟩, by repeat (first | exact Drawn0.refl _ | apply Drawn0.step)⟩
                        · rw [if_neg c14] at H
                          have c14b0 : decide (97 ≤ (bt a1 x5_1)) = false := decide_eq_false c14
                          clear c14
                          (first | rw [c14b0] | (simp only [i64_w, i32_w]; rw [c14b0]) | skip)
                          have H' := Aside0.mk H
                          clear H
                          go_wp2
                          go_meet
                          case rel => exact ⟨_, (false), (by first | rfl | (simp; done) | (simp [*]; done)), H', ⟨by have := HK1.out; have := HJ8.out; have := HJ10.out; first | omega | exact Nat.le_refl _⟩, by repeat (first | exact Drawn0.refl _ | apply Drawn0.step)⟩
                      case rest =>
                        clear HC13
                        try clear c1
                        try clear p2
                        try clear c3
                        try clear c3b0
                        try clear c3b1
                        try clear c3b2
                        try clear c4
                        try clear c4b0
                        try clear c5
                        try clear c5b0
                        try clear p6
                        try clear q6
                        try clear hx6
                        try clear c7
                        try clear c7b0
                        try clear c8
                        try clear p8
                        try clear q8
                        try clear hx8
                        try clear c10
                        try clear c10b0
                        try clear c12
                        try clear c14
                        try clear c14b0
                        try clear p2
                        try clear p6
                        try clear p8
                        try clear q6
                        try clear q8
                        obtain ⟨kq, x38_12, rfl, HA, HJ12, ⟨mc12, rfl⟩⟩ := hcut
                        cases kq with
                        | zero => exact absurd HA.out (by simp [marshalyardref12_Alike.j3])
                        | succ kj12 =>
                          have H := HA.out
                          clear HA
                          simp only [marshalyardref12_Alike.j3] at H
                          by_cases c15 : x38_12 = true
                          · subst c15
                            have H1 : (if x6_10 = (((bt a1 x5_1) - 32) % 256) then (marshalyardref12_Alike.l0 kj12 a0 a1 (wrap64 (x5_1 + 1))) else (some false)) = some r := by rw [if_pos rfl] at H; exact H
                            clear H
                            have H := H1
                            clear H1
                            by_cases c16 : x6_10 = (((bt a1 x5_1) - 32) % 256)
                            · rw [if_pos c16] at H
                              have c16b0 : (x6_10 == (((bt a1 x5_1) - 32) % 256)) = true := beq_iff_eq.mpr c16
                              have c16b1 : (x6_10 != (((bt a1 x5_1) - 32) % 256)) = false := bne_eq_false_iff_eq.mpr c16
                              clear c16
                              have H' := Aside0.mk H
                              clear H
                              go_wp2
                              go_roundg kj12
                              case measure => have := HK1.out; have := HJ8.out; have := HJ10.out; have := HJ12.out; omega
                              case rel => exact ⟨(wrap64 (x5_1 + 1)), (by first | rfl | (simp; done) | (simp [*]; done)), H', ⟨by have := HK1.out; have := HJ8.out; have := HJ10.out; have := HJ12.out; omega⟩, by repeat (first | exact Drawn0.refl _ | apply Drawn0.step)⟩
                            · rw [if_neg c16] at H
                              have c16b0 : (x6_10 == (((bt a1 x5_1) - 32) % 256)) = false := beq_eq_false_iff_ne.mpr c16
                              have c16b1 : (x6_10 != (((bt a1 x5_1) - 32) % 256)) = true := bne_iff_ne.mpr c16
                              obtain rfl := Option.some.inj H
                              go_wp2
                              go_ret
                              exact ⟨by first | rfl | (simp; done) | (simp [*]; done), by repeat (first | exact Drawn0.refl _ | apply Drawn0.step)⟩
                          · replace c15 := Bool.eq_false_iff.mpr c15
                            subst c15
                            have H1 : (if x6_10 = (bt a1 x5_1) then (marshalyardref12_Alike.l0 kj12 a0 a1 (wrap64 (x5_1 + 1))) else (some false)) = some r := by rw [if_neg (show ¬ (false = true) by decide)] at H; exact H
                            clear H
                            have H := H1
                            clear H1
                            by_cases c17 : x6_10 = (bt a1 x5_1)
                            · rw [if_pos c17] at H
                              have c17b0 : (x6_10 == (bt a1 x5_1)) = true := beq_iff_eq.mpr c17
                              have c17b1 : (x6_10 != (bt a1 x5_1)) = false := bne_eq_false_iff_eq.mpr c17
                              clear c17
                              have H' := Aside0.mk H
                              clear H
                              go_wp2
                              go_roundg kj12
                              case measure => have := HK1.out; have := HJ8.out; have := HJ10.out; have := HJ12.out; omega
                              case rel => exact ⟨(wrap64 (x5_1 + 1)), (by first | rfl | (simp; done) | (simp [*]; done)), H', ⟨by have := HK1.out; have := HJ8.out; have := HJ10.out; have := HJ12.out; omega⟩, by repeat (first | exact Drawn0.refl _ | apply Drawn0.step)⟩
                            · rw [if_neg c17] at H
                              have c17b0 : (x6_10 == (bt a1 x5_1)) = false := beq_eq_false_iff_ne.mpr c17
                              have c17b1 : (x6_10 != (bt a1 x5_1)) = true := bne_iff_ne.mpr c17
                              obtain rfl := Option.some.inj H
                              go_wp2
                              go_ret
                              exact ⟨by first | rfl | (simp; done) | (simp [*]; done), by repeat (first | exact Drawn0.refl _ | apply Drawn0.step)⟩
            · rw [if_neg c7] at H
              exact absurd H (by simp)
          · rw [if_neg c5] at H
            exact absurd H (by simp)
        · rw [if_neg c4] at H
          have c4b0 : decide (x5_1 < (a0.size : Int)) = false := decide_eq_false c4
          clear c4
          obtain rfl := Option.some.inj H
          go_wp2
          go_ret
          exact ⟨by first | rfl | (simp; done) | (simp [*]; done), by repeat (first | exact Drawn0.refl _ | apply Drawn0.step)⟩
  · rw [if_neg c3] at H
    have c3b0 : ((a0.size : Int) == (a1.size : Int)) = false := beq_eq_false_iff_ne.mpr c3
    have c3b1 : ((a0.size : Int) != (a1.size : Int)) = true := bne_iff_ne.mpr c3
    have c3b2 : (a0.size == a1.size) = false := by first | simpa using c3 | (simp at c3 ⊢; omega)
    obtain rfl := Option.some.inj H
    go_enter Tryz.func71, Tryz.ntmps71
    go_wp2
    go_ret
    exact ⟨by first | rfl | (simp; done) | (simp [*]; done), by repeat (first | exact Drawn0.refl _ | apply Drawn0.step)⟩

/-- THE ONE PURE STATEMENT of marshalyardref12_Alike: yours. -/
def marshalyardref12_Alike.Pure : Prop := ∀ (a0 : ByteArray) (a1 : ByteArray), a0.size ≤ 140737488351232 → a1.size ≤ 140737488351232 → ∃ k, marshalyardref12_Alike.f k a0 a1 = some true
theorem marshalyardref12_Alike.walk (P : marshalyardref12_Alike.Pure) (a0 : ByteArray) (a1 : ByteArray) (w : World) (w0 : a0.size ≤ 140737488351232) (w1 : a1.size ≤ 140737488351232) :
    Calls Tryz.prog 71 #[.string a0, .string a1] w fun e w' => e = .returned (.bool true) ∧ Below w.heap.size w w' := by
  obtain ⟨k, h⟩ := P a0 a1 w0 w1
  refine (marshalyardref12_Alike.calls k a0 a1 true w h).mono ?_
  rintro e w' ⟨rfl, hd⟩
  exact ⟨rfl, hd.below⟩

/-! ### marshalyardref06_Same: function 36 -/
def marshalyardref06_Same.l0 : Nat → List ByteArray → List ByteArray → Int → Option (Bool)
  | 0, _, _, _ => none
  | k + 1, x0, x1, x5 => if x5 < (x0.length : Int) then (if 0 ≤ x5 then (if x5 < (x1.length : Int) then (if (rdOf ByteArray.empty x0 x5).toList = (rdOf ByteArray.empty x1 x5).toList then (marshalyardref06_Same.l0 k x0 x1 (wrap64 (x5 + 1))) else (some false)) else (none)) else (none)) else (some true)
def marshalyardref06_Same.f (k : Nat) (l0 : List ByteArray) (l1 : List ByteArray) : Option (Bool) := if (l0.length : Int) = (l1.length : Int) then (marshalyardref06_Same.l0 k l0 l1 0) else (some false)
theorem marshalyardref06_Same.mono_l : ∀ k, (∀ y0 y1 y2, LeO (marshalyardref06_Same.l0 k y0 y1 y2) (marshalyardref06_Same.l0 (k + 1) y0 y1 y2))
  | 0 => fun _ _ _ r h => by simp [marshalyardref06_Same.l0] at h
  | k + 1 => by
    have ih0 := marshalyardref06_Same.mono_l k
    · intro y0 y1 y2
      unfold marshalyardref06_Same.l0
      repeat' first
      | (with_reducible exact ih0 _ _ _)
      | (with_reducible exact LeO.refl _)
      | (with_reducible exact LeO.none _)
      | (with_reducible refine LeO.ite ?_ ?_)
      | (with_reducible refine LeO.bind ?_ (fun _ => ?_))
      | exact ih0 _ _ _
      | exact LeO.none _
      | refine LeO.ite ?_ ?_
      | refine LeO.bind ?_ (fun _ => ?_)
theorem marshalyardref06_Same.mono : ∀ a0 a1 k, LeO (marshalyardref06_Same.f k a0 a1) (marshalyardref06_Same.f (k + 1) a0 a1) := by
  intro a0 a1 k
  have ih0 := marshalyardref06_Same.mono_l k
  unfold marshalyardref06_Same.f
  repeat' first
      | (with_reducible exact ih0 _ _ _)
      | (with_reducible exact LeO.refl _)
      | (with_reducible exact LeO.none _)
      | (with_reducible refine LeO.ite ?_ ?_)
      | (with_reducible refine LeO.bind ?_ (fun _ => ?_))
      | exact ih0 _ _ _
      | exact LeO.none _
      | refine LeO.ite ?_ ?_
      | refine LeO.bind ?_ (fun _ => ?_)
set_option maxHeartbeats 8000000 in
set_option maxRecDepth 100000 in
theorem marshalyardref06_Same.calls (k : Nat) (A0 : Option Addr) (c0 : Nat) (l0 : List ByteArray) (A1 : Option Addr) (c1 : Nat) (l1 : List ByteArray) (r : Bool) (w : World) (hr0 : Kd.C Kd.string w A0 l0.length l0) (hc0 : l0.length ≤ c0) (hr1 : Kd.C Kd.string w A1 l1.length l1) (hc1 : l1.length ≤ c1) (h : marshalyardref06_Same.f k l0 l1 = some r) :
    Calls Tryz.prog 36 #[.slice A0 l0.length c0, .slice A1 l1.length c1] w fun e w' => e = .returned (.bool r) ∧ Drawn0 w w' := by
  have HR0 := Aside0.mk hr0
  have HC0 := Aside0.mk hc0
  clear hr0 hc0
  have HR1 := Aside0.mk hr1
  have HC1 := Aside0.mk hc1
  clear hr1 hc1
  have H : (if (l0.length : Int) = (l1.length : Int) then (marshalyardref06_Same.l0 k l0 l1 0) else (some false)) = some r := h
  clear h
  by_cases c3 : (l0.length : Int) = (l1.length : Int)
  · rw [if_pos c3] at H
    have c3b0 : ((l0.length : Int) == (l1.length : Int)) = true := beq_iff_eq.mpr c3
    have c3b1 : ((l0.length : Int) != (l1.length : Int)) = false := bne_eq_false_iff_eq.mpr c3
    have c3b2 : (l0.length == l1.length) = true := by first | simpa using c3 | (simp at c3 ⊢; omega)
    clear c3
    have H' := Aside0.mk H
    clear H
    go_enter Tryz.func36, Tryz.ntmps36
    go_wp2
    repeat (go_quiet (fail); try go_wp2)
    go_loopg [5] k (fun kq v5 w' => ∃ (x5_1 : Int), v5 = .int .i64 x5_1 ∧ Aside0 (marshalyardref06_Same.l0 kq l0 l1 x5_1 = some r) ∧ Aside0 (kq ≤ k) ∧ Drawn0 w w')
    case atStart => exact ⟨(0), (by first | rfl | (simp; done) | (simp [*]; done)), H', ⟨Nat.le_refl _⟩, by repeat (first | exact Drawn0.refl _ | apply Drawn0.step)⟩
    case round =>
      clear H'
      try clear c1
      try clear p2
      try clear c3
      try clear c3b0
      try clear c3b1
      try clear c3b2
      obtain ⟨x5_1, rfl, HA, HK1, ⟨m1, rfl⟩⟩ := hrel
      cases gk with
      | zero => exact absurd HA.out (by simp [marshalyardref06_Same.l0])
      | succ k1 =>
        have H := HA.out
        clear HA
        simp only [marshalyardref06_Same.l0] at H
        by_cases c4 : x5_1 < (l0.length : Int)
        · rw [if_pos c4] at H
          have c4b0 : decide (x5_1 < (l0.length : Int)) = true := decide_eq_true c4
          clear c4
          by_cases c5 : 0 ≤ x5_1
          · rw [if_pos c5] at H
            have c5b0 : decide (0 ≤ x5_1) = true := decide_eq_true c5
            clear c5
            by_cases c6 : x5_1 < (l1.length : Int)
            · rw [if_pos c6] at H
              have c6b0 : decide (x5_1 < (l1.length : Int)) = true := decide_eq_true c6
              clear c6
              by_cases c7 : (rdOf ByteArray.empty l0 x5_1).toList = (rdOf ByteArray.empty l1 x5_1).toList
              · rw [if_pos c7] at H
                have c7b0 : ((rdOf ByteArray.empty l0 x5_1).toList == (rdOf ByteArray.empty l1 x5_1).toList) = true := beq_iff_eq.mpr c7
                have c7b1 : ((rdOf ByteArray.empty l0 x5_1).toList != (rdOf ByteArray.empty l1 x5_1).toList) = false := bne_eq_false_iff_eq.mpr c7
                clear c7
                have H' := Aside0.mk H
                clear H
                have p101 : 0 ≤ (x5_1 : Int) := of_decide_eq_true (by first | (with_reducible assumption) | assumption)
                have q101 : x5_1 < (l0.length : Int) := of_decide_eq_true (by first | (with_reducible assumption) | assumption)
                obtain ⟨ad101, e101, hx101_0⟩ := Kd.at_string HR0.out x5_1 p101 q101
                cases e101
                replace p101 := eq_true p101
                replace q101 := eq_true q101
                have p102 : 0 ≤ (x5_1 : Int) := of_decide_eq_true (by first | (with_reducible assumption) | assumption)
                have q102 : x5_1 < (l1.length : Int) := of_decide_eq_true (by first | (with_reducible assumption) | assumption)
                obtain ⟨ad102, e102, hx102_0⟩ := Kd.at_string HR1.out x5_1 p102 q102
                cases e102
                replace p102 := eq_true p102
                replace q102 := eq_true q102
                go_wp2
                repeat (go_quiet (fail); try go_wp2)
                go_roundg k1
                case measure => have := HK1.out; omega
                case rel => exact ⟨(wrap64 (x5_1 + 1)), (by first | rfl | (simp; done) | (simp [*]; done)), H', ⟨by have := HK1.out; omega⟩, by repeat (first | exact Drawn0.refl _ | apply Drawn0.step)⟩
              · rw [if_neg c7] at H
                have c7b0 : ((rdOf ByteArray.empty l0 x5_1).toList == (rdOf ByteArray.empty l1 x5_1).toList) = false := beq_eq_false_iff_ne.mpr c7
                have c7b1 : ((rdOf ByteArray.empty l0 x5_1).toList != (rdOf ByteArray.empty l1 x5_1).toList) = true := bne_iff_ne.mpr c7
                obtain rfl := Option.some.inj H
                have p101 : 0 ≤ (x5_1 : Int) := of_decide_eq_true (by first | (with_reducible assumption) | assumption)
                have q101 : x5_1 < (l0.length : Int) := of_decide_eq_true (by first | (with_reducible assumption) | assumption)
                obtain ⟨ad101, e101, hx101_0⟩ := Kd.at_string HR0.out x5_1 p101 q101
                cases e101
                replace p101 := eq_true p101
                replace q101 := eq_true q101
                have p102 : 0 ≤ (x5_1 : Int) := of_decide_eq_true (by first | (with_reducible assumption) | assumption)
                have q102 : x5_1 < (l1.length : Int) := of_decide_eq_true (by first | (with_reducible assumption) | assumption)
                obtain ⟨ad102, e102, hx102_0⟩ := Kd.at_string HR1.out x5_1 p102 q102
                cases e102
                replace p102 := eq_true p102
                replace q102 := eq_true q102
                go_wp2
                repeat (go_quiet (fail); try go_wp2)
                go_ret
                exact ⟨by first | rfl | (simp; done) | (simp [*]; done), by repeat (first | exact Drawn0.refl _ | apply Drawn0.step)⟩
            · rw [if_neg c6] at H
              exact absurd H (by simp)
          · rw [if_neg c5] at H
            exact absurd H (by simp)
        · rw [if_neg c4] at H
          have c4b0 : decide (x5_1 < (l0.length : Int)) = false := decide_eq_false c4
          clear c4
          obtain rfl := Option.some.inj H
          go_wp2
          repeat (go_quiet (fail); try go_wp2)
          go_ret
          exact ⟨by first | rfl | (simp; done) | (simp [*]; done), by repeat (first | exact Drawn0.refl _ | apply Drawn0.step)⟩
  · rw [if_neg c3] at H
    have c3b0 : ((l0.length : Int) == (l1.length : Int)) = false := beq_eq_false_iff_ne.mpr c3
    have c3b1 : ((l0.length : Int) != (l1.length : Int)) = true := bne_iff_ne.mpr c3
    have c3b2 : (l0.length == l1.length) = false := by first | simpa using c3 | (simp at c3 ⊢; omega)
    obtain rfl := Option.some.inj H
    go_enter Tryz.func36, Tryz.ntmps36
    go_wp2
    repeat (go_quiet (fail); try go_wp2)
    go_ret
    exact ⟨by first | rfl | (simp; done) | (simp [*]; done), by repeat (first | exact Drawn0.refl _ | apply Drawn0.step)⟩

/-! ### marshalyardref12_All: function 70 -/
def marshalyardref12_All.f  : Option ((List (S84))) := some (([(⟨(⟨#[80, 73, 78, 71]⟩ : ByteArray), 0, 0, 0, 0, 0, false⟩ : S84), (⟨(⟨#[69, 67, 72, 79]⟩ : ByteArray), 1, 1, 0, 0, 0, false⟩ : S84), (⟨(⟨#[71, 69, 84]⟩ : ByteArray), 1, 1, 1, 1, 1, false⟩ : S84), (⟨(⟨#[83, 69, 84]⟩ : ByteArray), 2, 2, 1, 1, 1, true⟩ : S84), (⟨(⟨#[68, 69, 76]⟩ : ByteArray), 1, 31, 1, (-1), 1, true⟩ : S84), (⟨(⟨#[69, 88, 73, 83, 84, 83]⟩ : ByteArray), 1, 31, 1, (-1), 1, false⟩ : S84), (⟨(⟨#[84, 89, 80, 69]⟩ : ByteArray), 1, 1, 1, 1, 1, false⟩ : S84), (⟨(⟨#[65, 80, 80, 69, 78, 68]⟩ : ByteArray), 2, 2, 1, 1, 1, true⟩ : S84), (⟨(⟨#[83, 84, 82, 76, 69, 78]⟩ : ByteArray), 1, 1, 1, 1, 1, false⟩ : S84), (⟨(⟨#[73, 78, 67, 82, 66, 89]⟩ : ByteArray), 2, 2, 1, 1, 1, true⟩ : S84), (⟨(⟨#[77, 71, 69, 84]⟩ : ByteArray), 1, 31, 1, (-1), 1, false⟩ : S84), (⟨(⟨#[77, 83, 69, 84]⟩ : ByteArray), 2, 31, 1, (-1), 2, true⟩ : S84), (⟨(⟨#[72, 83, 69, 84]⟩ : ByteArray), 3, 31, 1, 1, 1, true⟩ : S84), (⟨(⟨#[72, 71, 69, 84]⟩ : ByteArray), 2, 2, 1, 1, 1, false⟩ : S84), (⟨(⟨#[72, 68, 69, 76]⟩ : ByteArray), 2, 31, 1, 1, 1, true⟩ : S84), (⟨(⟨#[72, 76, 69, 78]⟩ : ByteArray), 1, 1, 1, 1, 1, false⟩ : S84), (⟨(⟨#[72, 65, 76, 76]⟩ : ByteArray), 1, 1, 1, 1, 1, false⟩ : S84), (⟨(⟨#[76, 80, 85, 83, 72]⟩ : ByteArray), 2, 31, 1, 1, 1, true⟩ : S84), (⟨(⟨#[82, 80, 85, 83, 72]⟩ : ByteArray), 2, 31, 1, 1, 1, true⟩ : S84), (⟨(⟨#[76, 80, 79, 80]⟩ : ByteArray), 1, 1, 1, 1, 1, true⟩ : S84), (⟨(⟨#[82, 80, 79, 80]⟩ : ByteArray), 1, 1, 1, 1, 1, true⟩ : S84), (⟨(⟨#[76, 76, 69, 78]⟩ : ByteArray), 1, 1, 1, 1, 1, false⟩ : S84), (⟨(⟨#[76, 73, 78, 68, 69, 88]⟩ : ByteArray), 2, 2, 1, 1, 1, false⟩ : S84), (⟨(⟨#[76, 82, 65, 78, 71, 69]⟩ : ByteArray), 3, 3, 1, 1, 1, false⟩ : S84), (⟨(⟨#[76, 84, 82, 73, 77]⟩ : ByteArray), 3, 3, 1, 1, 1, true⟩ : S84), (⟨(⟨#[83, 65, 68, 68]⟩ : ByteArray), 2, 31, 1, 1, 1, true⟩ : S84), (⟨(⟨#[83, 82, 69, 77]⟩ : ByteArray), 2, 31, 1, 1, 1, true⟩ : S84), (⟨(⟨#[83, 72, 65, 83]⟩ : ByteArray), 2, 2, 1, 1, 1, false⟩ : S84), (⟨(⟨#[83, 65, 76, 76]⟩ : ByteArray), 1, 1, 1, 1, 1, false⟩ : S84), (⟨(⟨#[83, 67, 65, 82, 68]⟩ : ByteArray), 1, 1, 1, 1, 1, false⟩ : S84), (⟨(⟨#[83, 85, 78, 73, 79, 78]⟩ : ByteArray), 1, 31, 1, (-1), 1, false⟩ : S84), (⟨(⟨#[83, 73, 78, 84, 69, 82]⟩ : ByteArray), 1, 31, 1, (-1), 1, false⟩ : S84), (⟨(⟨#[83, 68, 73, 70, 70]⟩ : ByteArray), 1, 31, 1, (-1), 1, false⟩ : S84), (⟨(⟨#[80, 83, 69, 84]⟩ : ByteArray), 2, 2, 1, 1, 1, true⟩ : S84), (⟨(⟨#[80, 71, 69, 84]⟩ : ByteArray), 1, 1, 1, 1, 1, false⟩ : S84), (⟨(⟨#[80, 65, 68, 68]⟩ : ByteArray), 2, 2, 1, 1, 1, true⟩ : S84), (⟨(⟨#[80, 77, 85, 76]⟩ : ByteArray), 2, 2, 1, 1, 1, true⟩ : S84), (⟨(⟨#[80, 84, 85, 82, 78]⟩ : ByteArray), 2, 2, 1, 1, 1, true⟩ : S84), (⟨(⟨#[80, 78, 79, 82, 77]⟩ : ByteArray), 1, 1, 1, 1, 1, false⟩ : S84), (⟨(⟨#[69, 88, 80, 73, 82, 69]⟩ : ByteArray), 2, 2, 1, 1, 1, true⟩ : S84), (⟨(⟨#[84, 84, 76]⟩ : ByteArray), 1, 1, 1, 1, 1, false⟩ : S84), (⟨(⟨#[80, 69, 82, 83, 73, 83, 84]⟩ : ByteArray), 1, 1, 1, 1, 1, true⟩ : S84), (⟨(⟨#[68, 85, 77, 80]⟩ : ByteArray), 1, 1, 1, 1, 1, false⟩ : S84), (⟨(⟨#[82, 69, 83, 84, 79, 82, 69]⟩ : ByteArray), 3, 3, 1, 1, 1, true⟩ : S84), (⟨(⟨#[75, 69, 89, 83, 76, 79, 84]⟩ : ByteArray), 1, 1, 0, 0, 0, false⟩ : S84), (⟨(⟨#[67, 79, 85, 78, 84]⟩ : ByteArray), 1, 1, 0, 0, 0, false⟩ : S84), (⟨(⟨#[75, 69, 89, 83]⟩ : ByteArray), 2, 2, 0, 0, 0, false⟩ : S84)] : List (S84)))
def cells84 (x : S84) : List Value := [.string x.f0, .int .i64 x.f1, .int .i64 x.f2, .int .i64 x.f3, .int .i64 x.f4, .int .i64 x.f5, .bool x.f6]
def allL : List S84 := (marshalyardref12_All.f).getD []
set_option maxRecDepth 100000 in
theorem all_parts : (List.range 47).map (fun j => (specC.toList.drop (j * 7)).take 7) = allL.map cells84 := by kernel_rfl
theorem all_len : allL.length = 47 := by kernel_rfl
theorem all_reps (w : World) (base : Nat) (ok : Nat → Prop) : Reps (k84.M w base ok) 7 allL specC.toList := by
  refine ⟨by rw [all_len]; kernel_rfl, fun j p hp => ?_⟩
  have hj : j < 47 := by
    have := (List.getElem?_eq_some_iff.1 hp).1
    rwa [all_len] at this
  have h1 := congrArg (fun l => l[j]?) all_parts
  simp only [List.getElem?_map, hp, Option.map_some] at h1
  rw [List.getElem?_range hj] at h1
  simp only [Option.map_some, Option.some.injEq] at h1
  rw [h1]
  exact k84_mkM w base ok p
set_option maxHeartbeats 8000000 in
set_option maxRecDepth 100000 in
theorem marshalyardref12_All.calls  (r : List (S84)) (w : World) (h : marshalyardref12_All.f  = some r) :
    Calls Tryz.prog 70 #[] w fun e w' => ∃ v0_ : Value, e = .returned (v0_) ∧ Kd.R k84 84 w' w.heap.size (fun _ => True) v0_ r ∧ Below w.heap.size w w' := by
  have hr : r = allL := by unfold allL; rw [h]; rfl
  subst hr
  clear h
  go_enter Tryz.func70, Tryz.ntmps70
  go_wp2_with fail
  unfold Oper.wp
  refine upon_of (v := .slice (some ⟨w.heap.size, 0, none⟩) 47 47) (w' := w.alloc (.cells specC 84)) (by kernel_rfl) ?_
  go_wp2_with fail
  go_ret
  refine ⟨_, rfl, ⟨fun _ _ => trivial, specC.toList, ⟨by rw [all_len]; kernel_rfl, Or.inr ⟨w.heap.size, 47, specC, by rw [all_len]; rfl, Nat.le_refl _, heap_alloc_new _ _, by rw [all_len]; exact Nat.le_refl _, by decide, by kernel_rfl, ?_⟩⟩, all_reps _ _ _⟩, below_alloc (Below.refl _ _) _⟩
  · rw [all_len]
    kernel_rfl
  all_goals rfl

/-! ### marshalyardref12_Find: function 52 -/
def marshalyardref12_Find.l0 : Nat → ByteArray → List (S84) → Int → Option (ByteArray × Int × Int × Int × Int × Int × Bool × Bool)
  | 0, _, _, _ => none
  | k + 1, x0, x4, x5 => if x5 < (x4.length : Int) then (if 0 ≤ x5 then ((marshalyardref12_Alike.f k ((rd_T84 x4 x5).f0) x0).bind fun t111 => (if t111 = true then (some ((rd_T84 x4 x5).f0, (rd_T84 x4 x5).f1, (rd_T84 x4 x5).f2, (rd_T84 x4 x5).f3, (rd_T84 x4 x5).f4, (rd_T84 x4 x5).f5, (rd_T84 x4 x5).f6, true)) else (marshalyardref12_Find.l0 k x0 x4 (wrap64 (x5 + 1))))) else (none)) else (some ((⟨#[]⟩ : ByteArray), 0, 0, 0, 0, 0, false, false))
def marshalyardref12_Find.f (k : Nat) (a0 : ByteArray) : Option (ByteArray × Int × Int × Int × Int × Int × Bool × Bool) := (marshalyardref12_All.f).bind fun t107 => (marshalyardref12_Find.l0 k a0 t107 0)
theorem marshalyardref12_Find.mono_l : ∀ k, (∀ y0 y1 y2, LeO (marshalyardref12_Find.l0 k y0 y1 y2) (marshalyardref12_Find.l0 (k + 1) y0 y1 y2))
  | 0 => fun _ _ _ r h => by simp [marshalyardref12_Find.l0] at h
  | k + 1 => by
    have ih0 := marshalyardref12_Find.mono_l k
    · intro y0 y1 y2
      unfold marshalyardref12_Find.l0
      repeat' first
      | (with_reducible exact ih0 _ _ _)
      | (with_reducible exact marshalyardref12_Alike.mono _ _ _)
      | (with_reducible exact LeO.refl _)
      | (with_reducible exact LeO.none _)
      | (with_reducible refine LeO.ite ?_ ?_)
      | (with_reducible refine LeO.bind ?_ (fun _ => ?_))
      | exact ih0 _ _ _
      | exact marshalyardref12_Alike.mono _ _ _
      | exact LeO.none _
      | refine LeO.ite ?_ ?_
      | refine LeO.bind ?_ (fun _ => ?_)
theorem marshalyardref12_Find.mono : ∀ a0 k, LeO (marshalyardref12_Find.f k a0) (marshalyardref12_Find.f (k + 1) a0) := by
  intro a0 k
  have ih0 := marshalyardref12_Find.mono_l k
  unfold marshalyardref12_Find.f
  repeat' first
      | (with_reducible exact ih0 _ _ _)
      | (with_reducible exact marshalyardref12_Alike.mono _ _ _)
      | (with_reducible exact LeO.refl _)
      | (with_reducible exact LeO.none _)
      | (with_reducible refine LeO.ite ?_ ?_)
      | (with_reducible refine LeO.bind ?_ (fun _ => ?_))
      | exact ih0 _ _ _
      | exact marshalyardref12_Alike.mono _ _ _
      | exact LeO.none _
      | refine LeO.ite ?_ ?_
      | refine LeO.bind ?_ (fun _ => ?_)
set_option maxHeartbeats 8000000 in
set_option maxRecDepth 100000 in
theorem marshalyardref12_Find.calls (k : Nat) (a0 : ByteArray) (r1 : ByteArray) (r2 : Int) (r3 : Int) (r4 : Int) (r5 : Int) (r6 : Int) (r7 : Bool) (r8 : Bool) (w : World) (h : marshalyardref12_Find.f k a0 = some (r1, r2, r3, r4, r5, r6, r7, r8)) :
    Calls Tryz.prog 52 #[.string a0] w fun e w' => e = .returned (.tuple #[.agg #[.string r1, .int .i64 r2, .int .i64 r3, .int .i64 r4, .int .i64 r5, .int .i64 r6, .bool r7], .bool r8]) ∧ Below w.heap.size w w' := by
  have hu84 := Tryz.underlying84
  have HB := Aside0.mk (Below.refl w.heap.size w)
  have H : ((marshalyardref12_All.f).bind fun t107 => (marshalyardref12_Find.l0 k a0 t107 0)) = some (r1, r2, r3, r4, r5, r6, r7, r8) := h
  clear h
  replace H := Option.bind_eq_some_iff.mp H
  obtain ⟨t107, A20, H⟩ := H
  replace H : (marshalyardref12_Find.l0 k a0 t107 0) = some (r1, r2, r3, r4, r5, r6, r7, r8) := H
  have A2 := Aside0.mk A20
  clear A20
  have H' := Aside0.mk H
  clear H
  go_enter Tryz.func52, Tryz.ntmps52
  go_wp2_with (first | ((with_reducible refine gate_dst (N := 2) rfl ?_); refine box_event ?hg (N := 2) ?hd (cs := #[.string (⟨#[]⟩ : ByteArray), .int .i64 0, .int .i64 0, .int .i64 0, .int .i64 0, .int .i64 0, .bool false]) (t := 84) ?hr ?_; (case hd => rfl); (case hg => rfl); (case hr => first | (go_simp; done) | (go_simp; rfl)); intro gb106 hg w3 hbox hb; have n0_ := Aside0.mk (below_step (by repeat (first | (with_reducible first | exact HB.out | apply below_alloc | apply pw_below_drewN | apply below_drew1) | exact HB.out)) hb); have n1_ := Aside0.mk (hbox); have n2_ := Aside0.mk ((by rw [hg]; exact (below_size (by repeat (first | (with_reducible first | exact HB.out | apply below_alloc | apply pw_below_drewN | apply below_drew1) | exact HB.out))) : w.heap.size ≤ gb106)); have n3_ := Aside0.mk ((by rw [hg]; exact (below_size (by repeat (first | (with_reducible first | exact HB.out | apply below_alloc | apply pw_below_drewN | apply below_drew1) | exact HB.out))) : w.heap.size ≤ gb106)); clear HB; have HB := n0_; have BK106 := n1_; have GW106 := n2_; have GE106 := n3_; clear n0_ n1_ n2_ n3_; clear hb hbox hg) | ((with_reducible refine gate_callee (f := 70) rfl ?_); refine goesL_ (some 6) rfl rfl Tryz.func70 (by kernel_rfl) rfl #[] rfl (by (try simp only [List.map_toArray, List.map_cons, List.map_nil]); first | done | rfl | (simp only [List.length_drop, List.length_take]; rfl)) ?_; (with_reducible refine (marshalyardref12_All.calls  t107 _ A2.out).mono ?_); rintro e w4 ⟨v108, rfl, ho0, hb⟩; refine ⟨_, rfl, ?_⟩; have n0_ := Aside0.mk (Kd.R_lower (Kd.R_newB ho0 (g := gb106) (o := .cells #[.string (⟨#[]⟩ : ByteArray), .int .i64 0, .int .i64 0, .int .i64 0, .int .i64 0, .int .i64 0, .bool false] 84 (0, 0)) (by (with_reducible repeat (first | refine blk_drewN ?_ _ | refine blk_drew ?_ | refine blk_alloc ?_ _)); exact BK106.out)) (below_size (by repeat (first | (with_reducible first | exact HB.out | apply below_alloc | apply pw_below_drewN | apply below_drew1 | refine below_set ?_ GE106.out) | exact HB.out)))); have n1_ := Aside0.mk (blk_below (g := gb106) (o := .cells #[.string (⟨#[]⟩ : ByteArray), .int .i64 0, .int .i64 0, .int .i64 0, .int .i64 0, .int .i64 0, .bool false] 84 (0, 0)) (by (with_reducible repeat (first | refine blk_drewN ?_ _ | refine blk_drew ?_ | refine blk_alloc ?_ _)); exact BK106.out) hb); have n2_ := Aside0.mk (below_step (by repeat (first | (with_reducible first | exact HB.out | apply below_alloc | apply pw_below_drewN | apply below_drew1 | refine below_set ?_ GE106.out) | exact HB.out)) hb); clear BK106; clear HB; have HO109 := n0_; have BK106 := n1_; have HB := n2_; clear n0_ n1_ n2_; (try clear hb); (try clear hb2); (try clear hk); (try clear hi); (try clear ho0)))
  go_loopg [5] k (fun kq v5 w' => ∃ (x5_1 : Int) (x107000_1 : ByteArray) (x107001_1 : Int) (x107002_1 : Int) (x107003_1 : Int) (x107004_1 : Int) (x107005_1 : Int) (x107006_1 : Bool), v5 = .int .i64 x5_1 ∧ Aside0 (marshalyardref12_Find.l0 kq a0 t107 x5_1 = some (r1, r2, r3, r4, r5, r6, r7, r8)) ∧ Aside0 (kq ≤ k) ∧ Aside0 (Kd.R k84 84 w' w.heap.size (fun k_ => k_ ≠ gb106) v108 t107) ∧ Aside0 (w'.heap[gb106]? = some (.cells #[.string x107000_1, .int .i64 x107001_1, .int .i64 x107002_1, .int .i64 x107003_1, .int .i64 x107004_1, .int .i64 x107005_1, .bool x107006_1] 84 (0, 0))) ∧ Aside0 (Below w.heap.size w w'))
  case atStart => exact ⟨(0), ((⟨#[]⟩ : ByteArray)), (0), (0), (0), (0), (0), (false), (by first | rfl | (simp; done) | (simp [*]; done)), H', ⟨Nat.le_refl _⟩, ⟨by (with_reducible repeat (first | apply Kd.R_alloc | apply Kd.R_drewN | apply Kd.R_drew)); exact Kd.R_mono HO109.out (fun _ hk => hk.2)⟩, ⟨by (with_reducible repeat (first | refine blk_drewN ?_ _ | refine blk_drew ?_ | refine blk_alloc ?_ _)); exact BK106.out⟩, ⟨by repeat (first | (with_reducible first | exact HB.out | apply below_alloc | apply pw_below_drewN | apply below_drew1 | refine below_set ?_ GE106.out) | exact HB.out)⟩⟩
  case round =>
    clear H'
    try clear p2
    obtain ⟨x5_1, x107000_1, x107001_1, x107002_1, x107003_1, x107004_1, x107005_1, x107006_1, rfl, HA, HK1, HO_4, BK106, HB⟩ := hrel
    cases gk with
    | zero => exact absurd HA.out (by simp [marshalyardref12_Find.l0])
    | succ k1 =>
      have H := HA.out
      clear HA
      simp only [marshalyardref12_Find.l0] at H
      by_cases c5 : x5_1 < (t107.length : Int)
      · rw [if_pos c5] at H
        have c5b0 : decide (x5_1 < (t107.length : Int)) = true := decide_eq_true c5
        clear c5
        by_cases c6 : 0 ≤ x5_1
        · rw [if_pos c6] at H
          have c6b0 : decide (0 ≤ x5_1) = true := decide_eq_true c6
          clear c6
          replace H := Option.bind_eq_some_iff.mp H
          obtain ⟨t111, A70, H⟩ := H
          replace H : (if t111 = true then (some ((rd_T84 t107 x5_1).f0, (rd_T84 t107 x5_1).f1, (rd_T84 t107 x5_1).f2, (rd_T84 t107 x5_1).f3, (rd_T84 t107 x5_1).f4, (rd_T84 t107 x5_1).f5, (rd_T84 t107 x5_1).f6, true)) else (marshalyardref12_Find.l0 k1 a0 t107 (wrap64 (x5_1 + 1)))) = some (r1, r2, r3, r4, r5, r6, r7, r8) := H
          have A7 := Aside0.mk A70
          clear A70
          by_cases c8 : t111 = true
          · subst c8
            have H1 : (some ((rd_T84 t107 x5_1).f0, (rd_T84 t107 x5_1).f1, (rd_T84 t107 x5_1).f2, (rd_T84 t107 x5_1).f3, (rd_T84 t107 x5_1).f4, (rd_T84 t107 x5_1).f5, (rd_T84 t107 x5_1).f6, true)) = some (r1, r2, r3, r4, r5, r6, r7, r8) := by rw [if_pos rfl] at H; exact H
            clear H
            have H := H1
            clear H1
            simp only [Option.some.injEq, Prod.mk.injEq] at H
            obtain ⟨rfl, rfl, rfl, rfl, rfl, rfl, rfl, rfl⟩ := H
            obtain ⟨Ao9, co9, eo9⟩ := Kd.R_slice HO_4.out
            subst eo9
            have p110 : 0 ≤ (x5_1 : Int) := of_decide_eq_true (by first | (with_reducible assumption) | assumption)
            have q110 : x5_1 < (t107.length : Int) := of_decide_eq_true (by first | (with_reducible assumption) | assumption)
            obtain ⟨ad110, e110, hx110_0, hx110_1, hx110_2, hx110_3, hx110_4, hx110_5, hx110_6⟩ := at_T84 (Kd.R_reads' HO_4.out).2.2 x5_1 p110 q110
            cases e110
            replace p110 := eq_true p110
            replace q110 := eq_true q110
            go_wp2_with (first | ((with_reducible refine gate_callee (f := 71) rfl ?_); refine goesL_ (some 19) rfl rfl Tryz.func71 (by kernel_rfl) rfl #[.string ((rd_T84 t107 x5_1).f0), .string a0] rfl (by (try simp only [List.map_toArray, List.map_cons, List.map_nil]); first | done | rfl | (simp only [List.length_drop, List.length_take]; rfl)) ?_; (with_reducible refine (marshalyardref12_Alike.calls k1 ((rd_T84 t107 x5_1).f0) a0 true _ A7.out).mono ?_); rintro e w' ⟨rfl, ⟨nd, rfl⟩⟩; refine ⟨_, rfl, ?_⟩; (try (rw [drewN_self wr]; generalize hq_ : World.drewN wr _ = wr; have n0_ : Aside0 (Kd.R k84 84 wr w.heap.size (fun k_ => k_ ≠ gb106) (.slice (some ad110) t107.length co9) t107) := ⟨by rw [← hq_]; exact (by (with_reducible repeat (first | apply Kd.R_alloc | apply Kd.R_drewN | apply Kd.R_drew)); exact HO_4.out)⟩; have n1_ : Aside0 (wr.heap[gb106]? = some (.cells #[.string x107000_1, .int .i64 x107001_1, .int .i64 x107002_1, .int .i64 x107003_1, .int .i64 x107004_1, .int .i64 x107005_1, .bool x107006_1] 84 (0, 0))) := ⟨by rw [← hq_]; exact (by (with_reducible repeat (first | refine blk_drewN ?_ _ | refine blk_drew ?_ | refine blk_alloc ?_ _)); exact BK106.out)⟩; have n2_ : Aside0 (Below w.heap.size w wr) := ⟨by rw [← hq_]; exact (by repeat (first | (with_reducible first | exact HB.out | apply below_alloc | apply pw_below_drewN | apply below_drew1 | refine below_set ?_ GE106.out) | exact HB.out))⟩; clear HO_4 BK106 HB hq_; have HO_4 := n0_; have BK106 := n1_; have HB := n2_; clear n0_ n1_ n2_)); have p112 : 0 ≤ (x5_1 : Int) := of_decide_eq_true (by first | (with_reducible assumption) | assumption); have q112 : x5_1 < (t107.length : Int) := of_decide_eq_true (by first | (with_reducible assumption) | assumption); obtain ⟨ad112, e112, hx112_0, hx112_1, hx112_2, hx112_3, hx112_4, hx112_5, hx112_6⟩ := at_T84 (Kd.R_reads' HO_4.out).2.2 x5_1 p112 q112; obtain rfl : ad110 = ad112 := (by injection e112); replace p112 := eq_true p112; replace q112 := eq_true q112; have hcz10_0 : wr.cell? ⟨gb106, 0, none⟩ = some (.string x107000_1) := (blk_cell BK106.out 0).trans rfl; have hcz10_1 : wr.cell? ⟨gb106, 1, none⟩ = some (.int .i64 x107001_1) := (blk_cell BK106.out 1).trans rfl; have hcz10_2 : wr.cell? ⟨gb106, 2, none⟩ = some (.int .i64 x107002_1) := (blk_cell BK106.out 2).trans rfl; have hcz10_3 : wr.cell? ⟨gb106, 3, none⟩ = some (.int .i64 x107003_1) := (blk_cell BK106.out 3).trans rfl; have hcz10_4 : wr.cell? ⟨gb106, 4, none⟩ = some (.int .i64 x107004_1) := (blk_cell BK106.out 4).trans rfl; have hcz10_5 : wr.cell? ⟨gb106, 5, none⟩ = some (.int .i64 x107005_1) := (blk_cell BK106.out 5).trans rfl; have hcz10_6 : wr.cell? ⟨gb106, 6, none⟩ = some (.bool x107006_1) := (blk_cell BK106.out 6).trans rfl; have hfz10_0 := blk_frozen BK106.out 0; have hfz10_1 := blk_frozen BK106.out 1; have hfz10_2 := blk_frozen BK106.out 2; have hfz10_3 := blk_frozen BK106.out 3; have hfz10_4 := blk_frozen BK106.out 4; have hfz10_5 := blk_frozen BK106.out 5; have hfz10_6 := blk_frozen BK106.out 6))
            refine bodyPost_ret (results_ct rfl _ _ gb106 84 #[.string ((rd_T84 t107 x5_1).f0), .int .i64 ((rd_T84 t107 x5_1).f1), .int .i64 ((rd_T84 t107 x5_1).f2), .int .i64 ((rd_T84 t107 x5_1).f3), .int .i64 ((rd_T84 t107 x5_1).f4), .int .i64 ((rd_T84 t107 x5_1).f5), .bool ((rd_T84 t107 x5_1).f6)] (0, 0) _ rfl (by (with_reducible repeat (first | refine blk_drewN ?_ _ | refine blk_drew ?_ | refine blk_alloc ?_ _)); refine blk_put (cs := #[.string ((rd_T84 t107 x5_1).f0), .int .i64 ((rd_T84 t107 x5_1).f1), .int .i64 ((rd_T84 t107 x5_1).f2), .int .i64 ((rd_T84 t107 x5_1).f3), .int .i64 ((rd_T84 t107 x5_1).f4), .int .i64 ((rd_T84 t107 x5_1).f5), .bool x107006_1]) ?_ 6 _ rfl; (with_reducible repeat (first | refine blk_drewN ?_ _ | refine blk_drew ?_ | refine blk_alloc ?_ _)); refine blk_put (cs := #[.string ((rd_T84 t107 x5_1).f0), .int .i64 ((rd_T84 t107 x5_1).f1), .int .i64 ((rd_T84 t107 x5_1).f2), .int .i64 ((rd_T84 t107 x5_1).f3), .int .i64 ((rd_T84 t107 x5_1).f4), .int .i64 x107005_1, .bool x107006_1]) ?_ 5 _ rfl; (with_reducible repeat (first | refine blk_drewN ?_ _ | refine blk_drew ?_ | refine blk_alloc ?_ _)); refine blk_put (cs := #[.string ((rd_T84 t107 x5_1).f0), .int .i64 ((rd_T84 t107 x5_1).f1), .int .i64 ((rd_T84 t107 x5_1).f2), .int .i64 ((rd_T84 t107 x5_1).f3), .int .i64 x107004_1, .int .i64 x107005_1, .bool x107006_1]) ?_ 4 _ rfl; (with_reducible repeat (first | refine blk_drewN ?_ _ | refine blk_drew ?_ | refine blk_alloc ?_ _)); refine blk_put (cs := #[.string ((rd_T84 t107 x5_1).f0), .int .i64 ((rd_T84 t107 x5_1).f1), .int .i64 ((rd_T84 t107 x5_1).f2), .int .i64 x107003_1, .int .i64 x107004_1, .int .i64 x107005_1, .bool x107006_1]) ?_ 3 _ rfl; (with_reducible repeat (first | refine blk_drewN ?_ _ | refine blk_drew ?_ | refine blk_alloc ?_ _)); refine blk_put (cs := #[.string ((rd_T84 t107 x5_1).f0), .int .i64 ((rd_T84 t107 x5_1).f1), .int .i64 x107002_1, .int .i64 x107003_1, .int .i64 x107004_1, .int .i64 x107005_1, .bool x107006_1]) ?_ 2 _ rfl; (with_reducible repeat (first | refine blk_drewN ?_ _ | refine blk_drew ?_ | refine blk_alloc ?_ _)); refine blk_put (cs := #[.string ((rd_T84 t107 x5_1).f0), .int .i64 x107001_1, .int .i64 x107002_1, .int .i64 x107003_1, .int .i64 x107004_1, .int .i64 x107005_1, .bool x107006_1]) ?_ 1 _ rfl; (with_reducible repeat (first | refine blk_drewN ?_ _ | refine blk_drew ?_ | refine blk_alloc ?_ _)); refine blk_put (cs := #[.string x107000_1, .int .i64 x107001_1, .int .i64 x107002_1, .int .i64 x107003_1, .int .i64 x107004_1, .int .i64 x107005_1, .bool x107006_1]) ?_ 0 _ rfl; (with_reducible repeat (first | refine blk_drewN ?_ _ | refine blk_drew ?_ | refine blk_alloc ?_ _)); exact BK106.out) Tryz.underlying84 rfl (by kernel_rfl)) rfl ?_
            exact ⟨by first | rfl | (simp [errW_none, errW_some] <;> rfl) | (simp [*, errW_none, errW_some] <;> rfl), by repeat (first | (with_reducible first | exact HB.out | apply below_alloc | apply pw_below_drewN | apply below_drew1 | refine below_set ?_ GE106.out) | exact HB.out)⟩
          · replace c8 := Bool.eq_false_iff.mpr c8
            subst c8
            have H1 : (marshalyardref12_Find.l0 k1 a0 t107 (wrap64 (x5_1 + 1))) = some (r1, r2, r3, r4, r5, r6, r7, r8) := by rw [if_neg (show ¬ (false = true) by decide)] at H; exact H
            clear H
            have H := H1
            clear H1
            have H' := Aside0.mk H
            clear H
            obtain ⟨Ao11, co11, eo11⟩ := Kd.R_slice HO_4.out
            subst eo11
            have p110 : 0 ≤ (x5_1 : Int) := of_decide_eq_true (by first | (with_reducible assumption) | assumption)
            have q110 : x5_1 < (t107.length : Int) := of_decide_eq_true (by first | (with_reducible assumption) | assumption)
            obtain ⟨ad110, e110, hx110_0, hx110_1, hx110_2, hx110_3, hx110_4, hx110_5, hx110_6⟩ := at_T84 (Kd.R_reads' HO_4.out).2.2 x5_1 p110 q110
            cases e110
            replace p110 := eq_true p110
            replace q110 := eq_true q110
            go_wp2_with (first | ((with_reducible refine gate_callee (f := 71) rfl ?_); refine goesL_ (some 19) rfl rfl Tryz.func71 (by kernel_rfl) rfl #[.string ((rd_T84 t107 x5_1).f0), .string a0] rfl (by (try simp only [List.map_toArray, List.map_cons, List.map_nil]); first | done | rfl | (simp only [List.length_drop, List.length_take]; rfl)) ?_; (with_reducible refine (marshalyardref12_Alike.calls k1 ((rd_T84 t107 x5_1).f0) a0 false _ A7.out).mono ?_); rintro e w' ⟨rfl, ⟨nd, rfl⟩⟩; refine ⟨_, rfl, ?_⟩))
            go_roundg k1
            case measure => have := HK1.out; omega
            case rel => exact ⟨(wrap64 (x5_1 + 1)), (x107000_1), (x107001_1), (x107002_1), (x107003_1), (x107004_1), (x107005_1), (x107006_1), (by first | rfl | (simp; done) | (simp [*]; done)), H', ⟨by have := HK1.out; omega⟩, ⟨by (with_reducible repeat (first | apply Kd.R_alloc | apply Kd.R_drewN | apply Kd.R_drew)); exact HO_4.out⟩, ⟨by (with_reducible repeat (first | refine blk_drewN ?_ _ | refine blk_drew ?_ | refine blk_alloc ?_ _)); exact BK106.out⟩, ⟨by repeat (first | (with_reducible first | exact HB.out | apply below_alloc | apply pw_below_drewN | apply below_drew1 | refine below_set ?_ GE106.out) | exact HB.out)⟩⟩
        · rw [if_neg c6] at H
          exact absurd H (by simp)
      · rw [if_neg c5] at H
        have c5b0 : decide (x5_1 < (t107.length : Int)) = false := decide_eq_false c5
        clear c5
        simp only [Option.some.injEq, Prod.mk.injEq] at H
        obtain ⟨rfl, rfl, rfl, rfl, rfl, rfl, rfl, rfl⟩ := H
        obtain ⟨Ao12, co12, eo12⟩ := Kd.R_slice HO_4.out
        subst eo12
        have hcz13_0 : wr.cell? ⟨gb106, 0, none⟩ = some (.string x107000_1) := (blk_cell BK106.out 0).trans rfl
        have hcz13_1 : wr.cell? ⟨gb106, 1, none⟩ = some (.int .i64 x107001_1) := (blk_cell BK106.out 1).trans rfl
        have hcz13_2 : wr.cell? ⟨gb106, 2, none⟩ = some (.int .i64 x107002_1) := (blk_cell BK106.out 2).trans rfl
        have hcz13_3 : wr.cell? ⟨gb106, 3, none⟩ = some (.int .i64 x107003_1) := (blk_cell BK106.out 3).trans rfl
        have hcz13_4 : wr.cell? ⟨gb106, 4, none⟩ = some (.int .i64 x107004_1) := (blk_cell BK106.out 4).trans rfl
        have hcz13_5 : wr.cell? ⟨gb106, 5, none⟩ = some (.int .i64 x107005_1) := (blk_cell BK106.out 5).trans rfl
        have hcz13_6 : wr.cell? ⟨gb106, 6, none⟩ = some (.bool x107006_1) := (blk_cell BK106.out 6).trans rfl
        have hfz13_0 := blk_frozen BK106.out 0
        have hfz13_1 := blk_frozen BK106.out 1
        have hfz13_2 := blk_frozen BK106.out 2
        have hfz13_3 := blk_frozen BK106.out 3
        have hfz13_4 := blk_frozen BK106.out 4
        have hfz13_5 := blk_frozen BK106.out 5
        have hfz13_6 := blk_frozen BK106.out 6
        go_wp2
        refine bodyPost_ret (results_ct rfl _ _ gb106 84 #[.string (⟨#[]⟩ : ByteArray), .int .i64 0, .int .i64 0, .int .i64 0, .int .i64 0, .int .i64 0, .bool false] (0, 0) _ rfl (by (with_reducible repeat (first | refine blk_drewN ?_ _ | refine blk_drew ?_ | refine blk_alloc ?_ _)); refine blk_put (cs := #[.string (⟨#[]⟩ : ByteArray), .int .i64 0, .int .i64 0, .int .i64 0, .int .i64 0, .int .i64 0, .bool x107006_1]) ?_ 6 _ rfl; (with_reducible repeat (first | refine blk_drewN ?_ _ | refine blk_drew ?_ | refine blk_alloc ?_ _)); refine blk_put (cs := #[.string (⟨#[]⟩ : ByteArray), .int .i64 0, .int .i64 0, .int .i64 0, .int .i64 0, .int .i64 x107005_1, .bool x107006_1]) ?_ 5 _ rfl; (with_reducible repeat (first | refine blk_drewN ?_ _ | refine blk_drew ?_ | refine blk_alloc ?_ _)); refine blk_put (cs := #[.string (⟨#[]⟩ : ByteArray), .int .i64 0, .int .i64 0, .int .i64 0, .int .i64 x107004_1, .int .i64 x107005_1, .bool x107006_1]) ?_ 4 _ rfl; (with_reducible repeat (first | refine blk_drewN ?_ _ | refine blk_drew ?_ | refine blk_alloc ?_ _)); refine blk_put (cs := #[.string (⟨#[]⟩ : ByteArray), .int .i64 0, .int .i64 0, .int .i64 x107003_1, .int .i64 x107004_1, .int .i64 x107005_1, .bool x107006_1]) ?_ 3 _ rfl; (with_reducible repeat (first | refine blk_drewN ?_ _ | refine blk_drew ?_ | refine blk_alloc ?_ _)); refine blk_put (cs := #[.string (⟨#[]⟩ : ByteArray), .int .i64 0, .int .i64 x107002_1, .int .i64 x107003_1, .int .i64 x107004_1, .int .i64 x107005_1, .bool x107006_1]) ?_ 2 _ rfl; (with_reducible repeat (first | refine blk_drewN ?_ _ | refine blk_drew ?_ | refine blk_alloc ?_ _)); refine blk_put (cs := #[.string (⟨#[]⟩ : ByteArray), .int .i64 x107001_1, .int .i64 x107002_1, .int .i64 x107003_1, .int .i64 x107004_1, .int .i64 x107005_1, .bool x107006_1]) ?_ 1 _ rfl; (with_reducible repeat (first | refine blk_drewN ?_ _ | refine blk_drew ?_ | refine blk_alloc ?_ _)); refine blk_put (cs := #[.string x107000_1, .int .i64 x107001_1, .int .i64 x107002_1, .int .i64 x107003_1, .int .i64 x107004_1, .int .i64 x107005_1, .bool x107006_1]) ?_ 0 _ rfl; (with_reducible repeat (first | refine blk_drewN ?_ _ | refine blk_drew ?_ | refine blk_alloc ?_ _)); exact BK106.out) Tryz.underlying84 rfl (by kernel_rfl)) rfl ?_
        exact ⟨by first | rfl | (simp [errW_none, errW_some] <;> rfl) | (simp [*, errW_none, errW_some] <;> rfl), by repeat (first | (with_reducible first | exact HB.out | apply below_alloc | apply pw_below_drewN | apply below_drew1 | refine below_set ?_ GE106.out) | exact HB.out)⟩

end Go.Proofs.YtpbiohnmmngccaaGreatDoor.RAl

-- written by the kit's print program, called by wip/tools/myprint.sh, for the functions Al
namespace Go.Proofs.YtpbiohnmmngccaaGreatDoor.RAl
open Go.RowKit Go.Proofs.YtpbiohnmmngccaaGreatDoorW.PrintWords Go.Proofs.YtpbiohnmmngccaaGreatDoorW.PrintLast Go.Proofs.YtpbiohnmmngccaaGreatDoorW.PrintMore
attribute [local go_sem] max2_int min2_int max_two min_two max_three min_three max_four min_four   -- for this text's walks alone

/-! ### marshalyardref12_Check: function 40 -/
def marshalyardref12_Check.j0 : Nat → Int → Bool → ByteArray → Int → Int → Int → Int → Int → Bool → Option (ByteArray × Int × Int × Int × Int × Int × Bool × Int)
  | 0, _, _, _, _, _, _, _, _, _ => none
  | k + 1, x6, x33, x124000, x124001, x124002, x124003, x124004, x124005, x124006 => if x33 = true then (some ((⟨#[]⟩ : ByteArray), 0, 0, 0, 0, 0, false, 121)) else (if x124004 = (-1) then (if x124005 = 0 then (none) else (if (Int.tmod (wrap64 ((wrap64 (x6 - x124003)) + 1)) x124005) = 0 then (some (x124000, x124001, x124002, x124003, x124004, x124005, x124006, 0)) else (some ((⟨#[]⟩ : ByteArray), 0, 0, 0, 0, 0, false, 121)))) else (some (x124000, x124001, x124002, x124003, x124004, x124005, x124006, 0)))
def marshalyardref12_Check.f (k : Nat) (l0 : List ByteArray) : Option (ByteArray × Int × Int × Int × Int × Int × Bool × Int) := if (l0.length : Int) = 0 then (some ((⟨#[]⟩ : ByteArray), 0, 0, 0, 0, 0, false, 120)) else (if 0 < (l0.length : Int) then ((marshalyardref12_Find.f k (rdOf ByteArray.empty l0 0)).bind fun bt115 => (if bt115.2.2.2.2.2.2.2 = true then (if (wrap64 ((l0.length : Int) - 1)) < bt115.2.1 then (marshalyardref12_Check.j0 k (wrap64 ((l0.length : Int) - 1)) true bt115.1 bt115.2.1 bt115.2.2.1 bt115.2.2.2.1 bt115.2.2.2.2.1 bt115.2.2.2.2.2.1 bt115.2.2.2.2.2.2.1) else (marshalyardref12_Check.j0 k (wrap64 ((l0.length : Int) - 1)) (decide ((wrap64 ((l0.length : Int) - 1)) > bt115.2.2.1)) bt115.1 bt115.2.1 bt115.2.2.1 bt115.2.2.2.1 bt115.2.2.2.2.1 bt115.2.2.2.2.2.1 bt115.2.2.2.2.2.2.1)) else (some ((⟨#[]⟩ : ByteArray), 0, 0, 0, 0, 0, false, 120)))) else (none))
theorem marshalyardref12_Check.mono_l : ∀ k, (∀ y0 y1 y2 y3 y4 y5 y6 y7 y8, LeO (marshalyardref12_Check.j0 k y0 y1 y2 y3 y4 y5 y6 y7 y8) (marshalyardref12_Check.j0 (k + 1) y0 y1 y2 y3 y4 y5 y6 y7 y8))
  | 0 => fun _ _ _ _ _ _ _ _ _ r h => by simp [marshalyardref12_Check.j0] at h
  | k + 1 => by
    have ih0 := marshalyardref12_Check.mono_l k
    · intro y0 y1 y2 y3 y4 y5 y6 y7 y8
      unfold marshalyardref12_Check.j0
      repeat' first
      | (with_reducible exact ih0 _ _ _ _ _ _ _ _ _)
      | (with_reducible exact marshalyardref12_Find.mono _ _)
      | (with_reducible exact LeO.refl _)
      | (with_reducible exact LeO.none _)
      | (with_reducible refine LeO.ite ?_ ?_)
      | (with_reducible refine LeO.bind ?_ (fun _ => ?_))
      | exact ih0 _ _ _ _ _ _ _ _ _
      | exact marshalyardref12_Find.mono _ _
      | exact LeO.none _
      | refine LeO.ite ?_ ?_
      | refine LeO.bind ?_ (fun _ => ?_)
theorem marshalyardref12_Check.mono : ∀ a0 k, LeO (marshalyardref12_Check.f k a0) (marshalyardref12_Check.f (k + 1) a0) := by
  intro a0 k
  have ih0 := marshalyardref12_Check.mono_l k
  unfold marshalyardref12_Check.f
  repeat' first
      | (with_reducible exact ih0 _ _ _ _ _ _ _ _ _)
      | (with_reducible exact marshalyardref12_Find.mono _ _)
      | (with_reducible exact LeO.refl _)
      | (with_reducible exact LeO.none _)
      | (with_reducible refine LeO.ite ?_ ?_)
      | (with_reducible refine LeO.bind ?_ (fun _ => ?_))
      | exact ih0 _ _ _ _ _ _ _ _ _
      | exact marshalyardref12_Find.mono _ _
      | exact LeO.none _
      | refine LeO.ite ?_ ?_
      | refine LeO.bind ?_ (fun _ => ?_)
set_option maxHeartbeats 8000000 in
set_option maxRecDepth 100000 in
theorem marshalyardref12_Check.calls (k : Nat) (A0 : Option Addr) (c0 : Nat) (l0 : List ByteArray) (r1 : ByteArray) (r2 : Int) (r3 : Int) (r4 : Int) (r5 : Int) (r6 : Int) (r7 : Bool) (r8 : Int) (w : World) (hr0 : Kd.C Kd.string w A0 l0.length l0) (hc0 : l0.length ≤ c0) (h : marshalyardref12_Check.f k l0 = some (r1, r2, r3, r4, r5, r6, r7, r8)) :
    Calls Tryz.prog 40 #[.slice A0 l0.length c0] w fun e w' => e = .returned (.tuple #[.agg #[.string r1, .int .i64 r2, .int .i64 r3, .int .i64 r4, .int .i64 r5, .int .i64 r6, .bool r7], .int .i64 r8]) ∧ Below w.heap.size w w' := by
  have hu84 := Tryz.underlying84
  have HR0 := Aside0.mk hr0
  have HC0 := Aside0.mk hc0
  clear hr0 hc0
  have HB := Aside0.mk (Below.refl w.heap.size w)
  have H : (if (l0.length : Int) = 0 then (some ((⟨#[]⟩ : ByteArray), 0, 0, 0, 0, 0, false, 120)) else (if 0 < (l0.length : Int) then ((marshalyardref12_Find.f k (rdOf ByteArray.empty l0 0)).bind fun bt115 => (if bt115.2.2.2.2.2.2.2 = true then (if (wrap64 ((l0.length : Int) - 1)) < bt115.2.1 then (marshalyardref12_Check.j0 k (wrap64 ((l0.length : Int) - 1)) true bt115.1 bt115.2.1 bt115.2.2.1 bt115.2.2.2.1 bt115.2.2.2.2.1 bt115.2.2.2.2.2.1 bt115.2.2.2.2.2.2.1) else (marshalyardref12_Check.j0 k (wrap64 ((l0.length : Int) - 1)) (decide ((wrap64 ((l0.length : Int) - 1)) > bt115.2.2.1)) bt115.1 bt115.2.1 bt115.2.2.1 bt115.2.2.2.1 bt115.2.2.2.2.1 bt115.2.2.2.2.2.1 bt115.2.2.2.2.2.2.1)) else (some ((⟨#[]⟩ : ByteArray), 0, 0, 0, 0, 0, false, 120)))) else (none))) = some (r1, r2, r3, r4, r5, r6, r7, r8) := h
  clear h
  by_cases c2 : (l0.length : Int) = 0
  · rw [if_pos c2] at H
    have c2b0 : ((l0.length : Int) == 0) = true := beq_iff_eq.mpr c2
    have c2b1 : ((l0.length : Int) != 0) = false := bne_eq_false_iff_eq.mpr c2
    clear c2
    simp only [Option.some.injEq, Prod.mk.injEq] at H
    obtain ⟨rfl, rfl, rfl, rfl, rfl, rfl, rfl, rfl⟩ := H
    go_enter Tryz.func40, Tryz.ntmps40
    go_wp2_with (first | ((with_reducible refine gate_dst (N := 2) rfl ?_); refine box_event ?hg (N := 2) ?hd (cs := #[.string (⟨#[]⟩ : ByteArray), .int .i64 0, .int .i64 0, .int .i64 0, .int .i64 0, .int .i64 0, .bool false]) (t := 84) ?hr ?_; (case hd => rfl); (case hg => rfl); (case hr => first | (go_simp; done) | (go_simp; rfl)); intro gb113 hg w3 hbox hb; have n0_ := Aside0.mk (below_step (by repeat (first | (with_reducible first | exact HB.out | apply below_alloc | apply pw_below_drewN | apply below_drew1) | exact HB.out)) hb); have n1_ := Aside0.mk (hbox); have n2_ := Aside0.mk ((by rw [hg]; exact (below_size (by repeat (first | (with_reducible first | exact HB.out | apply below_alloc | apply pw_below_drewN | apply below_drew1) | exact HB.out))) : w.heap.size ≤ gb113)); have n3_ := Aside0.mk ((by rw [hg]; exact (below_size (by repeat (first | (with_reducible first | exact HB.out | apply below_alloc | apply pw_below_drewN | apply below_drew1) | exact HB.out))) : w.heap.size ≤ gb113)); clear HB; have HB := n0_; have BK113 := n1_; have GW113 := n2_; have GE113 := n3_; clear n0_ n1_ n2_ n3_; clear hb hbox hg; have hcz4_0 : w3.cell? ⟨gb113, 0, none⟩ = some (.string (⟨#[]⟩ : ByteArray)) := (blk_cell BK113.out 0).trans rfl; have hcz4_1 : w3.cell? ⟨gb113, 1, none⟩ = some (.int .i64 0) := (blk_cell BK113.out 1).trans rfl; have hcz4_2 : w3.cell? ⟨gb113, 2, none⟩ = some (.int .i64 0) := (blk_cell BK113.out 2).trans rfl; have hcz4_3 : w3.cell? ⟨gb113, 3, none⟩ = some (.int .i64 0) := (blk_cell BK113.out 3).trans rfl; have hcz4_4 : w3.cell? ⟨gb113, 4, none⟩ = some (.int .i64 0) := (blk_cell BK113.out 4).trans rfl; have hcz4_5 : w3.cell? ⟨gb113, 5, none⟩ = some (.int .i64 0) := (blk_cell BK113.out 5).trans rfl; have hcz4_6 : w3.cell? ⟨gb113, 6, none⟩ = some (.bool false) := (blk_cell BK113.out 6).trans rfl; have hfz4_0 := blk_frozen BK113.out 0; have hfz4_1 := blk_frozen BK113.out 1; have hfz4_2 := blk_frozen BK113.out 2; have hfz4_3 := blk_frozen BK113.out 3; have hfz4_4 := blk_frozen BK113.out 4; have hfz4_5 := blk_frozen BK113.out 5; have hfz4_6 := blk_frozen BK113.out 6))
    refine bodyPost_ret (results_ct rfl _ _ gb113 84 #[.string (⟨#[]⟩ : ByteArray), .int .i64 0, .int .i64 0, .int .i64 0, .int .i64 0, .int .i64 0, .bool false] (0, 0) _ rfl (by (with_reducible repeat (first | refine blk_drewN ?_ _ | refine blk_drew ?_ | refine blk_alloc ?_ _)); refine blk_put (cs := #[.string (⟨#[]⟩ : ByteArray), .int .i64 0, .int .i64 0, .int .i64 0, .int .i64 0, .int .i64 0, .bool false]) ?_ 6 _ rfl; (with_reducible repeat (first | refine blk_drewN ?_ _ | refine blk_drew ?_ | refine blk_alloc ?_ _)); refine blk_put (cs := #[.string (⟨#[]⟩ : ByteArray), .int .i64 0, .int .i64 0, .int .i64 0, .int .i64 0, .int .i64 0, .bool false]) ?_ 5 _ rfl; (with_reducible repeat (first | refine blk_drewN ?_ _ | refine blk_drew ?_ | refine blk_alloc ?_ _)); refine blk_put (cs := #[.string (⟨#[]⟩ : ByteArray), .int .i64 0, .int .i64 0, .int .i64 0, .int .i64 0, .int .i64 0, .bool false]) ?_ 4 _ rfl; (with_reducible repeat (first | refine blk_drewN ?_ _ | refine blk_drew ?_ | refine blk_alloc ?_ _)); refine blk_put (cs := #[.string (⟨#[]⟩ : ByteArray), .int .i64 0, .int .i64 0, .int .i64 0, .int .i64 0, .int .i64 0, .bool false]) ?_ 3 _ rfl; (with_reducible repeat (first | refine blk_drewN ?_ _ | refine blk_drew ?_ | refine blk_alloc ?_ _)); refine blk_put (cs := #[.string (⟨#[]⟩ : ByteArray), .int .i64 0, .int .i64 0, .int .i64 0, .int .i64 0, .int .i64 0, .bool false]) ?_ 2 _ rfl; (with_reducible repeat (first | refine blk_drewN ?_ _ | refine blk_drew ?_ | refine blk_alloc ?_ _)); refine blk_put (cs := #[.string (⟨#[]⟩ : ByteArray), .int .i64 0, .int .i64 0, .int .i64 0, .int .i64 0, .int .i64 0, .bool false]) ?_ 1 _ rfl; (with_reducible repeat (first | refine blk_drewN ?_ _ | refine blk_drew ?_ | refine blk_alloc ?_ _)); refine blk_put (cs := #[.string (⟨#[]⟩ : ByteArray), .int .i64 0, .int .i64 0, .int .i64 0, .int .i64 0, .int .i64 0, .bool false]) ?_ 0 _ rfl; (with_reducible repeat (first | refine blk_drewN ?_ _ | refine blk_drew ?_ | refine blk_alloc ?_ _)); exact BK113.out) Tryz.underlying84 rfl (by kernel_rfl)) rfl ?_
    exact ⟨by first | rfl | (simp [errW_none, errW_some] <;> rfl) | (simp [*, errW_none, errW_some] <;> rfl), by repeat (first | (with_reducible first | exact HB.out | apply below_alloc | apply pw_below_drewN | apply below_drew1 | refine below_set ?_ GE113.out) | exact HB.out)⟩
  · rw [if_neg c2] at H
    have c2b0 : ((l0.length : Int) == 0) = false := beq_eq_false_iff_ne.mpr c2
    have c2b1 : ((l0.length : Int) != 0) = true := bne_iff_ne.mpr c2
    have c2b2 : ¬ (l0 = []) := fun h_ => c2 (by rw [h_]; rfl)
    by_cases c5 : 0 < (l0.length : Int)
    · rw [if_pos c5] at H
      have c5b0 : decide (0 < (l0.length : Int)) = true := decide_eq_true c5
      have c5b1 : decide (0 < l0.length) = true := decide_eq_true (by omega)
      clear c5
      replace H := Option.bind_eq_some_iff.mp H
      obtain ⟨⟨t115, t116, t117, t118, t119, t120, t121, t122⟩, A60, H⟩ := H
      replace H : (if t122 = true then (if (wrap64 ((l0.length : Int) - 1)) < t116 then (marshalyardref12_Check.j0 k (wrap64 ((l0.length : Int) - 1)) true t115 t116 t117 t118 t119 t120 t121) else (marshalyardref12_Check.j0 k (wrap64 ((l0.length : Int) - 1)) (decide ((wrap64 ((l0.length : Int) - 1)) > t117)) t115 t116 t117 t118 t119 t120 t121)) else (some ((⟨#[]⟩ : ByteArray), 0, 0, 0, 0, 0, false, 120))) = some (r1, r2, r3, r4, r5, r6, r7, r8) := H
      have A6 := Aside0.mk A60
      clear A60
      by_cases c7 : t122 = true
      · subst c7
        have H1 : (if (wrap64 ((l0.length : Int) - 1)) < t116 then (marshalyardref12_Check.j0 k (wrap64 ((l0.length : Int) - 1)) true t115 t116 t117 t118 t119 t120 t121) else (marshalyardref12_Check.j0 k (wrap64 ((l0.length : Int) - 1)) (decide ((wrap64 ((l0.length : Int) - 1)) > t117)) t115 t116 t117 t118 t119 t120 t121)) = some (r1, r2, r3, r4, r5, r6, r7, r8) := by rw [if_pos rfl] at H; exact H
        clear H
        have H := H1
        clear H1
        have HC8 := Aside0.mk H
        clear H
        go_enter Tryz.func40, Tryz.ntmps40
        go_upto_region 7 with (first | ((with_reducible refine gate_dst (N := 2) rfl ?_); refine box_event ?hg (N := 2) ?hd (cs := #[.string (⟨#[]⟩ : ByteArray), .int .i64 0, .int .i64 0, .int .i64 0, .int .i64 0, .int .i64 0, .bool false]) (t := 84) ?hr ?_; (case hd => rfl); (case hg => rfl); (case hr => first | (go_simp; done) | (go_simp; rfl)); intro gb113 hg w9 hbox hb; have n0_ := Aside0.mk (below_step (by repeat (first | (with_reducible first | exact HB.out | apply below_alloc | apply pw_below_drewN | apply below_drew1) | exact HB.out)) hb); have n1_ := Aside0.mk (hbox); have n2_ := Aside0.mk ((by rw [hg]; exact (below_size (by repeat (first | (with_reducible first | exact HB.out | apply below_alloc | apply pw_below_drewN | apply below_drew1) | exact HB.out))) : w.heap.size ≤ gb113)); have n3_ := Aside0.mk ((by rw [hg]; exact (below_size (by repeat (first | (with_reducible first | exact HB.out | apply below_alloc | apply pw_below_drewN | apply below_drew1) | exact HB.out))) : w.heap.size ≤ gb113)); clear HB; have HB := n0_; have BK113 := n1_; have GW113 := n2_; have GE113 := n3_; clear n0_ n1_ n2_ n3_; clear hb hbox hg; have p114 : 0 ≤ (0 : Int) := (by omega); have q114 : 0 < (l0.length : Int) := of_decide_eq_true (by first | (with_reducible assumption) | assumption); obtain ⟨ad114, e114, hx114_0⟩ := Kd.at_string HR0.out 0 p114 q114; cases e114; have qi114 : (0 < l0.length) = True := eq_true (by omega); (try rw [show ((0 : Int)).toNat = 0 from rfl] at hx114_0); (try rw [Addr.add_zero'] at hx114_0); replace hx114_0 := (HB.out.cell (World.block_lt_of_cell? w _ hx114_0)).trans hx114_0; replace p114 := eq_true p114; replace q114 := eq_true q114) | ((with_reducible refine gate_callee (f := 52) rfl ?_); refine goesL_ (some 15) rfl rfl Tryz.func52 (by kernel_rfl) rfl #[.string (rdOf ByteArray.empty l0 0)] rfl (by (try simp only [List.map_toArray, List.map_cons, List.map_nil]); first | done | rfl | (simp only [List.length_drop, List.length_take]; rfl)) ?_; (with_reducible refine (marshalyardref12_Find.calls k (rdOf ByteArray.empty l0 0) t115 t116 t117 t118 t119 t120 t121 true _ A6.out).mono ?_); rintro e w10 ⟨rfl, hb⟩; refine ⟨_, rfl, ?_⟩; have n0_ := Aside0.mk (blk_below (g := gb113) (o := .cells #[.string (⟨#[]⟩ : ByteArray), .int .i64 0, .int .i64 0, .int .i64 0, .int .i64 0, .int .i64 0, .bool false] 84 (0, 0)) (by (with_reducible repeat (first | refine blk_drewN ?_ _ | refine blk_drew ?_ | refine blk_alloc ?_ _)); exact BK113.out) hb); have n1_ := Aside0.mk (below_step (by repeat (first | (with_reducible first | exact HB.out | apply below_alloc | apply pw_below_drewN | apply below_drew1 | refine below_set ?_ GE113.out) | exact HB.out)) hb); clear BK113; clear HB; have BK113 := n0_; have HB := n1_; clear n0_ n1_; (try clear hb); (try clear hb2); (try clear hk); (try clear hi)) | ((with_reducible refine gate_dst (N := 4) rfl ?_); refine box_event ?hg (N := 4) ?hd (cs := #[.string (⟨#[]⟩ : ByteArray), .int .i64 0, .int .i64 0, .int .i64 0, .int .i64 0, .int .i64 0, .bool false]) (t := 84) ?hr ?_; (case hd => rfl); (case hg => rfl); (case hr => first | (go_simp; done) | (go_simp; rfl)); intro gb123 hg w11 hbox hb; have n0_ := Aside0.mk (blk_below (g := gb113) (o := .cells #[.string (⟨#[]⟩ : ByteArray), .int .i64 0, .int .i64 0, .int .i64 0, .int .i64 0, .int .i64 0, .bool false] 84 (0, 0)) (by (with_reducible repeat (first | refine blk_drewN ?_ _ | refine blk_drew ?_ | refine blk_alloc ?_ _)); exact BK113.out) hb); have n1_ := Aside0.mk (below_step (by repeat (first | (with_reducible first | exact HB.out | apply below_alloc | apply pw_below_drewN | apply below_drew1 | refine below_set ?_ GE113.out) | exact HB.out)) hb); have n2_ := Aside0.mk (hbox); have n3_ := Aside0.mk ((by rw [hg]; exact (below_size (by repeat (first | (with_reducible first | exact HB.out | apply below_alloc | apply pw_below_drewN | apply below_drew1 | refine below_set ?_ GE113.out) | exact HB.out))) : w.heap.size ≤ gb123)); have n4_ := Aside0.mk ((by rw [hg]; exact (below_size (by repeat (first | (with_reducible first | exact HB.out | apply below_alloc | apply pw_below_drewN | apply below_drew1 | refine below_set ?_ GE113.out) | exact HB.out))) : w.heap.size ≤ gb123)); have n5_ := Aside0.mk ((by rw [hg]; exact Nat.ne_of_lt (blk_lt (g := gb113) (o := .cells #[.string (⟨#[]⟩ : ByteArray), .int .i64 0, .int .i64 0, .int .i64 0, .int .i64 0, .int .i64 0, .bool false] 84 (0, 0)) (by (with_reducible repeat (first | refine blk_drewN ?_ _ | refine blk_drew ?_ | refine blk_alloc ?_ _)); exact BK113.out)) : gb113 ≠ gb123)); have n6_ := Aside0.mk ((by rw [hg]; exact Nat.ne_of_gt (blk_lt (g := gb113) (o := .cells #[.string (⟨#[]⟩ : ByteArray), .int .i64 0, .int .i64 0, .int .i64 0, .int .i64 0, .int .i64 0, .bool false] 84 (0, 0)) (by (with_reducible repeat (first | refine blk_drewN ?_ _ | refine blk_drew ?_ | refine blk_alloc ?_ _)); exact BK113.out)) : gb123 ≠ gb113)); clear BK113; clear HB; have BK113 := n0_; have HB := n1_; have BK123 := n2_; have GW123 := n3_; have GE123 := n4_; have NB113_123 := n5_; have NB123_113 := n6_; clear n0_ n1_ n2_ n3_ n4_ n5_ n6_; clear hb hbox hg; have hnb12 := NB123_113.out; have hnc12 := NB113_123.out; have hcz13_0 : w11.cell? ⟨gb123, 0, none⟩ = some (.string (⟨#[]⟩ : ByteArray)) := (blk_cell BK123.out 0).trans rfl; have hcz13_1 : w11.cell? ⟨gb123, 1, none⟩ = some (.int .i64 0) := (blk_cell BK123.out 1).trans rfl; have hcz13_2 : w11.cell? ⟨gb123, 2, none⟩ = some (.int .i64 0) := (blk_cell BK123.out 2).trans rfl; have hcz13_3 : w11.cell? ⟨gb123, 3, none⟩ = some (.int .i64 0) := (blk_cell BK123.out 3).trans rfl; have hcz13_4 : w11.cell? ⟨gb123, 4, none⟩ = some (.int .i64 0) := (blk_cell BK123.out 4).trans rfl; have hcz13_5 : w11.cell? ⟨gb123, 5, none⟩ = some (.int .i64 0) := (blk_cell BK123.out 5).trans rfl; have hcz13_6 : w11.cell? ⟨gb123, 6, none⟩ = some (.bool false) := (blk_cell BK123.out 6).trans rfl; have hfz13_0 := blk_frozen BK123.out 0; have hfz13_1 := blk_frozen BK123.out 1; have hfz13_2 := blk_frozen BK123.out 2; have hfz13_3 := blk_frozen BK123.out 3; have hfz13_4 := blk_frozen BK123.out 4; have hfz13_5 := blk_frozen BK123.out 5; have hfz13_6 := blk_frozen BK123.out 6))
        (try simp only [Act.put, List.setIfInBounds_toArray, List.set_cons_zero, List.set_cons_succ])
        go_cut [33] (fun v33 wc => ∃ (kq : Nat) (x33_7 : Bool), v33 = .bool x33_7 ∧ Aside0 (marshalyardref12_Check.j0 kq (wrap64 ((l0.length : Int) - 1)) x33_7 t115 t116 t117 t118 t119 t120 t121 = some (r1, r2, r3, r4, r5, r6, r7, r8)) ∧ Aside0 (kq ≤ k) ∧ Aside0 (wc.heap[gb113]? = some (.cells #[.string (⟨#[]⟩ : ByteArray), .int .i64 0, .int .i64 0, .int .i64 0, .int .i64 0, .int .i64 0, .bool false] 84 (0, 0))) ∧ Aside0 (wc.heap[gb123]? = some (.cells #[.string t115, .int .i64 t116, .int .i64 t117, .int .i64 t118, .int .i64 t119, .int .i64 t120, .bool t121] 84 (0, 0))) ∧ Aside0 (Below w.heap.size w wc))
        case first =>
          have H := HC8.out
          clear HC8
          by_cases c14 : (wrap64 ((l0.length : Int) - 1)) < t116
          · rw [if_pos c14] at H
            have c14b0 : decide ((wrap64 ((l0.length : Int) - 1)) < t116) = true := decide_eq_true c14
            clear c14
            (first | rw [c14b0] | (simp only [i64_w, i32_w]; rw [c14b0]) | skip)
            have H' := Aside0.mk H
            clear H
            have hnb15 := NB123_113.out
            have hnc15 := NB113_123.out
            have hcz16_0 : w11.cell? ⟨gb123, 0, none⟩ = some (.string (⟨#[]⟩ : ByteArray)) := (blk_cell BK123.out 0).trans rfl
            have hcz16_1 : w11.cell? ⟨gb123, 1, none⟩ = some (.int .i64 0) := (blk_cell BK123.out 1).trans rfl
            have hcz16_2 : w11.cell? ⟨gb123, 2, none⟩ = some (.int .i64 0) := (blk_cell BK123.out 2).trans rfl
            have hcz16_3 : w11.cell? ⟨gb123, 3, none⟩ = some (.int .i64 0) := (blk_cell BK123.out 3).trans rfl
            have hcz16_4 : w11.cell? ⟨gb123, 4, none⟩ = some (.int .i64 0) := (blk_cell BK123.out 4).trans rfl
            have hcz16_5 : w11.cell? ⟨gb123, 5, none⟩ = some (.int .i64 0) := (blk_cell BK123.out 5).trans rfl
            have hcz16_6 : w11.cell? ⟨gb123, 6, none⟩ = some (.bool false) := (blk_cell BK123.out 6).trans rfl
            have hfz16_0 := blk_frozen BK123.out 0
            have hfz16_1 := blk_frozen BK123.out 1
            have hfz16_2 := blk_frozen BK123.out 2
            have hfz16_3 := blk_frozen BK123.out 3
            have hfz16_4 := blk_frozen BK123.out 4
            have hfz16_5 := blk_frozen BK123.out 5
            have hfz16_6 := blk_frozen BK123.out 6
            go_wp2
            go_meet
            case rel => exact ⟨_, (true), (by first | rfl | (simp; done) | (simp [*]; done)), H', ⟨by first | omega | exact Nat.le_refl _⟩, ⟨by (with_reducible repeat (first | refine blk_drewN ?_ _ | refine blk_drew ?_ | refine blk_alloc ?_ _)); refine blk_far ?_ NB113_123.out _; (with_reducible repeat (first | refine blk_drewN ?_ _ | refine blk_drew ?_ | refine blk_alloc ?_ _)); refine blk_far ?_ NB113_123.out _; (with_reducible repeat (first | refine blk_drewN ?_ _ | refine blk_drew ?_ | refine blk_alloc ?_ _)); refine blk_far ?_ NB113_123.out _; (with_reducible repeat (first | refine blk_drewN ?_ _ | refine blk_drew ?_ | refine blk_alloc ?_ _)); refine blk_far ?_ NB113_123.out _; (with_reducible repeat (first | refine blk_drewN ?_ _ | refine blk_drew ?_ | refine blk_alloc ?_ _)); refine blk_far ?_ NB113_123.out _; (with_reducible repeat (first | refine blk_drewN ?_ _ | refine blk_drew ?_ | refine blk_alloc ?_ _)); refine blk_far ?_ NB113_123.out _; (with_reducible repeat (first | refine blk_drewN ?_ _ | refine blk_drew ?_ | refine blk_alloc ?_ _)); refine blk_far ?_ NB113_123.out _; (with_reducible repeat (first | refine blk_drewN ?_ _ | refine blk_drew ?_ | refine blk_alloc ?_ _)); exact BK113.out⟩, ⟨by (with_reducible repeat (first | refine blk_drewN ?_ _ | refine blk_drew ?_ | refine blk_alloc ?_ _)); refine blk_put (cs := #[.string t115, .int .i64 t116, .int .i64 t117, .int .i64 t118, .int .i64 t119, .int .i64 t120, .bool false]) ?_ 6 _ rfl; (with_reducible repeat (first | refine blk_drewN ?_ _ | refine blk_drew ?_ | refine blk_alloc ?_ _)); refine blk_put (cs := #[.string t115, .int .i64 t116, .int .i64 t117, .int .i64 t118, .int .i64 t119, .int .i64 0, .bool false]) ?_ 5 _ rfl; (with_reducible repeat (first | refine blk_drewN ?_ _ | refine blk_drew ?_ | refine blk_alloc ?_ _)); refine blk_put (cs := #[.string t115, .int .i64 t116, .int .i64 t117, .int .i64 t118, .int .i64 0, .int .i64 0, .bool false]) ?_ 4 _ rfl; (with_reducible repeat (first | refine blk_drewN ?_ _ | refine blk_drew ?_ | refine blk_alloc ?_ _)); refine blk_put (cs := #[.string t115, .int .i64 t116, .int .i64 t117, .int .i64 0, .int .i64 0, .int .i64 0, .bool false]) ?_ 3 _ rfl; (with_reducible repeat (first | refine blk_drewN ?_ _ | refine blk_drew ?_ | refine blk_alloc ?_ _)); refine blk_put (cs := #[.string t115, .int .i64 t116, .int .i64 0, .int .i64 0, .int .i64 0, .int .i64 0, .bool false]) ?_ 2 _ rfl; (with_reducible repeat (first | refine blk_drewN ?_ _ | refine blk_drew ?_ | refine blk_alloc ?_ _)); refine blk_put (cs := #[.string t115, .int .i64 0, .int .i64 0, .int .i64 0, .int .i64 0, .int .i64 0, .bool false]) ?_ 1 _ rfl; (with_reducible repeat (first | refine blk_drewN ?_ _ | refine blk_drew ?_ | refine blk_alloc ?_ _)); refine blk_put (cs := #[.string (⟨#[]⟩ : ByteArray), .int .i64 0, .int .i64 0, .int .i64 0, .int .i64 0, .int .i64 0, .bool false]) ?_ 0 _ rfl; (with_reducible repeat (first | refine blk_drewN ?_ _ | refine blk_drew ?_ | refine blk_alloc ?_ _)); exact BK123.out⟩, ⟨by repeat (first | (with_reducible first | exact HB.out | apply below_alloc | apply pw_below_drewN | apply below_drew1 | refine below_set ?_ GE113.out | refine below_set ?_ GE123.out) | exact HB.out)⟩⟩
          · rw [if_neg c14] at H
            have c14b0 : decide ((wrap64 ((l0.length : Int) - 1)) < t116) = false := decide_eq_false c14
            clear c14
            (first | rw [c14b0] | (simp only [i64_w, i32_w]; rw [c14b0]) | skip)
            have H' := Aside0.mk H
            clear H
            have hnb17 := NB123_113.out
            have hnc17 := NB113_123.out
            have hcz18_0 : w11.cell? ⟨gb123, 0, none⟩ = some (.string (⟨#[]⟩ : ByteArray)) := (blk_cell BK123.out 0).trans rfl
            have hcz18_1 : w11.cell? ⟨gb123, 1, none⟩ = some (.int .i64 0) := (blk_cell BK123.out 1).trans rfl
            have hcz18_2 : w11.cell? ⟨gb123, 2, none⟩ = some (.int .i64 0) := (blk_cell BK123.out 2).trans rfl
            have hcz18_3 : w11.cell? ⟨gb123, 3, none⟩ = some (.int .i64 0) := (blk_cell BK123.out 3).trans rfl
            have hcz18_4 : w11.cell? ⟨gb123, 4, none⟩ = some (.int .i64 0) := (blk_cell BK123.out 4).trans rfl
            have hcz18_5 : w11.cell? ⟨gb123, 5, none⟩ = some (.int .i64 0) := (blk_cell BK123.out 5).trans rfl
            have hcz18_6 : w11.cell? ⟨gb123, 6, none⟩ = some (.bool false) := (blk_cell BK123.out 6).trans rfl
            have hfz18_0 := blk_frozen BK123.out 0
            have hfz18_1 := blk_frozen BK123.out 1
            have hfz18_2 := blk_frozen BK123.out 2
            have hfz18_3 := blk_frozen BK123.out 3
            have hfz18_4 := blk_frozen BK123.out 4
            have hfz18_5 := blk_frozen BK123.out 5
            have hfz18_6 := blk_frozen BK123.out 6
            go_wp2
            go_meet
            case rel => exact ⟨_, (decide ((wrap64 ((l0.length : Int) - 1)) > t117)), (by first | rfl | (simp; done) | (simp [*]; done)), H', ⟨by first | omega | exact Nat.le_refl _⟩, ⟨by (with_reducible repeat (first | refine blk_drewN ?_ _ | refine blk_drew ?_ | refine blk_alloc ?_ _)); refine blk_far ?_ NB113_123.out _; (with_reducible repeat (first | refine blk_drewN ?_ _ | refine blk_drew ?_ | refine blk_alloc ?_ _)); refine blk_far ?_ NB113_123.out _; (with_reducible repeat (first | refine blk_drewN ?_ _ | refine blk_drew ?_ | refine blk_alloc ?_ _)); refine blk_far ?_ NB113_123.out _; (with_reducible repeat (first | refine blk_drewN ?_ _ | refine blk_drew ?_ | refine blk_alloc ?_ _)); refine blk_far ?_ NB113_123.out _; (with_reducible repeat (first | refine blk_drewN ?_ _ | refine blk_drew ?_ | refine blk_alloc ?_ _)); refine blk_far ?_ NB113_123.out _; (with_reducible repeat (first | refine blk_drewN ?_ _ | refine blk_drew ?_ | refine blk_alloc ?_ _)); refine blk_far ?_ NB113_123.out _; (with_reducible repeat (first | refine blk_drewN ?_ _ | refine blk_drew ?_ | refine blk_alloc ?_ _)); refine blk_far ?_ NB113_123.out _; (with_reducible repeat (first | refine blk_drewN ?_ _ | refine blk_drew ?_ | refine blk_alloc ?_ _)); exact BK113.out⟩, ⟨by (with_reducible repeat (first | refine blk_drewN ?_ _ | refine blk_drew ?_ | refine blk_alloc ?_ _)); refine blk_put (cs := #[.string t115, .int .i64 t116, .int .i64 t117, .int .i64 t118, .int .i64 t119, .int .i64 t120, .bool false]) ?_ 6 _ rfl; (with_reducible repeat (first | refine blk_drewN ?_ _ | refine blk_drew ?_ | refine blk_alloc ?_ _)); refine blk_put (cs := #[.string t115, .int .i64 t116, .int .i64 t117, .int .i64 t118, .int .i64 t119, .int .i64 0, .bool false]) ?_ 5 _ rfl; (with_reducible repeat (first | refine blk_drewN ?_ _ | refine blk_drew ?_ | refine blk_alloc ?_ _)); refine blk_put (cs := #[.string t115, .int .i64 t116, .int .i64 t117, .int .i64 t118, .int .i64 0, .int .i64 0, .bool false]) ?_ 4 _ rfl; (with_reducible repeat (first | refine blk_drewN ?_ _ | refine blk_drew ?_ | refine blk_alloc ?_ _)); refine blk_put (cs := #[.string t115, .int .i64 t116, .int .i64 t117, .int .i64 0, .int .i64 0, .int .i64 0, .bool false]) ?_ 3 _ rfl; (with_reducible repeat (first | refine blk_drewN ?_ _ | refine blk_drew ?_ | refine blk_alloc ?_ _)); refine blk_put (cs := #[.string t115, .int .i64 t116, .int .i64 0, .int .i64 0, .int .i64 0, .int .i64 0, .bool false]) ?_ 2 _ rfl; (with_reducible repeat (first | refine blk_drewN ?_ _ | refine blk_drew ?_ | refine blk_alloc ?_ _)); refine blk_put (cs := #[.string t115, .int .i64 0, .int .i64 0, .int .i64 0, .int .i64 0, .int .i64 0, .bool false]) ?_ 1 _ rfl; (with_reducible repeat (first | refine blk_drewN ?_ _ | refine blk_drew ?_ | refine blk_alloc ?_ _)); refine blk_put (cs := #[.string (⟨#[]⟩ : ByteArray), .int .i64 0, .int .i64 0, .int .i64 0, .int .i64 0, .int .i64 0, .bool false]) ?_ 0 _ rfl; (with_reducible repeat (first | refine blk_drewN ?_ _ | refine blk_drew ?_ | refine blk_alloc ?_ _)); exact BK123.out⟩, ⟨by repeat (first | (with_reducible first | exact HB.out | apply below_alloc | apply pw_below_drewN | apply below_drew1 | refine below_set ?_ GE113.out | refine below_set ?_ GE123.out) | exact HB.out)⟩⟩
        case rest =>
          clear HC8
          try clear c1
          try clear p1
          try clear q1
          try clear hx1
          try clear qi1
          try clear c2
          try clear c2b0
          try clear c2b1
          try clear c2b2
          try clear p2
          try clear c4
          try clear c5
          try clear c5b0
          try clear c5b1
          try clear p6
          try clear c7
          try clear p11
          try clear q11
          try clear hx11
          try clear qi11
          try clear c12
          try clear c14
          try clear c14b0
          try clear c15
          try clear c17
          try clear hcz13_0
          try clear hcz13_1
          try clear hcz13_2
          try clear hcz13_3
          try clear hcz13_4
          try clear hcz13_5
          try clear hcz13_6
          try clear hcz16_0
          try clear hcz16_1
          try clear hcz16_2
          try clear hcz16_3
          try clear hcz16_4
          try clear hcz16_5
          try clear hcz16_6
          try clear hcz18_0
          try clear hcz18_1
          try clear hcz18_2
          try clear hcz18_3
          try clear hcz18_4
          try clear hcz18_5
          try clear hcz18_6
          try clear hcz4_0
          try clear hcz4_1
          try clear hcz4_2
          try clear hcz4_3
          try clear hcz4_4
          try clear hcz4_5
          try clear hcz4_6
          try clear hfz13_0
          try clear hfz13_1
          try clear hfz13_2
          try clear hfz13_3
          try clear hfz13_4
          try clear hfz13_5
          try clear hfz13_6
          try clear hfz16_0
          try clear hfz16_1
          try clear hfz16_2
          try clear hfz16_3
          try clear hfz16_4
          try clear hfz16_5
          try clear hfz16_6
          try clear hfz18_0
          try clear hfz18_1
          try clear hfz18_2
          try clear hfz18_3
          try clear hfz18_4
          try clear hfz18_5
          try clear hfz18_6
          try clear hfz4_0
          try clear hfz4_1
          try clear hfz4_2
          try clear hfz4_3
          try clear hfz4_4
          try clear hfz4_5
          try clear hfz4_6
          try clear hx114_0
          try clear p114
          try clear q114
          obtain ⟨kq, x33_7, rfl, HA, HJ7, BK113, BK123, HB⟩ := hcut
          cases kq with
          | zero => exact absurd HA.out (by simp [marshalyardref12_Check.j0])
          | succ kj7 =>
            have H := HA.out
            clear HA
            simp only [marshalyardref12_Check.j0] at H
            by_cases c19 : x33_7 = true
            · subst c19
              have H1 : (some ((⟨#[]⟩ : ByteArray), 0, 0, 0, 0, 0, false, 121)) = some (r1, r2, r3, r4, r5, r6, r7, r8) := by rw [if_pos rfl] at H; exact H
              clear H
              have H := H1
              clear H1
              simp only [Option.some.injEq, Prod.mk.injEq] at H
              obtain ⟨rfl, rfl, rfl, rfl, rfl, rfl, rfl, rfl⟩ := H
              have hnb20 := NB113_123.out
              have hnc20 := NB123_113.out
              have hcz21_0 : wc.cell? ⟨gb113, 0, none⟩ = some (.string (⟨#[]⟩ : ByteArray)) := (blk_cell BK113.out 0).trans rfl
              have hcz21_1 : wc.cell? ⟨gb113, 1, none⟩ = some (.int .i64 0) := (blk_cell BK113.out 1).trans rfl
              have hcz21_2 : wc.cell? ⟨gb113, 2, none⟩ = some (.int .i64 0) := (blk_cell BK113.out 2).trans rfl
              have hcz21_3 : wc.cell? ⟨gb113, 3, none⟩ = some (.int .i64 0) := (blk_cell BK113.out 3).trans rfl
              have hcz21_4 : wc.cell? ⟨gb113, 4, none⟩ = some (.int .i64 0) := (blk_cell BK113.out 4).trans rfl
              have hcz21_5 : wc.cell? ⟨gb113, 5, none⟩ = some (.int .i64 0) := (blk_cell BK113.out 5).trans rfl
              have hcz21_6 : wc.cell? ⟨gb113, 6, none⟩ = some (.bool false) := (blk_cell BK113.out 6).trans rfl
              have hfz21_0 := blk_frozen BK113.out 0
              have hfz21_1 := blk_frozen BK113.out 1
              have hfz21_2 := blk_frozen BK113.out 2
              have hfz21_3 := blk_frozen BK113.out 3
              have hfz21_4 := blk_frozen BK113.out 4
              have hfz21_5 := blk_frozen BK113.out 5
              have hfz21_6 := blk_frozen BK113.out 6
              go_wp2
              refine bodyPost_ret (results_ct rfl _ _ gb113 84 #[.string (⟨#[]⟩ : ByteArray), .int .i64 0, .int .i64 0, .int .i64 0, .int .i64 0, .int .i64 0, .bool false] (0, 0) _ rfl (by (with_reducible repeat (first | refine blk_drewN ?_ _ | refine blk_drew ?_ | refine blk_alloc ?_ _)); refine blk_put (cs := #[.string (⟨#[]⟩ : ByteArray), .int .i64 0, .int .i64 0, .int .i64 0, .int .i64 0, .int .i64 0, .bool false]) ?_ 6 _ rfl; (with_reducible repeat (first | refine blk_drewN ?_ _ | refine blk_drew ?_ | refine blk_alloc ?_ _)); refine blk_put (cs := #[.string (⟨#[]⟩ : ByteArray), .int .i64 0, .int .i64 0, .int .i64 0, .int .i64 0, .int .i64 0, .bool false]) ?_ 5 _ rfl; (with_reducible repeat (first | refine blk_drewN ?_ _ | refine blk_drew ?_ | refine blk_alloc ?_ _)); refine blk_put (cs := #[.string (⟨#[]⟩ : ByteArray), .int .i64 0, .int .i64 0, .int .i64 0, .int .i64 0, .int .i64 0, .bool false]) ?_ 4 _ rfl; (with_reducible repeat (first | refine blk_drewN ?_ _ | refine blk_drew ?_ | refine blk_alloc ?_ _)); refine blk_put (cs := #[.string (⟨#[]⟩ : ByteArray), .int .i64 0, .int .i64 0, .int .i64 0, .int .i64 0, .int .i64 0, .bool false]) ?_ 3 _ rfl; (with_reducible repeat (first | refine blk_drewN ?_ _ | refine blk_drew ?_ | refine blk_alloc ?_ _)); refine blk_put (cs := #[.string (⟨#[]⟩ : ByteArray), .int .i64 0, .int .i64 0, .int .i64 0, .int .i64 0, .int .i64 0, .bool false]) ?_ 2 _ rfl; (with_reducible repeat (first | refine blk_drewN ?_ _ | refine blk_drew ?_ | refine blk_alloc ?_ _)); refine blk_put (cs := #[.string (⟨#[]⟩ : ByteArray), .int .i64 0, .int .i64 0, .int .i64 0, .int .i64 0, .int .i64 0, .bool false]) ?_ 1 _ rfl; (with_reducible repeat (first | refine blk_drewN ?_ _ | refine blk_drew ?_ | refine blk_alloc ?_ _)); refine blk_put (cs := #[.string (⟨#[]⟩ : ByteArray), .int .i64 0, .int .i64 0, .int .i64 0, .int .i64 0, .int .i64 0, .bool false]) ?_ 0 _ rfl; (with_reducible repeat (first | refine blk_drewN ?_ _ | refine blk_drew ?_ | refine blk_alloc ?_ _)); exact BK113.out) Tryz.underlying84 rfl (by kernel_rfl)) rfl ?_
              exact ⟨by first | rfl | (simp [errW_none, errW_some] <;> rfl) | (simp [*, errW_none, errW_some] <;> rfl), by repeat (first | (with_reducible first | exact HB.out | apply below_alloc | apply pw_below_drewN | apply below_drew1 | refine below_set ?_ GE113.out | refine below_set ?_ GE123.out) | exact HB.out)⟩
            · replace c19 := Bool.eq_false_iff.mpr c19
              subst c19
              have H1 : (if t119 = (-1) then (if t120 = 0 then (none) else (if (Int.tmod (wrap64 ((wrap64 ((wrap64 ((l0.length : Int) - 1)) - t118)) + 1)) t120) = 0 then (some (t115, t116, t117, t118, t119, t120, t121, 0)) else (some ((⟨#[]⟩ : ByteArray), 0, 0, 0, 0, 0, false, 121)))) else (some (t115, t116, t117, t118, t119, t120, t121, 0))) = some (r1, r2, r3, r4, r5, r6, r7, r8) := by rw [if_neg (show ¬ (false = true) by decide)] at H; exact H
              clear H
              have H := H1
              clear H1
              by_cases c22 : t119 = (-1)
              · rw [if_pos c22] at H
                have c22b0 : (t119 == (-1)) = true := beq_iff_eq.mpr c22
                have c22b1 : (t119 != (-1)) = false := bne_eq_false_iff_eq.mpr c22
                clear c22
                by_cases c23 : t120 = 0
                · rw [if_pos c23] at H
                  exact absurd H (by simp)
                · rw [if_neg c23] at H
                  have c23b0 : (t120 == 0) = false := beq_eq_false_iff_ne.mpr c23
                  have c23b1 : (t120 != 0) = true := bne_iff_ne.mpr c23
                  by_cases c24 : (Int.tmod (wrap64 ((wrap64 ((wrap64 ((l0.length : Int) - 1)) - t118)) + 1)) t120) = 0
                  · rw [if_pos c24] at H
                    have c24b0 : ((Int.tmod (wrap64 ((wrap64 ((wrap64 ((l0.length : Int) - 1)) - t118)) + 1)) t120) == 0) = true := beq_iff_eq.mpr c24
                    have c24b1 : ((Int.tmod (wrap64 ((wrap64 ((wrap64 ((l0.length : Int) - 1)) - t118)) + 1)) t120) != 0) = false := bne_eq_false_iff_eq.mpr c24
                    clear c24
                    simp only [Option.some.injEq, Prod.mk.injEq] at H
                    obtain ⟨rfl, rfl, rfl, rfl, rfl, rfl, rfl, rfl⟩ := H
                    have hnb25 := NB123_113.out
                    have hnc25 := NB113_123.out
                    have hcz26_0 : wc.cell? ⟨gb123, 0, none⟩ = some (.string t115) := (blk_cell BK123.out 0).trans rfl
                    have hcz26_1 : wc.cell? ⟨gb123, 1, none⟩ = some (.int .i64 t116) := (blk_cell BK123.out 1).trans rfl
                    have hcz26_2 : wc.cell? ⟨gb123, 2, none⟩ = some (.int .i64 t117) := (blk_cell BK123.out 2).trans rfl
                    have hcz26_3 : wc.cell? ⟨gb123, 3, none⟩ = some (.int .i64 t118) := (blk_cell BK123.out 3).trans rfl
                    have hcz26_4 : wc.cell? ⟨gb123, 4, none⟩ = some (.int .i64 t119) := (blk_cell BK123.out 4).trans rfl
                    have hcz26_5 : wc.cell? ⟨gb123, 5, none⟩ = some (.int .i64 t120) := (blk_cell BK123.out 5).trans rfl
                    have hcz26_6 : wc.cell? ⟨gb123, 6, none⟩ = some (.bool t121) := (blk_cell BK123.out 6).trans rfl
                    have hfz26_0 := blk_frozen BK123.out 0
                    have hfz26_1 := blk_frozen BK123.out 1
                    have hfz26_2 := blk_frozen BK123.out 2
                    have hfz26_3 := blk_frozen BK123.out 3
                    have hfz26_4 := blk_frozen BK123.out 4
                    have hfz26_5 := blk_frozen BK123.out 5
                    have hfz26_6 := blk_frozen BK123.out 6
                    have hcz27_0 : wc.cell? ⟨gb113, 0, none⟩ = some (.string (⟨#[]⟩ : ByteArray)) := (blk_cell BK113.out 0).trans rfl
                    have hcz27_1 : wc.cell? ⟨gb113, 1, none⟩ = some (.int .i64 0) := (blk_cell BK113.out 1).trans rfl
                    have hcz27_2 : wc.cell? ⟨gb113, 2, none⟩ = some (.int .i64 0) := (blk_cell BK113.out 2).trans rfl
                    have hcz27_3 : wc.cell? ⟨gb113, 3, none⟩ = some (.int .i64 0) := (blk_cell BK113.out 3).trans rfl
                    have hcz27_4 : wc.cell? ⟨gb113, 4, none⟩ = some (.int .i64 0) := (blk_cell BK113.out 4).trans rfl
                    have hcz27_5 : wc.cell? ⟨gb113, 5, none⟩ = some (.int .i64 0) := (blk_cell BK113.out 5).trans rfl
                    have hcz27_6 : wc.cell? ⟨gb113, 6, none⟩ = some (.bool false) := (blk_cell BK113.out 6).trans rfl
                    have hfz27_0 := blk_frozen BK113.out 0
                    have hfz27_1 := blk_frozen BK113.out 1
                    have hfz27_2 := blk_frozen BK113.out 2
                    have hfz27_3 := blk_frozen BK113.out 3
                    have hfz27_4 := blk_frozen BK113.out 4
                    have hfz27_5 := blk_frozen BK113.out 5
                    have hfz27_6 := blk_frozen BK113.out 6
                    go_wp2
                    refine bodyPost_ret (results_ct rfl _ _ gb113 84 #[.string t115, .int .i64 t116, .int .i64 t117, .int .i64 t118, .int .i64 t119, .int .i64 t120, .bool t121] (0, 0) _ rfl (by (with_reducible repeat (first | refine blk_drewN ?_ _ | refine blk_drew ?_ | refine blk_alloc ?_ _)); refine blk_put (cs := #[.string t115, .int .i64 t116, .int .i64 t117, .int .i64 t118, .int .i64 t119, .int .i64 t120, .bool false]) ?_ 6 _ rfl; (with_reducible repeat (first | refine blk_drewN ?_ _ | refine blk_drew ?_ | refine blk_alloc ?_ _)); refine blk_put (cs := #[.string t115, .int .i64 t116, .int .i64 t117, .int .i64 t118, .int .i64 t119, .int .i64 0, .bool false]) ?_ 5 _ rfl; (with_reducible repeat (first | refine blk_drewN ?_ _ | refine blk_drew ?_ | refine blk_alloc ?_ _)); refine blk_put (cs := #[.string t115, .int .i64 t116, .int .i64 t117, .int .i64 t118, .int .i64 0, .int .i64 0, .bool false]) ?_ 4 _ rfl; (with_reducible repeat (first | refine blk_drewN ?_ _ | refine blk_drew ?_ | refine blk_alloc ?_ _)); refine blk_put (cs := #[.string t115, .int .i64 t116, .int .i64 t117, .int .i64 0, .int .i64 0, .int .i64 0, .bool false]) ?_ 3 _ rfl; (with_reducible repeat (first | refine blk_drewN ?_ _ | refine blk_drew ?_ | refine blk_alloc ?_ _)); refine blk_put (cs := #[.string t115, .int .i64 t116, .int .i64 0, .int .i64 0, .int .i64 0, .int .i64 0, .bool false]) ?_ 2 _ rfl; (with_reducible repeat (first | refine blk_drewN ?_ _ | refine blk_drew ?_ | refine blk_alloc ?_ _)); refine blk_put (cs := #[.string t115, .int .i64 0, .int .i64 0, .int .i64 0, .int .i64 0, .int .i64 0, .bool false]) ?_ 1 _ rfl; (with_reducible repeat (first | refine blk_drewN ?_ _ | refine blk_drew ?_ | refine blk_alloc ?_ _)); refine blk_put (cs := #[.string (⟨#[]⟩ : ByteArray), .int .i64 0, .int .i64 0, .int .i64 0, .int .i64 0, .int .i64 0, .bool false]) ?_ 0 _ rfl; (with_reducible repeat (first | refine blk_drewN ?_ _ | refine blk_drew ?_ | refine blk_alloc ?_ _)); exact BK113.out) Tryz.underlying84 rfl (by kernel_rfl)) rfl ?_
                    exact ⟨by first | rfl | (simp [errW_none, errW_some] <;> rfl) | (simp [*, errW_none, errW_some] <;> rfl), by repeat (first | (with_reducible first | exact HB.out | apply below_alloc | apply pw_below_drewN | apply below_drew1 | refine below_set ?_ GE113.out | refine below_set ?_ GE123.out) | exact HB.out)⟩
                  · rw [if_neg c24] at H
                    have c24b0 : ((Int.tmod (wrap64 ((wrap64 ((wrap64 ((l0.length : Int) - 1)) - t118)) + 1)) t120) == 0) = false := beq_eq_false_iff_ne.mpr c24
                    have c24b1 : ((Int.tmod (wrap64 ((wrap64 ((wrap64 ((l0.length : Int) - 1)) - t118)) + 1)) t120) != 0) = true := bne_iff_ne.mpr c24
                    simp only [Option.some.injEq, Prod.mk.injEq] at H
                    obtain ⟨rfl, rfl, rfl, rfl, rfl, rfl, rfl, rfl⟩ := H
                    have hnb28 := NB123_113.out
                    have hnc28 := NB113_123.out
                    have hcz29_0 : wc.cell? ⟨gb123, 0, none⟩ = some (.string t115) := (blk_cell BK123.out 0).trans rfl
                    have hcz29_1 : wc.cell? ⟨gb123, 1, none⟩ = some (.int .i64 t116) := (blk_cell BK123.out 1).trans rfl
                    have hcz29_2 : wc.cell? ⟨gb123, 2, none⟩ = some (.int .i64 t117) := (blk_cell BK123.out 2).trans rfl
                    have hcz29_3 : wc.cell? ⟨gb123, 3, none⟩ = some (.int .i64 t118) := (blk_cell BK123.out 3).trans rfl
                    have hcz29_4 : wc.cell? ⟨gb123, 4, none⟩ = some (.int .i64 t119) := (blk_cell BK123.out 4).trans rfl
                    have hcz29_5 : wc.cell? ⟨gb123, 5, none⟩ = some (.int .i64 t120) := (blk_cell BK123.out 5).trans rfl
                    have hcz29_6 : wc.cell? ⟨gb123, 6, none⟩ = some (.bool t121) := (blk_cell BK123.out 6).trans rfl
                    have hfz29_0 := blk_frozen BK123.out 0
                    have hfz29_1 := blk_frozen BK123.out 1
                    have hfz29_2 := blk_frozen BK123.out 2
                    have hfz29_3 := blk_frozen BK123.out 3
                    have hfz29_4 := blk_frozen BK123.out 4
                    have hfz29_5 := blk_frozen BK123.out 5
                    have hfz29_6 := blk_frozen BK123.out 6
                    have hcz30_0 : wc.cell? ⟨gb113, 0, none⟩ = some (.string (⟨#[]⟩ : ByteArray)) := (blk_cell BK113.out 0).trans rfl
                    have hcz30_1 : wc.cell? ⟨gb113, 1, none⟩ = some (.int .i64 0) := (blk_cell BK113.out 1).trans rfl
                    have hcz30_2 : wc.cell? ⟨gb113, 2, none⟩ = some (.int .i64 0) := (blk_cell BK113.out 2).trans rfl
                    have hcz30_3 : wc.cell? ⟨gb113, 3, none⟩ = some (.int .i64 0) := (blk_cell BK113.out 3).trans rfl
                    have hcz30_4 : wc.cell? ⟨gb113, 4, none⟩ = some (.int .i64 0) := (blk_cell BK113.out 4).trans rfl
                    have hcz30_5 : wc.cell? ⟨gb113, 5, none⟩ = some (.int .i64 0) := (blk_cell BK113.out 5).trans rfl
                    have hcz30_6 : wc.cell? ⟨gb113, 6, none⟩ = some (.bool false) := (blk_cell BK113.out 6).trans rfl
                    have hfz30_0 := blk_frozen BK113.out 0
                    have hfz30_1 := blk_frozen BK113.out 1
                    have hfz30_2 := blk_frozen BK113.out 2
                    have hfz30_3 := blk_frozen BK113.out 3
                    have hfz30_4 := blk_frozen BK113.out 4
                    have hfz30_5 := blk_frozen BK113.out 5
                    have hfz30_6 := blk_frozen BK113.out 6
                    go_wp2
                    refine bodyPost_ret (results_ct rfl _ _ gb113 84 #[.string (⟨#[]⟩ : ByteArray), .int .i64 0, .int .i64 0, .int .i64 0, .int .i64 0, .int .i64 0, .bool false] (0, 0) _ rfl (by (with_reducible repeat (first | refine blk_drewN ?_ _ | refine blk_drew ?_ | refine blk_alloc ?_ _)); refine blk_put (cs := #[.string (⟨#[]⟩ : ByteArray), .int .i64 0, .int .i64 0, .int .i64 0, .int .i64 0, .int .i64 0, .bool false]) ?_ 6 _ rfl; (with_reducible repeat (first | refine blk_drewN ?_ _ | refine blk_drew ?_ | refine blk_alloc ?_ _)); refine blk_put (cs := #[.string (⟨#[]⟩ : ByteArray), .int .i64 0, .int .i64 0, .int .i64 0, .int .i64 0, .int .i64 0, .bool false]) ?_ 5 _ rfl; (with_reducible repeat (first | refine blk_drewN ?_ _ | refine blk_drew ?_ | refine blk_alloc ?_ _)); refine blk_put (cs := #[.string (⟨#[]⟩ : ByteArray), .int .i64 0, .int .i64 0, .int .i64 0, .int .i64 0, .int .i64 0, .bool false]) ?_ 4 _ rfl; (with_reducible repeat (first | refine blk_drewN ?_ _ | refine blk_drew ?_ | refine blk_alloc ?_ _)); refine blk_put (cs := #[.string (⟨#[]⟩ : ByteArray), .int .i64 0, .int .i64 0, .int .i64 0, .int .i64 0, .int .i64 0, .bool false]) ?_ 3 _ rfl; (with_reducible repeat (first | refine blk_drewN ?_ _ | refine blk_drew ?_ | refine blk_alloc ?_ _)); refine blk_put (cs := #[.string (⟨#[]⟩ : ByteArray), .int .i64 0, .int .i64 0, .int .i64 0, .int .i64 0, .int .i64 0, .bool false]) ?_ 2 _ rfl; (with_reducible repeat (first | refine blk_drewN ?_ _ | refine blk_drew ?_ | refine blk_alloc ?_ _)); refine blk_put (cs := #[.string (⟨#[]⟩ : ByteArray), .int .i64 0, .int .i64 0, .int .i64 0, .int .i64 0, .int .i64 0, .bool false]) ?_ 1 _ rfl; (with_reducible repeat (first | refine blk_drewN ?_ _ | refine blk_drew ?_ | refine blk_alloc ?_ _)); refine blk_put (cs := #[.string (⟨#[]⟩ : ByteArray), .int .i64 0, .int .i64 0, .int .i64 0, .int .i64 0, .int .i64 0, .bool false]) ?_ 0 _ rfl; (with_reducible repeat (first | refine blk_drewN ?_ _ | refine blk_drew ?_ | refine blk_alloc ?_ _)); exact BK113.out) Tryz.underlying84 rfl (by kernel_rfl)) rfl ?_
                    exact ⟨by first | rfl | (simp [errW_none, errW_some] <;> rfl) | (simp [*, errW_none, errW_some] <;> rfl), by repeat (first | (with_reducible first | exact HB.out | apply below_alloc | apply pw_below_drewN | apply below_drew1 | refine below_set ?_ GE113.out | refine below_set ?_ GE123.out) | exact HB.out)⟩
              · rw [if_neg c22] at H
                have c22b0 : (t119 == (-1)) = false := beq_eq_false_iff_ne.mpr c22
                have c22b1 : (t119 != (-1)) = true := bne_iff_ne.mpr c22
                simp only [Option.some.injEq, Prod.mk.injEq] at H
                obtain ⟨rfl, rfl, rfl, rfl, rfl, rfl, rfl, rfl⟩ := H
                have hnb31 := NB123_113.out
                have hnc31 := NB113_123.out
                have hcz32_0 : wc.cell? ⟨gb123, 0, none⟩ = some (.string t115) := (blk_cell BK123.out 0).trans rfl
                have hcz32_1 : wc.cell? ⟨gb123, 1, none⟩ = some (.int .i64 t116) := (blk_cell BK123.out 1).trans rfl
                have hcz32_2 : wc.cell? ⟨gb123, 2, none⟩ = some (.int .i64 t117) := (blk_cell BK123.out 2).trans rfl
                have hcz32_3 : wc.cell? ⟨gb123, 3, none⟩ = some (.int .i64 t118) := (blk_cell BK123.out 3).trans rfl
                have hcz32_4 : wc.cell? ⟨gb123, 4, none⟩ = some (.int .i64 t119) := (blk_cell BK123.out 4).trans rfl
                have hcz32_5 : wc.cell? ⟨gb123, 5, none⟩ = some (.int .i64 t120) := (blk_cell BK123.out 5).trans rfl
                have hcz32_6 : wc.cell? ⟨gb123, 6, none⟩ = some (.bool t121) := (blk_cell BK123.out 6).trans rfl
                have hfz32_0 := blk_frozen BK123.out 0
                have hfz32_1 := blk_frozen BK123.out 1
                have hfz32_2 := blk_frozen BK123.out 2
                have hfz32_3 := blk_frozen BK123.out 3
                have hfz32_4 := blk_frozen BK123.out 4
                have hfz32_5 := blk_frozen BK123.out 5
                have hfz32_6 := blk_frozen BK123.out 6
                have hcz33_0 : wc.cell? ⟨gb113, 0, none⟩ = some (.string (⟨#[]⟩ : ByteArray)) := (blk_cell BK113.out 0).trans rfl
                have hcz33_1 : wc.cell? ⟨gb113, 1, none⟩ = some (.int .i64 0) := (blk_cell BK113.out 1).trans rfl
                have hcz33_2 : wc.cell? ⟨gb113, 2, none⟩ = some (.int .i64 0) := (blk_cell BK113.out 2).trans rfl
                have hcz33_3 : wc.cell? ⟨gb113, 3, none⟩ = some (.int .i64 0) := (blk_cell BK113.out 3).trans rfl
                have hcz33_4 : wc.cell? ⟨gb113, 4, none⟩ = some (.int .i64 0) := (blk_cell BK113.out 4).trans rfl
                have hcz33_5 : wc.cell? ⟨gb113, 5, none⟩ = some (.int .i64 0) := (blk_cell BK113.out 5).trans rfl
                have hcz33_6 : wc.cell? ⟨gb113, 6, none⟩ = some (.bool false) := (blk_cell BK113.out 6).trans rfl
                have hfz33_0 := blk_frozen BK113.out 0
                have hfz33_1 := blk_frozen BK113.out 1
                have hfz33_2 := blk_frozen BK113.out 2
                have hfz33_3 := blk_frozen BK113.out 3
                have hfz33_4 := blk_frozen BK113.out 4
                have hfz33_5 := blk_frozen BK113.out 5
                have hfz33_6 := blk_frozen BK113.out 6
                go_wp2
                refine bodyPost_ret (results_ct rfl _ _ gb113 84 #[.string t115, .int .i64 t116, .int .i64 t117, .int .i64 t118, .int .i64 t119, .int .i64 t120, .bool t121] (0, 0) _ rfl (by (with_reducible repeat (first | refine blk_drewN ?_ _ | refine blk_drew ?_ | refine blk_alloc ?_ _)); refine blk_put (cs := #[.string t115, .int .i64 t116, .int .i64 t117, .int .i64 t118, .int .i64 t119, .int .i64 t120, .bool false]) ?_ 6 _ rfl; (with_reducible repeat (first | refine blk_drewN ?_ _ | refine blk_drew ?_ | refine blk_alloc ?_ _)); refine blk_put (cs := #[.string t115, .int .i64 t116, .int .i64 t117, .int .i64 t118, .int .i64 t119, .int .i64 0, .bool false]) ?_ 5 _ rfl; (with_reducible repeat (first | refine blk_drewN ?_ _ | refine blk_drew ?_ | refine blk_alloc ?_ _)); refine blk_put (cs := #[.string t115, .int .i64 t116, .int .i64 t117, .int .i64 t118, .int .i64 0, .int .i64 0, .bool false]) ?_ 4 _ rfl; (with_reducible repeat (first | refine blk_drewN ?_ _ | refine blk_drew ?_ | refine blk_alloc ?_ _)); refine blk_put (cs := #[.string t115, .int .i64 t116, .int .i64 t117, .int .i64 0, .int .i64 0, .int .i64 0, .bool false]) ?_ 3 _ rfl; (with_reducible repeat (first | refine blk_drewN ?_ _ | refine blk_drew ?_ | refine blk_alloc ?_ _)); refine blk_put (cs := #[.string t115, .int .i64 t116, .int .i64 0, .int .i64 0, .int .i64 0, .int .i64 0, .bool false]) ?_ 2 _ rfl; (with_reducible repeat (first | refine blk_drewN ?_ _ | refine blk_drew ?_ | refine blk_alloc ?_ _)); refine blk_put (cs := #[.string t115, .int .i64 0, .int .i64 0, .int .i64 0, .int .i64 0, .int .i64 0, .bool false]) ?_ 1 _ rfl; (with_reducible repeat (first | refine blk_drewN ?_ _ | refine blk_drew ?_ | refine blk_alloc ?_ _)); refine blk_put (cs := #[.string (⟨#[]⟩ : ByteArray), .int .i64 0, .int .i64 0, .int .i64 0, .int .i64 0, .int .i64 0, .bool false]) ?_ 0 _ rfl; (with_reducible repeat (first | refine blk_drewN ?_ _ | refine blk_drew ?_ | refine blk_alloc ?_ _)); exact BK113.out) Tryz.underlying84 rfl (by kernel_rfl)) rfl ?_
                exact ⟨by first | rfl | (simp [errW_none, errW_some] <;> rfl) | (simp [*, errW_none, errW_some] <;> rfl), by repeat (first | (with_reducible first | exact HB.out | apply below_alloc | apply pw_below_drewN | apply below_drew1 | refine below_set ?_ GE113.out | refine below_set ?_ GE123.out) | exact HB.out)⟩
      · replace c7 := Bool.eq_false_iff.mpr c7
        subst c7
        have H1 : (some ((⟨#[]⟩ : ByteArray), 0, 0, 0, 0, 0, false, 120)) = some (r1, r2, r3, r4, r5, r6, r7, r8) := by rw [if_neg (show ¬ (false = true) by decide)] at H; exact H
        clear H
        have H := H1
        clear H1
        simp only [Option.some.injEq, Prod.mk.injEq] at H
        obtain ⟨rfl, rfl, rfl, rfl, rfl, rfl, rfl, rfl⟩ := H
        go_enter Tryz.func40, Tryz.ntmps40
        go_wp2_with (first | ((with_reducible refine gate_dst (N := 2) rfl ?_); refine box_event ?hg (N := 2) ?hd (cs := #[.string (⟨#[]⟩ : ByteArray), .int .i64 0, .int .i64 0, .int .i64 0, .int .i64 0, .int .i64 0, .bool false]) (t := 84) ?hr ?_; (case hd => rfl); (case hg => rfl); (case hr => first | (go_simp; done) | (go_simp; rfl)); intro gb113 hg w34 hbox hb; have n0_ := Aside0.mk (below_step (by repeat (first | (with_reducible first | exact HB.out | apply below_alloc | apply pw_below_drewN | apply below_drew1) | exact HB.out)) hb); have n1_ := Aside0.mk (hbox); have n2_ := Aside0.mk ((by rw [hg]; exact (below_size (by repeat (first | (with_reducible first | exact HB.out | apply below_alloc | apply pw_below_drewN | apply below_drew1) | exact HB.out))) : w.heap.size ≤ gb113)); have n3_ := Aside0.mk ((by rw [hg]; exact (below_size (by repeat (first | (with_reducible first | exact HB.out | apply below_alloc | apply pw_below_drewN | apply below_drew1) | exact HB.out))) : w.heap.size ≤ gb113)); clear HB; have HB := n0_; have BK113 := n1_; have GW113 := n2_; have GE113 := n3_; clear n0_ n1_ n2_ n3_; clear hb hbox hg; have p114 : 0 ≤ (0 : Int) := (by omega); have q114 : 0 < (l0.length : Int) := of_decide_eq_true (by first | (with_reducible assumption) | assumption); obtain ⟨ad114, e114, hx114_0⟩ := Kd.at_string HR0.out 0 p114 q114; cases e114; have qi114 : (0 < l0.length) = True := eq_true (by omega); (try rw [show ((0 : Int)).toNat = 0 from rfl] at hx114_0); (try rw [Addr.add_zero'] at hx114_0); replace hx114_0 := (HB.out.cell (World.block_lt_of_cell? w _ hx114_0)).trans hx114_0; replace p114 := eq_true p114; replace q114 := eq_true q114) | ((with_reducible refine gate_callee (f := 52) rfl ?_); refine goesL_ (some 15) rfl rfl Tryz.func52 (by kernel_rfl) rfl #[.string (rdOf ByteArray.empty l0 0)] rfl (by (try simp only [List.map_toArray, List.map_cons, List.map_nil]); first | done | rfl | (simp only [List.length_drop, List.length_take]; rfl)) ?_; (with_reducible refine (marshalyardref12_Find.calls k (rdOf ByteArray.empty l0 0) t115 t116 t117 t118 t119 t120 t121 false _ A6.out).mono ?_); rintro e w35 ⟨rfl, hb⟩; refine ⟨_, rfl, ?_⟩; have n0_ := Aside0.mk (blk_below (g := gb113) (o := .cells #[.string (⟨#[]⟩ : ByteArray), .int .i64 0, .int .i64 0, .int .i64 0, .int .i64 0, .int .i64 0, .bool false] 84 (0, 0)) (by (with_reducible repeat (first | refine blk_drewN ?_ _ | refine blk_drew ?_ | refine blk_alloc ?_ _)); exact BK113.out) hb); have n1_ := Aside0.mk (below_step (by repeat (first | (with_reducible first | exact HB.out | apply below_alloc | apply pw_below_drewN | apply below_drew1 | refine below_set ?_ GE113.out) | exact HB.out)) hb); clear BK113; clear HB; have BK113 := n0_; have HB := n1_; clear n0_ n1_; (try clear hb); (try clear hb2); (try clear hk); (try clear hi)) | ((with_reducible refine gate_dst (N := 4) rfl ?_); refine box_event ?hg (N := 4) ?hd (cs := #[.string (⟨#[]⟩ : ByteArray), .int .i64 0, .int .i64 0, .int .i64 0, .int .i64 0, .int .i64 0, .bool false]) (t := 84) ?hr ?_; (case hd => rfl); (case hg => rfl); (case hr => first | (go_simp; done) | (go_simp; rfl)); intro gb123 hg w36 hbox hb; have n0_ := Aside0.mk (blk_below (g := gb113) (o := .cells #[.string (⟨#[]⟩ : ByteArray), .int .i64 0, .int .i64 0, .int .i64 0, .int .i64 0, .int .i64 0, .bool false] 84 (0, 0)) (by (with_reducible repeat (first | refine blk_drewN ?_ _ | refine blk_drew ?_ | refine blk_alloc ?_ _)); exact BK113.out) hb); have n1_ := Aside0.mk (below_step (by repeat (first | (with_reducible first | exact HB.out | apply below_alloc | apply pw_below_drewN | apply below_drew1 | refine below_set ?_ GE113.out) | exact HB.out)) hb); have n2_ := Aside0.mk (hbox); have n3_ := Aside0.mk ((by rw [hg]; exact (below_size (by repeat (first | (with_reducible first | exact HB.out | apply below_alloc | apply pw_below_drewN | apply below_drew1 | refine below_set ?_ GE113.out) | exact HB.out))) : w.heap.size ≤ gb123)); have n4_ := Aside0.mk ((by rw [hg]; exact (below_size (by repeat (first | (with_reducible first | exact HB.out | apply below_alloc | apply pw_below_drewN | apply below_drew1 | refine below_set ?_ GE113.out) | exact HB.out))) : w.heap.size ≤ gb123)); have n5_ := Aside0.mk ((by rw [hg]; exact Nat.ne_of_lt (blk_lt (g := gb113) (o := .cells #[.string (⟨#[]⟩ : ByteArray), .int .i64 0, .int .i64 0, .int .i64 0, .int .i64 0, .int .i64 0, .bool false] 84 (0, 0)) (by (with_reducible repeat (first | refine blk_drewN ?_ _ | refine blk_drew ?_ | refine blk_alloc ?_ _)); exact BK113.out)) : gb113 ≠ gb123)); have n6_ := Aside0.mk ((by rw [hg]; exact Nat.ne_of_gt (blk_lt (g := gb113) (o := .cells #[.string (⟨#[]⟩ : ByteArray), .int .i64 0, .int .i64 0, .int .i64 0, .int .i64 0, .int .i64 0, .bool false] 84 (0, 0)) (by (with_reducible repeat (first | refine blk_drewN ?_ _ | refine blk_drew ?_ | refine blk_alloc ?_ _)); exact BK113.out)) : gb123 ≠ gb113)); clear BK113; clear HB; have BK113 := n0_; have HB := n1_; have BK123 := n2_; have GW123 := n3_; have GE123 := n4_; have NB113_123 := n5_; have NB123_113 := n6_; clear n0_ n1_ n2_ n3_ n4_ n5_ n6_; clear hb hbox hg; have hnb37 := NB123_113.out; have hnc37 := NB113_123.out; have hcz38_0 : w36.cell? ⟨gb123, 0, none⟩ = some (.string (⟨#[]⟩ : ByteArray)) := (blk_cell BK123.out 0).trans rfl; have hcz38_1 : w36.cell? ⟨gb123, 1, none⟩ = some (.int .i64 0) := (blk_cell BK123.out 1).trans rfl; have hcz38_2 : w36.cell? ⟨gb123, 2, none⟩ = some (.int .i64 0) := (blk_cell BK123.out 2).trans rfl; have hcz38_3 : w36.cell? ⟨gb123, 3, none⟩ = some (.int .i64 0) := (blk_cell BK123.out 3).trans rfl; have hcz38_4 : w36.cell? ⟨gb123, 4, none⟩ = some (.int .i64 0) := (blk_cell BK123.out 4).trans rfl; have hcz38_5 : w36.cell? ⟨gb123, 5, none⟩ = some (.int .i64 0) := (blk_cell BK123.out 5).trans rfl; have hcz38_6 : w36.cell? ⟨gb123, 6, none⟩ = some (.bool false) := (blk_cell BK123.out 6).trans rfl; have hfz38_0 := blk_frozen BK123.out 0; have hfz38_1 := blk_frozen BK123.out 1; have hfz38_2 := blk_frozen BK123.out 2; have hfz38_3 := blk_frozen BK123.out 3; have hfz38_4 := blk_frozen BK123.out 4; have hfz38_5 := blk_frozen BK123.out 5; have hfz38_6 := blk_frozen BK123.out 6; have hcz39_0 : w36.cell? ⟨gb113, 0, none⟩ = some (.string (⟨#[]⟩ : ByteArray)) := (blk_cell BK113.out 0).trans rfl; have hcz39_1 : w36.cell? ⟨gb113, 1, none⟩ = some (.int .i64 0) := (blk_cell BK113.out 1).trans rfl; have hcz39_2 : w36.cell? ⟨gb113, 2, none⟩ = some (.int .i64 0) := (blk_cell BK113.out 2).trans rfl; have hcz39_3 : w36.cell? ⟨gb113, 3, none⟩ = some (.int .i64 0) := (blk_cell BK113.out 3).trans rfl; have hcz39_4 : w36.cell? ⟨gb113, 4, none⟩ = some (.int .i64 0) := (blk_cell BK113.out 4).trans rfl; have hcz39_5 : w36.cell? ⟨gb113, 5, none⟩ = some (.int .i64 0) := (blk_cell BK113.out 5).trans rfl; have hcz39_6 : w36.cell? ⟨gb113, 6, none⟩ = some (.bool false) := (blk_cell BK113.out 6).trans rfl; have hfz39_0 := blk_frozen BK113.out 0; have hfz39_1 := blk_frozen BK113.out 1; have hfz39_2 := blk_frozen BK113.out 2; have hfz39_3 := blk_frozen BK113.out 3; have hfz39_4 := blk_frozen BK113.out 4; have hfz39_5 := blk_frozen BK113.out 5; have hfz39_6 := blk_frozen BK113.out 6))
        refine bodyPost_ret (results_ct rfl _ _ gb113 84 #[.string (⟨#[]⟩ : ByteArray), .int .i64 0, .int .i64 0, .int .i64 0, .int .i64 0, .int .i64 0, .bool false] (0, 0) _ rfl (by (with_reducible repeat (first | refine blk_drewN ?_ _ | refine blk_drew ?_ | refine blk_alloc ?_ _)); refine blk_put (cs := #[.string (⟨#[]⟩ : ByteArray), .int .i64 0, .int .i64 0, .int .i64 0, .int .i64 0, .int .i64 0, .bool false]) ?_ 6 _ rfl; (with_reducible repeat (first | refine blk_drewN ?_ _ | refine blk_drew ?_ | refine blk_alloc ?_ _)); refine blk_put (cs := #[.string (⟨#[]⟩ : ByteArray), .int .i64 0, .int .i64 0, .int .i64 0, .int .i64 0, .int .i64 0, .bool false]) ?_ 5 _ rfl; (with_reducible repeat (first | refine blk_drewN ?_ _ | refine blk_drew ?_ | refine blk_alloc ?_ _)); refine blk_put (cs := #[.string (⟨#[]⟩ : ByteArray), .int .i64 0, .int .i64 0, .int .i64 0, .int .i64 0, .int .i64 0, .bool false]) ?_ 4 _ rfl; (with_reducible repeat (first | refine blk_drewN ?_ _ | refine blk_drew ?_ | refine blk_alloc ?_ _)); refine blk_put (cs := #[.string (⟨#[]⟩ : ByteArray), .int .i64 0, .int .i64 0, .int .i64 0, .int .i64 0, .int .i64 0, .bool false]) ?_ 3 _ rfl; (with_reducible repeat (first | refine blk_drewN ?_ _ | refine blk_drew ?_ | refine blk_alloc ?_ _)); refine blk_put (cs := #[.string (⟨#[]⟩ : ByteArray), .int .i64 0, .int .i64 0, .int .i64 0, .int .i64 0, .int .i64 0, .bool false]) ?_ 2 _ rfl; (with_reducible repeat (first | refine blk_drewN ?_ _ | refine blk_drew ?_ | refine blk_alloc ?_ _)); refine blk_put (cs := #[.string (⟨#[]⟩ : ByteArray), .int .i64 0, .int .i64 0, .int .i64 0, .int .i64 0, .int .i64 0, .bool false]) ?_ 1 _ rfl; (with_reducible repeat (first | refine blk_drewN ?_ _ | refine blk_drew ?_ | refine blk_alloc ?_ _)); refine blk_put (cs := #[.string (⟨#[]⟩ : ByteArray), .int .i64 0, .int .i64 0, .int .i64 0, .int .i64 0, .int .i64 0, .bool false]) ?_ 0 _ rfl; (with_reducible repeat (first | refine blk_drewN ?_ _ | refine blk_drew ?_ | refine blk_alloc ?_ _)); refine blk_far ?_ NB113_123.out _; (with_reducible repeat (first | refine blk_drewN ?_ _ | refine blk_drew ?_ | refine blk_alloc ?_ _)); refine blk_far ?_ NB113_123.out _; (with_reducible repeat (first | refine blk_drewN ?_ _ | refine blk_drew ?_ | refine blk_alloc ?_ _)); refine blk_far ?_ NB113_123.out _; (with_reducible repeat (first | refine blk_drewN ?_ _ | refine blk_drew ?_ | refine blk_alloc ?_ _)); refine blk_far ?_ NB113_123.out _; (with_reducible repeat (first | refine blk_drewN ?_ _ | refine blk_drew ?_ | refine blk_alloc ?_ _)); refine blk_far ?_ NB113_123.out _; (with_reducible repeat (first | refine blk_drewN ?_ _ | refine blk_drew ?_ | refine blk_alloc ?_ _)); refine blk_far ?_ NB113_123.out _; (with_reducible repeat (first | refine blk_drewN ?_ _ | refine blk_drew ?_ | refine blk_alloc ?_ _)); refine blk_far ?_ NB113_123.out _; (with_reducible repeat (first | refine blk_drewN ?_ _ | refine blk_drew ?_ | refine blk_alloc ?_ _)); exact BK113.out) Tryz.underlying84 rfl (by kernel_rfl)) rfl ?_
        exact ⟨by first | rfl | (simp [errW_none, errW_some] <;> rfl) | (simp [*, errW_none, errW_some] <;> rfl), by repeat (first | (with_reducible first | exact HB.out | apply below_alloc | apply pw_below_drewN | apply below_drew1 | refine below_set ?_ GE113.out | refine below_set ?_ GE123.out) | exact HB.out)⟩
    · rw [if_neg c5] at H
      exact absurd H (by simp)

/-! ### marshalyardref12_Keys: function 28 -/
def marshalyardref12_Keys.l0 : Nat → List ByteArray → List ByteArray → Int → Int → ByteArray → Int → Int → Int → Int → Int → Bool → Option (List ByteArray)
  | 0, _, _, _, _, _, _, _, _, _, _, _ => none
  | k + 1, x0, x3, x5, x6, x133000, x133001, x133002, x133003, x133004, x133005, x133006 => if x6 < (x0.length : Int) then (if x6 ≤ x133004 then (if x5 = 0 then (if x133003 > 0 then (if x6 ≥ x133003 then (if x133005 = 0 then (none) else (if (Int.tmod (wrap64 (x6 - x133003)) x133005) = 0 then (if 0 ≤ x6 then (if x3.length < 8796093022208 then (marshalyardref12_Keys.l0 k x0 (x3 ++ [rdOf ByteArray.empty x0 x6]) x5 (wrap64 (x6 + 1)) x133000 x133001 x133002 x133003 x133004 x133005 x133006) else (none)) else (none)) else (marshalyardref12_Keys.l0 k x0 x3 x5 (wrap64 (x6 + 1)) x133000 x133001 x133002 x133003 x133004 x133005 x133006))) else (marshalyardref12_Keys.l0 k x0 x3 x5 (wrap64 (x6 + 1)) x133000 x133001 x133002 x133003 x133004 x133005 x133006)) else (marshalyardref12_Keys.l0 k x0 x3 x5 (wrap64 (x6 + 1)) x133000 x133001 x133002 x133003 x133004 x133005 x133006)) else (marshalyardref12_Keys.l0 k x0 x3 x5 (wrap64 (x6 + 1)) x133000 x133001 x133002 x133003 x133004 x133005 x133006)) else (if x5 = 0 then (if x133003 > 0 then (if x6 ≥ x133003 then (if x133004 = (-1) then (if x133005 = 0 then (none) else (if (Int.tmod (wrap64 (x6 - x133003)) x133005) = 0 then (if 0 ≤ x6 then (if x3.length < 8796093022208 then (marshalyardref12_Keys.l0 k x0 (x3 ++ [rdOf ByteArray.empty x0 x6]) x5 (wrap64 (x6 + 1)) x133000 x133001 x133002 x133003 x133004 x133005 x133006) else (none)) else (none)) else (marshalyardref12_Keys.l0 k x0 x3 x5 (wrap64 (x6 + 1)) x133000 x133001 x133002 x133003 x133004 x133005 x133006))) else (marshalyardref12_Keys.l0 k x0 x3 x5 (wrap64 (x6 + 1)) x133000 x133001 x133002 x133003 x133004 x133005 x133006)) else (marshalyardref12_Keys.l0 k x0 x3 x5 (wrap64 (x6 + 1)) x133000 x133001 x133002 x133003 x133004 x133005 x133006)) else (marshalyardref12_Keys.l0 k x0 x3 x5 (wrap64 (x6 + 1)) x133000 x133001 x133002 x133003 x133004 x133005 x133006)) else (marshalyardref12_Keys.l0 k x0 x3 x5 (wrap64 (x6 + 1)) x133000 x133001 x133002 x133003 x133004 x133005 x133006))) else (some x3)
def marshalyardref12_Keys.f (k : Nat) (l0 : List ByteArray) : Option (List ByteArray) := (marshalyardref12_Check.f k l0).bind fun bt124 => (marshalyardref12_Keys.l0 k l0 ([] : List ByteArray) bt124.2.2.2.2.2.2.2 1 bt124.1 bt124.2.1 bt124.2.2.1 bt124.2.2.2.1 bt124.2.2.2.2.1 bt124.2.2.2.2.2.1 bt124.2.2.2.2.2.2.1)
theorem marshalyardref12_Keys.mono_l : ∀ k, (∀ y0 y1 y2 y3 y4 y5 y6 y7 y8 y9 y10, LeO (marshalyardref12_Keys.l0 k y0 y1 y2 y3 y4 y5 y6 y7 y8 y9 y10) (marshalyardref12_Keys.l0 (k + 1) y0 y1 y2 y3 y4 y5 y6 y7 y8 y9 y10))
  | 0 => fun _ _ _ _ _ _ _ _ _ _ _ r h => by simp [marshalyardref12_Keys.l0] at h
  | k + 1 => by
    have ih0 := marshalyardref12_Keys.mono_l k
    · intro y0 y1 y2 y3 y4 y5 y6 y7 y8 y9 y10
      unfold marshalyardref12_Keys.l0
      repeat' first
      | (with_reducible exact ih0 _ _ _ _ _ _ _ _ _ _ _)
      | (with_reducible exact marshalyardref12_Check.mono _ _)
      | (with_reducible exact LeO.refl _)
      | (with_reducible exact LeO.none _)
      | (with_reducible refine LeO.ite ?_ ?_)
      | (with_reducible refine LeO.bind ?_ (fun _ => ?_))
      | exact ih0 _ _ _ _ _ _ _ _ _ _ _
      | exact marshalyardref12_Check.mono _ _
      | exact LeO.none _
      | refine LeO.ite ?_ ?_
      | refine LeO.bind ?_ (fun _ => ?_)
theorem marshalyardref12_Keys.mono : ∀ a0 k, LeO (marshalyardref12_Keys.f k a0) (marshalyardref12_Keys.f (k + 1) a0) := by
  intro a0 k
  have ih0 := marshalyardref12_Keys.mono_l k
  unfold marshalyardref12_Keys.f
  repeat' first
      | (with_reducible exact ih0 _ _ _ _ _ _ _ _ _ _ _)
      | (with_reducible exact marshalyardref12_Check.mono _ _)
      | (with_reducible exact LeO.refl _)
      | (with_reducible exact LeO.none _)
      | (with_reducible refine LeO.ite ?_ ?_)
      | (with_reducible refine LeO.bind ?_ (fun _ => ?_))
      | exact ih0 _ _ _ _ _ _ _ _ _ _ _
      | exact marshalyardref12_Check.mono _ _
      | exact LeO.none _
      | refine LeO.ite ?_ ?_
      | refine LeO.bind ?_ (fun _ => ?_)
set_option maxHeartbeats 8000000 in
set_option maxRecDepth 100000 in
theorem marshalyardref12_Keys.calls (k : Nat) (A0 : Option Addr) (c0 : Nat) (l0 : List ByteArray) (r : List ByteArray) (w : World) (hr0 : Kd.C Kd.string w A0 l0.length l0) (hc0 : l0.length ≤ c0) (h : marshalyardref12_Keys.f k l0 = some r) :
    Calls Tryz.prog 28 #[.slice A0 l0.length c0] w fun e w' => ∃ v0_ : Value, e = .returned (v0_) ∧ Kd.R Kd.string 9 w' w.heap.size (fun _ => True) v0_ r ∧ Below w.heap.size w w' := by
  have hu84 := Tryz.underlying84
  have HR0 := Aside0.mk hr0
  have HC0 := Aside0.mk hc0
  clear hr0 hc0
  have HB := Aside0.mk (Below.refl w.heap.size w)
  have H : ((marshalyardref12_Check.f k l0).bind fun bt124 => (marshalyardref12_Keys.l0 k l0 ([] : List ByteArray) bt124.2.2.2.2.2.2.2 1 bt124.1 bt124.2.1 bt124.2.2.1 bt124.2.2.2.1 bt124.2.2.2.2.1 bt124.2.2.2.2.2.1 bt124.2.2.2.2.2.2.1)) = some r := h
  clear h
  replace H := Option.bind_eq_some_iff.mp H
  obtain ⟨⟨t124, t125, t126, t127, t128, t129, t130, t131⟩, A20, H⟩ := H
  replace H : (marshalyardref12_Keys.l0 k l0 ([] : List ByteArray) t131 1 t124 t125 t126 t127 t128 t129 t130) = some r := H
  have A2 := Aside0.mk A20
  clear A20
  have H' := Aside0.mk H
  clear H
  go_enter Tryz.func28, Tryz.ntmps28
  go_wp2_with (first | ((with_reducible refine gate_callee (f := 40) rfl ?_); refine goesL_ (some 10) rfl rfl Tryz.func40 (by kernel_rfl) rfl #[.slice A0 l0.length c0] rfl (by (try simp only [List.map_toArray, List.map_cons, List.map_nil]); first | done | rfl | (simp only [List.length_drop, List.length_take]; rfl)) ?_; (with_reducible refine (marshalyardref12_Check.calls k _ _ l0 t124 t125 t126 t127 t128 t129 t130 t131 _ ?side1 ?side2 A2.out).mono ?_); (case side1 => repeat (first | exact HR0.out | (with_reducible refine Kd.C_alloc ?_ _) | (with_reducible refine Kd.C_drewN ?_ _) | (with_reducible refine Kd.C_drew ?_))); (case side2 => exact HC0.out); rintro e w3 ⟨rfl, hb⟩; refine ⟨_, rfl, ?_⟩; have n0_ := Aside0.mk (below_step (by repeat (first | (with_reducible first | exact HB.out | apply below_alloc | apply pw_below_drewN | apply below_drew1) | exact HB.out)) hb); clear HB; have HB := n0_; clear n0_; (try clear hb); (try clear hb2); (try clear hk); (try clear hi)) | ((with_reducible refine gate_dst (N := 4) rfl ?_); refine box_event ?hg (N := 4) ?hd (cs := #[.string (⟨#[]⟩ : ByteArray), .int .i64 0, .int .i64 0, .int .i64 0, .int .i64 0, .int .i64 0, .bool false]) (t := 84) ?hr ?_; (case hd => rfl); (case hg => rfl); (case hr => first | (go_simp; done) | (go_simp; rfl)); intro gb132 hg w4 hbox hb; have n0_ := Aside0.mk (below_step (by repeat (first | (with_reducible first | exact HB.out | apply below_alloc | apply pw_below_drewN | apply below_drew1) | exact HB.out)) hb); have n1_ := Aside0.mk (hbox); have n2_ := Aside0.mk ((by rw [hg]; exact (below_size (by repeat (first | (with_reducible first | exact HB.out | apply below_alloc | apply pw_below_drewN | apply below_drew1) | exact HB.out))) : w.heap.size ≤ gb132)); have n3_ := Aside0.mk ((by rw [hg]; exact (below_size (by repeat (first | (with_reducible first | exact HB.out | apply below_alloc | apply pw_below_drewN | apply below_drew1) | exact HB.out))) : w.heap.size ≤ gb132)); clear HB; have HB := n0_; have BK132 := n1_; have GW132 := n2_; have GE132 := n3_; clear n0_ n1_ n2_ n3_; clear hb hbox hg; have hcz5_0 : w4.cell? ⟨gb132, 0, none⟩ = some (.string (⟨#[]⟩ : ByteArray)) := (blk_cell BK132.out 0).trans rfl; have hcz5_1 : w4.cell? ⟨gb132, 1, none⟩ = some (.int .i64 0) := (blk_cell BK132.out 1).trans rfl; have hcz5_2 : w4.cell? ⟨gb132, 2, none⟩ = some (.int .i64 0) := (blk_cell BK132.out 2).trans rfl; have hcz5_3 : w4.cell? ⟨gb132, 3, none⟩ = some (.int .i64 0) := (blk_cell BK132.out 3).trans rfl; have hcz5_4 : w4.cell? ⟨gb132, 4, none⟩ = some (.int .i64 0) := (blk_cell BK132.out 4).trans rfl; have hcz5_5 : w4.cell? ⟨gb132, 5, none⟩ = some (.int .i64 0) := (blk_cell BK132.out 5).trans rfl; have hcz5_6 : w4.cell? ⟨gb132, 6, none⟩ = some (.bool false) := (blk_cell BK132.out 6).trans rfl; have hfz5_0 := blk_frozen BK132.out 0; have hfz5_1 := blk_frozen BK132.out 1; have hfz5_2 := blk_frozen BK132.out 2; have hfz5_3 := blk_frozen BK132.out 3; have hfz5_4 := blk_frozen BK132.out 4; have hfz5_5 := blk_frozen BK132.out 5; have hfz5_6 := blk_frozen BK132.out 6))
  go_loopg [3, 6] k (fun kq v3 v6 w' => ∃ (x3_1 : List ByteArray) (x6_1 : Int), v6 = .int .i64 x6_1 ∧ Aside0 (marshalyardref12_Keys.l0 kq l0 x3_1 t131 x6_1 t124 t125 t126 t127 t128 t129 t130 = some r) ∧ Aside0 (kq ≤ k) ∧ Aside0 (Kd.R Kd.string 9 w' w.heap.size (fun _ => True) v3 x3_1) ∧ Aside0 (w'.heap[gb132]? = some (.cells #[.string t124, .int .i64 t125, .int .i64 t126, .int .i64 t127, .int .i64 t128, .int .i64 t129, .bool t130] 84 (0, 0))) ∧ Aside0 (Below w.heap.size w w'))
  case atStart => exact ⟨(([] : List ByteArray)), (1), (by first | rfl | (simp; done) | (simp [*]; done)), H', ⟨Nat.le_refl _⟩, ⟨by first | exact Kd.R_nil _ _ _ _ _ | exact Kd.N_nil _ _ _ _ _ | exact Kd.V_nil _ _ _ _ _ | exact Kd.Q_nil _ _ _ _ _ | exact Kd.S_nil _ _ _ _ _⟩, ⟨by (with_reducible repeat (first | refine blk_drewN ?_ _ | refine blk_drew ?_ | refine blk_alloc ?_ _)); refine blk_put (cs := #[.string t124, .int .i64 t125, .int .i64 t126, .int .i64 t127, .int .i64 t128, .int .i64 t129, .bool false]) ?_ 6 _ rfl; (with_reducible repeat (first | refine blk_drewN ?_ _ | refine blk_drew ?_ | refine blk_alloc ?_ _)); refine blk_put (cs := #[.string t124, .int .i64 t125, .int .i64 t126, .int .i64 t127, .int .i64 t128, .int .i64 0, .bool false]) ?_ 5 _ rfl; (with_reducible repeat (first | refine blk_drewN ?_ _ | refine blk_drew ?_ | refine blk_alloc ?_ _)); refine blk_put (cs := #[.string t124, .int .i64 t125, .int .i64 t126, .int .i64 t127, .int .i64 0, .int .i64 0, .bool false]) ?_ 4 _ rfl; (with_reducible repeat (first | refine blk_drewN ?_ _ | refine blk_drew ?_ | refine blk_alloc ?_ _)); refine blk_put (cs := #[.string t124, .int .i64 t125, .int .i64 t126, .int .i64 0, .int .i64 0, .int .i64 0, .bool false]) ?_ 3 _ rfl; (with_reducible repeat (first | refine blk_drewN ?_ _ | refine blk_drew ?_ | refine blk_alloc ?_ _)); refine blk_put (cs := #[.string t124, .int .i64 t125, .int .i64 0, .int .i64 0, .int .i64 0, .int .i64 0, .bool false]) ?_ 2 _ rfl; (with_reducible repeat (first | refine blk_drewN ?_ _ | refine blk_drew ?_ | refine blk_alloc ?_ _)); refine blk_put (cs := #[.string t124, .int .i64 0, .int .i64 0, .int .i64 0, .int .i64 0, .int .i64 0, .bool false]) ?_ 1 _ rfl; (with_reducible repeat (first | refine blk_drewN ?_ _ | refine blk_drew ?_ | refine blk_alloc ?_ _)); refine blk_put (cs := #[.string (⟨#[]⟩ : ByteArray), .int .i64 0, .int .i64 0, .int .i64 0, .int .i64 0, .int .i64 0, .bool false]) ?_ 0 _ rfl; (with_reducible repeat (first | refine blk_drewN ?_ _ | refine blk_drew ?_ | refine blk_alloc ?_ _)); exact BK132.out⟩, ⟨by repeat (first | (with_reducible first | exact HB.out | apply below_alloc | apply pw_below_drewN | apply below_drew1 | refine below_set ?_ GE132.out) | exact HB.out)⟩⟩
  case round =>
    clear H'
    try clear c2
    try clear p2
    try clear c4
    try clear hcz5_0
    try clear hcz5_1
    try clear hcz5_2
    try clear hcz5_3
    try clear hcz5_4
    try clear hcz5_5
    try clear hcz5_6
    try clear hfz5_0
    try clear hfz5_1
    try clear hfz5_2
    try clear hfz5_3
    try clear hfz5_4
    try clear hfz5_5
    try clear hfz5_6
    obtain ⟨x3_1, x6_1, rfl, HA, HK1, HO_3, BK132, HB⟩ := hrel
    cases gk with
    | zero => exact absurd HA.out (by simp [marshalyardref12_Keys.l0])
    | succ k1 =>
      have H := HA.out
      clear HA
      simp only [marshalyardref12_Keys.l0] at H
      by_cases c6 : x6_1 < (l0.length : Int)
      · rw [if_pos c6] at H
        have c6b0 : decide (x6_1 < (l0.length : Int)) = true := decide_eq_true c6
        clear c6
        by_cases c7 : x6_1 ≤ t128
        · rw [if_pos c7] at H
          have c7b0 : decide (x6_1 ≤ t128) = true := decide_eq_true c7
          clear c7
          by_cases c8 : t131 = 0
          · rw [if_pos c8] at H
            have c8b0 : (t131 == 0) = true := beq_iff_eq.mpr c8
            have c8b1 : (t131 != 0) = false := bne_eq_false_iff_eq.mpr c8
            clear c8
            by_cases c9 : t127 > 0
            · rw [if_pos c9] at H
              have c9b0 : decide (0 < t127) = true := decide_eq_true c9
              clear c9
              by_cases c10 : x6_1 ≥ t127
              · rw [if_pos c10] at H
                have c10b0 : decide (t127 ≤ x6_1) = true := decide_eq_true c10
                clear c10
                by_cases c11 : t129 = 0
                · rw [if_pos c11] at H
                  exact absurd H (by simp)
                · rw [if_neg c11] at H
                  have c11b0 : (t129 == 0) = false := beq_eq_false_iff_ne.mpr c11
                  have c11b1 : (t129 != 0) = true := bne_iff_ne.mpr c11
                  by_cases c12 : (Int.tmod (wrap64 (x6_1 - t127)) t129) = 0
                  · rw [if_pos c12] at H
                    have c12b0 : ((Int.tmod (wrap64 (x6_1 - t127)) t129) == 0) = true := beq_iff_eq.mpr c12
                    have c12b1 : ((Int.tmod (wrap64 (x6_1 - t127)) t129) != 0) = false := bne_eq_false_iff_eq.mpr c12
                    clear c12
                    by_cases c13 : 0 ≤ x6_1
                    · rw [if_pos c13] at H
                      have c13b0 : decide (0 ≤ x6_1) = true := decide_eq_true c13
                      clear c13
                      by_cases c14 : x3_1.length < 8796093022208
                      · rw [if_pos c14] at H
                        have LMc14 := Aside0.mk c14
                        clear c14
                        obtain ⟨y134, hy134⟩ : ∃ y_ : List ByteArray, y_ = (x3_1 ++ [rdOf ByteArray.empty l0 x6_1]) := ⟨_, rfl⟩
                        replace H : (marshalyardref12_Keys.l0 k1 l0 y134 t131 (wrap64 (x6_1 + 1)) t124 t125 t126 t127 t128 t129 t130) = some r := by first | (rw [hy134]; with_reducible exact H) | (have H2_ := (Option.bind_some _ _).symm.trans H; rw [hy134]; with_reducible exact H2_) | (have H2_ := (Option.bind_some _ _).symm.trans H; with_reducible exact H2_) | with_reducible exact H | (rw [hy134]; exact H) | exact H
                        have Ny134 := Aside0.mk hy134
                        clear hy134
                        have H' := Aside0.mk H
                        clear H
                        have hcz15_0 : wr.cell? ⟨gb132, 0, none⟩ = some (.string t124) := (blk_cell BK132.out 0).trans rfl
                        have hcz15_1 : wr.cell? ⟨gb132, 1, none⟩ = some (.int .i64 t125) := (blk_cell BK132.out 1).trans rfl
                        have hcz15_2 : wr.cell? ⟨gb132, 2, none⟩ = some (.int .i64 t126) := (blk_cell BK132.out 2).trans rfl
                        have hcz15_3 : wr.cell? ⟨gb132, 3, none⟩ = some (.int .i64 t127) := (blk_cell BK132.out 3).trans rfl
                        have hcz15_4 : wr.cell? ⟨gb132, 4, none⟩ = some (.int .i64 t128) := (blk_cell BK132.out 4).trans rfl
                        have hcz15_5 : wr.cell? ⟨gb132, 5, none⟩ = some (.int .i64 t129) := (blk_cell BK132.out 5).trans rfl
                        have hcz15_6 : wr.cell? ⟨gb132, 6, none⟩ = some (.bool t130) := (blk_cell BK132.out 6).trans rfl
                        have hfz15_0 := blk_frozen BK132.out 0
                        have hfz15_1 := blk_frozen BK132.out 1
                        have hfz15_2 := blk_frozen BK132.out 2
                        have hfz15_3 := blk_frozen BK132.out 3
                        have hfz15_4 := blk_frozen BK132.out 4
                        have hfz15_5 := blk_frozen BK132.out 5
                        have hfz15_6 := blk_frozen BK132.out 6
                        have p133 : 0 ≤ (x6_1 : Int) := of_decide_eq_true (by first | (with_reducible assumption) | assumption)
                        have q133 : x6_1 < (l0.length : Int) := of_decide_eq_true (by first | (with_reducible assumption) | assumption)
                        obtain ⟨ad133, e133, hx133_0⟩ := Kd.at_string HR0.out x6_1 p133 q133
                        cases e133
                        replace hx133_0 := (HB.out.cell (World.block_lt_of_cell? w _ hx133_0)).trans hx133_0
                        replace p133 := eq_true p133
                        replace q133 := eq_true q133
                        go_wp2_with (first | ((with_reducible refine gate_builtin (b := .append) (xs := #[.tmp 54, .tmp 59]) rfl ?_); at_builtin; refine Kd.R_append Kd.string (w0 := w) w.heap.size rfl (.tmp 54) (.tmp 59) 26 9 (.string ⟨#[]⟩) 16 rfl Tryz.underlying26 info9 rfl (by decide) (by omega) u3 x3_1 (rdOf ByteArray.empty l0 x6_1) [.string (rdOf ByteArray.empty l0 x6_1)] (fun _ => True) (fun _ => False) rfl rfl ?aP (fun _ hk => hk.elim) ?aF ?aO ?aB ?aS ?aL ?_; (case aP => exact rfl); (case aB => exact (by repeat (first | (with_reducible first | exact HB.out | apply below_alloc | apply pw_below_drewN | apply below_drew1 | refine below_set ?_ GE132.out) | exact HB.out))); (case aF => exact (fun _ _ => trivial)); (case aO => exact (by (with_reducible repeat (first | apply Kd.R_alloc | apply Kd.R_drewN | apply Kd.R_drew)); exact HO_3.out)); (case aS => exact (below_size (by repeat (first | (with_reducible first | exact HB.out | apply below_alloc | apply pw_below_drewN | apply below_drew1 | refine below_set ?_ GE132.out) | exact HB.out)))); (case aL => have := LMc14.out; omega); intro v135 w16 ho hb hg hat; rw [← Ny134.out] at ho; have n0_ := Aside0.mk (blk_grown (g := gb132) (o := .cells #[.string t124, .int .i64 t125, .int .i64 t126, .int .i64 t127, .int .i64 t128, .int .i64 t129, .bool t130] 84 (0, 0)) (by (with_reducible repeat (first | refine blk_drewN ?_ _ | refine blk_drew ?_ | refine blk_alloc ?_ _)); exact BK132.out) hg (Kd.R_ne HO_3.out BK132.out (by decide))); have n1_ := Aside0.mk (hb); have n2_ := Aside0.mk (ho); clear BK132; clear HB; clear HO_3; have BK132 := n0_; have HB := n1_; have HO136 := n2_; clear n0_ n1_ n2_; clear ho hb hg hat))
                        go_roundg k1
                        case measure => have := HK1.out; omega
                        case rel => exact ⟨(y134), (wrap64 (x6_1 + 1)), (by first | rfl | (simp; done) | (simp [*]; done)), H', ⟨by have := HK1.out; omega⟩, ⟨by (with_reducible repeat (first | apply Kd.R_alloc | apply Kd.R_drewN | apply Kd.R_drew)); exact HO136.out⟩, ⟨by (with_reducible repeat (first | refine blk_drewN ?_ _ | refine blk_drew ?_ | refine blk_alloc ?_ _)); exact BK132.out⟩, ⟨by repeat (first | (with_reducible first | exact HB.out | apply below_alloc | apply pw_below_drewN | apply below_drew1 | refine below_set ?_ GE132.out) | exact HB.out)⟩⟩
                      · rw [if_neg c14] at H
                        exact absurd H (by simp)
                    · rw [if_neg c13] at H
                      exact absurd H (by simp)
                  · rw [if_neg c12] at H
                    have c12b0 : ((Int.tmod (wrap64 (x6_1 - t127)) t129) == 0) = false := beq_eq_false_iff_ne.mpr c12
                    have c12b1 : ((Int.tmod (wrap64 (x6_1 - t127)) t129) != 0) = true := bne_iff_ne.mpr c12
                    have H' := Aside0.mk H
                    clear H
                    have hcz17_0 : wr.cell? ⟨gb132, 0, none⟩ = some (.string t124) := (blk_cell BK132.out 0).trans rfl
                    have hcz17_1 : wr.cell? ⟨gb132, 1, none⟩ = some (.int .i64 t125) := (blk_cell BK132.out 1).trans rfl
                    have hcz17_2 : wr.cell? ⟨gb132, 2, none⟩ = some (.int .i64 t126) := (blk_cell BK132.out 2).trans rfl
                    have hcz17_3 : wr.cell? ⟨gb132, 3, none⟩ = some (.int .i64 t127) := (blk_cell BK132.out 3).trans rfl
                    have hcz17_4 : wr.cell? ⟨gb132, 4, none⟩ = some (.int .i64 t128) := (blk_cell BK132.out 4).trans rfl
                    have hcz17_5 : wr.cell? ⟨gb132, 5, none⟩ = some (.int .i64 t129) := (blk_cell BK132.out 5).trans rfl
                    have hcz17_6 : wr.cell? ⟨gb132, 6, none⟩ = some (.bool t130) := (blk_cell BK132.out 6).trans rfl
                    have hfz17_0 := blk_frozen BK132.out 0
                    have hfz17_1 := blk_frozen BK132.out 1
                    have hfz17_2 := blk_frozen BK132.out 2
                    have hfz17_3 := blk_frozen BK132.out 3
                    have hfz17_4 := blk_frozen BK132.out 4
                    have hfz17_5 := blk_frozen BK132.out 5
                    have hfz17_6 := blk_frozen BK132.out 6
                    go_wp2
                    go_roundg k1
                    case measure => have := HK1.out; omega
                    case rel => exact ⟨(x3_1), (wrap64 (x6_1 + 1)), (by first | rfl | (simp; done) | (simp [*]; done)), H', ⟨by have := HK1.out; omega⟩, ⟨by (with_reducible repeat (first | apply Kd.R_alloc | apply Kd.R_drewN | apply Kd.R_drew)); exact HO_3.out⟩, ⟨by (with_reducible repeat (first | refine blk_drewN ?_ _ | refine blk_drew ?_ | refine blk_alloc ?_ _)); exact BK132.out⟩, ⟨by repeat (first | (with_reducible first | exact HB.out | apply below_alloc | apply pw_below_drewN | apply below_drew1 | refine below_set ?_ GE132.out) | exact HB.out)⟩⟩
              · rw [if_neg c10] at H
                have c10b0 : decide (t127 ≤ x6_1) = false := decide_eq_false c10
                clear c10
                have H' := Aside0.mk H
                clear H
                have hcz18_0 : wr.cell? ⟨gb132, 0, none⟩ = some (.string t124) := (blk_cell BK132.out 0).trans rfl
                have hcz18_1 : wr.cell? ⟨gb132, 1, none⟩ = some (.int .i64 t125) := (blk_cell BK132.out 1).trans rfl
                have hcz18_2 : wr.cell? ⟨gb132, 2, none⟩ = some (.int .i64 t126) := (blk_cell BK132.out 2).trans rfl
                have hcz18_3 : wr.cell? ⟨gb132, 3, none⟩ = some (.int .i64 t127) := (blk_cell BK132.out 3).trans rfl
                have hcz18_4 : wr.cell? ⟨gb132, 4, none⟩ = some (.int .i64 t128) := (blk_cell BK132.out 4).trans rfl
                have hcz18_5 : wr.cell? ⟨gb132, 5, none⟩ = some (.int .i64 t129) := (blk_cell BK132.out 5).trans rfl
                have hcz18_6 : wr.cell? ⟨gb132, 6, none⟩ = some (.bool t130) := (blk_cell BK132.out 6).trans rfl
                have hfz18_0 := blk_frozen BK132.out 0
                have hfz18_1 := blk_frozen BK132.out 1
                have hfz18_2 := blk_frozen BK132.out 2
                have hfz18_3 := blk_frozen BK132.out 3
                have hfz18_4 := blk_frozen BK132.out 4
                have hfz18_5 := blk_frozen BK132.out 5
                have hfz18_6 := blk_frozen BK132.out 6
                go_wp2
                go_roundg k1
                case measure => have := HK1.out; omega
                case rel => exact ⟨(x3_1), (wrap64 (x6_1 + 1)), (by first | rfl | (simp; done) | (simp [*]; done)), H', ⟨by have := HK1.out; omega⟩, ⟨by (with_reducible repeat (first | apply Kd.R_alloc | apply Kd.R_drewN | apply Kd.R_drew)); exact HO_3.out⟩, ⟨by (with_reducible repeat (first | refine blk_drewN ?_ _ | refine blk_drew ?_ | refine blk_alloc ?_ _)); exact BK132.out⟩, ⟨by repeat (first | (with_reducible first | exact HB.out | apply below_alloc | apply pw_below_drewN | apply below_drew1 | refine below_set ?_ GE132.out) | exact HB.out)⟩⟩
            · rw [if_neg c9] at H
              have c9b0 : decide (0 < t127) = false := decide_eq_false c9
              clear c9
              have H' := Aside0.mk H
              clear H
              have hcz19_0 : wr.cell? ⟨gb132, 0, none⟩ = some (.string t124) := (blk_cell BK132.out 0).trans rfl
              have hcz19_1 : wr.cell? ⟨gb132, 1, none⟩ = some (.int .i64 t125) := (blk_cell BK132.out 1).trans rfl
              have hcz19_2 : wr.cell? ⟨gb132, 2, none⟩ = some (.int .i64 t126) := (blk_cell BK132.out 2).trans rfl
              have hcz19_3 : wr.cell? ⟨gb132, 3, none⟩ = some (.int .i64 t127) := (blk_cell BK132.out 3).trans rfl
              have hcz19_4 : wr.cell? ⟨gb132, 4, none⟩ = some (.int .i64 t128) := (blk_cell BK132.out 4).trans rfl
              have hcz19_5 : wr.cell? ⟨gb132, 5, none⟩ = some (.int .i64 t129) := (blk_cell BK132.out 5).trans rfl
              have hcz19_6 : wr.cell? ⟨gb132, 6, none⟩ = some (.bool t130) := (blk_cell BK132.out 6).trans rfl
              have hfz19_0 := blk_frozen BK132.out 0
              have hfz19_1 := blk_frozen BK132.out 1
              have hfz19_2 := blk_frozen BK132.out 2
              have hfz19_3 := blk_frozen BK132.out 3
              have hfz19_4 := blk_frozen BK132.out 4
              have hfz19_5 := blk_frozen BK132.out 5
              have hfz19_6 := blk_frozen BK132.out 6
              go_wp2
              go_roundg k1
              case measure => have := HK1.out; omega
              case rel => exact ⟨(x3_1), (wrap64 (x6_1 + 1)), (by first | rfl | (simp; done) | (simp [*]; done)), H', ⟨by have := HK1.out; omega⟩, ⟨by (with_reducible repeat (first | apply Kd.R_alloc | apply Kd.R_drewN | apply Kd.R_drew)); exact HO_3.out⟩, ⟨by (with_reducible repeat (first | refine blk_drewN ?_ _ | refine blk_drew ?_ | refine blk_alloc ?_ _)); exact BK132.out⟩, ⟨by repeat (first | (with_reducible first | exact HB.out | apply below_alloc | apply pw_below_drewN | apply below_drew1 | refine below_set ?_ GE132.out) | exact HB.out)⟩⟩
          · rw [if_neg c8] at H
            have c8b0 : (t131 == 0) = false := beq_eq_false_iff_ne.mpr c8
            have c8b1 : (t131 != 0) = true := bne_iff_ne.mpr c8
            have H' := Aside0.mk H
            clear H
            have hcz20_0 : wr.cell? ⟨gb132, 0, none⟩ = some (.string t124) := (blk_cell BK132.out 0).trans rfl
            have hcz20_1 : wr.cell? ⟨gb132, 1, none⟩ = some (.int .i64 t125) := (blk_cell BK132.out 1).trans rfl
            have hcz20_2 : wr.cell? ⟨gb132, 2, none⟩ = some (.int .i64 t126) := (blk_cell BK132.out 2).trans rfl
            have hcz20_3 : wr.cell? ⟨gb132, 3, none⟩ = some (.int .i64 t127) := (blk_cell BK132.out 3).trans rfl
            have hcz20_4 : wr.cell? ⟨gb132, 4, none⟩ = some (.int .i64 t128) := (blk_cell BK132.out 4).trans rfl
            have hcz20_5 : wr.cell? ⟨gb132, 5, none⟩ = some (.int .i64 t129) := (blk_cell BK132.out 5).trans rfl
            have hcz20_6 : wr.cell? ⟨gb132, 6, none⟩ = some (.bool t130) := (blk_cell BK132.out 6).trans rfl
            have hfz20_0 := blk_frozen BK132.out 0
            have hfz20_1 := blk_frozen BK132.out 1
            have hfz20_2 := blk_frozen BK132.out 2
            have hfz20_3 := blk_frozen BK132.out 3
            have hfz20_4 := blk_frozen BK132.out 4
            have hfz20_5 := blk_frozen BK132.out 5
            have hfz20_6 := blk_frozen BK132.out 6
            go_wp2
            go_roundg k1
            case measure => have := HK1.out; omega
            case rel => exact ⟨(x3_1), (wrap64 (x6_1 + 1)), (by first | rfl | (simp; done) | (simp [*]; done)), H', ⟨by have := HK1.out; omega⟩, ⟨by (with_reducible repeat (first | apply Kd.R_alloc | apply Kd.R_drewN | apply Kd.R_drew)); exact HO_3.out⟩, ⟨by (with_reducible repeat (first | refine blk_drewN ?_ _ | refine blk_drew ?_ | refine blk_alloc ?_ _)); exact BK132.out⟩, ⟨by repeat (first | (with_reducible first | exact HB.out | apply below_alloc | apply pw_below_drewN | apply below_drew1 | refine below_set ?_ GE132.out) | exact HB.out)⟩⟩
        · rw [if_neg c7] at H
          have c7b0 : decide (x6_1 ≤ t128) = false := decide_eq_false c7
          clear c7
          by_cases c21 : t131 = 0
          · rw [if_pos c21] at H
            have c21b0 : (t131 == 0) = true := beq_iff_eq.mpr c21
            have c21b1 : (t131 != 0) = false := bne_eq_false_iff_eq.mpr c21
            clear c21
            by_cases c22 : t127 > 0
            · rw [if_pos c22] at H
              have c22b0 : decide (0 < t127) = true := decide_eq_true c22
              clear c22
              by_cases c23 : x6_1 ≥ t127
              · rw [if_pos c23] at H
                have c23b0 : decide (t127 ≤ x6_1) = true := decide_eq_true c23
                clear c23
                by_cases c24 : t128 = (-1)
                · rw [if_pos c24] at H
                  have c24b0 : (t128 == (-1)) = true := beq_iff_eq.mpr c24
                  have c24b1 : (t128 != (-1)) = false := bne_eq_false_iff_eq.mpr c24
                  clear c24
                  by_cases c25 : t129 = 0
                  · rw [if_pos c25] at H
                    exact absurd H (by simp)
                  · rw [if_neg c25] at H
                    have c25b0 : (t129 == 0) = false := beq_eq_false_iff_ne.mpr c25
                    have c25b1 : (t129 != 0) = true := bne_iff_ne.mpr c25
                    by_cases c26 : (Int.tmod (wrap64 (x6_1 - t127)) t129) = 0
                    · rw [if_pos c26] at H
                      have c26b0 : ((Int.tmod (wrap64 (x6_1 - t127)) t129) == 0) = true := beq_iff_eq.mpr c26
                      have c26b1 : ((Int.tmod (wrap64 (x6_1 - t127)) t129) != 0) = false := bne_eq_false_iff_eq.mpr c26
                      clear c26
                      by_cases c27 : 0 ≤ x6_1
                      · rw [if_pos c27] at H
                        have c27b0 : decide (0 ≤ x6_1) = true := decide_eq_true c27
                        clear c27
                        by_cases c28 : x3_1.length < 8796093022208
                        · rw [if_pos c28] at H
                          have LMc28 := Aside0.mk c28
                          clear c28
                          obtain ⟨y138, hy138⟩ : ∃ y_ : List ByteArray, y_ = (x3_1 ++ [rdOf ByteArray.empty l0 x6_1]) := ⟨_, rfl⟩
                          replace H : (marshalyardref12_Keys.l0 k1 l0 y138 t131 (wrap64 (x6_1 + 1)) t124 t125 t126 t127 t128 t129 t130) = some r := by first | (rw [hy138]; with_reducible exact H) | (have H2_ := (Option.bind_some _ _).symm.trans H; rw [hy138]; with_reducible exact H2_) | (have H2_ := (Option.bind_some _ _).symm.trans H; with_reducible exact H2_) | with_reducible exact H | (rw [hy138]; exact H) | exact H
                          have Ny138 := Aside0.mk hy138
                          clear hy138
                          have H' := Aside0.mk H
                          clear H
                          have hcz29_0 : wr.cell? ⟨gb132, 0, none⟩ = some (.string t124) := (blk_cell BK132.out 0).trans rfl
                          have hcz29_1 : wr.cell? ⟨gb132, 1, none⟩ = some (.int .i64 t125) := (blk_cell BK132.out 1).trans rfl
                          have hcz29_2 : wr.cell? ⟨gb132, 2, none⟩ = some (.int .i64 t126) := (blk_cell BK132.out 2).trans rfl
                          have hcz29_3 : wr.cell? ⟨gb132, 3, none⟩ = some (.int .i64 t127) := (blk_cell BK132.out 3).trans rfl
                          have hcz29_4 : wr.cell? ⟨gb132, 4, none⟩ = some (.int .i64 t128) := (blk_cell BK132.out 4).trans rfl
                          have hcz29_5 : wr.cell? ⟨gb132, 5, none⟩ = some (.int .i64 t129) := (blk_cell BK132.out 5).trans rfl
                          have hcz29_6 : wr.cell? ⟨gb132, 6, none⟩ = some (.bool t130) := (blk_cell BK132.out 6).trans rfl
                          have hfz29_0 := blk_frozen BK132.out 0
                          have hfz29_1 := blk_frozen BK132.out 1
                          have hfz29_2 := blk_frozen BK132.out 2
                          have hfz29_3 := blk_frozen BK132.out 3
                          have hfz29_4 := blk_frozen BK132.out 4
                          have hfz29_5 := blk_frozen BK132.out 5
                          have hfz29_6 := blk_frozen BK132.out 6
                          have p137 : 0 ≤ (x6_1 : Int) := of_decide_eq_true (by first | (with_reducible assumption) | assumption)
                          have q137 : x6_1 < (l0.length : Int) := of_decide_eq_true (by first | (with_reducible assumption) | assumption)
                          obtain ⟨ad137, e137, hx137_0⟩ := Kd.at_string HR0.out x6_1 p137 q137
                          cases e137
                          replace hx137_0 := (HB.out.cell (World.block_lt_of_cell? w _ hx137_0)).trans hx137_0
                          replace p137 := eq_true p137
                          replace q137 := eq_true q137
                          go_wp2_with (first | ((with_reducible refine gate_builtin (b := .append) (xs := #[.tmp 54, .tmp 59]) rfl ?_); at_builtin; refine Kd.R_append Kd.string (w0 := w) w.heap.size rfl (.tmp 54) (.tmp 59) 26 9 (.string ⟨#[]⟩) 16 rfl Tryz.underlying26 info9 rfl (by decide) (by omega) u3 x3_1 (rdOf ByteArray.empty l0 x6_1) [.string (rdOf ByteArray.empty l0 x6_1)] (fun _ => True) (fun _ => False) rfl rfl ?aP (fun _ hk => hk.elim) ?aF ?aO ?aB ?aS ?aL ?_; (case aP => exact rfl); (case aB => exact (by repeat (first | (with_reducible first | exact HB.out | apply below_alloc | apply pw_below_drewN | apply below_drew1 | refine below_set ?_ GE132.out) | exact HB.out))); (case aF => exact (fun _ _ => trivial)); (case aO => exact (by (with_reducible repeat (first | apply Kd.R_alloc | apply Kd.R_drewN | apply Kd.R_drew)); exact HO_3.out)); (case aS => exact (below_size (by repeat (first | (with_reducible first | exact HB.out | apply below_alloc | apply pw_below_drewN | apply below_drew1 | refine below_set ?_ GE132.out) | exact HB.out)))); (case aL => have := LMc28.out; omega); intro v139 w30 ho hb hg hat; rw [← Ny138.out] at ho; have n0_ := Aside0.mk (blk_grown (g := gb132) (o := .cells #[.string t124, .int .i64 t125, .int .i64 t126, .int .i64 t127, .int .i64 t128, .int .i64 t129, .bool t130] 84 (0, 0)) (by (with_reducible repeat (first | refine blk_drewN ?_ _ | refine blk_drew ?_ | refine blk_alloc ?_ _)); exact BK132.out) hg (Kd.R_ne HO_3.out BK132.out (by decide))); have n1_ := Aside0.mk (hb); have n2_ := Aside0.mk (ho); clear BK132; clear HB; clear HO_3; have BK132 := n0_; have HB := n1_; have HO140 := n2_; clear n0_ n1_ n2_; clear ho hb hg hat))
                          go_roundg k1
                          case measure => have := HK1.out; omega
                          case rel => exact ⟨(y138), (wrap64 (x6_1 + 1)), (by first | rfl | (simp; done) | (simp [*]; done)), H', ⟨by have := HK1.out; omega⟩, ⟨by (with_reducible repeat (first | apply Kd.R_alloc | apply Kd.R_drewN | apply Kd.R_drew)); exact HO140.out⟩, ⟨by (with_reducible repeat (first | refine blk_drewN ?_ _ | refine blk_drew ?_ | refine blk_alloc ?_ _)); exact BK132.out⟩, ⟨by repeat (first | (with_reducible first | exact HB.out | apply below_alloc | apply pw_below_drewN | apply below_drew1 | refine below_set ?_ GE132.out) | exact HB.out)⟩⟩
                        · rw [if_neg c28] at H
                          exact absurd H (by simp)
                      · rw [if_neg c27] at H
                        exact absurd H (by simp)
                    · rw [if_neg c26] at H
                      have c26b0 : ((Int.tmod (wrap64 (x6_1 - t127)) t129) == 0) = false := beq_eq_false_iff_ne.mpr c26
                      have c26b1 : ((Int.tmod (wrap64 (x6_1 - t127)) t129) != 0) = true := bne_iff_ne.mpr c26
                      have H' := Aside0.mk H
                      clear H
                      have hcz31_0 : wr.cell? ⟨gb132, 0, none⟩ = some (.string t124) := (blk_cell BK132.out 0).trans rfl
                      have hcz31_1 : wr.cell? ⟨gb132, 1, none⟩ = some (.int .i64 t125) := (blk_cell BK132.out 1).trans rfl
                      have hcz31_2 : wr.cell? ⟨gb132, 2, none⟩ = some (.int .i64 t126) := (blk_cell BK132.out 2).trans rfl
                      have hcz31_3 : wr.cell? ⟨gb132, 3, none⟩ = some (.int .i64 t127) := (blk_cell BK132.out 3).trans rfl
                      have hcz31_4 : wr.cell? ⟨gb132, 4, none⟩ = some (.int .i64 t128) := (blk_cell BK132.out 4).trans rfl
                      have hcz31_5 : wr.cell? ⟨gb132, 5, none⟩ = some (.int .i64 t129) := (blk_cell BK132.out 5).trans rfl
                      have hcz31_6 : wr.cell? ⟨gb132, 6, none⟩ = some (.bool t130) := (blk_cell BK132.out 6).trans rfl
                      have hfz31_0 := blk_frozen BK132.out 0
                      have hfz31_1 := blk_frozen BK132.out 1
                      have hfz31_2 := blk_frozen BK132.out 2
                      have hfz31_3 := blk_frozen BK132.out 3
                      have hfz31_4 := blk_frozen BK132.out 4
                      have hfz31_5 := blk_frozen BK132.out 5
                      have hfz31_6 := blk_frozen BK132.out 6
                      go_wp2
                      go_roundg k1
                      case measure => have := HK1.out; omega
                      case rel => exact ⟨(x3_1), (wrap64 (x6_1 + 1)), (by first | rfl | (simp; done) | (simp [*]; done)), H', ⟨by have := HK1.out; omega⟩, ⟨by (with_reducible repeat (first | apply Kd.R_alloc | apply Kd.R_drewN | apply Kd.R_drew)); exact HO_3.out⟩, ⟨by (with_reducible repeat (first | refine blk_drewN ?_ _ | refine blk_drew ?_ | refine blk_alloc ?_ _)); exact BK132.out⟩, ⟨by repeat (first | (with_reducible first | exact HB.out | apply below_alloc | apply pw_below_drewN | apply below_drew1 | refine below_set ?_ GE132.out) | exact HB.out)⟩⟩
                · rw [if_neg c24] at H
                  have c24b0 : (t128 == (-1)) = false := beq_eq_false_iff_ne.mpr c24
                  have c24b1 : (t128 != (-1)) = true := bne_iff_ne.mpr c24
                  have H' := Aside0.mk H
                  clear H
                  have hcz32_0 : wr.cell? ⟨gb132, 0, none⟩ = some (.string t124) := (blk_cell BK132.out 0).trans rfl
                  have hcz32_1 : wr.cell? ⟨gb132, 1, none⟩ = some (.int .i64 t125) := (blk_cell BK132.out 1).trans rfl
                  have hcz32_2 : wr.cell? ⟨gb132, 2, none⟩ = some (.int .i64 t126) := (blk_cell BK132.out 2).trans rfl
                  have hcz32_3 : wr.cell? ⟨gb132, 3, none⟩ = some (.int .i64 t127) := (blk_cell BK132.out 3).trans rfl
                  have hcz32_4 : wr.cell? ⟨gb132, 4, none⟩ = some (.int .i64 t128) := (blk_cell BK132.out 4).trans rfl
                  have hcz32_5 : wr.cell? ⟨gb132, 5, none⟩ = some (.int .i64 t129) := (blk_cell BK132.out 5).trans rfl
                  have hcz32_6 : wr.cell? ⟨gb132, 6, none⟩ = some (.bool t130) := (blk_cell BK132.out 6).trans rfl
                  have hfz32_0 := blk_frozen BK132.out 0
                  have hfz32_1 := blk_frozen BK132.out 1
                  have hfz32_2 := blk_frozen BK132.out 2
                  have hfz32_3 := blk_frozen BK132.out 3
                  have hfz32_4 := blk_frozen BK132.out 4
                  have hfz32_5 := blk_frozen BK132.out 5
                  have hfz32_6 := blk_frozen BK132.out 6
                  go_wp2
                  go_roundg k1
                  case measure => have := HK1.out; omega
                  case rel => exact ⟨(x3_1), (wrap64 (x6_1 + 1)), (by first | rfl | (simp; done) | (simp [*]; done)), H', ⟨by have := HK1.out; omega⟩, ⟨by (with_reducible repeat (first | apply Kd.R_alloc | apply Kd.R_drewN | apply Kd.R_drew)); exact HO_3.out⟩, ⟨by (with_reducible repeat (first | refine blk_drewN ?_ _ | refine blk_drew ?_ | refine blk_alloc ?_ _)); exact BK132.out⟩, ⟨by repeat (first | (with_reducible first | exact HB.out | apply below_alloc | apply pw_below_drewN | apply below_drew1 | refine below_set ?_ GE132.out) | exact HB.out)⟩⟩
              · rw [if_neg c23] at H
                have c23b0 : decide (t127 ≤ x6_1) = false := decide_eq_false c23
                clear c23
                have H' := Aside0.mk H
                clear H
                have hcz33_0 : wr.cell? ⟨gb132, 0, none⟩ = some (.string t124) := (blk_cell BK132.out 0).trans rfl
                have hcz33_1 : wr.cell? ⟨gb132, 1, none⟩ = some (.int .i64 t125) := (blk_cell BK132.out 1).trans rfl
                have hcz33_2 : wr.cell? ⟨gb132, 2, none⟩ = some (.int .i64 t126) := (blk_cell BK132.out 2).trans rfl
                have hcz33_3 : wr.cell? ⟨gb132, 3, none⟩ = some (.int .i64 t127) := (blk_cell BK132.out 3).trans rfl
                have hcz33_4 : wr.cell? ⟨gb132, 4, none⟩ = some (.int .i64 t128) := (blk_cell BK132.out 4).trans rfl
                have hcz33_5 : wr.cell? ⟨gb132, 5, none⟩ = some (.int .i64 t129) := (blk_cell BK132.out 5).trans rfl
                have hcz33_6 : wr.cell? ⟨gb132, 6, none⟩ = some (.bool t130) := (blk_cell BK132.out 6).trans rfl
                have hfz33_0 := blk_frozen BK132.out 0
                have hfz33_1 := blk_frozen BK132.out 1
                have hfz33_2 := blk_frozen BK132.out 2
                have hfz33_3 := blk_frozen BK132.out 3
                have hfz33_4 := blk_frozen BK132.out 4
                have hfz33_5 := blk_frozen BK132.out 5
                have hfz33_6 := blk_frozen BK132.out 6
                go_wp2
                go_roundg k1
                case measure => have := HK1.out; omega
                case rel => exact ⟨(x3_1), (wrap64 (x6_1 + 1)), (by first | rfl | (simp; done) | (simp [*]; done)), H', ⟨by have := HK1.out; omega⟩, ⟨by (with_reducible repeat (first | apply Kd.R_alloc | apply Kd.R_drewN | apply Kd.R_drew)); exact HO_3.out⟩, ⟨by (with_reducible repeat (first | refine blk_drewN ?_ _ | refine blk_drew ?_ | refine blk_alloc ?_ _)); exact BK132.out⟩, ⟨by repeat (first | (with_reducible first | exact HB.out | apply below_alloc | apply pw_below_drewN | apply below_drew1 | refine below_set ?_ GE132.out) | exact HB.out)⟩⟩
            · rw [if_neg c22] at H
              have c22b0 : decide (0 < t127) = false := decide_eq_false c22
              clear c22
              have H' := Aside0.mk H
              clear H
              have hcz34_0 : wr.cell? ⟨gb132, 0, none⟩ = some (.string t124) := (blk_cell BK132.out 0).trans rfl
              have hcz34_1 : wr.cell? ⟨gb132, 1, none⟩ = some (.int .i64 t125) := (blk_cell BK132.out 1).trans rfl
              have hcz34_2 : wr.cell? ⟨gb132, 2, none⟩ = some (.int .i64 t126) := (blk_cell BK132.out 2).trans rfl
              have hcz34_3 : wr.cell? ⟨gb132, 3, none⟩ = some (.int .i64 t127) := (blk_cell BK132.out 3).trans rfl
              have hcz34_4 : wr.cell? ⟨gb132, 4, none⟩ = some (.int .i64 t128) := (blk_cell BK132.out 4).trans rfl
              have hcz34_5 : wr.cell? ⟨gb132, 5, none⟩ = some (.int .i64 t129) := (blk_cell BK132.out 5).trans rfl
              have hcz34_6 : wr.cell? ⟨gb132, 6, none⟩ = some (.bool t130) := (blk_cell BK132.out 6).trans rfl
              have hfz34_0 := blk_frozen BK132.out 0
              have hfz34_1 := blk_frozen BK132.out 1
              have hfz34_2 := blk_frozen BK132.out 2
              have hfz34_3 := blk_frozen BK132.out 3
              have hfz34_4 := blk_frozen BK132.out 4
              have hfz34_5 := blk_frozen BK132.out 5
              have hfz34_6 := blk_frozen BK132.out 6
              go_wp2
              go_roundg k1
              case measure => have := HK1.out; omega
              case rel => exact ⟨(x3_1), (wrap64 (x6_1 + 1)), (by first | rfl | (simp; done) | (simp [*]; done)), H', ⟨by have := HK1.out; omega⟩, ⟨by (with_reducible repeat (first | apply Kd.R_alloc | apply Kd.R_drewN | apply Kd.R_drew)); exact HO_3.out⟩, ⟨by (with_reducible repeat (first | refine blk_drewN ?_ _ | refine blk_drew ?_ | refine blk_alloc ?_ _)); exact BK132.out⟩, ⟨by repeat (first | (with_reducible first | exact HB.out | apply below_alloc | apply pw_below_drewN | apply below_drew1 | refine below_set ?_ GE132.out) | exact HB.out)⟩⟩
          · rw [if_neg c21] at H
            have c21b0 : (t131 == 0) = false := beq_eq_false_iff_ne.mpr c21
            have c21b1 : (t131 != 0) = true := bne_iff_ne.mpr c21
            have H' := Aside0.mk H
            clear H
            have hcz35_0 : wr.cell? ⟨gb132, 0, none⟩ = some (.string t124) := (blk_cell BK132.out 0).trans rfl
            have hcz35_1 : wr.cell? ⟨gb132, 1, none⟩ = some (.int .i64 t125) := (blk_cell BK132.out 1).trans rfl
            have hcz35_2 : wr.cell? ⟨gb132, 2, none⟩ = some (.int .i64 t126) := (blk_cell BK132.out 2).trans rfl
            have hcz35_3 : wr.cell? ⟨gb132, 3, none⟩ = some (.int .i64 t127) := (blk_cell BK132.out 3).trans rfl
            have hcz35_4 : wr.cell? ⟨gb132, 4, none⟩ = some (.int .i64 t128) := (blk_cell BK132.out 4).trans rfl
            have hcz35_5 : wr.cell? ⟨gb132, 5, none⟩ = some (.int .i64 t129) := (blk_cell BK132.out 5).trans rfl
            have hcz35_6 : wr.cell? ⟨gb132, 6, none⟩ = some (.bool t130) := (blk_cell BK132.out 6).trans rfl
            have hfz35_0 := blk_frozen BK132.out 0
            have hfz35_1 := blk_frozen BK132.out 1
            have hfz35_2 := blk_frozen BK132.out 2
            have hfz35_3 := blk_frozen BK132.out 3
            have hfz35_4 := blk_frozen BK132.out 4
            have hfz35_5 := blk_frozen BK132.out 5
            have hfz35_6 := blk_frozen BK132.out 6
            go_wp2
            go_roundg k1
            case measure => have := HK1.out; omega
            case rel => exact ⟨(x3_1), (wrap64 (x6_1 + 1)), (by first | rfl | (simp; done) | (simp [*]; done)), H', ⟨by have := HK1.out; omega⟩, ⟨by (with_reducible repeat (first | apply Kd.R_alloc | apply Kd.R_drewN | apply Kd.R_drew)); exact HO_3.out⟩, ⟨by (with_reducible repeat (first | refine blk_drewN ?_ _ | refine blk_drew ?_ | refine blk_alloc ?_ _)); exact BK132.out⟩, ⟨by repeat (first | (with_reducible first | exact HB.out | apply below_alloc | apply pw_below_drewN | apply below_drew1 | refine below_set ?_ GE132.out) | exact HB.out)⟩⟩
      · rw [if_neg c6] at H
        have c6b0 : decide (x6_1 < (l0.length : Int)) = false := decide_eq_false c6
        clear c6
        obtain rfl := Option.some.inj H
        go_wp2
        go_ret
        exact ⟨_, by first | rfl | (simp [errW_none, errW_some] <;> rfl) | (simp [*, errW_none, errW_some] <;> rfl), by (with_reducible repeat (first | apply Kd.R_alloc | apply Kd.R_drewN | apply Kd.R_drew)); exact HO_3.out, by repeat (first | (with_reducible first | exact HB.out | apply below_alloc | apply pw_below_drewN | apply below_drew1 | refine below_set ?_ GE132.out) | exact HB.out)⟩

end Go.Proofs.YtpbiohnmmngccaaGreatDoor.RAl
