/- A line's number; a line's words. Conditions: the listed variables as laid; texts within the machine's reach. -/
import Derived.Test.YtmdekodoicnmbaaDoorRsC
set_option linter.unusedVariables false
set_option linter.unusedSimpArgs false
namespace Go.Proofs.YtmdekodoicnmbaaDoor
open Go.RowKit Go.Proofs.YtmdekodoicnmbaaDoorW.PrintWords
def crlf : List UInt8 := [13, 10]
/-- the number of a line, behind its first sign -/
def numV (l : List UInt8) (most : Int) : Int :=
  let t := l.drop 1
  let s := cutS t crlf
  match Lib.atoiAll s with
  | .ok v => if Lib.hasSuffix t crlf && decide (v ≤ most) && decide (Lib.itoa v = s) then v else -1
  | _ => -1
theorem cutS_len (l p : List UInt8) : (cutS l p).length ≤ l.length := by
  unfold cutS
  split
  · simp
  · exact Nat.le_refl _
set_option maxHeartbeats 4000000 in
set_option maxRecDepth 100000 in
theorem number_calls (A : Option Addr) (c : Nat) (l : List UInt8) (most : Int) (h1 : 1 ≤ l.length) (hs : l.length ≤ 140737488351232) (w : World) (h : RdB w A c l) (hE : Env w) :
    Calls Tryd.prog 22 #[.slice A l.length c, .int .i64 most] w fun e w' => e = .returned (.int .i64 (numV l most)) ∧ Below w.heap.size w w' := by
  obtain ⟨A', hcut, hr⟩ := cut_from A c l 1 h1 h.1
  have hcut1 : ∀ W : World, (Instr.slice 26 (.slice A l.length c) (some (.int .i64 1)) none none).run Tryd.prog W = .ok (.slice A' (l.length - 1) (c - 1)) W := hcut
  have hrd := hr w h
  clear hcut
  have hl1 : (1 : Int) ≤ (l.length : Int) := by omega
  have hconv := conv_str hrd
  rw [List.length_drop] at hconv
  have hC := fun W => cutS_calls ⟨(l.drop 1).toArray⟩ ⟨#[13, 10]⟩ (by rw [size_mk]; simp; omega) W
  have e1 : (⟨(l.drop 1).toArray⟩ : ByteArray).data.toList = l.drop 1 := rfl
  have e2 : (⟨#[13, 10]⟩ : ByteArray).data.toList = crlf := rfl
  rw [e1, e2] at hC
  have hN : numV l most = match Lib.atoiAll (cutS (l.drop 1) crlf) with
    | .ok v => if Lib.hasSuffix (l.drop 1) crlf && decide (v ≤ most) && decide (Lib.itoa v = cutS (l.drop 1) crlf) then v else -1
    | _ => -1 := rfl
  have hlen := cutS_len (l.drop 1) crlf
  rw [List.length_drop] at hlen
  generalize hS : cutS (l.drop 1) crlf = S at *
  generalize Lib.hasSuffix (l.drop 1) crlf = B at *
  generalize (⟨(l.drop 1).toArray⟩ : ByteArray) = T at *
  clear e1 e2 hr hS hrd h
  have hSz : (⟨S.toArray⟩ : ByteArray).size ≤ 140737488351232 := by rw [size_mk]; omega
  have hSl : (⟨S.toArray⟩ : ByteArray).data.toList = S := rfl
  by_cases hv : ∃ v, Lib.atoiAll S = .ok v
  · obtain ⟨v, hv⟩ := hv
    have hA := fun W => Atoi_ok ⟨S.toArray⟩ hSz v (by rw [hSl]; exact hv) W
    have hvb := Lib.atoiAll_bounds hv
    have hI := fun W h => Itoa_calls v (by omega) (by omega) W h
    rw [hv] at hN
    simp only at hN
    have hcmp : ((⟨(Lib.itoa v).toArray⟩ : ByteArray).toList == (⟨S.toArray⟩ : ByteArray).toList) = decide (Lib.itoa v = S) := str_eq_list _ _
    generalize (⟨(Lib.itoa v).toArray⟩ : ByteArray) = I at *
    generalize (⟨S.toArray⟩ : ByteArray) = SB at *
    clear hv hSl hSz
    have hc : B = false ∨ (B = true ∧ most < v) ∨ (B = true ∧ ¬ most < v ∧ decide (Lib.itoa v = S) = false) ∨ (B = true ∧ ¬ most < v ∧ decide (Lib.itoa v = S) = true) := by
      cases B <;> by_cases h1 : most < v <;> cases hd : decide (Lib.itoa v = S) <;> simp [h1]
    rcases hc with rfl | ⟨rfl, h2⟩ | ⟨rfl, h2, h3⟩ | ⟨rfl, h2, h3⟩
    · have hN2 : numV l most = -1 := by rw [hN]; simp
      rw [hN2]
      clear hN hN2
      go_enter Tryd.func22, Tryd.ntmps22
      go_wp2_with fail
      refine (hC _).mono ?_
      rintro e w2 ⟨rfl, rfl⟩
      go_wp2_with fail
      refine (hA _).mono ?_
      rintro e w3 ⟨rfl, hb⟩
      go_wp2_with fail
      go_ret
      exact ⟨rfl, hb⟩
    · have hN2 : numV l most = -1 := by rw [hN]; simp; omega
      rw [hN2]
      clear hN hN2
      go_enter Tryd.func22, Tryd.ntmps22
      go_wp2_with fail
      refine (hC _).mono ?_
      rintro e w2 ⟨rfl, rfl⟩
      go_wp2_with fail
      refine (hA _).mono ?_
      rintro e w3 ⟨rfl, hb⟩
      go_wp2_with fail
      go_ret
      exact ⟨rfl, hb⟩
    · have hN2 : numV l most = -1 := by rw [hN, h3]; simp
      rw [hN2]
      rw [h3] at hcmp
      clear hN hN2 h3
      go_enter Tryd.func22, Tryd.ntmps22
      go_wp2_with fail
      refine (hC _).mono ?_
      rintro e w2 ⟨rfl, rfl⟩
      go_wp2_with fail
      refine (hA _).mono ?_
      rintro e w3 ⟨rfl, hb⟩
      go_wp2_with fail
      refine (hI _ (hE.below hb)).mono ?_
      rintro e w4 ⟨rfl, hb4⟩
      go_wp2_with fail
      go_ret
      exact ⟨rfl, hb.trans (hb4.mono hb.size)⟩
    · have hN2 : numV l most = v := by rw [hN, h3]; simp; omega
      rw [hN2]
      rw [h3] at hcmp
      clear hN hN2 h3
      go_enter Tryd.func22, Tryd.ntmps22
      go_wp2_with fail
      refine (hC _).mono ?_
      rintro e w2 ⟨rfl, rfl⟩
      go_wp2_with fail
      refine (hA _).mono ?_
      rintro e w3 ⟨rfl, hb⟩
      go_wp2_with fail
      refine (hI _ (hE.below hb)).mono ?_
      rintro e w4 ⟨rfl, hb4⟩
      go_wp2_with fail
      go_ret
      exact ⟨rfl, hb.trans (hb4.mono hb.size)⟩
  · have hA := fun W h => Atoi_bad ⟨S.toArray⟩ hSz (fun v e => hv ⟨v, by rw [hSl] at e; exact e⟩) W h
    have hN2 : numV l most = -1 := by
      rw [hN]
      split
      · rename_i v e; exact absurd ⟨v, e⟩ hv
      · rfl
    rw [hN2]
    clear hN hN2 hv hSl hSz
    generalize (⟨S.toArray⟩ : ByteArray) = SB at *
    cases B with
    | false =>
      go_enter Tryd.func22, Tryd.ntmps22
      go_wp2_with fail
      refine (hC _).mono ?_
      rintro e w2 ⟨rfl, rfl⟩
      go_wp2_with fail
      refine (hA _ hE).mono ?_
      rintro e w3 ⟨v, N, rfl, hb⟩
      go_wp2_with fail
      go_ret
      exact ⟨rfl, hb⟩
    | true =>
      go_enter Tryd.func22, Tryd.ntmps22
      go_wp2_with fail
      refine (hC _).mono ?_
      rintro e w2 ⟨rfl, rfl⟩
      go_wp2_with fail
      refine (hA _ hE).mono ?_
      rintro e w3 ⟨v, N, rfl, hb⟩
      go_wp2_with fail
      go_ret
      exact ⟨rfl, hb⟩
end Go.Proofs.YtmdekodoicnmbaaDoor
