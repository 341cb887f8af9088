/- The keys of a command: table.Keys; which the first one is. Conditions: utf8's tables as laid. -/
import Derived.Test.YtpbiohnmmngccaaGreatDoorClC
set_option linter.unusedVariables false
set_option linter.unusedSimpArgs false
namespace Go.Proofs.YtpbiohnmmngccaaGreatDoor
open Go.RowKit Go.Proofs.YtpbiohnmmngccaaGreatDoorW.PrintWords
def keyV (args : List ByteArray) : Option ByteArray := if (checkV args).2 = 0 ∧ (checkV args).1.first ≠ 0 then args[1]? else none
def KeysPost (w : World) (args : List ByteArray) (e : Ending) (w' : World) : Prop :=
  ∃ (A : Option Addr) (c : Nat) (ks : List ByteArray), e = .returned (.slice A ks.length c) ∧ Kd.string.C w' A ks.length ks ∧ ks.length ≤ c ∧ ks.head? = keyV args ∧ Below w.heap.size w w'
theorem check_cases (args : List ByteArray) : (∃ e, checkV args = (spec0, e) ∧ (e = 120 ∨ e = 121)) ∨ ∃ (a : ByteArray) (r : List ByteArray) (s : Spec), args = a :: r ∧ checkV args = (s, 0) ∧ Form s ∧ s.least ≤ r.length ∧ r.length ≤ 31 := by
  cases args with
  | nil => exact Or.inl ⟨120, rfl, Or.inl rfl⟩
  | cons a r =>
    have hcv : checkV (a :: r) = match findV a with
      | none => (spec0, 120)
      | some s => if badV s r.length = true then (spec0, 121) else (s, 0) := rfl
    cases hf : findV a with
    | none => rw [hf] at hcv; exact Or.inl ⟨120, hcv, Or.inl rfl⟩
    | some s =>
      rw [hf] at hcv
      simp only at hcv
      by_cases hb : badV s r.length = true
      · rw [if_pos hb] at hcv; exact Or.inl ⟨121, hcv, Or.inr rfl⟩
      · rw [if_neg hb] at hcv
        have hF := find_form hf
        have h2 : ¬ ((r.length : Int) < s.least) ∧ ¬ (s.most < (r.length : Int)) := by
          unfold badV at hb
          simp only [Bool.or_eq_true, decide_eq_true_eq, not_or] at hb
          exact hb.1
        obtain ⟨h0, h1, h3, h4, h5⟩ := hF
        exact Or.inr ⟨a, r, s, rfl, hcv, ⟨h0, h1, h3, h4, h5⟩, by omega, by omega⟩
theorem infoStr : (Tryz.prog.info? 9).map (fun i => (i.zero, i.size, i.bytes)) = some (some (.string ⟨#[]⟩), 1, 16) := by kernel_rfl
set_option maxHeartbeats 4000000 in
set_option maxRecDepth 100000 in
theorem Keys_calls (A : Option Addr) (c : Nat) (args : List ByteArray) (hc : args.length ≤ c) (w : World) (hr : Kd.string.C w A args.length args) (hE : Env w) :
    Calls Tryz.prog 26 #[.slice A args.length c] w (KeysPost w args) := by
  have hCk := Check_calls A c args hc w hr hE
  have hk : keyV args = if (checkV args).2 = 0 ∧ (checkV args).1.first ≠ 0 then args[1]? else none := rfl
  rcases check_cases args with ⟨e, hcv, he⟩ | ⟨a, r, s, rfl, hcv, hF, hl, hn31⟩
  · rw [hcv] at hCk hk
    have hkn : keyV args = none := by rw [hk, if_neg]; rcases he with rfl | rfl <;> simp
    have e0 : CheckR (spec0, e) = .tuple #[.agg #[.string ⟨#[]⟩, .int .i64 0, .int .i64 0, .int .i64 0, .int .i64 0, .int .i64 0, .bool false], .int .i64 e] := rfl
    rw [e0] at hCk
    have hne : (e != 0) = true := by rcases he with rfl | rfl <;> rfl
    clear hk hcv he
    go_enter Tryz.func26, Tryz.ntmps26
    go_wp2_with fail
    refine hCk.mono ?_
    rintro e' w1 ⟨rfl, hb1⟩
    go_wp2_with fail
    go_ret
    exact ⟨none, 0, [], rfl, Kd.C_of_reads (d := (⟨#[]⟩ : ByteArray)) ⟨rfl, by decide, fun h => absurd h (by decide)⟩, Nat.le_refl _, by rw [hkn]; rfl, below_alloc hb1 _⟩
  · rw [hcv] at hCk hk
    obtain ⟨nm, l, m, f, la, st, wri⟩ := s
    have e0 : CheckR (⟨nm, l, m, f, la, st, wri⟩, 0) = .tuple #[.agg #[.string ⟨nm.toArray⟩, .int .i64 l, .int .i64 m, .int .i64 f, .int .i64 la, .int .i64 st, .bool wri], .int .i64 0] := rfl
    rw [e0] at hCk
    obtain ⟨g, o, rfl, hg, hcs⟩ := str_cells hr (by simp)
    simp only [Form] at hF hl hk
    obtain ⟨hl0, hl1, hm0, hm1, hfs⟩ := hF
    replace hcs := Lib.hid hcs
    clear hcv e0 hr
    rcases hfs with ⟨rfl, rfl, rfl⟩ | ⟨hl2, rfl, hform⟩
    · have hkn : keyV (a :: r) = none := by rw [hk, if_neg]; simp
      replace hkn := Lib.hid hkn
      clear hk
      go_enter Tryz.func26, Tryz.ntmps26
      go_wp2_with fail
      refine hCk.mono ?_
      rintro e' w1 ⟨rfl, hb1⟩
      go_wp2_with fail
      go_ret
      exact ⟨none, 0, [], rfl, Kd.C_of_reads (d := (⟨#[]⟩ : ByteArray)) ⟨rfl, by decide, fun h => absurd h (by decide)⟩, Nat.le_refl _, by rw [hkn.out]; rfl, below_alloc hb1 _⟩
    · have hkn : keyV (a :: r) = r[0]? := by rw [hk, if_pos (by simp)]; rfl
      replace hkn := Lib.hid hkn
      clear hk
      rcases hform with ⟨rfl, rfl⟩ | ⟨rfl, rfl | rfl⟩
      · go_enter Tryz.func26, Tryz.ntmps26
        go_wp2_with fail
        refine hCk.mono ?_
        rintro e' w1 ⟨rfl, hb1⟩
        have hbW : Below w.heap.size w (w1.alloc (.cells #[.string ⟨nm.toArray⟩, .int .i64 l, .int .i64 m, .int .i64 1, .int .i64 1, .int .i64 1, .bool wri] 84)) := below_alloc hb1 _
        have hsp : (w1.alloc (.cells #[.string ⟨nm.toArray⟩, .int .i64 l, .int .i64 m, .int .i64 1, .int .i64 1, .int .i64 1, .bool wri] 84)).heap[w1.heap.size]? = some (.cells #[.string ⟨nm.toArray⟩, .int .i64 l, .int .i64 m, .int .i64 1, .int .i64 1, .int .i64 1, .bool wri] 84 (0, 0)) := heap_alloc_new _ _
        have hst : (w1.alloc (.cells #[.string ⟨nm.toArray⟩, .int .i64 l, .int .i64 m, .int .i64 1, .int .i64 1, .int .i64 1, .bool wri] 84)).cell? ⟨w1.heap.size, 5, none⟩ = some (.int .i64 1) := by rw [cell_of_box hsp]; rfl
        have hlt : w1.heap.size < (w1.alloc (.cells #[.string ⟨nm.toArray⟩, .int .i64 l, .int .i64 m, .int .i64 1, .int .i64 1, .int .i64 1, .bool wri] 84)).heap.size := by simp
        replace hbW := Lib.hid hbW
        replace hst := Lib.hid hst
        replace hlt := Lib.hid hlt
        clear hsp hCk hb1
        go_wp2_with fail
        generalize w1.alloc (.cells #[.string ⟨nm.toArray⟩, .int .i64 l, .int .i64 m, .int .i64 1, .int .i64 1, .int .i64 1, .bool wri] 84) = W at *
        go_loopw [6, 7] (fun s6 s7 wr => ∃ (i : Nat) (ks : List ByteArray), s7 = .int .i64 i ∧ 1 ≤ i ∧ (i : Int) ≤ (1 : Int) + 2 ∧ ks.length ≤ i ∧ Kd.string.R 9 wr W.heap.size (fun k => W.heap.size ≤ k) s6 ks ∧ (ks = [] ↔ i = 1) ∧ (1 < i → ks.head? = r[0]?) ∧ Below W.heap.size W wr) (fun _ s7 _ => ((1 : Int) + 2 - intOf s7).toNat)
        case atStart => exact ⟨1, [], rfl, Nat.le_refl _, by omega, by simp, Kd.R_nil _ _ _ _ _, ⟨fun _ => rfl, fun _ => rfl⟩, fun h => absurd h (by decide), Below.refl _ _⟩
        case round =>
          obtain ⟨i, ks, rfl, hi1, hi2, hkl, hR, hkn0, hkh, hb⟩ := hrel
          have hb' := hbW.out.trans (hb.mono hbW.out.size)
          by_cases hiL : (i : Int) ≤ (1 : Int)
          · have d1 : decide ((i : Int) ≤ (1 : Int)) = true := decide_eq_true hiL
            obtain ⟨x, hx⟩ : ∃ x, (a :: r)[i]? = some x := ⟨_, List.getElem?_eq_getElem (by simp; omega)⟩
            have hcx := (hb'.cell (p := ⟨g, o + i, none⟩) hg).trans (hcs.out i x hx)
            have hst' := (hb.cell (p := ⟨w1.heap.size, 5, none⟩) hlt.out).trans hst.out
            have hi0 : (0 : Int) ≤ (i : Int) := by omega
            have hil : decide ((i : Int) < (r.length : Int) + 1) = true := decide_eq_true (by omega)
            replace hR := Lib.hid hR
            replace hb := Lib.hid hb
            replace hb' := Lib.hid hb'
            replace hkh := Lib.hid hkh
            replace hkn0 := Lib.hid hkn0
            replace hx := Lib.hid hx
            go_wp2_with (at_builtin; refine Kd.R_append Kd.string (w0 := W) W.heap.size rfl _ _ 26 9 (.string ⟨#[]⟩) 16 rfl Tryz.underlying26 infoStr rfl (by decide) (by decide) u6 ks x [.string x] (fun q => W.heap.size ≤ q) (fun _ => False) rfl rfl rfl (fun q hq => absurd hq id) (fun q hq => Nat.le_trans hb.out.size hq) hR.out hb.out hb.out.size (by omega) ?_; intro v1 W1 hR4 hB4 hgrow hat; replace hR4 := Lib.hid hR4; have hst1 := (hB4.cell (p := ⟨w1.heap.size, 5, none⟩) hlt.out).trans hst.out; clear hat hgrow)
            refine ⟨⟨i + 1, ks ++ [x], by go_num, by omega, by omega, by simp; omega, hR4.out, ⟨fun h => by simp at h, fun h => by omega⟩, fun _ => ?_, hB4⟩, by simp [intOf]; omega⟩
            by_cases h1 : i = 1
            · rw [hkn0.out.2 h1, List.nil_append, List.head?_cons, ← hx.out, h1]
              rfl
            · have hne : ks ≠ [] := fun h => h1 (hkn0.out.1 h)
              have h2 := hkh.out (by omega)
              cases ks with
              | nil => exact absurd rfl hne
              | cons y t => exact h2
          · have d1 : decide ((i : Int) ≤ (1 : Int)) = false := decide_eq_false hiL
            go_wp2_with fail
            go_ret
            obtain ⟨A', c', hu, hc', hC'⟩ := Kd.R_reads hR
            exact ⟨A', c', ks, by rw [← hu]; rfl, hC', hc', by rw [hkn.out]; exact hkh (by omega), hb'⟩
      · go_enter Tryz.func26, Tryz.ntmps26
        go_wp2_with fail
        refine hCk.mono ?_
        rintro e' w1 ⟨rfl, hb1⟩
        have hbW : Below w.heap.size w (w1.alloc (.cells #[.string ⟨nm.toArray⟩, .int .i64 l, .int .i64 m, .int .i64 1, .int .i64 (-1), .int .i64 1, .bool wri] 84)) := below_alloc hb1 _
        have hsp : (w1.alloc (.cells #[.string ⟨nm.toArray⟩, .int .i64 l, .int .i64 m, .int .i64 1, .int .i64 (-1), .int .i64 1, .bool wri] 84)).heap[w1.heap.size]? = some (.cells #[.string ⟨nm.toArray⟩, .int .i64 l, .int .i64 m, .int .i64 1, .int .i64 (-1), .int .i64 1, .bool wri] 84 (0, 0)) := heap_alloc_new _ _
        have hst : (w1.alloc (.cells #[.string ⟨nm.toArray⟩, .int .i64 l, .int .i64 m, .int .i64 1, .int .i64 (-1), .int .i64 1, .bool wri] 84)).cell? ⟨w1.heap.size, 5, none⟩ = some (.int .i64 1) := by rw [cell_of_box hsp]; rfl
        have hlt : w1.heap.size < (w1.alloc (.cells #[.string ⟨nm.toArray⟩, .int .i64 l, .int .i64 m, .int .i64 1, .int .i64 (-1), .int .i64 1, .bool wri] 84)).heap.size := by simp
        replace hbW := Lib.hid hbW
        replace hst := Lib.hid hst
        replace hlt := Lib.hid hlt
        clear hsp hCk hb1
        go_wp2_with fail
        generalize w1.alloc (.cells #[.string ⟨nm.toArray⟩, .int .i64 l, .int .i64 m, .int .i64 1, .int .i64 (-1), .int .i64 1, .bool wri] 84) = W at *
        go_loopw [6, 7] (fun s6 s7 wr => ∃ (i : Nat) (ks : List ByteArray), s7 = .int .i64 i ∧ 1 ≤ i ∧ (i : Int) ≤ (r.length : Int) + 2 ∧ ks.length ≤ i ∧ Kd.string.R 9 wr W.heap.size (fun k => W.heap.size ≤ k) s6 ks ∧ (ks = [] ↔ i = 1) ∧ (1 < i → ks.head? = r[0]?) ∧ Below W.heap.size W wr) (fun _ s7 _ => ((r.length : Int) + 2 - intOf s7).toNat)
        case atStart => exact ⟨1, [], rfl, Nat.le_refl _, by omega, by simp, Kd.R_nil _ _ _ _ _, ⟨fun _ => rfl, fun _ => rfl⟩, fun h => absurd h (by decide), Below.refl _ _⟩
        case round =>
          obtain ⟨i, ks, rfl, hi1, hi2, hkl, hR, hkn0, hkh, hb⟩ := hrel
          have hb' := hbW.out.trans (hb.mono hbW.out.size)
          by_cases hiL : (i : Int) ≤ (r.length : Int)
          · have d1 : decide ((i : Int) ≤ (r.length : Int)) = true := decide_eq_true hiL
            obtain ⟨x, hx⟩ : ∃ x, (a :: r)[i]? = some x := ⟨_, List.getElem?_eq_getElem (by simp; omega)⟩
            have hcx := (hb'.cell (p := ⟨g, o + i, none⟩) hg).trans (hcs.out i x hx)
            have hst' := (hb.cell (p := ⟨w1.heap.size, 5, none⟩) hlt.out).trans hst.out
            have hi0 : (0 : Int) ≤ (i : Int) := by omega
            have hil : decide ((i : Int) < (r.length : Int) + 1) = true := decide_eq_true (by omega)
            replace hR := Lib.hid hR
            replace hb := Lib.hid hb
            replace hb' := Lib.hid hb'
            replace hkh := Lib.hid hkh
            replace hkn0 := Lib.hid hkn0
            replace hx := Lib.hid hx
            go_wp2_with (at_builtin; refine Kd.R_append Kd.string (w0 := W) W.heap.size rfl _ _ 26 9 (.string ⟨#[]⟩) 16 rfl Tryz.underlying26 infoStr rfl (by decide) (by decide) u6 ks x [.string x] (fun q => W.heap.size ≤ q) (fun _ => False) rfl rfl rfl (fun q hq => absurd hq id) (fun q hq => Nat.le_trans hb.out.size hq) hR.out hb.out hb.out.size (by omega) ?_; intro v1 W1 hR4 hB4 hgrow hat; replace hR4 := Lib.hid hR4; have hst1 := (hB4.cell (p := ⟨w1.heap.size, 5, none⟩) hlt.out).trans hst.out; clear hat hgrow)
            refine ⟨⟨i + 1, ks ++ [x], by go_num, by omega, by omega, by simp; omega, hR4.out, ⟨fun h => by simp at h, fun h => by omega⟩, fun _ => ?_, hB4⟩, by simp [intOf]; omega⟩
            by_cases h1 : i = 1
            · rw [hkn0.out.2 h1, List.nil_append, List.head?_cons, ← hx.out, h1]
              rfl
            · have hne : ks ≠ [] := fun h => h1 (hkn0.out.1 h)
              have h2 := hkh.out (by omega)
              cases ks with
              | nil => exact absurd rfl hne
              | cons y t => exact h2
          · have d1 : decide ((i : Int) ≤ (r.length : Int)) = false := decide_eq_false hiL
            go_wp2_with fail
            go_ret
            obtain ⟨A', c', hu, hc', hC'⟩ := Kd.R_reads hR
            exact ⟨A', c', ks, by rw [← hu]; rfl, hC', hc', by rw [hkn.out]; exact hkh (by omega), hb'⟩
      · go_enter Tryz.func26, Tryz.ntmps26
        go_wp2_with fail
        refine hCk.mono ?_
        rintro e' w1 ⟨rfl, hb1⟩
        have hbW : Below w.heap.size w (w1.alloc (.cells #[.string ⟨nm.toArray⟩, .int .i64 l, .int .i64 m, .int .i64 1, .int .i64 (-1), .int .i64 2, .bool wri] 84)) := below_alloc hb1 _
        have hsp : (w1.alloc (.cells #[.string ⟨nm.toArray⟩, .int .i64 l, .int .i64 m, .int .i64 1, .int .i64 (-1), .int .i64 2, .bool wri] 84)).heap[w1.heap.size]? = some (.cells #[.string ⟨nm.toArray⟩, .int .i64 l, .int .i64 m, .int .i64 1, .int .i64 (-1), .int .i64 2, .bool wri] 84 (0, 0)) := heap_alloc_new _ _
        have hst : (w1.alloc (.cells #[.string ⟨nm.toArray⟩, .int .i64 l, .int .i64 m, .int .i64 1, .int .i64 (-1), .int .i64 2, .bool wri] 84)).cell? ⟨w1.heap.size, 5, none⟩ = some (.int .i64 2) := by rw [cell_of_box hsp]; rfl
        have hlt : w1.heap.size < (w1.alloc (.cells #[.string ⟨nm.toArray⟩, .int .i64 l, .int .i64 m, .int .i64 1, .int .i64 (-1), .int .i64 2, .bool wri] 84)).heap.size := by simp
        replace hbW := Lib.hid hbW
        replace hst := Lib.hid hst
        replace hlt := Lib.hid hlt
        clear hsp hCk hb1
        go_wp2_with fail
        generalize w1.alloc (.cells #[.string ⟨nm.toArray⟩, .int .i64 l, .int .i64 m, .int .i64 1, .int .i64 (-1), .int .i64 2, .bool wri] 84) = W at *
        go_loopw [6, 7] (fun s6 s7 wr => ∃ (i : Nat) (ks : List ByteArray), s7 = .int .i64 i ∧ 1 ≤ i ∧ (i : Int) ≤ (r.length : Int) + 2 ∧ ks.length ≤ i ∧ Kd.string.R 9 wr W.heap.size (fun k => W.heap.size ≤ k) s6 ks ∧ (ks = [] ↔ i = 1) ∧ (1 < i → ks.head? = r[0]?) ∧ Below W.heap.size W wr) (fun _ s7 _ => ((r.length : Int) + 2 - intOf s7).toNat)
        case atStart => exact ⟨1, [], rfl, Nat.le_refl _, by omega, by simp, Kd.R_nil _ _ _ _ _, ⟨fun _ => rfl, fun _ => rfl⟩, fun h => absurd h (by decide), Below.refl _ _⟩
        case round =>
          obtain ⟨i, ks, rfl, hi1, hi2, hkl, hR, hkn0, hkh, hb⟩ := hrel
          have hb' := hbW.out.trans (hb.mono hbW.out.size)
          by_cases hiL : (i : Int) ≤ (r.length : Int)
          · have d1 : decide ((i : Int) ≤ (r.length : Int)) = true := decide_eq_true hiL
            obtain ⟨x, hx⟩ : ∃ x, (a :: r)[i]? = some x := ⟨_, List.getElem?_eq_getElem (by simp; omega)⟩
            have hcx := (hb'.cell (p := ⟨g, o + i, none⟩) hg).trans (hcs.out i x hx)
            have hst' := (hb.cell (p := ⟨w1.heap.size, 5, none⟩) hlt.out).trans hst.out
            have hi0 : (0 : Int) ≤ (i : Int) := by omega
            have hil : decide ((i : Int) < (r.length : Int) + 1) = true := decide_eq_true (by omega)
            replace hR := Lib.hid hR
            replace hb := Lib.hid hb
            replace hb' := Lib.hid hb'
            replace hkh := Lib.hid hkh
            replace hkn0 := Lib.hid hkn0
            replace hx := Lib.hid hx
            go_wp2_with (at_builtin; refine Kd.R_append Kd.string (w0 := W) W.heap.size rfl _ _ 26 9 (.string ⟨#[]⟩) 16 rfl Tryz.underlying26 infoStr rfl (by decide) (by decide) u6 ks x [.string x] (fun q => W.heap.size ≤ q) (fun _ => False) rfl rfl rfl (fun q hq => absurd hq id) (fun q hq => Nat.le_trans hb.out.size hq) hR.out hb.out hb.out.size (by omega) ?_; intro v1 W1 hR4 hB4 hgrow hat; replace hR4 := Lib.hid hR4; have hst1 := (hB4.cell (p := ⟨w1.heap.size, 5, none⟩) hlt.out).trans hst.out; clear hat hgrow)
            refine ⟨⟨i + 2, ks ++ [x], by go_num, by omega, by omega, by simp; omega, hR4.out, ⟨fun h => by simp at h, fun h => by omega⟩, fun _ => ?_, hB4⟩, by simp [intOf]; omega⟩
            by_cases h1 : i = 1
            · rw [hkn0.out.2 h1, List.nil_append, List.head?_cons, ← hx.out, h1]
              rfl
            · have hne : ks ≠ [] := fun h => h1 (hkn0.out.1 h)
              have h2 := hkh.out (by omega)
              cases ks with
              | nil => exact absurd rfl hne
              | cons y t => exact h2
          · have d1 : decide ((i : Int) ≤ (r.length : Int)) = false := decide_eq_false hiL
            go_wp2_with fail
            go_ret
            obtain ⟨A', c', hu, hc', hC'⟩ := Kd.R_reads hR
            exact ⟨A', c', ks, by rw [← hu]; rfl, hC', hc', by rw [hkn.out]; exact hkh (by omega), hb'⟩
end Go.Proofs.YtpbiohnmmngccaaGreatDoor
