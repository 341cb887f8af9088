/- All commands that a parser has. Conditions: the listed variables as laid; bytes within the machine's reach. -/
import Derived.Test.YtmdekodoicnmbaaDoorRsJ
set_option linter.unusedVariables false
set_option linter.unusedSimpArgs false
namespace Go.Proofs.YtmdekodoicnmbaaDoor
open Go.RowKit Go.Proofs.YtmdekodoicnmbaaDoorW.PrintWords
def allV : Nat → List UInt8 → Int → List (List ByteArray) → List (List ByteArray) × Int × List UInt8 × Int
  | 0, b, k, acc => (acc, 1, b, k)
  | m + 1, b, k, acc => match nextV b k with
    | .stop E b' => (acc, E, if E = 0 then b' else [], E)
    | .got args rest => allV m rest 0 (acc ++ [args])
theorem nextF_len : ∀ (f : Nat) (b : List UInt8), (∀ args rest, nextF f b = .got args rest → rest.length < b.length ∧ args ≠ []) ∧ (∀ E b', nextF f b = .stop E b' → b'.length ≤ b.length)
  | 0, b => ⟨fun args rest h => by simp [nextF] at h, fun E b' h => by simp only [nextF] at h; injection h with _ h; rw [h]; exact Nat.le_refl _⟩
  | f + 1, b => by
    cases ho : oneV b with
    | stop e =>
      refine ⟨fun args rest h => ?_, fun E b' h => ?_⟩
      · simp only [nextF, ho] at h; cases h
      · simp only [nextF, ho] at h; injection h with _ h; rw [h]; exact Nat.le_refl _
    | read args n =>
      obtain ⟨h1, h2⟩ := one_len ho
      have hl : (b.drop n).length = b.length - n := List.length_drop
      obtain ⟨i1, i2⟩ := nextF_len f (b.drop n)
      by_cases ha : args = []
      · refine ⟨fun args' rest h => ?_, fun E b' h => ?_⟩
        · simp only [nextF, ho, if_pos ha] at h
          obtain ⟨j1, j2⟩ := i1 _ _ h
          exact ⟨by omega, j2⟩
        · simp only [nextF, ho, if_pos ha] at h
          have := i2 _ _ h
          omega
      · refine ⟨fun args' rest h => ?_, fun E b' h => ?_⟩
        · simp only [nextF, ho, if_neg ha] at h
          injection h with h3 h4
          subst h3 h4
          exact ⟨by omega, ha⟩
        · simp only [nextF, ho, if_neg ha] at h
          cases h
theorem next_got {b : List UInt8} {k : Int} {args : List ByteArray} {rest : List UInt8} (h : nextV b k = .got args rest) : rest.length < b.length ∧ args ≠ [] ∧ k = 0 := by
  unfold nextV at h
  split at h
  · rename_i h0
    obtain ⟨h1, h2⟩ := (nextF_len _ b).1 _ _ h
    exact ⟨h1, h2, h0⟩
  · cases h
theorem next_stop {b : List UInt8} {k E : Int} {b' : List UInt8} (h : nextV b k = .stop E b') : b'.length ≤ b.length := by
  unfold nextV at h
  split at h
  · exact (nextF_len _ b).2 _ _ h
  · injection h with _ h
    rw [h]
    exact Nat.le_refl _
abbrev kLists : Kd (List ByteArray) := Kd.slice 9 Kd.string
def AllPost (w : World) (g : Nat) (R : List (List ByteArray) × Int × List UInt8 × Int) (e : Ending) (W : World) : Prop :=
  ∃ A c, e = .returned (.tuple #[.slice A R.1.length c, .int .i64 R.2.1]) ∧ kLists.R 33 W w.heap.size (fun _ => True) (.slice A R.1.length c) R.1 ∧ Par g R.2.2.1 R.2.2.2 W ∧ Keeps g w W
theorem Par.keep {g : Nat} {b : List UInt8} {k : Int} {W W' : World} (h : Par g b k W) (hb : Below W.heap.size W W') : Par g b k W' := by
  obtain ⟨A, c, h1, h2, h3⟩ := h
  exact ⟨A, c, (hb.block _ h3).trans h1, h2.below hb, Nat.lt_of_lt_of_le h3 hb.size⟩
theorem Par.box {g : Nat} {b : List UInt8} {k : Int} {W : World} (h : Par g b k W) : ∃ v k, W.heap[g]? = some (.cells #[v, .int .i64 k] 39 (0, 0)) ∧ ∀ z, v ≠ .int .u8 z := by
  obtain ⟨A, c, h1, h2, h3⟩ := h
  exact ⟨_, _, h1, fun z h => by cases h⟩
theorem info33 : (Tryd.prog.info? 33).map (fun i => (i.zero, i.size, i.bytes)) = some (some (.slice none 0 0), 1, 24) := by kernel_rfl
theorem Pr.at_ {w W : World} {g : Nat} {A : Option Addr} {c : Nat} {b : List UInt8} {k : Int} (h : Pr w w g A c b k W) : Pr w W g A c b k W :=
  ⟨h.box, h.rd, h.keeps, Keeps.refl _ _, Nat.lt_of_lt_of_le h.lt h.keeps.size⟩
theorem Pr.back {w we W : World} {g : Nat} {A : Option Addr} {c : Nat} {b : List UInt8} {k : Int} (h : Pr w we g A c b k W) (hg : g < w.heap.size) : Pr w w g A c b k W :=
  ⟨h.box, h.rd, Keeps.refl _ _, h.old.trans h.keeps, hg⟩
set_option maxHeartbeats 4000000 in
set_option maxRecDepth 100000 in
theorem all_calls (w0 : World) (hE0 : Env w0) (w : World) (hB0 : Below w0.heap.size w0 w) (g : Nat) (hg0 : w0.heap.size ≤ g) (b : List UInt8) (k : Int) (hp : Par g b k w) (hbl : b.length ≤ 140737488351232) (most : Nat) (hmost : most ≤ 1000000) :
    Calls Tryd.prog 10 #[.pointer (some ⟨g, 0, none⟩), .int .i64 (most : Int)] w (AllPost w g (allV most b k [])) := by
  generalize hRES : allV most b k [] = RES
  replace hRES := Lib.hid hRES
  have hbox := hp.box
  obtain ⟨Aw, cw, hPw⟩ := hp.pr
  have hgw := hPw.lt
  replace hbox := Lib.hid hbox
  go_enter Tryd.func10, Tryd.ntmps10
  go_wp2_with fail
  go_loopw [6, 11] (fun out s11 wr => ∃ (i : Nat) (acc : List (List ByteArray)) (A1 : Option Addr) (c1 : Nat) (b1 : List UInt8) (k1 : Int), i ≤ most ∧ s11 = .int .i64 i ∧ acc.length ≤ i ∧ kLists.R 33 wr w.heap.size (fun k => w.heap.size ≤ k) out acc ∧ Pr w w g A1 c1 b1 k1 wr ∧ b1.length ≤ b.length ∧ allV (most - i) b1 k1 acc = RES) (fun _ s11 _ => most - (intOf s11).toNat)
  case atStart => exact ⟨0, [], Aw, cw, b, k, by omega, rfl, by simp, Kd.R_nil _ _ _ _ _, hPw, Nat.le_refl _, hRES.out⟩
  case round =>
    obtain ⟨i, acc, A1, c1, b1, k1, hi, rfl, hacc, hR, hP, hb1, hrec⟩ := hrel
    clear hp hPw
    obtain ⟨A0, c0, hu6⟩ := Kd.R_slice hR
    by_cases him : i < most
    · have hgo : decide ((i : Int) < (most : Int)) = true := decide_eq_true (by omega)
      have hN := Next_calls w0 hE0 w wr hB0 g hg0 hbox.out A1 c1 b1 k1 hP.at_ (by omega)
      have hsub : most - i = (most - (i + 1)) + 1 := by omega
      rw [hsub] at hrec
      simp only [allV] at hrec
      cases hn : nextV b1 k1 with
      | stop E b' =>
        rw [hn] at hN hrec
        simp only at hrec
        subst hu6
        replace hR := Lib.hid hR
        replace hrec := Lib.hid hrec
        clear hn
        go_wp2_with fail
        refine hN.mono ?_
        rintro e W ⟨rfl, A2, c2, hP2⟩
        obtain ⟨bv, bk, hbx, hbv⟩ := hbox.out
        have hP3 := hP2.par hbx hbv
        have hK2 := (hP2.back hgw).keeps
        have hR2 := Lib.hid (Kd.R_mono (Kd.R_step hR.out (fun k hk hlt => hP2.keeps.block k hlt (by omega))) (ok' := fun _ => True) (fun _ _ => trivial))
        clear hN hP2 hbx
        go_wp2_with fail
        go_ret2
        exact ⟨A0, c0, by rw [← hrec.out]; rfl, by rw [← hrec.out]; exact hR2.out, by rw [← hrec.out]; exact hP3, hK2⟩
      | got args rest =>
        obtain ⟨hlr, -, -⟩ := next_got hn
        rw [hn] at hN hrec
        simp only at hrec
        subst hu6
        replace hR := Lib.hid hR
        replace hrec := Lib.hid hrec
        clear hn
        go_wp2_with fail
        refine hN.mono ?_
        rintro e W ⟨A3, c3, rfl, hown, A2, c2, hP2⟩
        have hwr : w.heap.size ≤ wr.heap.size := hP.keeps.size
        have hP3 := hP2.back hgw
        have hwW : w.heap.size ≤ W.heap.size := hP3.keeps.size
        have hR2 := Kd.R_step hR.out (fun k hk hlt => hP2.keeps.block k hlt (by omega))
        have hM : kLists.M W w.heap.size (fun k => w.heap.size ≤ k ∧ some k ≠ (Value.slice A0 acc.length c0).ownBlock) args [.slice A3 args.length c3] := by
          refine ⟨_, rfl, Kd.R_of_own (own_weaken hown hwr) (fun k hk => ?_)⟩
          have h1 := hown.lt k hk
          refine ⟨by omega, fun e => ?_⟩
          obtain ⟨inner, ho⟩ := Kd.R_own hR.out
          have := own_lt ho k e.symm
          omega
        replace hR2 := Lib.hid hR2
        replace hM := Lib.hid hM
        clear hN hP2 hown hR hP
        go_wp2_with (at_builtin; refine Kd.R_append kLists (w0 := W) w.heap.size rfl _ _ 27 33 (.slice none 0 0) 24 rfl Tryd.underlying27 info33 rfl (by decide) (by decide) (.slice A0 acc.length c0) acc args [.slice A3 args.length c3] (fun k => w.heap.size ≤ k) _ rfl rfl hM.out (fun k hk => hk) (fun k hk => by omega) hR2.out (Below.refl _ _) hwW (by omega) ?_; intro v1 W1 hR3 hB3 hgrow hat; replace hR3 := Lib.hid hR3; clear hat hgrow)
        exact ⟨⟨i + 1, acc ++ [args], A2, c2, rest, 0, by omega, by go_num, by simp; omega, hR3.out, hP3.below hB3, by omega, hrec.out⟩, by simp [intOf]; omega⟩
    · obtain rfl : i = most := by omega
      have hgo : decide ((i : Int) < (i : Int)) = false := decide_eq_false (by omega)
      rw [Nat.sub_self] at hrec
      simp only [allV] at hrec
      subst hu6
      replace hR := Lib.hid hR
      obtain ⟨bv, bk, hbx, hbv⟩ := hbox.out
      have hP3 := hP.par hbx hbv
      have hR2 := Lib.hid (Kd.R_mono hR.out (ok' := fun _ => True) (fun _ _ => trivial))
      clear hbx
      go_wp2_with fail
      go_ret2
      exact ⟨A0, c0, by rw [← hrec]; rfl, by rw [← hrec]; exact hR2.out, by rw [← hrec]; exact hP3, hP.keeps⟩
end Go.Proofs.YtmdekodoicnmbaaDoor
