/- Commands that were written are told as they were. Conditions: the listed variables as laid. -/
import Derived.Test.YtmdekodoicnmbaaDoorRsX
import Derived.Test.YtmdekodoicnmbaaDoorRsY
set_option linter.unusedVariables false
set_option linter.unusedSimpArgs false
namespace Go.Proofs.YtmdekodoicnmbaaDoor
open Go.RowKit Go.Proofs.YtmdekodoicnmbaaDoorW.PrintWords
def Fits (x : List ByteArray) : Prop := x ≠ [] ∧ x.length ≤ 32 ∧ ∀ s ∈ x, s.size ≤ 1024
theorem next_cmd (x : List ByteArray) (hx : Fits x) (rest : List UInt8) : nextV (cmdV x ++ rest) 0 = .got x rest := by
  unfold nextV
  rw [if_pos rfl, nextF, oneV_back x rest hx.2.1 hx.2.2]
  simp only
  rw [if_neg hx.1, List.drop_left]
theorem all_back : ∀ (xs : List (List ByteArray)) (m : Nat) (acc : List (List ByteArray)), (∀ x ∈ xs, Fits x) → xs.length < m → allV m (xs.flatMap cmdV) 0 acc = (acc ++ xs, 0, [], 0)
  | [], m, acc, h, hm => by
    obtain ⟨m, rfl⟩ : ∃ q, m = q + 1 := ⟨m - 1, by simp at hm; omega⟩
    simp only [List.flatMap_nil, allV, next_none]
    simp
  | x :: xs, m, acc, h, hm => by
    obtain ⟨m, rfl⟩ : ∃ q, m = q + 1 := ⟨m - 1, by simp at hm; omega⟩
    rw [List.flatMap_cons]
    simp only [allV, next_cmd x (h x (by simp))]
    rw [all_back xs m (acc ++ [x]) (fun y hy => h y (by simp [hy])) (by simp at hm; omega)]
    simp
theorem cmd_len (x : List ByteArray) (hx : Fits x) : (cmdV x).length ≤ 40000 := by
  have key : ∀ l : List ByteArray, (∀ s ∈ l, s.size ≤ 1024) → (argsB l).length ≤ l.length * 1100 := by
    intro l
    induction l with
    | nil => simp [argsB]
    | cons s l ih =>
      intro h
      have hs := h s (by simp)
      have i := ih (fun y hy => h y (by simp [hy]))
      have hd := dec_len 18 s.size (by omega)
      have e2 : s.data.toList.length = s.size := Array.length_toList
      have e3 : (argsB (s :: l)).length = (argV s.data.toList).length + (argsB l).length := by simp [argsB]
      have e4 : (argV s.data.toList).length = (Lib.decDigits s.size).length + s.size + 5 := by unfold argV; rw [e2]; simp [e2]; omega
      rw [List.length_cons, e3, e4, Nat.add_mul]
      omega
  have h1 := key x hx.2.2
  have h2 := hx.2.1
  have hd := dec_len 18 x.length (by omega)
  have hcl : (cmdV x).length = (Lib.decDigits x.length).length + 3 + (argsB x).length := by unfold cmdV; simp; omega
  omega
def fitB (x : List ByteArray) : Bool := decide (0 < x.length) && decide (x.length ≤ 32) && x.all fun s => decide (s.size ≤ 1024)
theorem fitB_iff (x : List ByteArray) (h : fitB x = true) : Fits x := by
  unfold fitB at h
  simp only [Bool.and_eq_true, decide_eq_true_eq, List.all_eq_true] at h
  exact ⟨fun e => by rw [e] at h; simp at h, h.1.2, h.2⟩
def fitL (l : List (List ByteArray)) (k : Nat) : List (List ByteArray) := (l.take k).filter fitB
theorem fitL_snoc (l : List (List ByteArray)) (k : Nat) (x : List ByteArray) (h : l[k]? = some x) : fitL l (k + 1) = fitL l k ++ (if fitB x = true then [x] else []) := by
  unfold fitL
  rw [List.take_add_one, h, List.filter_append]
  by_cases hf : fitB x = true <;> simp [hf]
theorem fitL_len (l : List (List ByteArray)) (k : Nat) : (fitL l k).length ≤ k := by
  unfold fitL
  have h1 := List.length_filter_le fitB (l.take k)
  have h2 : (l.take k).length ≤ k := by simp; omega
  omega
theorem fits_all (l : List (List ByteArray)) (k : Nat) : ∀ x ∈ fitL l k, Fits x := fun x hx => fitB_iff x (List.mem_filter.1 hx).2
theorem flat_len : ∀ (xs : List (List ByteArray)), (∀ x ∈ xs, Fits x) → (xs.flatMap cmdV).length ≤ xs.length * 40000
  | [], _ => by simp
  | x :: xs, h => by
    have h1 := cmd_len x (h x (by simp))
    have h2 := flat_len xs (fun y hy => h y (by simp [hy]))
    rw [List.flatMap_cons, List.length_append, List.length_cons, Nat.add_mul]
    omega
/-- the slices that stand for commands -/
abbrev Ref := Option Addr × Nat × Nat
def encR (r : Ref) : Value := .slice r.1 r.2.1 r.2.2
theorem encR_one (r : Ref) : (encR r).oneCell' = true := rfl
abbrev kRef : Kd Ref := Kd.scalar encR encR_one
/-- a slice stands for a command in a world -/
def Stands (w : World) (r : Ref) (x : List ByteArray) : Prop := r.2.1 = x.length ∧ x.length ≤ r.2.2 ∧ Kd.string.C w r.1 x.length x
def StandL (w : World) (rs : List Ref) (xs : List (List ByteArray)) : Prop := rs.length = xs.length ∧ ∀ (j : Nat) (r : Ref) (x : List ByteArray), rs[j]? = some r → xs[j]? = some x → Stands w r x
theorem StandL.snoc {w : World} {rs : List Ref} {xs : List (List ByteArray)} (h : StandL w rs xs) (r : Ref) (x : List ByteArray) (hx : Stands w r x) : StandL w (rs ++ [r]) (xs ++ [x]) := by
  obtain ⟨h1, h2⟩ := h
  refine ⟨by simp [h1], fun j r' x' hr hx' => ?_⟩
  by_cases hj : j < rs.length
  · rw [List.getElem?_append_left hj] at hr
    rw [List.getElem?_append_left (by omega)] at hx'
    exact h2 j r' x' hr hx'
  · rw [List.getElem?_append_right (by omega)] at hr
    rw [List.getElem?_append_right (by omega)] at hx'
    have hj0 : j - rs.length = 0 := by
      have := (List.getElem?_eq_some_iff.1 hr).1
      simp at this
      omega
    rw [hj0] at hr
    rw [← h1, hj0] at hx'
    simp at hr hx'
    subst hr hx'
    exact hx
theorem StandL.lists {w W : World} {rs : List Ref} {xs : List (List ByteArray)} {A : Option Addr} (h : StandL w rs xs) (hb : Below w.heap.size w W) (hC : kRef.C W A rs.length rs) : kLists.C W A xs.length xs := by
  obtain ⟨h1, h2⟩ := h
  obtain ⟨c1, c2, c3⟩ := hC
  refine ⟨rfl, by rw [← h1]; exact c2, fun hn => ?_⟩
  obtain ⟨ad, rfl, hc⟩ := c3 (by omega)
  refine ⟨ad, rfl, fun j x hx => ?_⟩
  have hj : j < rs.length := by rw [h1]; exact (List.getElem?_eq_some_iff.1 hx).1
  obtain ⟨cs, hl, rfl, hcell⟩ := hc j _ (List.getElem?_eq_getElem hj)
  obtain ⟨s1, s2, s3⟩ := h2 j _ x (List.getElem?_eq_getElem hj) hx
  refine ⟨[encR rs[j]], rfl, ⟨rs[j].1, rs[j].2.2, ?_, s2, Kd.C_below s3 hb⟩, hcell⟩
  unfold encR
  rw [s1]
theorem Par5.lt {g : Nat} {b : List UInt8} {W : World} (h : Par5 g b W) : g < W.heap.size := by
  obtain ⟨A, c, h1, h2, h3, h4⟩ := h
  exact h3
theorem Par5.grown {g : Nat} {b : List UInt8} {W W' : World} {row : Option Nat} (h : Par5 g b W) (hg : W.grownBy W' row) (hrow : ∀ q, row = some q → q ≠ g ∧ ∃ cs, W.heap[q]? = some (.cells cs 33 (0, 0))) : Par5 g b W' := by
  obtain ⟨A, c, h1, h2, h3, h4⟩ := h
  have hsz := hg.size
  have hA : ∀ ad, A = some ad → W'.heap[ad.block]? = W.heap[ad.block]? := fun ad hA => by
    obtain ⟨cs, fr, hc⟩ := h4 ad hA
    refine hg.block _ (Array.getElem?_eq_some_iff.1 hc).1 (fun e => ?_)
    obtain ⟨-, cs', hc'⟩ := hrow _ e.symm
    rw [hc] at hc'
    cases hc'
  refine ⟨A, c, (hg.block g h3 (fun e => (hrow _ e.symm).1 rfl)).trans h1, ⟨h2.1, h2.2.1, ?_⟩, by omega, fun ad hA' => ?_⟩
  · rcases h2.2.2 with h | ⟨g', o, rfl, hlt, hc⟩
    · exact Or.inl h
    · refine Or.inr ⟨g', o, rfl, by omega, fun j hj => ?_⟩
      rw [← hc j hj]
      have := hA _ rfl
      unfold World.cell?
      rw [this]
  · obtain ⟨cs, fr, hc⟩ := h4 ad hA'
    exact ⟨cs, fr, (hA ad hA').trans hc⟩
set_option maxHeartbeats 4000000 in
set_option maxRecDepth 100000 in
theorem RespBack_walk (A : Option Addr) (c : Nat) (l : List (List ByteArray)) (w : World) (hE : Env w) (hr : kLists.C w A l.length l) (hc : l.length ≤ c) :
    Calls Tryd.prog 5 #[.slice A l.length c] w fun e w' => e = .returned (.bool true) ∧ Below w.heap.size w w' := by
  by_cases hn : 50 < l.length
  · have hgo : decide ((50 : Int) < (l.length : Int)) = true := decide_eq_true (by omega)
    go_enter Tryd.func5, Tryd.ntmps5
    go_wp2_with fail
    refine (New_calls _).mono ?_
    rintro e w1 ⟨rfl, hp1, hb1⟩
    go_wp2_with fail
    refine (alive_calls _ (hE.below hb1)).mono ?_
    rintro e w2 ⟨rfl, hb2⟩
    have hb2' := hb1.trans (hb2.mono hb1.size)
    go_wp2_with fail
    go_ret
    exact ⟨rfl, hb2'⟩
  · have hgo : decide ((50 : Int) < (l.length : Int)) = false := decide_eq_false (by omega)
    go_enter Tryd.func5, Tryd.ntmps5
    go_wp2_with fail
    refine (New5_calls _).mono ?_
    rintro e w1 ⟨rfl, hp1, hb1⟩
    go_wp2_with fail
    go_loopw [4, 27] (fun s4 s27 wr => ∃ (k : Nat) (rs : List Ref), k ≤ l.length ∧ s27 = .int .i64 k ∧ kRef.R 33 wr w.heap.size (fun q => w.heap.size < q) s4 rs ∧ StandL w rs (fitL l k) ∧ Par5 w.heap.size ((fitL l k).flatMap cmdV) wr ∧ Below w.heap.size w wr) (fun _ s27 _ => l.length - (intOf s27).toNat)
    case atStart => exact ⟨0, [], by omega, rfl, Kd.R_nil _ _ _ _ _, ⟨rfl, fun j r x h => by simp at h⟩, hp1, hb1⟩
    case round =>
      obtain ⟨k, rs, hk, rfl, hR, hS, hP, hb⟩ := hrel
      clear hp1 hb1
      by_cases hkn : k < l.length
      · have hgo2 : decide ((k : Int) < (l.length : Int)) = true := decide_eq_true (by omega)
        obtain ⟨x, hx⟩ : ∃ x, l[k]? = some x := ⟨l[k], List.getElem?_eq_getElem hkn⟩
        obtain ⟨g0, o0, rfl, hg0, hcs⟩ := lists_cells hr (by omega)
        obtain ⟨Ax, cx, hcell, hxc, hxC⟩ := hcs k x hx
        have hcw := (hb.cell (p := ⟨g0, o0 + k, none⟩) hg0).trans hcell
        have hk0 : (0 : Int) ≤ (k : Int) := by omega
        clear hcs hcell
        by_cases hx0 : 0 < x.length
        · have hx0d : decide ((0 : Int) < (x.length : Int)) = true := decide_eq_true (by omega)
          by_cases hx3 : x.length ≤ 32
          · have hx3d : decide ((x.length : Int) ≤ 32) = true := decide_eq_true (by omega)
            go_wp2_with fail
            obtain ⟨W0, hW0⟩ : ∃ W0, W0 = wr := ⟨_, rfl⟩
            subst hW0
            go_loopw [7, 41] (fun s7 s41 wq => ∃ j : Nat, j ≤ x.length ∧ s41 = .int .i64 j ∧ s7 = .bool (true && (x.take j).all fun s => decide (s.size ≤ 1024)) ∧ Below W0.heap.size W0 wq) (fun _ s41 _ => x.length - (intOf s41).toNat)
            case atStart => exact ⟨0, by omega, rfl, rfl, Below.refl _ _⟩
            case round =>
              obtain ⟨j, hj, rfl, rfl, hq⟩ := hrel
              by_cases hjn : j < x.length
              · have hgo3 : decide ((j : Int) < (x.length : Int)) = true := decide_eq_true (by omega)
                obtain ⟨g1, o1, rfl, hg1, hsc⟩ := str_cells hxC (by omega)
                obtain ⟨s, hs⟩ : ∃ s, x[j]? = some s := ⟨x[j], List.getElem?_eq_getElem hjn⟩
                have hbq := hb.trans (hq.mono hb.size)
                have hcj := (hbq.cell (p := ⟨g1, o1 + j, none⟩) hg1).trans (hsc j s hs)
                have hj0 : (0 : Int) ≤ (j : Int) := by omega
                have htk : (x.take (j + 1)).all (fun s => decide (s.size ≤ 1024)) = ((x.take j).all (fun s => decide (s.size ≤ 1024)) && decide (s.size ≤ 1024)) := by
                  rw [List.take_add_one, hs]
                  simp
                clear hsc hs
                replace htk := Lib.hid htk
                cases hB : (true && (x.take j).all fun s => decide (s.size ≤ 1024)) with
                | false =>
                  go_wp2_with fail
                  exact ⟨⟨j + 1, by omega, by go_num, by rw [htk.out, ← Bool.and_assoc, hB]; rfl, hq⟩, by simp [intOf]; omega⟩
                | true =>
                  by_cases hsz : s.size ≤ 1024
                  · have hszd : decide ((s.size : Int) ≤ 1024) = true := decide_eq_true (by omega)
                    go_wp2_with fail
                    exact ⟨⟨j + 1, by omega, by go_num, by rw [htk.out, ← Bool.and_assoc, hB, decide_eq_true hsz]; rfl, hq⟩, by simp [intOf]; omega⟩
                  · have hszd : decide ((s.size : Int) ≤ 1024) = false := decide_eq_false (by omega)
                    go_wp2_with fail
                    exact ⟨⟨j + 1, by omega, by go_num, by rw [htk.out, ← Bool.and_assoc, hB, decide_eq_false hsz]; rfl, hq⟩, by simp [intOf]; omega⟩
              · obtain rfl : j = x.length := by omega
                have hgo3 : decide ((x.length : Int) < (x.length : Int)) = false := decide_eq_false (by omega)
                have hfe : (true && (x.take x.length).all fun s => decide (s.size ≤ 1024)) = fitB x := by
                  rw [List.take_of_length_le (Nat.le_refl _)]
                  unfold fitB
                  rw [decide_eq_true hx0, decide_eq_true hx3]; rfl
                rw [hfe]
                have hbq := hb.trans (hq.mono hb.size)
                have hRq := Lib.hid (Kd.R_below hR hq)
                have hPq := Lib.hid (hP.keep hq)
                clear hcw hR hP hb hq hfe
                cases hfit : fitB x with
                | false =>
                  go_wp2_with fail
                  have hs : fitL l (k + 1) = fitL l k := by rw [fitL_snoc l k x hx, if_neg (by rw [hfit]; decide), List.append_nil]
                  exact ⟨⟨k + 1, rs, by omega, by go_num, hRq.out, by rw [hs]; exact hS, by rw [hs]; exact hPq.out, hbq⟩, by simp [intOf]; omega⟩
                | true =>
                  have hFx := fitB_iff x hfit
                  have hlen := cmd_len x hFx
                  have hflat := flat_len (fitL l k) (fits_all l k)
                  have hfl := fitL_len l k
                  have hC := Command_calls Ax cx x wr (Kd.C_below hxC hbq) hxc (by omega) (by omega) (hE.below hbq)
                  go_wp2_with fail
                  refine hC.mono ?_
                  rintro e w2 ⟨rfl, hb2⟩
                  have hbw2 := hbq.trans (hb2.mono hbq.size)
                  have hR2 := Lib.hid (Kd.R_below hRq.out hb2)
                  have hP2 := hPq.out.keep hb2
                  have hcv := conv_in ⟨(cmdV x).toArray⟩ w2
                  have hrd := Lib.hid (rd_bytes w2 ⟨(cmdV x).toArray⟩ (by rw [size_mk]; omega))
                  have hb2a := below_bytes w w2 hbw2 ⟨(cmdV x).toArray⟩
                  have hP2a := Lib.hid (hP2.keep (below_bytes w2 w2 (Below.refl _ _) ⟨(cmdV x).toArray⟩))
                  have hR2a := Lib.hid (Kd.R_below hR2.out (below_bytes w2 w2 (Below.refl _ _) ⟨(cmdV x).toArray⟩))
                  clear hC hb2 hbw2 hR2 hP2 hRq hPq hbq
                  go_wp2_with fail
                  have hrd2 := hrd.out
                  refine (Feed5_calls _ w.heap.size _ hP2a.out w2.heap.size 0 _ (cmdV x) hrd2 (by omega)).mono ?_
                  rintro e w3 ⟨rfl, hP3, hk3⟩
                  have hb3 := Keeps.base hb2a (Nat.le_refl _) hk3
                  have hR3 := Lib.hid (Kd.R_step hR2a.out (fun q hq hlt => hk3.block q hlt (by omega)))
                  have hlt3 : w.heap.size < w3.heap.size := hP3.lt
                  have hrl : rs.length ≤ 50 := by rw [hS.1]; omega
                  clear hrd hrd2 hcv hR2a hP2a hb2a hk3
                  replace hP3 := Lib.hid hP3
                  go_wp2_with (at_builtin; refine Kd.R_append kRef (w0 := w) w.heap.size rfl _ _ 27 33 (.slice none 0 0) 24 rfl Tryd.underlying27 info33 rfl (by decide) (by decide) u4 rs (Ax, x.length, cx) [.slice Ax x.length cx] (fun q => w.heap.size < q) (fun _ => False) rfl rfl rfl (fun q hq => absurd hq id) (fun q hq => by omega) hR3.out hb3 hb3.size (by omega) ?_; intro v1 W1 hR4 hB4 hgrow hat; replace hR4 := Lib.hid hR4; have hP4 := Lib.hid (hP3.out.grown hgrow (fun q hq => ⟨by have := hR3.out.1 q hq; omega, own_typed (Kd.own_of_R hR3.out) q hq⟩)); clear hat hgrow)
                  have hs : fitL l (k + 1) = fitL l k ++ [x] := by rw [fitL_snoc l k x hx, if_pos hfit]
                  exact ⟨⟨k + 1, rs ++ [(Ax, x.length, cx)], by omega, by go_num, hR4.out, by rw [hs]; exact hS.snoc _ _ ⟨rfl, hxc, hxC⟩, by rw [hs, List.flatMap_append]; simpa using hP4.out, hB4⟩, by simp [intOf]; omega⟩
          · have hx3d : decide ((x.length : Int) ≤ 32) = false := decide_eq_false (by omega)
            have hxl : x.length ≤ 9223372036854775807 := hxC.2.1
            go_wp2_with fail
            obtain ⟨W0, hW0⟩ : ∃ W0, W0 = wr := ⟨_, rfl⟩
            subst hW0
            go_loopw [7, 41] (fun s7 s41 wq => ∃ j : Nat, j ≤ x.length ∧ s41 = .int .i64 j ∧ s7 = .bool false ∧ Below W0.heap.size W0 wq) (fun _ s41 _ => x.length - (intOf s41).toNat)
            case atStart => exact ⟨0, by omega, rfl, rfl, Below.refl _ _⟩
            case round =>
              obtain ⟨j, hj, rfl, rfl, hq⟩ := hrel
              have hbq := hb.trans (hq.mono hb.size)
              by_cases hjn : j < x.length
              · have hgo3 : decide ((j : Int) < (x.length : Int)) = true := decide_eq_true (by omega)
                obtain ⟨g1, o1, rfl, hg1, hsc⟩ := str_cells hxC (by omega)
                obtain ⟨s, hs⟩ : ∃ s, x[j]? = some s := ⟨x[j], List.getElem?_eq_getElem hjn⟩
                have hcj := (hbq.cell (p := ⟨g1, o1 + j, none⟩) hg1).trans (hsc j s hs)
                have hj0 : (0 : Int) ≤ (j : Int) := by omega
                have hj1 : j + 1 ≤ x.length := hjn
                clear hsc hs
                go_wp2_with fail
                refine ⟨⟨j + 1, hj1, by go_num, rfl, hq⟩, ?_⟩
                simp [intOf]
                omega
              · obtain rfl : j = x.length := by omega
                have hgo3 : decide ((x.length : Int) < (x.length : Int)) = false := decide_eq_false (by omega)
                have hfit : fitB x = false := by
                  unfold fitB; rw [decide_eq_true hx0, decide_eq_false hx3]; rfl
                have hRq := Lib.hid (Kd.R_below hR hq)
                have hPq := Lib.hid (hP.keep hq)
                clear hcw hR hP hb hq
                go_wp2_with fail
                have hs : fitL l (k + 1) = fitL l k := by rw [fitL_snoc l k x hx, if_neg (by rw [hfit]; decide), List.append_nil]
                exact ⟨⟨k + 1, rs, by omega, by go_num, hRq.out, by rw [hs]; exact hS, by rw [hs]; exact hPq.out, hbq⟩, by simp [intOf]; omega⟩
        · have hx0d : decide ((0 : Int) < (x.length : Int)) = false := decide_eq_false (by omega)
          have hxl : x.length ≤ 9223372036854775807 := hxC.2.1
          go_wp2_with fail
          obtain ⟨W0, hW0⟩ : ∃ W0, W0 = wr := ⟨_, rfl⟩
          subst hW0
          go_loopw [7, 41] (fun s7 s41 wq => ∃ j : Nat, j ≤ x.length ∧ s41 = .int .i64 j ∧ s7 = .bool false ∧ Below W0.heap.size W0 wq) (fun _ s41 _ => x.length - (intOf s41).toNat)
          case atStart => exact ⟨0, by omega, rfl, rfl, Below.refl _ _⟩
          case round =>
            obtain ⟨j, hj, rfl, rfl, hq⟩ := hrel
            have hbq := hb.trans (hq.mono hb.size)
            by_cases hjn : j < x.length
            · have hgo3 : decide ((j : Int) < (x.length : Int)) = true := decide_eq_true (by omega)
              obtain ⟨g1, o1, rfl, hg1, hsc⟩ := str_cells hxC (by omega)
              obtain ⟨s, hs⟩ : ∃ s, x[j]? = some s := ⟨x[j], List.getElem?_eq_getElem hjn⟩
              have hcj := (hbq.cell (p := ⟨g1, o1 + j, none⟩) hg1).trans (hsc j s hs)
              have hj0 : (0 : Int) ≤ (j : Int) := by omega
              have hj1 : j + 1 ≤ x.length := hjn
              clear hsc hs
              go_wp2_with fail
              refine ⟨⟨j + 1, hj1, by go_num, rfl, hq⟩, ?_⟩
              simp [intOf]
              omega
            · obtain rfl : j = x.length := by omega
              have hgo3 : decide ((x.length : Int) < (x.length : Int)) = false := decide_eq_false (by omega)
              have hfit : fitB x = false := by
                unfold fitB; rw [decide_eq_false hx0]; rfl
              have hRq := Lib.hid (Kd.R_below hR hq)
              have hPq := Lib.hid (hP.keep hq)
              clear hcw hR hP hb hq
              go_wp2_with fail
              have hs : fitL l (k + 1) = fitL l k := by rw [fitL_snoc l k x hx, if_neg (by rw [hfit]; decide), List.append_nil]
              exact ⟨⟨k + 1, rs, by omega, by go_num, hRq.out, by rw [hs]; exact hS, by rw [hs]; exact hPq.out, hbq⟩, by simp [intOf]; omega⟩
      · have hkl : k = l.length := by omega
        subst hkl
        have hgo2 : decide ((l.length : Int) < (l.length : Int)) = false := decide_eq_false (by omega)
        have hfl := fitL_len l l.length
        have hfa := fits_all l l.length
        have hflat := flat_len (fitL l l.length) hfa
        have hA := all_calls w hE wr hb w.heap.size (Nat.le_refl _) _ 0 hP.par (by omega) (l.length + 1) (by omega)
        rw [all_back (fitL l l.length) (l.length + 1) [] hfa (by omega), List.nil_append] at hA
        have ec : ((l.length + 1 : Nat) : Int) = (l.length : Int) + 1 := by omega
        rw [ec] at hA
        obtain ⟨A4, c4, hu4, hc4, hC4⟩ := Kd.R_reads hR
        have hrl := hS.1
        rw [hrl] at hu4 hc4
        subst hu4
        have hlt := hP.lt
        replace hR := Lib.hid hR
        replace hS := Lib.hid hS
        go_wp2_with fail
        refine hA.mono ?_
        rintro e w5 ⟨A5, c5, rfl, hR5, hp5, hk5⟩
        have hb5 := Keeps.base hb (Nat.le_refl _) hk5
        have hW5 := Lib.hid (Kd.R_step hR.out (fun q hq hlt => hk5.block q hlt (by omega)))
        clear hA hP hk5
        go_wp2_with fail
        refine (alive_calls _ (hE.below hb5)).mono ?_
        rintro e w6 ⟨rfl, hb6⟩
        have hb6' := hb5.trans (hb6.mono hb5.size)
        have hR6 := Kd.R_below hR5 hb6
        have hW6 := Kd.R_below hW5.out hb6
        obtain ⟨A5', c5', hu5, hc5, hC5⟩ := Kd.R_reads hR6
        injection hu5 with q1 q2 q3
        subst q1 q3
        obtain ⟨A4', c4', hu4, hc4', hC4'⟩ := Kd.R_reads hW6
        injection hu4 with q1 q2 q3
        subst q1 q3
        have hL4 := hS.out.lists hb6' hC4'
        have hSame := Same_calls A5 A4 c5 c4 (fitL l l.length) w6 hC5 hc5 hL4 hc4 (by omega) (fun x hx => by have := (hfa x hx).2.1; omega)
        replace hSame := Lib.hid hSame
        generalize (fitL l l.length).length = nF at hSame ⊢
        try clear hR6
        try clear hW6
        try clear hR5
        try clear hW5
        try clear hR
        try clear hS
        try clear hC4
        try clear hC4'
        try clear hL4
        try clear hC5
        try clear hc5
        try clear hc4
        try clear hc4'
        try clear hc5'
        try clear hrl
        try clear hfl
        try clear hflat
        try clear hfa
        go_wp2_with fail
        refine hSame.out.mono ?_
        rintro e w7 ⟨rfl, hb7⟩
        have hb7' := hb6'.trans (hb7.mono hb6'.size)
        go_wp2_with fail
        go_ret
        exact ⟨rfl, hb7'⟩
end Go.Proofs.YtmdekodoicnmbaaDoor
