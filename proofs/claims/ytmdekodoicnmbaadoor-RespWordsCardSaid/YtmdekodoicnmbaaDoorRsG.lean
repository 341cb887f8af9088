/- The next command, in plain words; a scope with several labels; what a parser's world keeps. Conditions: none. -/
import Derived.Test.YtmdekodoicnmbaaDoorRsF
import Derived.Scope
import Derived.ScopeJumps
set_option linter.unusedVariables false
set_option linter.unusedSimpArgs false
namespace Go.Proofs.YtmdekodoicnmbaaDoor
open Go.RowKit Go.Proofs.YtmdekodoicnmbaaDoorW.PrintWords
section
variable {P : Program} {a : Act} {w : World} {Q : Exit → Act → World → Prop}
/-- by a goto: what that label asks, lower -/
def leap (J : Nat → Nat → Act → World → Prop) (m : Nat) (Q : Exit → Act → World → Prop) : Exit → Act → World → Prop
  | .goto l, a, w => ∃ m', m' < m ∧ J l m' a w
  | e, a, w => Q e a w
theorem leap_mono {J : Nat → Nat → Act → World → Prop} {m n : Nat} (h : m ≤ n) : ∀ e a w, leap J m Q e a w → leap J n Q e a w := by
  intro e a w
  cases e with
  | goto l => rintro ⟨m', h1, h2⟩; exact ⟨m', Nat.lt_of_lt_of_le h1 h, h2⟩
  | _ => exact id
theorem wp_leaps {c : Code} (J : Nat → Nat → Act → World → Prop) (M : Nat) (first : c.wp P (leap J M Q) a w)
    (pass : ∀ l m a w, J l m a w → ∃ rest, findLabel c l = some rest ∧ rest.wp P (leap J m Q) a w) : (Code.scope c).wp P Q a w := by
  intro b k cs
  have key : ∀ n l a w, J l n a w → ∃ e a' w', Q e a' w' ∧ ∃ rest, findLabel c l = some rest ∧ Arrives P (lone (b.at a (.code rest :: .inScope c :: k)) cs w) b k cs e a' w' := by
    intro n
    induction n using Nat.strongRecOn with
    | _ n ih =>
      intro l a w hJ
      obtain ⟨rest, hf, hw⟩ := pass l n a w hJ
      obtain ⟨e, a₁, w₁, hq, harr⟩ := hw b (.inScope c :: k) cs
      cases e with
      | normal => exact ⟨.normal, a₁, w₁, hq, rest, hf, Steps.trans harr (.one step_inScope)⟩
      | exit id => exact ⟨.exit id, a₁, w₁, hq, rest, hf, fun k' hk => harr k' (by simp [exitTo, hk])⟩
      | goto l' =>
        obtain ⟨m', hlt, hJ'⟩ := hq
        obtain ⟨e₂, a₂, w₂, hq₂, rest₂, hf₂, harr₂⟩ := ih m' hlt l' a₁ w₁ hJ'
        exact ⟨e₂, a₂, w₂, hq₂, rest, hf, .of_steps (harr _ (by simp [gotoIn, hf₂])) harr₂⟩
      | ret => exact ⟨_, a₁, w₁, hq, rest, hf, harr⟩
      | panic ch => exact ⟨_, a₁, w₁, hq, rest, hf, harr⟩
      | outgrown => exact ⟨_, a₁, w₁, hq, rest, hf, harr⟩
  obtain ⟨e, a₁, w₁, hq, harr⟩ := first b (.inScope c :: k) cs
  cases e with
  | normal => exact ⟨.normal, a₁, w₁, hq, .head step_scope (Steps.trans harr (.one step_inScope))⟩
  | exit id => exact ⟨.exit id, a₁, w₁, hq, fun k' hk => .head step_scope (harr k' (by simp [exitTo, hk]))⟩
  | goto l' =>
    obtain ⟨m', hlt, hJ'⟩ := hq
    obtain ⟨e₂, a₂, w₂, hq₂, rest₂, hf₂, harr₂⟩ := key m' l' a₁ w₁ hJ'
    exact ⟨e₂, a₂, w₂, hq₂, .of_steps (.head step_scope (harr _ (by simp [gotoIn, hf₂]))) harr₂⟩
  | ret => exact ⟨_, a₁, w₁, hq, .of_steps (.one step_scope) harr⟩
  | panic ch => exact ⟨_, a₁, w₁, hq, .of_steps (.one step_scope) harr⟩
  | outgrown => exact ⟨_, a₁, w₁, hq, .of_steps (.one step_scope) harr⟩
end
/-! ### in plain words -/
def argsV : Nat → List UInt8 → Nat → List ByteArray → Except Int (List ByteArray × Nat)
  | 0, _, at_, acc => .ok (acc, at_)
  | m + 1, b, at_, acc => if (bulkV (b.drop at_)).2.2 ≠ 0 ∨ (bulkV (b.drop at_)).2.1 = 0 then .error (bulkV (b.drop at_)).2.2 else argsV m b (at_ + (bulkV (b.drop at_)).2.1) (acc ++ [⟨(bulkV (b.drop at_)).1.toArray⟩])
inductive OneV where
  | stop (e : Int)
  | read (args : List ByteArray) (n : Nat)
/-- what stands at the beginning of some bytes -/
def oneV (b : List UInt8) : OneV :=
  if b = [] then .stop 0
  else if lkV b < 0 then .stop (if 512 ≤ b.length then 33 else 0)
  else if b.getD 0 0 ≠ 42 then (if 32 < (wordsV (b.take ((lkV b).toNat + 1))).length then .stop 30 else .read (wordsV (b.take ((lkV b).toNat + 1))) ((lkV b).toNat + 1))
  else if numV (b.take ((lkV b).toNat + 1)) 32 < 0 then .stop 30
  else match argsV (numV (b.take ((lkV b).toNat + 1)) 32).toNat b ((lkV b).toNat + 1) [] with
    | .error f => .stop f
    | .ok (args, n) => .read args n
inductive NextV where
  | stop (e : Int) (b : List UInt8)
  | got (args : List ByteArray) (rest : List UInt8)
def nextF : Nat → List UInt8 → NextV
  | 0, b => .stop 0 b
  | f + 1, b => match oneV b with
    | .stop e => .stop e b
    | .read args n => if args = [] then nextF f (b.drop n) else .got args (b.drop n)
def nextV (b : List UInt8) (code : Int) : NextV := if code = 0 then nextF (b.length + 1) b else .stop code b
theorem bulk_len (l : List UInt8) : (bulkV l).2.1 ≤ l.length := by
  have hk := lk_bd l
  unfold bulkV
  split
  · simp
  · split
    · simp
    · split
      · simp
      · simp only
        split
        · simp
        · split
          · simp
          · rename_i h1 h2 h3 h4 h5
            simp at h5 ⊢
            omega
theorem args_len : ∀ (m : Nat) (b : List UInt8) (at_ : Nat) (acc : List ByteArray) {xs : List ByteArray} {n : Nat}, at_ ≤ b.length → argsV m b at_ acc = .ok (xs, n) → at_ ≤ n ∧ n ≤ b.length
  | 0, b, at_, acc, xs, n, h, e => by
    simp only [argsV] at e
    injection e with e
    injection e with e1 e2
    omega
  | m + 1, b, at_, acc, xs, n, h, e => by
    simp only [argsV] at e
    split at e
    · cases e
    · have h1 := bulk_len (b.drop at_)
      rw [List.length_drop] at h1
      obtain ⟨h2, h3⟩ := args_len m b _ _ (by omega) e
      exact ⟨by omega, h3⟩
theorem one_len {b : List UInt8} {args : List ByteArray} {n : Nat} (h : oneV b = .read args n) : 1 ≤ n ∧ n ≤ b.length := by
  have hk := lk_bd b
  unfold oneV at h
  split at h
  · cases h
  · split at h
    · cases h
    · rename_i h1 h2
      split at h
      · split at h
        · cases h
        · injection h with _ h
          omega
      · split at h
        · cases h
        · split at h
          · cases h
          · rename_i heq
            injection h with _ h
            have := args_len _ _ _ _ (by omega) heq
            omega
/-! ### the world of a parser -/
structure Keeps (g : Nat) (w w' : World) : Prop where
  os : w'.os = w.os
  tape : w'.tape = w.tape
  output : w'.output = w.output
  size : w.heap.size ≤ w'.heap.size
  block : ∀ k, k < w.heap.size → k ≠ g → w'.heap[k]? = w.heap[k]?
theorem Keeps.refl (g : Nat) (w : World) : Keeps g w w := ⟨rfl, rfl, rfl, Nat.le_refl _, fun _ _ _ => rfl⟩
theorem Keeps.below {g : Nat} {w W W' : World} (h : Keeps g w W) (hb : Below w.heap.size W W') : Keeps g w W' :=
  ⟨hb.os.trans h.os, hb.tape.trans h.tape, hb.output.trans h.output, Nat.le_trans h.size hb.size, fun k hk hne => (hb.block k hk).trans (h.block k hk hne)⟩
theorem Keeps.trans {g : Nat} {w W W' : World} (h : Keeps g w W) (hb : Keeps g W W') : Keeps g w W' :=
  ⟨hb.os.trans h.os, hb.tape.trans h.tape, hb.output.trans h.output, Nat.le_trans h.size hb.size, fun k hk hne => (hb.block k (Nat.lt_of_lt_of_le hk h.size) hne).trans (h.block k hk hne)⟩
theorem Keeps.set {g : Nat} {w W : World} (h : Keeps g w W) (o : Nat) (v : Value) : Keeps g w (W.setCell ⟨g, o, none⟩ v) :=
  ⟨h.os, h.tape, h.output, by simpa using h.size, fun k hk hne => (Below.heap_setCell _ _ _ _ hne).trans (h.block k hk hne)⟩
theorem Keeps.drew {g : Nat} {w W : World} (h : Keeps g w W) : Keeps g w W.drew := ⟨h.os, h.tape, h.output, h.size, h.block⟩
/-- seen from a world ahead of the parser -/
theorem Keeps.base {g : Nat} {w0 w W : World} (h0 : Below w0.heap.size w0 w) (hg : w0.heap.size ≤ g) (h : Keeps g w W) : Below w0.heap.size w0 W :=
  ⟨h.os.trans h0.os, h.tape.trans h0.tape, h.output.trans h0.output, Nat.le_trans h0.size h.size, fun k hk => (h.block k (Nat.lt_of_lt_of_le hk h0.size) (by omega)).trans (h0.block k hk)⟩
theorem RdB.keeps {w W : World} {g : Nat} {A : Option Addr} {c : Nat} {l : List UInt8} {v : Value} {k : Int} (h : RdB w A c l) (hg : w.heap[g]? = some (.cells #[v, .int .i64 k] 39 (0, 0))) (hv : ∀ z, v ≠ .int .u8 z) (hk : Keeps g w W) : RdB W A c l := by
  obtain ⟨h1, h2, h3⟩ := h
  refine ⟨h1, h2, ?_⟩
  rcases h3 with h3 | ⟨g', o, hA, hlt, hc⟩
  · exact Or.inl h3
  · refine Or.inr ⟨g', o, hA, Nat.lt_of_lt_of_le hlt hk.size, fun j hj => ?_⟩
    have hcj := hc j hj
    have hne : g' ≠ g := by
      rintro rfl
      rw [cell_of_row w _ _ _ 39 (0, 0) hg] at hcj
      rcases hoj : o + j with _ | _ | q
      · rw [hoj] at hcj
        simp at hcj
        exact hv _ hcj
      · rw [hoj] at hcj
        simp at hcj
      · rw [hoj] at hcj
        simp at hcj
    rw [← hcj]
    exact World.cell?_of_block (w := w) (hk.block g' hlt hne)
end Go.Proofs.YtmdekodoicnmbaaDoor
