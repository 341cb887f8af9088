/- A scope in which the run jumps on by goto (so many times at the most), to whichever labels: one law. No program stands in this text. -/
import Derived.ScopeJumps
import Derived.WalkKit
namespace Go.Proofs.YtnccoopefajohaaDoor
open Go

/-- As Q; a goto leads on to what stands behind its label, n times at the most. -/
def GoQ (P : Program) (c : Code) (Q : Exit → Act → World → Prop) : Nat → Exit → Act → World → Prop
  | 0 => Exit.noGoto Q
  | n + 1 => fun e a w => match e with
    | .goto l => ∃ rest, findLabel c l = some rest ∧ rest.wp P (GoQ P c Q n) a w
    | .normal => Q .normal a w
    | .exit id => Q (.exit id) a w
    | .ret => Q .ret a w
    | .panic ch => Q (.panic ch) a w
    | .outgrown => Q .outgrown a w

section
variable {P : Program} {a : Act} {w : World} {Q : Exit → Act → World → Prop} {c : Code} {n : Nat}
theorem GoQ_goto {l : Nat} {rest : Code} (hf : findLabel c l = some rest) (h : rest.wp P (GoQ P c Q n) a w) : GoQ P c Q (n + 1) (.goto l) a w := ⟨rest, hf, h⟩
theorem GoQ_ret : GoQ P c Q n .ret a w = Q .ret a w := by cases n <;> rfl
theorem GoQ_normal : GoQ P c Q n .normal a w = Q .normal a w := by cases n <;> rfl
theorem GoQ_exit (id : Nat) : GoQ P c Q n (.exit id) a w = Q (.exit id) a w := by cases n <;> rfl
theorem GoQ_panic (ch : List PanicEntry) : GoQ P c Q n (.panic ch) a w = Q (.panic ch) a w := by cases n <;> rfl

theorem wp_scope_go (n : Nat) (h : c.wp P (GoQ P c Q n) a w) : (Code.scope c).wp P Q a w := by
  intro b k cs
  have key : ∀ n (rest : Code) a w, rest.wp P (GoQ P c Q n) a w → ∃ e a' w', Q e a' w' ∧ Arrives P (lone (b.at a (.code rest :: .inScope c :: k)) cs w) b k cs e a' w' := by
    intro n
    induction n with
    | zero =>
      intro rest a w h
      obtain ⟨e, a₁, w₁, hq, harr⟩ := h b (.inScope c :: k) cs
      cases e with
      | normal => exact ⟨.normal, a₁, w₁, hq, Steps.trans harr (.one step_inScope)⟩
      | exit id => exact ⟨.exit id, a₁, w₁, hq, fun k' hk => harr k' (by simp [exitTo, hk])⟩
      | goto l => exact hq.elim
      | ret => exact ⟨_, a₁, w₁, hq, harr⟩
      | panic ch => exact ⟨_, a₁, w₁, hq, harr⟩
      | outgrown => exact ⟨_, a₁, w₁, hq, harr⟩
    | succ n ih =>
      intro rest a w h
      obtain ⟨e, a₁, w₁, hq, harr⟩ := h b (.inScope c :: k) cs
      cases e with
      | normal => exact ⟨.normal, a₁, w₁, hq, Steps.trans harr (.one step_inScope)⟩
      | exit id => exact ⟨.exit id, a₁, w₁, hq, fun k' hk => harr k' (by simp [exitTo, hk])⟩
      | goto l =>
        obtain ⟨rest', hf, hr⟩ := hq
        obtain ⟨e₂, a₂, w₂, hq₂, harr₂⟩ := ih rest' a₁ w₁ hr
        have hg : gotoIn l (.inScope c :: k) = some (.code rest' :: .inScope c :: k) := by simp [gotoIn, hf]
        exact ⟨e₂, a₂, w₂, hq₂, .of_steps (harr _ hg) harr₂⟩
      | ret => exact ⟨_, a₁, w₁, hq, harr⟩
      | panic ch => exact ⟨_, a₁, w₁, hq, harr⟩
      | outgrown => exact ⟨_, a₁, w₁, hq, harr⟩
  obtain ⟨e, a₁, w₁, hq, harr⟩ := key n c a w h
  exact ⟨e, a₁, w₁, hq, .of_steps (.one step_scope) harr⟩
end
end Go.Proofs.YtnccoopefajohaaDoor
