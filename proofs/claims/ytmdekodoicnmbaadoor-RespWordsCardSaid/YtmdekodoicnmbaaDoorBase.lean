/- What the listed package-level variables give: the power table, the two sentinels of strconv; and how these facts last. Conditions: the row's list is met by the world. -/
import Derived.Test.YtmdekodoicnmbaaDoorRows
import Derived.Test.YtmdekodoicnmbaaDoorShelf
import Derived.WalkKit
import Derived.Below
import Derived.Lib.LaidTab
import Derived.Lib.Hide
import Derived.Stop.LaidErr
import Derived.LaidLaws
import Derived.WalkSmall
import Derived.Deep.DeepHandedRow
namespace Go.Proofs.YtmdekodoicnmbaaDoor
open Go.RowKit

/-- What the code reads of package-level variables. -/
structure Env (w : World) : Prop where
  pow : Lib.TabIs Tryd.prog w "internal/strconv.uint64pow10" .u64 Lib.pow10Tab
  syn : ∃ a, w.var? Tryd.prog "strconv.ErrSyntax" = some #[.iface 101 (.pointer (some a))]
  rng : ∃ a, w.var? Tryd.prog "strconv.ErrRange" = some #[.iface 101 (.pointer (some a))]
  mx : ∃ m, w.cell? ⟨0, 0, none⟩ = some (.int .i64 m)

theorem gPow : Tryd.prog.globalNamed "internal/strconv.uint64pow10" = some 1 := by kernel_rfl
theorem gPowT : (Tryd.prog.globals[1]?).map (·.type) = some 86 := by kernel_rfl
theorem cellsPow : Tryd.prog.cellsOf 86 = 20 := by kernel_rfl
theorem cellsU64 : Tryd.prog.cellsOf 73 = 1 := by kernel_rfl
theorem gSyn : Tryd.prog.globalNamed "strconv.ErrSyntax" = some 2 := by kernel_rfl
theorem gSynT : (Tryd.prog.globals[2]?).map (·.type) = some 46 := by kernel_rfl
theorem gRng : Tryd.prog.globalNamed "strconv.ErrRange" = some 3 := by kernel_rfl
theorem gRngT : (Tryd.prog.globals[3]?).map (·.type) = some 46 := by kernel_rfl
theorem starErr : "*" ++ "errors.errorString" = "*errors.errorString" := by decide
theorem rowErr (u : TypeId) (h : Tryd.prog.typeName? 3 u = some "*errors.errorString") : u = 101 :=
  typeName_ptr_named (nm := "errors.errorString") (by rw [starErr]; kernel_rfl) (by kernel_rfl) (by decide) u (by rw [starErr]; exact h)
theorem cellsErr : Tryd.prog.cellsOf 103 = 1 := by kernel_rfl
theorem cellsStr : Tryd.prog.cellsOf 9 = 1 := by kernel_rfl

theorem laidMet_drop {P : Program} {W : World} : ∀ (k : Nat) {l : List (String × DataW Unit)}, laidMet P l W → laidMet P (l.drop k) W
  | 0, _, h => by simpa using h
  | k + 1, [], h => by simpa using h
  | k + 1, _ :: r, h => by simpa using laidMet_drop k (l := r) h.tail

theorem pow_of {W : World} {r : List (String × DataW Unit)} (h : laidMet Tryd.prog (("internal/strconv.uint64pow10", Rows.laid_internal_strconv_uint64pow10) :: r) W) :
    Lib.TabIs Tryd.prog W "internal/strconv.uint64pow10" .u64 Lib.pow10Tab :=
  Lib.tabIs_of_head (rest := r) gPow gPowT Tryd.underlying86 Tryd.underlying73 cellsU64 cellsPow h
theorem syn_of {W : World} {r : List (String × DataW Unit)} (h : laidMet Tryd.prog (("strconv.ErrSyntax", Rows.laid_strconv_ErrSyntax) :: r) W) :
    ∃ a, W.var? Tryd.prog "strconv.ErrSyntax" = some #[.iface 101 (.pointer (some a))] := by
  obtain ⟨a, s, hv, -, -, -⟩ := laid_sentinel h gSyn gSynT Tryd.underlying46 rowErr Tryd.underlying101 Tryd.underlying103 rfl rfl Tryd.underlying9 cellsErr cellsStr
  exact ⟨a, hv⟩
theorem rng_of {W : World} {r : List (String × DataW Unit)} (h : laidMet Tryd.prog (("strconv.ErrRange", Rows.laid_strconv_ErrRange) :: r) W) :
    ∃ a, W.var? Tryd.prog "strconv.ErrRange" = some #[.iface 101 (.pointer (some a))] := by
  obtain ⟨a, s, hv, -, -, -⟩ := laid_sentinel h gRng gRngT Tryd.underlying46 rowErr Tryd.underlying101 Tryd.underlying103 rfl rfl Tryd.underlying9 cellsErr cellsStr
  exact ⟨a, hv⟩

theorem mx_of {W : World} (h : W.ShapedOpen Tryd.prog) : ∃ m, W.cell? ⟨0, 0, none⟩ = some (.int .i64 m) :=
  Go.Proofs.cell_of_shapedOpen_int (zero := #[.int .i64 0]) (t := 3) h (of_decide_eq_true (by kernel_rfl)) (by kernel_rfl) rfl (by kernel_rfl) (by kernel_rfl) Tryd.underlying3

theorem var_lt {w : World} {n : String} {g : Nat} {cs : Array Value} (hg : Tryd.prog.globalNamed n = some g) (hv : w.var? Tryd.prog n = some cs) : g < w.heap.size := by
  unfold World.var? at hv
  simp only [hg, Option.bind_some] at hv
  by_cases hlt : g < w.heap.size
  · exact hlt
  · rw [Array.getElem?_eq_none (by omega)] at hv
    simp at hv


/-- What lies below stays. -/
theorem Env.below {w w' : World} (h : Env w) (b : Below w.heap.size w w') : Env w' := by
  obtain ⟨a, ha⟩ := h.syn
  obtain ⟨c, hc⟩ := h.rng
  obtain ⟨m, hm⟩ := h.mx
  exact { pow := var?_below b gPow (var_lt gPow h.pow) h.pow
          syn := ⟨a, var?_below b gSyn (var_lt gSyn ha) ha⟩
          mx := ⟨m, (b.cell (World.block_lt_of_cell? w _ hm)).trans hm⟩
          rng := ⟨c, var?_below b gRng (var_lt gRng hc) hc⟩ }
end Go.Proofs.YtmdekodoicnmbaaDoor
