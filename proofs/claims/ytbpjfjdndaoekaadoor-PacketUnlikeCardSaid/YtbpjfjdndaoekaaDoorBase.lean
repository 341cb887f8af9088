/- What the listed package-level variables give: the power table, the two sentinels of strconv; and how these facts last. Conditions: the row's list is met by the world. -/
import Derived.Test.YtbpjfjdndaoekaaDoorRows
import Derived.Test.YtbpjfjdndaoekaaDoorShelf
import Derived.WalkKit
import Derived.Below
import Derived.Lib.LaidTab
import Derived.Lib.Hide
import Derived.Stop.LaidErr
import Derived.LaidLaws
import Derived.WalkSmall
import Derived.Deep.DeepHandedRow
import Derived.Lib.LaidU8
namespace Go.Proofs.YtbpjfjdndaoekaaDoor
open Go.RowKit

def halvesTab : List Int := [0, 4129, 8258, 12387, 16516, 20645, 24774, 28903, 33032, 37161, 41290, 45419, 49548, 53677, 57806, 61935]
/-- What the code reads of package-level variables. -/
structure Env (w : World) : Prop where
  pow : Lib.TabIs Tryd.prog w "internal/strconv.uint64pow10" .u64 Lib.pow10Tab
  syn : ∃ a, w.var? Tryd.prog "strconv.ErrSyntax" = some #[.iface 133 (.pointer (some a))]
  rng : ∃ a, w.var? Tryd.prog "strconv.ErrRange" = some #[.iface 133 (.pointer (some a))]
  spc : Lib.TabIs Tryd.prog w "strings.asciiSpace" .u8 Lib.asciiSpaceTab
  whs : Lib.WhiteTab 2 w
  hlv : Lib.TabIs Tryd.prog w "marshalyard/crc.halves" .u16 halvesTab
  mx : ∃ m, w.cell? ⟨3, 0, none⟩ = some (.int .i64 m)

theorem gPow : Tryd.prog.globalNamed "internal/strconv.uint64pow10" = some 4 := by kernel_rfl
theorem gPowT : (Tryd.prog.globals[4]?).map (·.type) = some 118 := by kernel_rfl
theorem cellsPow : Tryd.prog.cellsOf 118 = 20 := by kernel_rfl
theorem cellsU64 : Tryd.prog.cellsOf 22 = 1 := by kernel_rfl
theorem gSyn : Tryd.prog.globalNamed "strconv.ErrSyntax" = some 5 := by kernel_rfl
theorem gSynT : (Tryd.prog.globals[5]?).map (·.type) = some 69 := by kernel_rfl
theorem gRng : Tryd.prog.globalNamed "strconv.ErrRange" = some 6 := by kernel_rfl
theorem gRngT : (Tryd.prog.globals[6]?).map (·.type) = some 69 := by kernel_rfl
theorem starErr : "*" ++ "errors.errorString" = "*errors.errorString" := by decide
theorem rowErr (u : TypeId) (h : Tryd.prog.typeName? 3 u = some "*errors.errorString") : u = 133 :=
  typeName_ptr_named (nm := "errors.errorString") (by rw [starErr]; kernel_rfl) (by kernel_rfl) (by decide) u (by rw [starErr]; exact h)
theorem cellsErr : Tryd.prog.cellsOf 135 = 1 := by kernel_rfl
theorem cellsStr : Tryd.prog.cellsOf 9 = 1 := by kernel_rfl

theorem laidMet_drop {P : Program} {W : World} : ∀ (k : Nat) {l : List (String × DataW Unit)}, laidMet P l W → laidMet P (l.drop k) W
  | 0, _, h => by simpa using h
  | k + 1, [], h => by simpa using h
  | k + 1, _ :: r, h => by simpa using laidMet_drop k (l := r) h.tail

theorem pow_of {W : World} {r : List (String × DataW Unit)} (h : laidMet Tryd.prog (("internal/strconv.uint64pow10", Rows.laid_internal_strconv_uint64pow10) :: r) W) :
    Lib.TabIs Tryd.prog W "internal/strconv.uint64pow10" .u64 Lib.pow10Tab :=
  Lib.tabIs_of_head (rest := r) gPow gPowT Tryd.underlying118 Tryd.underlying22 cellsU64 cellsPow h
theorem syn_of {W : World} {r : List (String × DataW Unit)} (h : laidMet Tryd.prog (("strconv.ErrSyntax", Rows.laid_strconv_ErrSyntax) :: r) W) :
    ∃ a, W.var? Tryd.prog "strconv.ErrSyntax" = some #[.iface 133 (.pointer (some a))] := by
  obtain ⟨a, s, hv, -, -, -⟩ := laid_sentinel h gSyn gSynT Tryd.underlying69 rowErr Tryd.underlying133 Tryd.underlying135 rfl rfl Tryd.underlying9 cellsErr cellsStr
  exact ⟨a, hv⟩
theorem rng_of {W : World} {r : List (String × DataW Unit)} (h : laidMet Tryd.prog (("strconv.ErrRange", Rows.laid_strconv_ErrRange) :: r) W) :
    ∃ a, W.var? Tryd.prog "strconv.ErrRange" = some #[.iface 133 (.pointer (some a))] := by
  obtain ⟨a, s, hv, -, -, -⟩ := laid_sentinel h gRng gRngT Tryd.underlying69 rowErr Tryd.underlying133 Tryd.underlying135 rfl rfl Tryd.underlying9 cellsErr cellsStr
  exact ⟨a, hv⟩

theorem mx_of {W : World} (h : W.ShapedOpen Tryd.prog) : ∃ m, W.cell? ⟨3, 0, none⟩ = some (.int .i64 m) :=
  Go.Proofs.cell_of_shapedOpen_int (zero := #[.int .i64 0]) (t := 3) h (of_decide_eq_true (by kernel_rfl)) (by kernel_rfl) rfl (by kernel_rfl) (by kernel_rfl) Tryd.underlying3

theorem var_lt {w : World} {n : String} {g : Nat} {cs : Array Value} (hg : Tryd.prog.globalNamed n = some g) (hv : w.var? Tryd.prog n = some cs) : g < w.heap.size := by
  unfold World.var? at hv
  simp only [hg, Option.bind_some] at hv
  by_cases hlt : g < w.heap.size
  · exact hlt
  · rw [Array.getElem?_eq_none (by omega)] at hv
    simp at hv

theorem gSpc : Tryd.prog.globalNamed "strings.asciiSpace" = some 0 := by kernel_rfl
theorem gSpcT : (Tryd.prog.globals[0]?).map (·.type) = some 75 := by kernel_rfl
theorem cellsSpc : Tryd.prog.cellsOf 75 = 256 := by kernel_rfl
theorem cellsU8 : Tryd.prog.cellsOf 5 = 1 := by kernel_rfl
theorem spc_data : (Rows.laid_strings_asciiSpace : DataW Unit) = Lib.tabData .u8 Lib.asciiSpaceTab := by kernel_rfl
theorem spc_of {W : World} {r : List (String × DataW Unit)} (h : laidMet Tryd.prog (("strings.asciiSpace", Rows.laid_strings_asciiSpace) :: r) W) :
    Lib.TabIs Tryd.prog W "strings.asciiSpace" .u8 Lib.asciiSpaceTab := by
  rw [spc_data] at h
  exact Lib.tabIs_of_head (rest := r) gSpc gSpcT Tryd.underlying75 Tryd.underlying5 cellsU8 cellsSpc h
theorem gHlv : Tryd.prog.globalNamed "marshalyard/crc.halves" = some 1 := by kernel_rfl
theorem gHlvT : (Tryd.prog.globals[1]?).map (·.type) = some 81 := by kernel_rfl
theorem cellsHlv : Tryd.prog.cellsOf 81 = 16 := by kernel_rfl
theorem cellsU16 : Tryd.prog.cellsOf 35 = 1 := by kernel_rfl
theorem hlv_of {W : World} {r : List (String × DataW Unit)} (h : laidMet Tryd.prog (("marshalyard/crc.halves", Rows.laid_marshalyard_crc_halves) :: r) W) :
    Lib.TabIs Tryd.prog W "marshalyard/crc.halves" .u16 halvesTab :=
  Lib.tabIs_of_head (rest := r) gHlv gHlvT Tryd.underlying81 Tryd.underlying35 cellsU16 cellsHlv h
theorem wh_data : (Rows.laid_unicode_White_Space : DataW Unit) = Lib.whiteData := by kernel_rfl
theorem wh_extra : WhiteExtra Tryd.prog Tryd.lays157_ren := ⟨by kernel_rfl, by kernel_rfl, by kernel_rfl, by kernel_rfl, by kernel_rfl, by kernel_rfl, by kernel_rfl, by kernel_rfl⟩
theorem whs_of {W : World} {r : List (String × DataW Unit)} (h : laidMet Tryd.prog (("unicode.White_Space", Rows.laid_unicode_White_Space) :: r) W) : Lib.WhiteTab 2 W := by
  rw [wh_data] at h
  exact whiteTab_of_reads { Tryd.lays157 with } wh_extra (Lib.laidMet.reads h List.mem_cons_self)

/-- What lies below stays. -/
theorem Env.below {w w' : World} (h : Env w) (b : Below w.heap.size w w') : Env w' := by
  obtain ⟨a, ha⟩ := h.syn
  obtain ⟨c, hc⟩ := h.rng
  obtain ⟨m, hm⟩ := h.mx
  exact { pow := var?_below b gPow (var_lt gPow h.pow) h.pow
          syn := ⟨a, var?_below b gSyn (var_lt gSyn ha) ha⟩
          spc := var?_below b gSpc (var_lt gSpc h.spc) h.spc
          whs := WhiteTab_below h.whs b
          hlv := var?_below b gHlv (var_lt gHlv h.hlv) h.hlv
          mx := ⟨m, (b.cell (World.block_lt_of_cell? w _ hm)).trans hm⟩
          rng := ⟨c, var?_below b gRng (var_lt gRng hc) hc⟩ }
end Go.Proofs.YtbpjfjdndaoekaaDoor
