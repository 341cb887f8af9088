/- What the listed package-level variables give: the power table, the two sentinels of strconv; and how these facts last. Conditions: the row's list is met by the world. -/
import Derived.Test.YtpbiohnmmngccaaGreatDoorRows
import Derived.Test.YtpbiohnmmngccaaGreatDoorShelf
import Derived.WalkKit
import Derived.Below
import Derived.Lib.LaidTab
import Derived.Lib.Hide
import Derived.Stop.LaidErr
import Derived.LaidLaws
import Derived.WalkSmall
import Derived.Deep.DeepHandedRow
import Derived.Lib.LaidU8
namespace Go.Proofs.YtpbiohnmmngccaaGreatDoor
open Go.RowKit

def halvesTab : List Int := [0, 4129, 8258, 12387, 16516, 20645, 24774, 28903, 33032, 37161, 41290, 45419, 49548, 53677, 57806, 61935]
/-- What the code reads of package-level variables. -/
structure Env (w : World) : Prop where
  pow : Lib.TabIs Tryz.prog w "internal/strconv.uint64pow10" .u64 Lib.pow10Tab
  syn : ∃ a, w.var? Tryz.prog "strconv.ErrSyntax" = some #[.iface 131 (.pointer (some a))]
  rng : ∃ a, w.var? Tryz.prog "strconv.ErrRange" = some #[.iface 131 (.pointer (some a))]
  hlv : Lib.TabIs Tryz.prog w "marshalyard/crc.halves" .u16 halvesTab
  utf : Lib.Utf8Tabs 4 5 w
  mx : ∃ m, w.cell? ⟨3, 0, none⟩ = some (.int .i64 m)

theorem gPow : Tryz.prog.globalNamed "internal/strconv.uint64pow10" = some 6 := by kernel_rfl
theorem gPowT : (Tryz.prog.globals[6]?).map (·.type) = some 155 := by kernel_rfl
theorem cellsPow : Tryz.prog.cellsOf 155 = 20 := by kernel_rfl
theorem cellsU64 : Tryz.prog.cellsOf 119 = 1 := by kernel_rfl
theorem gSyn : Tryz.prog.globalNamed "strconv.ErrSyntax" = some 1 := by kernel_rfl
theorem gSynT : (Tryz.prog.globals[1]?).map (·.type) = some 75 := by kernel_rfl
theorem gRng : Tryz.prog.globalNamed "strconv.ErrRange" = some 2 := by kernel_rfl
theorem gRngT : (Tryz.prog.globals[2]?).map (·.type) = some 75 := by kernel_rfl
theorem starErr : "*" ++ "errors.errorString" = "*errors.errorString" := by decide
theorem rowErr (u : TypeId) (h : Tryz.prog.typeName? 3 u = some "*errors.errorString") : u = 131 :=
  typeName_ptr_named (nm := "errors.errorString") (by rw [starErr]; kernel_rfl) (by kernel_rfl) (by decide) u (by rw [starErr]; exact h)
theorem cellsErr : Tryz.prog.cellsOf 133 = 1 := by kernel_rfl
theorem cellsStr : Tryz.prog.cellsOf 9 = 1 := by kernel_rfl

theorem laidMet_drop {P : Program} {W : World} : ∀ (k : Nat) {l : List (String × DataW Unit)}, laidMet P l W → laidMet P (l.drop k) W
  | 0, _, h => by simpa using h
  | k + 1, [], h => by simpa using h
  | k + 1, _ :: r, h => by simpa using laidMet_drop k (l := r) h.tail

theorem pow_of {W : World} {r : List (String × DataW Unit)} (h : laidMet Tryz.prog (("internal/strconv.uint64pow10", Rows.laid_internal_strconv_uint64pow10) :: r) W) :
    Lib.TabIs Tryz.prog W "internal/strconv.uint64pow10" .u64 Lib.pow10Tab :=
  Lib.tabIs_of_head (rest := r) gPow gPowT Tryz.underlying155 Tryz.underlying119 cellsU64 cellsPow h
theorem syn_of {W : World} {r : List (String × DataW Unit)} (h : laidMet Tryz.prog (("strconv.ErrSyntax", Rows.laid_strconv_ErrSyntax) :: r) W) :
    ∃ a, W.var? Tryz.prog "strconv.ErrSyntax" = some #[.iface 131 (.pointer (some a))] := by
  obtain ⟨a, s, hv, -, -, -⟩ := laid_sentinel h gSyn gSynT Tryz.underlying75 rowErr Tryz.underlying131 Tryz.underlying133 rfl rfl Tryz.underlying9 cellsErr cellsStr
  exact ⟨a, hv⟩
theorem rng_of {W : World} {r : List (String × DataW Unit)} (h : laidMet Tryz.prog (("strconv.ErrRange", Rows.laid_strconv_ErrRange) :: r) W) :
    ∃ a, W.var? Tryz.prog "strconv.ErrRange" = some #[.iface 131 (.pointer (some a))] := by
  obtain ⟨a, s, hv, -, -, -⟩ := laid_sentinel h gRng gRngT Tryz.underlying75 rowErr Tryz.underlying131 Tryz.underlying133 rfl rfl Tryz.underlying9 cellsErr cellsStr
  exact ⟨a, hv⟩

theorem mx_of {W : World} (h : W.ShapedOpen Tryz.prog) : ∃ m, W.cell? ⟨3, 0, none⟩ = some (.int .i64 m) :=
  Go.Proofs.cell_of_shapedOpen_int (zero := #[.int .i64 0]) (t := 3) h (of_decide_eq_true (by kernel_rfl)) (by kernel_rfl) rfl (by kernel_rfl) (by kernel_rfl) Tryz.underlying3

theorem var_lt {w : World} {n : String} {g : Nat} {cs : Array Value} (hg : Tryz.prog.globalNamed n = some g) (hv : w.var? Tryz.prog n = some cs) : g < w.heap.size := by
  unfold World.var? at hv
  simp only [hg, Option.bind_some] at hv
  by_cases hlt : g < w.heap.size
  · exact hlt
  · rw [Array.getElem?_eq_none (by omega)] at hv
    simp at hv

theorem gHlv : Tryz.prog.globalNamed "marshalyard/crc.halves" = some 0 := by kernel_rfl
theorem gHlvT : (Tryz.prog.globals[0]?).map (·.type) = some 114 := by kernel_rfl
theorem cellsHlv : Tryz.prog.cellsOf 114 = 16 := by kernel_rfl
theorem cellsU16 : Tryz.prog.cellsOf 88 = 1 := by kernel_rfl
theorem hlv_of {W : World} {r : List (String × DataW Unit)} (h : laidMet Tryz.prog (("marshalyard/crc.halves", Rows.laid_marshalyard_crc_halves) :: r) W) :
    Lib.TabIs Tryz.prog W "marshalyard/crc.halves" .u16 halvesTab :=
  Lib.tabIs_of_head (rest := r) gHlv gHlvT Tryz.underlying114 Tryz.underlying88 cellsU16 cellsHlv h

theorem u8_first : (Rows.laid_unicode_utf8_first : DataW Unit) = Lib.firstData := by kernel_rfl
theorem u8_acc : (Rows.laid_unicode_utf8_acceptRanges : DataW Unit) = Lib.acceptData := by kernel_rfl
theorem u8_extra : U8Extra Tryz.prog Tryz.lays230_ren := ⟨by kernel_rfl, by kernel_rfl, by kernel_rfl, by kernel_rfl, by kernel_rfl, by kernel_rfl, by kernel_rfl⟩
theorem utf_of {W : World} {l : List (String × DataW Unit)} (h : laidMet Tryz.prog l W) (h1 : ("unicode/utf8.first", Rows.laid_unicode_utf8_first) ∈ l) (h2 : ("unicode/utf8.acceptRanges", Rows.laid_unicode_utf8_acceptRanges) ∈ l) :
    Lib.Utf8Tabs 4 5 W := by
  have a := Lib.laidMet.reads h h1
  have b := Lib.laidMet.reads h h2
  rw [u8_first] at a
  rw [u8_acc] at b
  exact utf8Tabs_of_reads { Tryz.lays230 with } u8_extra a b

/-- What lies below stays. -/
theorem Env.below {w w' : World} (h : Env w) (b : Below w.heap.size w w') : Env w' := by
  obtain ⟨a, ha⟩ := h.syn
  obtain ⟨c, hc⟩ := h.rng
  obtain ⟨m, hm⟩ := h.mx
  exact { pow := var?_below b gPow (var_lt gPow h.pow) h.pow
          syn := ⟨a, var?_below b gSyn (var_lt gSyn ha) ha⟩
          hlv := var?_below b gHlv (var_lt gHlv h.hlv) h.hlv
          utf := Utf8Tabs_below h.utf b
          mx := ⟨m, (b.cell (World.block_lt_of_cell? w _ hm)).trans hm⟩
          rng := ⟨c, var?_below b gRng (var_lt gRng hc) hc⟩ }
end Go.Proofs.YtpbiohnmmngccaaGreatDoor
