/- The statements' own check on a text, a set and a key: it answers true. Conditions: the listed variables as laid. -/
import Derived.Test.YtnlchdjknebmfaaDoorSlQ
import Derived.Test.YtnlchdjknebmfaaDoorSlN
set_option linter.unusedVariables false
set_option linter.unusedSimpArgs false
namespace Go.Proofs.YtnlchdjknebmfaaDoor
open Go.RowKit Go.Proofs.YtnlchdjknebmfaaDoorW.PrintWords
open SlS SlT
def H0 (n : Nat) : Bool := (decide (3 ≤ n) && decide (n ≤ 5)) || n == 9
theorem filter0 : (List.range 16384).filter H0 = [3, 4, 5, 9] := by decide +kernel
theorem print0 : printH H0 = [51, 45, 53, 32, 57] := by
  unfold printH rngH
  rw [filter0]
  have e : rangesV [3, 4, 5, 9] = [(3, 5), (9, 9)] := rfl
  have d : ∀ n, n < 10 → Lib.decDigits n = [UInt8.ofNat (48 + n)] := fun n h => by rw [Lib.decDigits, dif_pos h]
  rw [e]
  unfold printV
  simp [rangeT, Lib.join, List.intercalate, List.intersperse, d]
theorem of0 : ofV [123, 102, 111, 111, 125, 120] = 12182 := by decide +kernel
theorem has_at {f : Nat → Nat} (h : ∀ n, n < 16384 → hasN f n = H0 n) : hasW f 4 = true ∧ hasW f 6 = false ∧ (upto f 16384).length = 4 := by
  refine ⟨?_, ?_, ?_⟩
  · have := hasW_bit f 4 (by decide)
    exact this.trans (h 4 (by decide))
  · have := hasW_bit f 6 (by decide)
    exact this.trans (h 6 (by decide))
  · have : upto f 16384 = [3, 4, 5, 9] := by
      unfold upto
      rw [← filter0]
      exact List.filter_congr fun n hn => h n (List.mem_range.1 hn)
    rw [this]; rfl
set_option maxHeartbeats 2000000 in
set_option maxRecDepth 100000 in
theorem alive_calls (w : World) (hE : Env w) : Calls Tryd.prog 14 #[] w fun e w' => e = .returned (.bool true) ∧ Below w.heap.size w w' := by
  have hP := Parse_calls ⟨#[51, 45, 53, 32, 57]⟩ (by decide) w hE
  have hl : (⟨#[51, 45, 53, 32, 57]⟩ : ByteArray).data.toList = [51, 45, 53, 32, 57] := rfl
  rw [hl] at hP
  go_enter Tryd.func14, Tryd.ntmps14
  go_wp2_with fail
  refine hP.mono ?_
  rintro e w1 ⟨h, hb1⟩
  rcases h with ⟨a, f, rfl, ha, hS⟩ | ⟨hno, -⟩
  · have hf : ∀ n, n < 16384 → hasN f n = H0 n := fun n hn => printH_inj (hS.trans print0.symm) hn
    obtain ⟨h4, h6, hc⟩ := has_at hf
    have hia : (Tryd.prog.info? 30).map (·.size) = some a.size := by rw [ha.size]; exact info30
    have hza : Tryd.zeroCells30.size = a.size := by rw [ha.size]; exact zero_size
    have ho := ha.one
    have C4 := fun W => Has_calls a f ha 4 W
    have C6 := fun W => Has_calls a f ha 6 W
    have CO := fun W h => Of_calls ⟨#[123, 102, 111, 111, 125, 120]⟩ (by decide) W h
    have CP := fun W h => Print_calls a f ha W h
    have CC := fun W => Count_calls a f ha W
    rw [h4] at C4
    rw [h6] at C6
    have hol : (⟨#[123, 102, 111, 111, 125, 120]⟩ : ByteArray).data.toList = [123, 102, 111, 111, 125, 120] := rfl
    rw [hol, of0] at CO
    rw [hS] at CP
    rw [hc] at CC
    have hG2 : ((w1.alloc (.cells Tryd.zeroCells30 30)).setRow w1.heap.size a).heap[w1.heap.size]? = some (.cells a 30 (0, 0)) := setRow_heap _ _ _ _ _ _ (heapN w1 _)
    have hl2 : w1.heap.size < ((w1.alloc (.cells Tryd.zeroCells30 30)).setRow w1.heap.size a).heap.size := by simp [World.setRow]
    have hbw2 : Below w.heap.size w ((w1.alloc (.cells Tryd.zeroCells30 30)).setRow w1.heap.size a) := below_setRow (hb1.trans ((below_new' w1 _).mono hb1.size)) hb1.size _
    have hal : Tryd.prog.info? 30 = Tryd.prog.info? 30 := rfl
    clear hf hS h4 h6 hc hP hl hol hal
    go_wp2_with (first | (refine wpList_store_row rfl 30 _ _ rfl (w1.heap.size) a rfl rfl 30 Tryd.zeroCells30 (heapN w1 _) hia hza ho ?_) | (refine wpList_load_row_g (by first | rfl | simp [Region.wanted, yielded]) 30 _ rfl w1.heap.size rfl 30 a (0, 0) _ hG2 Tryd.underlying30 rfl hia ?_))
    refine (C4 _).mono ?_
    rintro e w3 ⟨rfl, hb3⟩
    have hG3 := (hb3.block _ hl2).trans hG2
    have hl3 : w1.heap.size < w3.heap.size := Nat.lt_of_lt_of_le hl2 hb3.size
    have hbw3 := hbw2.trans (hb3.mono hbw2.size)
    clear hb3 hG2 hl2 hbw2 C4
    go_wp2_with (refine wpList_load_row_g (by first | rfl | simp [Region.wanted, yielded]) 30 _ rfl w1.heap.size rfl 30 a (0, 0) _ hG3 Tryd.underlying30 rfl hia ?_)
    refine (C6 _).mono ?_
    rintro e w4 ⟨rfl, hb4⟩
    have hG4 := (hb4.block _ hl3).trans hG3
    have hl4 : w1.heap.size < w4.heap.size := Nat.lt_of_lt_of_le hl3 hb4.size
    have hbw4 := hbw3.trans (hb4.mono hbw3.size)
    clear hb4 hG3 hl3 hbw3 C6
    go_wp2_with fail
    refine (CO _ (hE.below hbw4)).mono ?_
    rintro e w5 ⟨rfl, hb5⟩
    have hG5 := (hb5.block _ hl4).trans hG4
    have hl5 : w1.heap.size < w5.heap.size := Nat.lt_of_lt_of_le hl4 hb5.size
    have hbw5 := hbw4.trans (hb5.mono hbw4.size)
    clear hb5 hG4 hl4 hbw4 CO
    go_wp2_with (refine wpList_load_row_g (by first | rfl | simp [Region.wanted, yielded]) 30 _ rfl w1.heap.size rfl 30 a (0, 0) _ hG5 Tryd.underlying30 rfl hia ?_)
    refine (CP _ (hE.below hbw5)).mono ?_
    rintro e w6 ⟨rfl, hb6⟩
    have hG6 := (hb6.block _ hl5).trans hG5
    have hl6 : w1.heap.size < w6.heap.size := Nat.lt_of_lt_of_le hl5 hb6.size
    have hbw6 := hbw5.trans (hb6.mono hbw5.size)
    clear hb6 hG5 hl5 hbw5 CP
    go_wp2_with (refine wpList_load_row_g (by first | rfl | simp [Region.wanted, yielded]) 30 _ rfl w1.heap.size rfl 30 a (0, 0) _ hG6 Tryd.underlying30 rfl hia ?_)
    refine (CC _).mono ?_
    rintro e w7 ⟨rfl, hb7⟩
    have hbw7 := hbw6.trans (hb7.mono hbw6.size)
    clear hb7 hG6 hl6 hbw6 CC
    go_wp2_with fail
    go_ret
    exact ⟨rfl, hbw7⟩
  · exact absurd print0 (hno H0)
end Go.Proofs.YtnlchdjknebmfaaDoor
