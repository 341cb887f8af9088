/- Walks of the reference's numbers and Read: what they come to. Conditions: texts of at most 2^20 bytes. -/
import Derived.Test.YtpbiohnmmngccaaDoorRtT
import Derived.OwnWalk
import Derived.Laws.AppendOwn
import Derived.Laws.OwnMore
set_option linter.unusedVariables false
set_option linter.unusedSimpArgs false
namespace Go.Proofs.YtpbiohnmmngccaaDoor
open Go.RowKit Go.Proofs.YtpbiohnmmngccaaDoorW.PrintWords
open RtS RtR R04P

def nLoop (p : List UInt8) : List UInt8 → Option (List Int)
  | [] => if good p then some [Dec.numVal p] else none
  | c :: r => if c = 32 then (if good p then (nLoop [] r).map (Dec.numVal p :: ·) else none) else nLoop (p ++ [c]) r
theorem nLoop_eq (r : List UInt8) : ∀ p : List UInt8, (32 : UInt8) ∉ p → nLoop p r = if (sp (p ++ r)).all good then some ((sp (p ++ r)).map Dec.numVal) else none := by
  induction r with
  | nil => intro p hp; simp [nLoop, sp_of_free hp]
  | cons c r ih =>
    intro p hp
    unfold nLoop
    by_cases hc : c = 32
    · subst hc
      rw [if_pos rfl, sp_append hp, ih [] (by simp)]
      simp only [List.nil_append, List.all_cons, List.map_cons]
      cases good p <;> cases (sp r).all good <;> simp
    · rw [if_neg hc, ih (p ++ [c]) (by simp [hp]; exact fun e => hc e.symm)]
      simp
theorem nums_loop (l w : List UInt8) (h : ¬ (l.length ≤ w.length ∨ l.take w.length ≠ w ∨ l.getD w.length 0 ≠ 32)) : numsV l w = match nLoop [] (l.drop (w.length + 1)) with
    | some r => (r, true)
    | none => ([], false) := by
  unfold numsV
  rw [if_neg h, nLoop_eq _ [] (by simp)]
  simp only [List.nil_append]
  split <;> rename_i h2 <;> simp_all

/-- a slice of ints in new memory, read as a list -/
def IntsAt (W : World) (v : Value) (l : List Int) : Prop := W.ownsRow 0 3 1 v l.length (l.map (Value.int .i64))

theorem info_int : (Tryd.prog.info? 3).map (fun i => (i.zero, i.size, i.bytes)) = some (some (.int .i64 0), 1, 8) := by kernel_rfl

/-- what numbers answers: a flag, and a row of its own that holds the numbers -/
theorem nl_end {p : List UInt8} (h : good p = true) : nLoop p [] = some [Dec.numVal p] := by simp [nLoop, h]
theorem nl_end_bad {p : List UInt8} (h : good p = false) : nLoop p [] = none := by simp [nLoop, h]
theorem nl_blank {p r : List UInt8} (h : good p = true) : nLoop p (32 :: r) = (nLoop [] r).map (Dec.numVal p :: ·) := by simp [nLoop, h]
theorem nl_blank_bad {p r : List UInt8} (h : good p = false) : nLoop p (32 :: r) = none := by simp [nLoop, h]
theorem nl_other {p r : List UInt8} {c : UInt8} (h : c ≠ 32) : nLoop p (c :: r) = nLoop (p ++ [c]) r := by simp [nLoop, h]
theorem drop_at (s : ByteArray) (j : Nat) (h : j < s.size) : s.data.toList.drop j = (s[j]'h) :: s.data.toList.drop (j + 1) := by
  rw [R04P.drop_cons s j h]
  simp [ByteArray.getElem_eq_getElem_data]
theorem piece_next (s : ByteArray) (f j : Nat) (hf : f ≤ j) (h : j < s.size) : (s.data.toList.drop f).take (j + 1 - f) = (s.data.toList.drop f).take (j - f) ++ [s[j]'h] := by
  rw [show j + 1 - f = (j - f) + 1 from by omega, List.take_succ_eq_append_getElem (by rw [List.length_drop, R04P.len_data]; omega)]
  congr 2
  rw [List.getElem_drop]
  simp [show f + (j - f) = j from by omega, ByteArray.getElem_eq_getElem_data]
theorem map_map_cons {acc : List Int} {x : Int} {o : Option (List Int)} : ((o.map (x :: ·)).map (acc ++ ·)) = o.map ((acc ++ [x]) ++ ·) := by
  cases o <;> simp
theorem news1 (w : World) (v : Value) (T : TypeId) : ∀ (j : Nat) (u : Value), [v][j]? = some u → (w.alloc (.cells #[v] T)).cell? ((⟨w.heap.size, 0, none⟩ : Addr).add j) = some u := by
  intro j u h
  cases j with
  | zero =>
    simp only [List.getElem?_cons_zero, Option.some.injEq] at h
    subst h
    simp [Addr.add, go_sem]
  | succ j => simp at h
theorem one_int (k : IntKind) (v : Int) : ∀ u ∈ [Value.int k v], u.oneCell' = true := fun u h => by
  rw [List.mem_singleton.1 h]; rfl
theorem alloc_ge {n : Nat} {w : World} (h : n ≤ w.heap.size) (o : Obj) : n ≤ (w.alloc o).heap.size := by
  simp; omega
def NumsPost (w : World) (x : List Int × Bool) (e : Ending) (w' : World) : Prop :=
  ∃ v, e = .returned (.tuple #[v, .bool x.2]) ∧ w'.ownsRow w.heap.size 3 1 v x.1.length (x.1.map (Value.int .i64)) ∧ Below w.heap.size w w'

end Go.Proofs.YtpbiohnmmngccaaDoor
