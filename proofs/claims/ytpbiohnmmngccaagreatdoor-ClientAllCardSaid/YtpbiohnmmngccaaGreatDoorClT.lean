/- The table of commands, laid by table.all. Conditions: none. -/
import Derived.Test.YtpbiohnmmngccaaGreatDoorClF
set_option linter.unusedVariables false
set_option linter.unusedSimpArgs false
namespace Go.Proofs.YtpbiohnmmngccaaGreatDoor
open Go.RowKit Go.Proofs.YtpbiohnmmngccaaGreatDoorW.PrintWords
theorem upon_of {P : Program} {o : Oper} {a : Act} {next : Act → World → Prop} {Q : Exit → Act → World → Prop} {w' : World} {v : Value} {r : Result Next} (h : r = .ok (.value v) w') (hn : next (a.put o.dst v) w') : o.upon P a next Q r := by
  subst h
  exact hn
set_option maxHeartbeats 4000000 in
set_option maxRecDepth 100000 in
theorem all_calls (w : World) : Calls Tryz.prog 65 #[] w fun e w' => e = .returned (.slice (some ⟨w.heap.size, 0, none⟩) 47 47) ∧ w' = w.alloc (.cells specC 84) := by
  go_enter Tryz.func65, Tryz.ntmps65
  go_wp2_with fail
  unfold Oper.wp
  refine upon_of (v := .slice (some ⟨w.heap.size, 0, none⟩) 47 47) (w' := w.alloc (.cells specC 84)) (by kernel_rfl) ?_
  go_wp2_with fail
  go_ret
  exact ⟨rfl, rfl⟩
end Go.Proofs.YtpbiohnmmngccaaGreatDoor
