/- The laws' walks. Conditions: the listed variables as laid; texts within the machine's reach. -/
import Derived.Test.YtmdekodoicnmbaaDoorRsQ
import Derived.Test.YtmdekodoicnmbaaDoorRsM
set_option linter.unusedVariables false
set_option linter.unusedSimpArgs false
namespace Go.Proofs.YtmdekodoicnmbaaDoor
open Go.RowKit Go.Proofs.YtmdekodoicnmbaaDoorW.PrintWords
set_option maxHeartbeats 4000000 in
set_option maxRecDepth 100000 in
theorem Writes_calls (A : Option Addr) (c : Nat) (xs : List ByteArray) (w : World) (hE : Env w) (hr : Kd.string.C w A xs.length xs) (hc : xs.length ≤ c) (hlen : (cmdV xs).length ≤ 140737488355328) :
    Calls Tryd.prog 4 #[.slice A xs.length c] w fun e w' => e = .returned (.bool true) ∧ Below w.heap.size w w' := by
  by_cases hn : 200 < xs.length
  · have hgo : decide ((200 : Int) < (xs.length : Int)) = true := decide_eq_true (by omega)
    have hgo2 : ((xs.length : Int) > 200) = True := eq_true (by omega)
    go_enter Tryd.func4, Tryd.ntmps4
    go_wp2_with fail
    refine (alive_calls _ hE).mono ?_
    rintro e w1 ⟨rfl, hb1⟩
    go_wp2_with fail
    go_ret
    exact ⟨rfl, hb1⟩
  · have hgo : decide ((200 : Int) < (xs.length : Int)) = false := decide_eq_false (by omega)
    go_enter Tryd.func4, Tryd.ntmps4
    go_wp2_with fail
    refine (alive_calls _ hE).mono ?_
    rintro e w1 ⟨rfl, hb1⟩
    go_wp2_with fail
    refine (Command_calls A c xs w1 (Kd.C_below hr hb1) hc hlen (by omega) (hE.below hb1)).mono ?_
    rintro e w2 ⟨rfl, hb2⟩
    have hb2' := hb1.trans (hb2.mono hb1.size)
    go_wp2_with fail
    refine (refCommand_calls A c xs w2 (Kd.C_below hr hb2') hc hlen (by omega)).mono ?_
    rintro e w3 ⟨rfl, hb3⟩
    have hb3' := hb2'.trans (hb3.mono hb2'.size)
    go_wp2_with fail
    go_ret
    exact ⟨rfl, hb3'⟩
end Go.Proofs.YtmdekodoicnmbaaDoor
