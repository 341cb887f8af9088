/- BusIgnores, for every input of moderate bulk: the walk. Conditions: the listed variables as laid. -/
import Derived.Test.YtgdcnenlelckhaaGreatDoorMgI
set_option linter.unusedVariables false
set_option linter.unusedSimpArgs false
namespace Go.Proofs.YtgdcnenlelckhaaGreatDoor
open Go.RowKit
theorem BusIgnores_walk (cB : Array Value) (sf : Int) (ep : Nat) (a : Array Value) (f : Nat → Nat) (A : Option Addr) (c : Nat) (l : List OpV) (s : ByteArray) (W : World) (hE : Env W) (hB : BegIs cB sf ep a f) (hl : Ops W A l) (hc : l.length ≤ c) (hcm : c ≤ 9223372036854775807)
    (hsz : ∀ (i : Nat) (O : OpV), l[i]? = some O → O.s.size ≤ 4294967296) (hs : s.size ≤ 1048576) : Calls Tryz.prog 5 #[.agg cB, .slice A l.length c, .string s] W fun e w' => e = .returned (.bool true) ∧ Below W.heap.size W w' :=
  ignores_calls W hE cB sf ep a f hB A c l hl hc hcm hsz s (Nat.le_trans hs (by decide))
end Go.Proofs.YtgdcnenlelckhaaGreatDoor
