/- PacketUnlike: for every input the law answers true, and its arguments read as they did. Conditions: the row's own; the listed variables as laid (tied by the card). -/
import Derived.Test.YtbpjfjdndaoekaaDoorCards
import Derived.Test.YtbpjfjdndaoekaaDoorTie
import Derived.Test.YtbpjfjdndaoekaaDoorWit
import Derived.Test.YtbpjfjdndaoekaaDoorMgF
import Derived.WalkKit
import Derived.ProofKit
import Derived.OpenShut
import Derived.ShutString
import Derived.Deep.DeepHandedRow
import Derived.Deep.DeepWitnessRowRef
import Derived.Lib.LaidTab
import Derived.SizedLaws
import Derived.Carry
namespace Go.Proofs.YtbpjfjdndaoekaaDoor.packetUnlike
open Go.ChangeShapes Go.WideShapes Go.ChangeAt Go.RowKit
open Go.ChangeMaps (open_string shut_string)
set_option linter.unusedVariables false
set_option linter.unusedSimpArgs false
theorem laidOut : laidOutB Tryd.prog = true := by kernel_rfl
theorem laid_met (os : Os) : laidMet Tryd.prog Rows.packetUnlikeRow.laid ((laidWorld os).forCall (fun _ _ => 0) ⟨#[], #[.agg (Array.append (α := Value) #[.int .i64 0, .int .i64 0, .int .i64 0, .int .u64 0, .int .u64 0] (Array.replicate 256 (.int .u64 0))), .agg (Array.append (α := Value) #[.int .i64 0, .int .i64 0, .int .i64 0, .int .u64 0, .int .u64 0] (Array.replicate 256 (.int .u64 0)))], []⟩).memory :=
  laidMet_of_run' 8 (by kernel_rfl) (by kernel_rfl)
theorem reads (os : Os) {H : Type} (enc : TypeId × Value → H) : ∃ places, DataW.whole enc Tryd.prog ((laidWorld os).forCall (fun _ _ => 0) ⟨#[], #[.agg (Array.append (α := Value) #[.int .i64 0, .int .i64 0, .int .i64 0, .int .u64 0, .int .u64 0] (Array.replicate 256 (.int .u64 0))), .agg (Array.append (α := Value) #[.int .i64 0, .int .i64 0, .int .i64 0, .int .u64 0, .int .u64 0] (Array.replicate 256 (.int .u64 0)))], []⟩).memory Tryd.f8.params.toList Rows.packetUnlikeSpec.vars false #[(.agg (Array.append (α := Value) #[.int .i64 0, .int .i64 0, .int .i64 0, .int .u64 0, .int .u64 0] (Array.replicate 256 (.int .u64 0))) : Value), (.agg (Array.append (α := Value) #[.int .i64 0, .int .i64 0, .int .i64 0, .int .u64 0, .int .u64 0] (Array.replicate 256 (.int .u64 0))) : Value)].toList 8 = some ([.agg [.lit (.int .i64 0), .lit (.int .i64 0), .lit (.int .i64 0), .lit (.int .u64 0), .lit (.int .u64 0), .agg (List.replicate 256 (.lit (.int .u64 0)))], .agg [.lit (.int .i64 0), .lit (.int .i64 0), .lit (.int .i64 0), .lit (.int .u64 0), .lit (.int .u64 0), .agg (List.replicate 256 (.lit (.int .u64 0)))]], [], places) :=
  ⟨[], by kernel_rfl⟩
theorem env {W : World} (hsh : W.ShapedOpen Tryd.prog) (hL : laidMetH Tryd.prog Rows.packetUnlikeRow.laid W) : Env W := by
  have h : laidMet Tryd.prog Rows.packetUnlikeRow.laid W := hL
  exact ⟨pow_of (laidMet_drop 3 h), syn_of (laidMet_drop 5 h), rng_of (laidMet_drop 4 h), spc_of (laidMet_drop 7 h), whs_of (laidMet_drop 6 h), hlv_of (laidMet_drop 0 h), mx_of hsh⟩
set_option maxRecDepth 100000 in
theorem contract (H : Type) (enc : TypeId × Value → H) (W : World) (base : Nat) (args : Array Value) (ds gs : List (DataW H)) (before : List MemPlace)
    (hval0 : ∀ (j : Nat) t v, Tryd.f8.params[j]? = some t → args[j]? = some v → Value.okWide Tryd.prog W .any base t v)
    (hW : DataW.Whole enc Tryd.prog Tryd.f8.params.toList Rows.packetUnlikeSpec.vars false W args.toList ds gs before)
    (hsz0 : (DataW.weightsEach Tryd.prog (Tryd.f8.params.toList ++ Rows.packetUnlikeSpec.plain.varTypes Tryd.prog) (ds ++ gs)).all (· ≤ reachBytes) = true) (hsh : W.ShapedOpen Tryd.prog) (hL : laidMetH Tryd.prog Rows.packetUnlikeRow.laid W) :
    Calls Tryd.prog 8 args W fun e W' => ∃ v, e = .returned v ∧ Rows.packetUnlikeSpec.post enc Tryd.prog Tryd.f8 false true false false W args v W' := by
  have hsz := hsz0
  have hval : ∀ (j : Nat) t v, Tryd.f8.params[j]? = some t → args[j]? = some v → Value.okWide Tryd.prog W .any base t v := hval0
  have hW' := hW
  obtain ⟨p, q, hA0, hV, rfl, hfz, hnd⟩ := hW
  have hA : DataW.TrodAll enc Tryd.prog W 0 (fun _ => true) true Tryd.f8.params.toList args.toList ds p := hA0
  rw [Tryd.params8] at hA hval hsz
  obtain ⟨v0, vs0, d0, ds0, p0, q0, hargs, rfl, rfl, h0, r0⟩ := trodAll_cons hA
  obtain ⟨v1, vs1, d1, ds1, p1, q1, rfl, rfl, rfl, h1, r1⟩ := trodAll_cons r0
  obtain ⟨rfl, rfl, rfl⟩ := trodAll_nil r1
  obtain rfl : args = #[v0, v1] := by cases args; simp_all
  obtain ⟨rfl, rfl⟩ := trodVars_none hV
  have k0 := h0
  have lt0 : ∀ x ∈ p0, x.block < W.heap.size := by obtain ⟨m, hm⟩ := k0; exact DataW.trod_lt m _ _ _ hm
  obtain ⟨c, k, fr, o, e, cu, a, f, rfl, hp⟩ := open_pk (hval 0 26 v0 rfl rfl) h0
  have k1 := h1
  have lt1 : ∀ x ∈ p1, x.block < W.heap.size := by obtain ⟨m, hm⟩ := k1; exact DataW.trod_lt m _ _ _ hm
  obtain ⟨cx1, kx1, frx1, ox1, ex1, cux1, ax1, fx1, rfl, hpx1⟩ := open_pk (hval 1 26 v1 rfl rfl) h1
  clear hA0 hval0 hsz0 hsz
  refine (PacketUnlike_walk c k fr o e cu a f cx1 kx1 frx1 ox1 ex1 cux1 ax1 fx1 hp hpx1 W (env hsh hL)).mono fun e W' ⟨he, bel⟩ => ?_
  subst he
  exact ⟨_, rfl, _, _, _, [], _, [], hW', trodAll_mk1 (shut_bool Tryd.underlying4 _), (trodAll_cons_mk (Below.trod laidOut (by kernel_rfl) (of_decide_eq_true (by kernel_rfl)) k0 bel lt0) (trodAll_cons_mk (Below.trod laidOut (by kernel_rfl) (of_decide_eq_true (by kernel_rfl)) k1 bel lt1) trodAll_mk0)), rfl, bel.frame _, fun h => by cases h⟩
set_option maxRecDepth 100000 in
theorem lifted (os : Os) (started : os.Started) (H : Type) (enc : TypeId × Value → H) (F : Stop.Interp) :
    ReturnsInHanded {} Tryd.checked os 8 .any ((OpenSpec.ofChange Rows.packetUnlikeSpec).preRow enc Tryd.prog Tryd.f8 Rows.packetUnlikeRow.domain false Rows.packetUnlikeRow.laid) (((OpenSpec.ofChange Rows.packetUnlikeSpec).at F).post enc Tryd.prog Tryd.f8 false true false false) := by
  obtain ⟨places, hx⟩ := reads os enc
  refine returnsInHanded_of_row (C := Tryd.checked) (s := OpenSpec.ofChange Rows.packetUnlikeSpec) own started (by kernel_rfl) Tryd.func8
    (witness_row_atRef (enc := enc) (C := Tryd.checked) false (laidWorld os) #[.agg (Array.append (α := Value) #[.int .i64 0, .int .i64 0, .int .i64 0, .int .u64 0, .int .u64 0] (Array.replicate 256 (.int .u64 0))), .agg (Array.append (α := Value) #[.int .i64 0, .int .i64 0, .int .i64 0, .int .u64 0, .int .u64 0] (Array.replicate 256 (.int .u64 0)))] rfl (by kernel_rfl) (by kernel_rfl) (by kernel_rfl)
      (OpenSpec.preRow_of_cond 8 hx (by kernel_rfl) (fun k hk => by cases hk) (by kernel_rfl) (laid_met os))) ?_
  intro W base args ds gs before hval hW _ hco hsz hL hsh _
  exact contract H enc W base args ds gs before hval hW hsz hsh hL
theorem said : Rows.PacketUnlikeSaid :=
  OpenClaim.holds_of_cond 8 Tryd.f8 rfl rfl rfl rfl rfl rfl rfl ⟨rfl, rfl, rfl, rfl, rfl⟩ rfl rfl rfl rfl rfl (by kernel_rfl) Tryd.func8 (by kernel_rfl)
    (of_decide_eq_true (by kernel_rfl)) (by unfold Func.isWrapper; first | (rw [if_pos (by decide +kernel)]; kernel_rfl) | (rw [if_neg (by decide +kernel)]; exact ⟨rfl, rfl⟩))
    (fun os started H enc _ F => by rw [OpenClaim.pre_eq_preRow]; exact lifted os started H enc F)
theorem plain (f : FuncId) (fn : Func) (hf : Tryd.pinned.checked.prog.funcNamed "marshalyard/marshalyardlaw14.PacketUnlike" = some f) (hfn : Tryd.pinned.checked.prog.funcs[f]? = some fn) :
    true = Tryd.pinned.checked.prog.looks [] ∧ ∀ (j : Nat) t, fn.params[j]? = some t → Tryd.pinned.checked.prog.wantsStandIn t = false := by
  obtain rfl : f = 8 := Option.some.inj ((show Tryd.prog.funcNamed "marshalyard/marshalyardlaw14.PacketUnlike" = some 8 by kernel_rfl).symm.trans hf) |>.symm
  obtain rfl : fn = Tryd.f8 := (Option.some.inj (Tryd.func8.symm.trans hfn)).symm
  refine ⟨by kernel_rfl, fun j t ht => ?_⟩
  rw [Tryd.params8] at ht
  have hm : t ∈ [26] := by simpa using Array.mem_of_getElem? ht
  obtain rfl : t = 26 := by simpa using hm
  exact (show Tryd.prog.wantsStandIn 26 = false by kernel_rfl)
theorem card : Rows.PacketUnlikeCardSaid :=
  Claim7.holds_tied_plain_at .later [] _ _ _ _ said (fun _ h => by cases h) (by kernel_rfl) (fun _ h => by cases h) packetUnlike_row_tie rfl ⟨rfl, rfl⟩ (by kernel_rfl) rfl plain (by kernel_rfl)
#print axioms card
end Go.Proofs.YtbpjfjdndaoekaaDoor.packetUnlike
namespace Go.Proofs.YtbpjfjdndaoekaaDoor
theorem packetUnlike_card : Rows.PacketUnlikeCardSaid := packetUnlike.card
end Go.Proofs.YtbpjfjdndaoekaaDoor
