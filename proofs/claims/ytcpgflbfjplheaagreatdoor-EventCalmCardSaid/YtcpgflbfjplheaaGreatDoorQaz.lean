import Derived.Test.YtcpgflbfjplheaaGreatDoorCards
import Derived.Test.YtcpgflbfjplheaaGreatDoorTie
import Derived.Test.YtcpgflbfjplheaaGreatDoorKy
import Derived.WalkKit
import Derived.ProofKit
import Derived.OpenShut
import Derived.Carry
import Derived.ChangeSlices
import Derived.Deep.DeepHandedRow
namespace Go.Proofs.YtcpgflbfjplheaaGreatDoor
open Go.ChangeShapes Go.WideShapes Go.ChangeAt Go.RowKit Gs
set_option linter.unusedVariables false
theorem own:ownKnob Tryz.prog.godebug = none:=by kernel_rfl
theorem laidOut:laidOutB Tryz.prog = true:=by kernel_rfl
theorem cellsU64:Tryz.prog.cellsOf 146 = 1:=by kernel_rfl
theorem u64_nat {z:Int} (h:(Lit.int .u64 z).wf = true):0 ≤ z ∧ z < 18446744073709551616:=by
 have h1:IntKind.u64.min = 0:=rfl
 have h2:IntKind.u64.max = 18446744073709551615:=rfl
 simp only [Lit.wf,Bool.and_eq_true,decide_eq_true_eq] at h
 omega
def laidObj (vs:List Value):Obj → Obj
 | .cells _ t frozen=>.cells vs.toArray t frozen
 | o=>o
noncomputable def laidWorld (os:Os):World :=
 { World.holding Tryz.prog os ⟨#[],#[],[]⟩ with heap:=((World.holding Tryz.prog os ⟨#[],#[],[]⟩).heap.modify 2 (laidObj (Go.Pinned.utf8FirstZ.map fun x=>Value.int .u8 (Int.ofNat x)))).modify 3 (laidObj ([128,191,160,191,128,159,144,191,128,143,0,0,0,0,0,0,0,0,0,0,0,0,0,0,0,0,0,0,0,0,0,0].map fun x=>Value.int .u8 x)) }
end Go.Proofs.YtcpgflbfjplheaaGreatDoor
