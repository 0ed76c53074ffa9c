import Derived.Test.YtcpgflbfjplheaaGreatDoorNby
import Derived.Test.YtcpgflbfjplheaaGreatDoorMby
namespace Go.Proofs.YtcpgflbfjplheaaGreatDoor
open Go.RowKit Gs
set_option linter.unusedVariables false
set_option maxHeartbeats 400000 in
theorem nat_Of (v:Nat) (hv:v < 18446744073709551616) (w:World):Calls Tryz.prog 128 #[.int .u64 v] w fun e w'=>∃ A1 n1 c1,e = .returned (.slice A1 n1 c1) ∧ RdU w' (fun b=>w.heap.size ≤ b) ⟨A1,n1,c1⟩ (limbs 18446744073709551616 v) ∧ Below w.heap.size w w':=by
 by_cases h0:v = 0
 ·subst h0
  go_enter Tryz.func128,Tryz.ntmps128
  go_wp2
  go_ret
  exact ⟨none,0,0,rfl,⟨RdN.nil _ _ _ 0 (by omega) _,Lt.nil _⟩,Below.refl _ _⟩
 ·have hvb:((v:Int) == 0) = false:=by rw [beq_eq_false_iff_ne]; omega
  have hl:limbs 18446744073709551616 v = [v]:=limbs_eq B64 (Lt.cons hv (Lt.nil _)) (by intro x hx; simp at hx; omega) (by simp [val])
  have HL:=Lib.hid hl
  clear hl
  go_enter Tryz.func128,Tryz.ntmps128
  go_wp2
  go_ret
  refine ⟨some ⟨w.heap.size,0,none⟩,1,1,rfl,?_,(Below.refl _ _).alloc (Nat.le_refl _) _⟩
  rw [HL.out]
  have:=OwnN.made .u64 w w.heap.size 146 [v] (Nat.le_refl _) (by simp)
  exact ⟨this.rd,Lt.cons hv (Lt.nil _)⟩
end Go.Proofs.YtcpgflbfjplheaaGreatDoor
