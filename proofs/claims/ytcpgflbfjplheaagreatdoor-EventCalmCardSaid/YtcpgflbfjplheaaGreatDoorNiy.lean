import Derived.Test.YtcpgflbfjplheaaGreatDoorNgy
namespace Go.Proofs.YtcpgflbfjplheaaGreatDoor
open Go.RowKit Go.Shelf Gs
set_option linter.unusedVariables false
set_option maxRecDepth 100000 in
set_option maxHeartbeats 1000000 in
theorem clone_u64 {A n c} {l:List Nat} {P} {w:World} (h:RdN .u64 w P ⟨A,n,c⟩ l) (hn:n ≤ 17592186044416) :
 Calls Tryz.prog 237 #[.slice A n c] w fun e w'=>∃ A1 c1,e = .returned (.slice A1 n c1) ∧ RdN .u64 w' (fun b=>w.heap.size ≤ b) ⟨A1,n,c1⟩ l ∧ Below w.heap.size w w':=by
 have hlen:=h.len
 cases A with
 | none =>
  have h0:n = 0:=by
   rcases Nat.eq_zero_or_pos n with h0 | h0
   ·exact h0
   ·obtain ⟨ad,e,_⟩:=h.cells h0; cases e
  subst h0
  obtain rfl:=List.length_eq_zero_iff.1 hlen
  exact (Tryz.slices_Clone_nil 0 c w).mono fun e w' ⟨h1,h2⟩=>⟨none,0,h1,RdN.nil _ _ _ 0 (by omega) _,by rw [h2]; exact Below.refl _ _⟩
 | some ad =>
  have ke:∀ W:World,(binOp .eql 23 (.slice (some ad) n c) (.slice none 0 0)).run Tryz.prog W = .ok (.bool false) W:=fun W=>by kernel_rfl
  have HLEN:=Lib.hid hlen
  clear hlen
  go_enter Tryz.func237,Tryz.ntmps237
  go_wp2_with (at_builtin; refine appendN (w0:=w) w.heap.size rfl (.tmp 5) (.tmp 6) 23 146 .u64 8 rfl Tryz.underlying23 info_u64 (by decide) ⟨some ⟨w.heap.size,0,none⟩,0,0⟩ [] ad n c l rfl rfl (OwnN.made .u64 w w.heap.size 146 [] (Nat.le_refl _) (Nat.zero_le _)) (h.below ((Below.refl _ w).alloc (Nat.le_refl _) _)) ((Below.refl _ w).alloc (Nat.le_refl _) _) (by simp) (by simp; omega) ?_; intro v1 w1 hown1 hb1)
  obtain ⟨A1,n1,c1⟩:=v1
  obtain rfl:n1 = n:=by have h1:=hown1.len; have h2:=HLEN.out; simp at h1 h2; omega
  go_ret
  exact ⟨A1,c1,rfl,by simpa using hown1.rd,hb1⟩
end Go.Proofs.YtcpgflbfjplheaaGreatDoor
