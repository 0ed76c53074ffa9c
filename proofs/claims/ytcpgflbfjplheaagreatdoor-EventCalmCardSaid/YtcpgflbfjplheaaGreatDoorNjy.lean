import Derived.Test.YtcpgflbfjplheaaGreatDoorNhy
import Derived.Test.YtcpgflbfjplheaaGreatDoorNiy
import Derived.Test.YtcpgflbfjplheaaGreatDoorNdy
namespace Go.Proofs.YtcpgflbfjplheaaGreatDoor
open Go.RowKit Go.Shelf Gs
set_option linter.unusedVariables false
set_option maxRecDepth 100000 in
set_option maxHeartbeats 1000000 in
theorem nat_DivMod_less {A n c A' n' c'} {l m:List Nat} {P} {w:World} (h:RdU w P ⟨A,n,c⟩ l) (h':RdU w P ⟨A',n',c'⟩ m) (hn:n ≤ 274877906944) (hn':n' ≤ 274877906944) (hz:val 18446744073709551616 m ≠ 0) (hl:val 18446744073709551616 l < val 18446744073709551616 m) :
 Calls Tryz.prog 191 #[.slice A n c,.slice A' n' c'] w fun e w'=>∃ A1 n1 c1 A2 n2 c2,e = .returned (.tuple #[.slice A1 n1 c1,.slice A2 n2 c2,.int .i64 0]) ∧ RdU w' (fun b=>w.heap.size ≤ b) ⟨A1,n1,c1⟩ (limbs 18446744073709551616 (val 18446744073709551616 l / val 18446744073709551616 m)) ∧ RdU w' (fun b=>w.heap.size ≤ b) ⟨A2,n2,c2⟩ (limbs 18446744073709551616 (val 18446744073709551616 l % val 18446744073709551616 m)) ∧ Below w.heap.size w w':=by
 have hN:=h.nl_le
 have hN':=h'.nl_le
 have hr:=h.trim
 have hr':=h'.trim
 have hnz:nl m ≠ 0:=fun e=>hz ((limbs_len_zero B64 _).1 e)
 obtain ⟨W0,hW0⟩:∃ W0,W0 = w.alloc (.cells #[.slice none 0 0] 23):=⟨_,rfl⟩
 have b0:Box W0 w.heap.size 23 (.slice none 0 0):=by rw [hW0]; exact Box.new w _ _
 have hB0:Below w.heap.size w W0:=by rw [hW0]; exact (Below.refl _ w).alloc (Nat.le_refl _) _
 have kt:=nat_trim (h.below hB0) (by omega)
 have kt2:=nat_trim (h'.below hB0) (by omega)
 have kc:=nat_Cmp (hr.below hB0) (hr'.below hB0) (by omega) (by omega)
 rw [val_limbs B64,val_limbs B64,show cmpI (val 18446744073709551616 l:Nat) (val 18446744073709551616 m:Nat) = -1 by unfold cmpI; rw [if_pos (by omega)]] at kc
 obtain ⟨N',hN2⟩:∃ N',N' = nl m:=⟨_,rfl⟩
 obtain ⟨N,hN1⟩:∃ N,N = nl l:=⟨_,rfl⟩
 rw [← hN2] at kt2 kc hnz
 rw [← hN1] at kt kc hr hN
 have hnb:(N' == 0) = false:=by simpa using hnz
 have hnb2:((N':Int) == 0) = false:=by rw [beq_eq_false_iff_ne]; omega
 have KT:=Lib.hid kt
 have KT2:=Lib.hid kt2
 have KC:=Lib.hid kc
 have HQ:=Lib.hid (Nat.div_eq_of_lt hl)
 have HR:=Lib.hid (Nat.mod_eq_of_lt hl)
 clear kt kt2 kc hz hl hN1 hN2 hnz hr' hN'
 have f0:=b0.free
 have c0:=b0.cell
 go_enter Tryz.func191,Tryz.ntmps191
 go_wp2_with fail
 rw [← hW0]
 clear hW0
 refine KT.out.mono ?_
 rintro e w1 ⟨rfl,rfl⟩
 go_wp2_with fail
 refine KT2.out.mono ?_
 rintro e w1 ⟨rfl,rfl⟩
 go_wp2_with fail
 refine KC.out.mono ?_
 rintro e w1 ⟨rfl,hb1⟩
 have b1:=b0.below hb1
 have hB1:=Below.then hB0 hB0.size hb1
 have f1:=b1.free
 have c1:=b1.cell
 go_wp2_with fail
 refine (clone_u64 (hr.rd.below hB1) (by omega)).mono ?_
 rintro e w2 ⟨A2,c2,rfl,hrd,hb2⟩
 have b2:=b1.below hb2
 have hB2:=Below.then hB1 hB1.size hb2
 have f2:=b2.free
 have c2':=b2.cell
 go_wp2
 have hc:=(b2.set (.slice none 0 0)).cell
 refine bodyPost_ret (v:=.tuple #[.slice none 0 0,.slice A2 N c2,.int .i64 0]) (by simp [results,Tryz.f191,go_sem,hc]) rfl ?_
 have hlt1:=b1.lt
 refine ⟨none,0,0,A2,N,c2,rfl,?_,?_,hB2.setCell (p:=⟨w.heap.size,0,none⟩) (Nat.le_refl _) _⟩
 ·rw [HQ.out]; exact ⟨RdN.nil _ _ _ 0 (by omega) _,Lt.nil _⟩
 ·rw [HR.out]
  exact ⟨(hrd.solo ((Solo.refl w.heap.size w2).setCell 0 (.slice none 0 0)) (fun b hb e=>by omega)).mono (fun b hb=>by omega),hr.lt⟩
set_option maxRecDepth 100000 in
set_option maxHeartbeats 1000000 in
theorem nat_DivMod_one {A n c A' n' c'} {l m:List Nat} {P} {w:World} (h:RdU w P ⟨A,n,c⟩ l) (h':RdU w P ⟨A',n',c'⟩ m) (hn:n ≤ 274877906944) (hn':n' ≤ 274877906944) (hz:nl m = 1) (hl:val 18446744073709551616 m ≤ val 18446744073709551616 l) :
 Calls Tryz.prog 191 #[.slice A n c,.slice A' n' c'] w fun e w'=>∃ A1 n1 c1 A2 n2 c2,e = .returned (.tuple #[.slice A1 n1 c1,.slice A2 n2 c2,.int .i64 0]) ∧ RdU w' (fun b=>w.heap.size ≤ b) ⟨A1,n1,c1⟩ (limbs 18446744073709551616 (val 18446744073709551616 l / val 18446744073709551616 m)) ∧ RdU w' (fun b=>w.heap.size ≤ b) ⟨A2,n2,c2⟩ (limbs 18446744073709551616 (val 18446744073709551616 l % val 18446744073709551616 m)) ∧ Below w.heap.size w w':=by
 have hN:=h.nl_le
 have hr:=h.trim
 have hr':=h'.trim
 have hcan:=limbs_can B64 (val 18446744073709551616 m)
 have hvm:=val_limbs B64 (val 18446744073709551616 m)
 obtain ⟨W0,hW0⟩:∃ W0,W0 = w.alloc (.cells #[.slice none 0 0] 23):=⟨_,rfl⟩
 have b0:Box W0 w.heap.size 23 (.slice none 0 0):=by rw [hW0]; exact Box.new w _ _
 have hB0:Below w.heap.size w W0:=by rw [hW0]; exact (Below.refl _ w).alloc (Nat.le_refl _) _
 have kt:=nat_trim (h.below hB0) (by omega)
 have kt2:=nat_trim (h'.below hB0) (by omega)
 have kc:=nat_Cmp (hr.below hB0) (hr'.below hB0) (by omega) (by omega)
 rw [hz] at kt2 kc hr'
 rw [val_limbs B64,val_limbs B64] at kc
 have hcl:decide (cmpI (val 18446744073709551616 l:Nat) (val 18446744073709551616 m:Nat) < 0) = false:=by
  unfold cmpI; rw [if_neg (by omega)]; split <;> rfl
 obtain ⟨ci,hci⟩:∃ ci,ci = cmpI (val 18446744073709551616 l:Nat) (val 18446744073709551616 m:Nat):=⟨_,rfl⟩
 rw [← hci] at kc hcl
 obtain ⟨N,hN1⟩:∃ N,N = nl l:=⟨_,rfl⟩
 rw [← hN1] at kt kc hr hN
 generalize hM:limbs 18446744073709551616 (val 18446744073709551616 m) = M at *
 have hb0:gd M 0 ≠ 0:=(can_iff (q:=0) hr'.rd.len).1 hcan
 have hbm:val 18446744073709551616 m = gd M 0:=by
  rw [← hvm]
  have hlen:=hr'.rd.len
  simp only at hlen
  match M,hlen with
  | [x],_=>simp [val,gd]
 have hblt:=hr'.lt.gd (by omega) 0
 obtain ⟨ad,e,hcell⟩:=hr'.rd.at 0 (by show 0 < 1; omega)
 simp only at e
 subst e
 rw [hbm]
 obtain ⟨b,hb⟩:∃ b,b = gd M 0:=⟨_,rfl⟩
 rw [← hb] at hcell hb0 hblt ⊢
 obtain ⟨R,hR⟩:∃ R,R = val 18446744073709551616 l % b:=⟨_,rfl⟩
 rw [← hR]
 have HRR:=Lib.hid hR
 clear hR
 have KT:=Lib.hid kt
 have KT2:=Lib.hid kt2
 have KC:=Lib.hid kc
 clear kt kt2 kc hz hl hN1 hr' hcan hvm hM hbm hb hci
 have f0:=b0.free
 have c0:=b0.cell
 go_enter Tryz.func191,Tryz.ntmps191
 go_wp2_with fail
 rw [← hW0]
 clear hW0
 refine KT.out.mono ?_
 rintro e w1 ⟨rfl,rfl⟩
 go_wp2_with fail
 refine KT2.out.mono ?_
 rintro e w1 ⟨rfl,rfl⟩
 go_wp2_with fail
 refine KC.out.mono ?_
 rintro e w1 ⟨rfl,hb1⟩
 have b1:=b0.below hb1
 have hB1:=Below.then hB0 hB0.size hb1
 have f1:=b1.free
 have c1:=b1.cell
 have hcell1:w1.cell? ad = some (.int .u64 (b:Int)):=cell_below hB1 (a:=ad) hcell
 have ks:=nat_small (hr.below hB1) (by omega) (show 0 < b by omega) hblt
 have hmod:val 18446744073709551616 l % b < 18446744073709551616:=Nat.lt_trans (Nat.mod_lt _ (by omega)) hblt
 rw [val_limbs B64] at ks
 rw [← HRR.out] at ks hmod
 go_wp2_with fail
 refine ks.mono ?_
 rintro e w2 ⟨A1,n1,c1',rfl,hrd,hb2⟩
 have b2:=b1.below hb2
 have hB2:=Below.then hB1 hB1.size hb2
 have f2:=b2.free
 have c2':=b2.cell
 go_wp2_with fail
 refine (nat_Of _ hmod w2).mono ?_
 rintro e w3 ⟨A2,n2,c2,rfl,hrd2,hb3⟩
 have b3:=b2.below hb3
 have hB3:=Below.then hB2 hB2.size hb3
 have f3:=b3.free
 have c3:=b3.cell
 have hlt1:=b1.lt
 have hlt2:=b2.lt
 have hrd3:=hrd.below hb3
 go_wp2
 have hc:=(b3.set (.slice A1 n1 c1')).cell
 refine bodyPost_ret (v:=.tuple #[.slice A1 n1 c1',.slice A2 n2 c2,.int .i64 0]) (by simp [results,Tryz.f191,go_sem,hc]) rfl ?_
 refine ⟨A1,n1,c1',A2,n2,c2,rfl,?_,?_,hB3.setCell (p:=⟨w.heap.size,0,none⟩) (Nat.le_refl _) _⟩
 ·exact (hrd3.solo ((Solo.refl w.heap.size w3).setCell 0 _) (fun b hb e=>by omega)).mono (fun b hb=>by omega)
 ·exact (hrd2.solo ((Solo.refl w.heap.size w3).setCell 0 _) (fun b hb e=>by omega)).mono (fun b hb=>by omega)
end Go.Proofs.YtcpgflbfjplheaaGreatDoor
