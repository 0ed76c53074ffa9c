import Derived.Test.YtcpgflbfjplheaaGreatDoorNky
namespace Go.Proofs.YtcpgflbfjplheaaGreatDoor
open Go.RowKit Go.Shelf Gs
set_option linter.unusedVariables false
set_option maxRecDepth 100000 in
set_option maxHeartbeats 4000000 in
theorem nat_Gcd {A n c A' n' c'} {l m:List Nat} {P} {w:World} (h:RdU w P ⟨A,n,c⟩ l) (h':RdU w P ⟨A',n',c'⟩ m) (hn:n ≤ 274877906944) (hn':n' ≤ 274877906944) :
 Calls Tryz.prog 190 #[.slice A n c,.slice A' n' c'] w fun e w'=>∃ A1 n1 c1,e = .returned (.slice A1 n1 c1) ∧ RdU w' (fun b=>w.heap.size ≤ b) ⟨A1,n1,c1⟩ (limbs 18446744073709551616 (Nat.gcd (val 18446744073709551616 l) (val 18446744073709551616 m))) ∧ Below w.heap.size w w':=by
 have hN:=h.nl_le
 have hN':=h'.nl_le
 have hr:=h.trim
 have hr':=h'.trim
 have KT:=Lib.hid (nat_trim h (by omega))
 have kc:=clone_u64 hr.rd (by omega)
 obtain ⟨x0,hx0⟩:∃ x,x = val 18446744073709551616 l:=⟨_,rfl⟩
 obtain ⟨y0,hy0⟩:∃ x,x = val 18446744073709551616 m:=⟨_,rfl⟩
 rw [← hx0,← hy0]
 rw [← hx0] at hr kc
 rw [← hy0] at hr'
 obtain ⟨G,hG⟩:∃ G,Nat.gcd x0 y0 = G:=⟨_,rfl⟩
 have HG:=Lib.hid hG
 rw [hG]
 clear hG hx0 hy0
 go_enter Tryz.func190,Tryz.ntmps190
 go_wp2_with fail
 refine KT.out.mono ?_
 rintro e w1 ⟨rfl,rfl⟩
 go_wp2_with fail
 refine kc.mono ?_
 rintro e w1 ⟨A1,c1,rfl,hrd,hb1⟩
 go_wp2_with fail
 refine (nat_trim (h'.below hb1) (by omega)).mono ?_
 rintro e w2 ⟨rfl,rfl⟩
 clear kc
 go_wp2
 go_loopg [0,1] y0 (fun g va vb wr=>∃ (B:Option Addr) (nb cb:Nat) (C:Option Addr) (nc cc x:Nat),va = .slice B nb cb ∧ vb = .slice C nc cc ∧ nb ≤ 274877906944 ∧ nc ≤ 274877906944 ∧ RdU wr (fun b=>w.heap.size ≤ b) ⟨B,nb,cb⟩ (limbs 18446744073709551616 x) ∧ RdU wr (fun b=>P b ∨ w.heap.size ≤ b) ⟨C,nc,cc⟩ (limbs 18446744073709551616 g) ∧ Hid (Nat.gcd x g = G) ∧ Below w.heap.size w wr)
 case atStart=>exact ⟨A1,nl l,c1,A',nl m,c',x0,rfl,rfl,by omega,by omega,⟨hrd,hr.lt⟩,(hr'.below hb1).mono (fun b hb=>.inl hb),HG,hb1⟩
 case round =>
  obtain ⟨B,nb,cb,C,nc,cc,x,rfl,rfl,hnb,hnc,hx,hy,hg,hb⟩:=hrel
  have hlen:=hy.rd.len
  simp only at hlen
  by_cases h0:nc = 0
  ·subst h0
   have hg0:gk = 0:=(limbs_len_zero B64 _).1 hlen
   subst hg0
   have hgx:=hg.out
   rw [Nat.gcd_zero_right] at hgx
   have HX:=Lib.hid hgx
   clear hgx hlen
   go_wp2
   go_ret
   exact ⟨_,_,_,rfl,by rw [← HX.out]; exact hx,hb⟩
  ·have hg0:gk ≠ 0:=fun e=>h0 (by rw [← hlen,e]; rfl)
   have hpos:(0:Int) < (nc:Int):=by omega
   have kd:=nat_DivMod (hx.mono (P':=fun b=>P b ∨ w.heap.size ≤ b) (fun b hb=>.inr hb)) hy hnb hnc (by rw [val_limbs B64]; exact hg0)
   rw [val_limbs B64,val_limbs B64] at kd
   have KD:=Lib.hid kd
   have HG0:=Lib.hid hg0
   have HLEN:=Lib.hid hlen
   clear kd hg0 hlen
   go_wp2_with fail
   refine KD.out.mono ?_
   rintro e w3 ⟨A3,n3,c3,A4,n4,c4,rfl,hq,hrm,hb3⟩
   go_wp2_with fail
   refine (clone_u64 (hy.below hb3).rd (by omega)).mono ?_
   rintro e w4 ⟨A5,c5,rfl,hrd5,hb5⟩
   have hb4:=Below.then hb hb.size hb3
   have hb6:=Below.then hb4 hb4.size hb5
   have hsz:=hb4.size
   have hsz3:=hb.size
   go_wp2
   go_roundg (x % gk)
   case rel =>
    refine ⟨A5,nc,c5,A4,n4,c4,gk,rfl,rfl,hnc,?_,⟨hrd5.mono (fun b hb=>by omega),hy.lt⟩,(hrm.below hb5).mono (fun b hb=>.inr (by omega)),Lib.hid (by rw [Nat.gcd_comm,← Nat.gcd_rec,Nat.gcd_comm]; exact hg.out),hb6⟩
    have h1:=hrm.rd.len
    simp only at h1
    have h2:=limbs_len_mono B64 (Nat.le_of_lt (Nat.mod_lt x (Nat.pos_of_ne_zero HG0.out)))
    have h3:=HLEN.out
    omega
   case measure=>exact Nat.mod_lt _ (Nat.pos_of_ne_zero HG0.out)
end Go.Proofs.YtcpgflbfjplheaaGreatDoor
