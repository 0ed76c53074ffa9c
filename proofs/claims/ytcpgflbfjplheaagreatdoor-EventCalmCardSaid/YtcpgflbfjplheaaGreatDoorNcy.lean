import Derived.Test.YtcpgflbfjplheaaGreatDoorNay
import Derived.Test.YtcpgflbfjplheaaGreatDoorMby
import Derived.Test.YtcpgflbfjplheaaGreatDoorShy
namespace Go.Proofs.YtcpgflbfjplheaaGreatDoor
open Go.RowKit Gs
set_option linter.unusedVariables false
theorem wrap_u64 {x y:Nat} (h:x + y < 18446744073709551616):IntKind.u64.wrap ((x:Int) + (y:Int)) = ((x + y:Nat):Int):=by
 unfold IntKind.wrap
 simp [IntKind.bits,IntKind.signed]
 omega
set_option maxHeartbeats 2000000 in
theorem nat_Mul {A n c A' n' c'} {l m:List Nat} {P} {w:World} (h:RdU w P ⟨A,n,c⟩ l) (h':RdU w P ⟨A',n',c'⟩ m) (hn:n ≤ 1099511627776) (hn':n' ≤ 1099511627776) :
 Calls Tryz.prog 137 #[.slice A n c,.slice A' n' c'] w fun e w'=>∃ A1 n1 c1,e = .returned (.slice A1 n1 c1) ∧ RdU w' (fun b=>w.heap.size ≤ b) ⟨A1,n1,c1⟩ (limbs 18446744073709551616 (val 18446744073709551616 l * val 18446744073709551616 m)) ∧ Below w.heap.size w w':=by
 have hl:l.length = n:=h.rd.len
 have hm:m.length = n':=h'.rd.len
 have HL:=Lib.hid hl
 have HM:=Lib.hid hm
 clear hl hm
 have km:=make_num (P:=Tryz.prog) 23 146 .u64 8 Tryz.underlying23 info_u64 (by decide) (n + n') (by omega)
 rw [Int.natCast_add] at km
 go_enter Tryz.func137,Tryz.ntmps137
 go_wp2
 go_loopw [22] (fun iv wr=>∃ (i:Nat) (o:List Nat),i ≤ n ∧ iv = .int .i64 i ∧ MulOut l m i o ∧ OwnN .u64 wr w.heap.size 146 ⟨some ⟨w.heap.size,0,none⟩,n + n',n + n'⟩ o ∧ Below w.heap.size w wr) (fun iv _=>n - (intOf iv).toNat)
 case atStart =>
  refine ⟨0,List.replicate (n + n') 0,Nat.zero_le _,rfl,?_,?_,(Below.refl _ _).alloc (Nat.le_refl _) _⟩
  ·have:=MulOut.start l m
   rwa [HL.out,HM.out] at this
  ·have:=OwnN.made .u64 w w.heap.size 146 (List.replicate (n + n') 0) (Nat.le_refl _) (by simp; omega)
   simpa using this
 case round =>
  obtain ⟨i,o,hi,rfl,hinv,hown,hb⟩:=hrel
  clear km
  by_cases hlt:i < n
  ·obtain ⟨ad,e,hc⟩:=(h.rd.below hb).at i hlt
   simp only at e
   subst e
   go_wp2
   obtain ⟨wo,rfl⟩:∃ wo:World,wo = wr:=⟨_,rfl⟩
   obtain ⟨x,hx⟩:∃ x,x = gd l i:=⟨_,rfl⟩
   have hxB:x < 18446744073709551616:=by rw [hx]; exact h.lt.gd (by omega) i
   rw [← hx]
   have HX:=Lib.hid hx
   clear hc hx
   go_loopw [8,29] (fun cv kv wr2=>∃ (k cc:Nat) (o2:List Nat),k ≤ n' ∧ kv = .int .i64 k ∧ cv = .int .u64 cc ∧ MulIn o m i x k cc o2 ∧ OwnN .u64 wr2 w.heap.size 146 ⟨some ⟨w.heap.size,0,none⟩,n + n',n + n'⟩ o2 ∧ Below w.heap.size w wr2) (fun _ kv _=>n' - (intOf kv).toNat)
   case atStart=>exact ⟨0,0,o,Nat.zero_le _,rfl,rfl,MulIn.start m i x hinv.lt,hown,hb⟩
   case round =>
    obtain ⟨k,cc,o2,hk,rfl,rfl,hin,hown2,hb2⟩:=hrel
    by_cases hltk:k < n'
    ·obtain ⟨ad',e',hc'⟩:=(h'.rd.below hb2).at k hltk
     simp only at e'
     subst e'
     obtain ⟨hco,hfo⟩:=hown2.at (i + k) (by omega)
     have hstep:=hin.step hxB h'.lt (by rw [HM.out]; exact hltk) (by rw [hinv.len,HL.out,HM.out]; omega)
     have hsm:=(mul_step hxB (h'.lt.gd (by omega) k) hin.c1 (hin.lt.gd (by omega) (i + k))).1
     have kM:=Tryz.bits_Mul64 x (gd m k) hxB (h'.lt.gd (by omega) k) wr
     obtain ⟨y,hy⟩:∃ y,y = gd m k:=⟨_,rfl⟩
     obtain ⟨oo,hoo⟩:∃ oo,oo = gd o2 (i + k):=⟨_,rfl⟩
     rw [← hy] at hstep hsm kM hc'
     rw [← hoo] at hstep hsm hco
     obtain ⟨p1,hp1⟩:∃ p1,p1 = x * y / 18446744073709551616:=⟨_,rfl⟩
     obtain ⟨p2,hp2⟩:∃ p2,p2 = x * y % 18446744073709551616:=⟨_,rfl⟩
     rw [← hp1,← hp2] at hstep hsm
     rw [← hp1,← hp2] at kM
     obtain ⟨q1,hq1⟩:∃ q1,q1 = (p2 + cc) / 18446744073709551616:=⟨_,rfl⟩
     obtain ⟨q2,hq2⟩:∃ q2,q2 = (p2 + cc) % 18446744073709551616:=⟨_,rfl⟩
     have ka:=fun W=>add64_0 p2 cc W
     rw [← hq1,← hq2] at hstep hsm ka
     obtain ⟨r1,hr1⟩:∃ r1,r1 = (oo + q2) / 18446744073709551616:=⟨_,rfl⟩
     obtain ⟨r2,hr2⟩:∃ r2,r2 = (oo + q2) % 18446744073709551616:=⟨_,rfl⟩
     have kb:=fun W=>add64_0 oo q2 W
     rw [← hr1,← hr2] at hstep kb
     rw [← hr1] at hsm
     have kw1:=wrap_u64 (x:=p1) (y:=q1) (by omega)
     have kw2:IntKind.u64.wrap ((p1:Int) + (q1:Int) + (r1:Int)) = (p1:Int) + (q1:Int) + (r1:Int):=by have:=wrap_u64 (x:=p1 + q1) (y:=r1) (by omega); simpa using this
     have KM:=Lib.hid kM
     clear kM hy hoo hp1 hp2 hq1 hq2 hr1 hr2 hsm
     go_wp2_with (go_at_call 192; refine KM.out.mono ?_; rintro e w1 ⟨rfl,rfl⟩)
     go_roundw
     case rel=>exact ⟨k + 1,p1 + q1 + r1,_,by omega,by go_num,congrArg (Value.int .u64) (by omega),hstep,hown2.store (i + k) r2,hb2.setCell (p:=⟨w.heap.size,i + k,none⟩) (Nat.le_refl _) _⟩
     case measure=>simp [intOf]; omega
    ·obtain rfl:k = n':=by omega
     obtain ⟨hco,hfo⟩:=hown2.at (i + k) (by omega)
     have hlast:MulOut l m (i + 1) (o2.set (i + k) cc):=by
      have:=MulOut.step (c:=cc) (o:=o2) hinv (by rw [HL.out]; exact hlt) (by rw [← HX.out,HM.out]; exact hin)
      rwa [HM.out] at this
     go_wp2
     go_roundw
     case rel=>exact ⟨i + 1,_,by omega,by go_num,hlast,hown2.store (i + k) cc,hb2.setCell (p:=⟨w.heap.size,i + k,none⟩) (Nat.le_refl _) _⟩
     case measure=>simp [intOf]; omega
  ·have hfin:val 18446744073709551616 o = val 18446744073709551616 l * val 18446744073709551616 m:=by rw [hinv.eq,List.take_of_length_le (by rw [HL.out]; omega)]
   have HF:=Lib.hid hfin
   clear hfin
   go_wp2_with fail
   refine (nat_trim ⟨hown.rd,hinv.lt⟩ (by omega)).mono ?_
   rintro e w1 ⟨rfl,rfl⟩
   have hr:=RdU.trim ⟨hown.rd,hinv.lt⟩
   rw [HF.out] at hr
   go_wp2
   go_ret
   exact ⟨_,_,_,rfl,hr,hb⟩
end Go.Proofs.YtcpgflbfjplheaaGreatDoor
