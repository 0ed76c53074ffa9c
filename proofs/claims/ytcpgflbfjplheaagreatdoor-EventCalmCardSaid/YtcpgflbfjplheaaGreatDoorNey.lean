import Derived.Test.YtcpgflbfjplheaaGreatDoorNcy
import Derived.Test.YtcpgflbfjplheaaGreatDoorMcy
import Derived.Test.YtcpgflbfjplheaaGreatDoorRry
import Derived.Test.YtcpgflbfjplheaaGreatDoorKby
import Derived.Laws.BitsLemmas
import Derived.Deep.RegionLaw
import Derived.Deep.RegionWith
namespace Go.Proofs.YtcpgflbfjplheaaGreatDoor
open Go.RowKit Gs
set_option linter.unusedVariables false
set_option maxRecDepth 100000 in
set_option maxHeartbeats 2000000 in
theorem nat_shl_own {A n c} {l:List Nat} {P} {w:World} {kk:Int} (h:RdU w P ⟨A,n,c⟩ l) (hn:n ≤ 1099511627776) (hk0:0 ≤ kk) (hk:kk ≤ 1099511627776) :
 Calls Tryz.prog 239 #[.slice A n c,.int .i64 kk] w fun e w'=>∃ A1 n1 c1,e = .returned (.slice A1 n1 c1) ∧ OwnN .u64 w' w.heap.size 146 ⟨A1,n1,c1⟩ (limbs 18446744073709551616 (val 18446744073709551616 l * 2 ^ kk.toNat)) ∧ Below w.heap.size w w':=by
 obtain ⟨k,rfl⟩:=Int.eq_ofNat_of_zero_le hk0
 have hN:=h.nl_le
 have hr:=h.trim
 obtain ⟨N,hNN⟩:∃ N,N = nl l:=⟨_,rfl⟩
 obtain ⟨L,hL⟩:∃ L,L = limbs 18446744073709551616 (val 18446744073709551616 l):=⟨_,rfl⟩
 have kt:=nat_trim h (by omega)
 rw [← hNN] at hN hr kt
 rw [← hL] at hr
 have HN:=Lib.hid hNN
 have HL:=Lib.hid hL
 have KT:=Lib.hid kt
 clear hNN hL kt
 by_cases h0:N = 0
 ·have hNb:(N == 0) = true:=by simpa using h0
  have hz:val 18446744073709551616 l = 0:=by
   have h1:=HN.out
   unfold nl at h1
   rw [h0] at h1
   exact (limbs_len_zero B64 _).1 h1.symm
  have HZ:=Lib.hid hz
  clear h0 hz
  go_enter Tryz.func239,Tryz.ntmps239
  go_wp2_with (go_at_call 178; refine KT.out.mono ?_; rintro e w1 ⟨rfl,rfl⟩)
  go_ret
  refine ⟨none,0,0,rfl,?_,Below.refl _ _⟩
  rw [HZ.out,Nat.zero_mul]
  exact OwnN.nil _ _ _ _
 ·have hNb:(N == 0) = false:=by simpa using h0
  have hNb2:((N:Int) == 0) = false:=by rw [beq_eq_false_iff_ne]; omega
  have H0:=Lib.hid h0
  clear h0
  obtain ⟨f,hf⟩:∃ f,f = k / 64:=⟨_,rfl⟩
  obtain ⟨b,hb⟩:∃ b,b = k % 64:=⟨_,rfl⟩
  have kf:(k:Int) / 64 = (f:Int):=by omega
  have kb:(k:Int) % 64 = (b:Int):=by omega
  have hf1:f ≤ 1099511627776:=by omega
  have hb1:b < 64:=by omega
  have HF:=Lib.hid hf
  have HB:=Lib.hid hb
  clear hf hb
  have km:=make_num (P:=Tryz.prog) 23 146 .u64 8 Tryz.underlying23 info_u64 (by decide) (f + N + 1) (by omega)
  simp only [Int.natCast_add,Int.cast_ofNat_Int] at km
  go_enter Tryz.func239,Tryz.ntmps239
  go_wp2_with (go_at_call 178; refine KT.out.mono ?_; rintro e w1 ⟨rfl,rfl⟩)
  have hLl:L.length = N:=hr.rd.len
  have HLL:=Lib.hid hLl
  clear hLl
  rw [kb]
  go_loopw [27] (fun iv wr=>∃ (i:Nat) (o:List Nat),i ≤ N + 1 ∧ iv = .int .i64 i ∧ ShlInv L f b i o ∧ OwnN .u64 wr w.heap.size 146 ⟨some ⟨w.heap.size,0,none⟩,f + N + 1,f + N + 1⟩ o ∧ Below w.heap.size w wr) (fun iv _=>N + 1 - (intOf iv).toNat)
  case atStart =>
   refine ⟨0,List.replicate (f + N + 1) 0,Nat.zero_le _,rfl,?_,?_,(Below.refl _ _).alloc (Nat.le_refl _) _⟩
   ·have:=ShlInv.start L f b
    rwa [HLL.out] at this
   ·have:=OwnN.made .u64 w w.heap.size 146 (List.replicate (f + N + 1) 0) (Nat.le_refl _) (by simp; omega)
    simpa using this
  case round =>
   obtain ⟨i,o,hi,rfl,hinv,hown,hb⟩:=hrel
   clear km
   by_cases hlt:i < N + 1
   ·have hstep:=hinv.step hr.lt hb1 (by rw [HLL.out]; omega)
    have s5:=shlZ_go (x:=gd L i) hb1 (pv_lt hr.lt i)
    have hpv:limbF L ((i:Int) - 1) = pv L i:=by
     unfold limbF pv
     rcases Nat.eq_zero_or_pos i with h1 | h1
     ·rw [if_pos (by omega),if_pos h1]
     ·rw [if_neg (by omega),if_neg (by omega),show ((i:Int) - 1).toNat = i - 1 by omega]
    obtain ⟨z,hz⟩:∃ z,z = shlZ (gd L i) (pv L i) b:=⟨_,rfl⟩
    rw [← hz] at s5 hstep
    obtain ⟨y,hy⟩:∃ y,y = pv L i:=⟨_,rfl⟩
    rw [← hy] at s5
    have s1:IntKind.i64.wrap ((f:Int) + (i:Int)) = (f:Int) + (i:Int):=IntWalk.i64_in _ (by omega)
    have t1:(0:Int) ≤ (f:Int) + (i:Int):=by omega
    have t2:((f:Int) + (i:Int)).toNat = f + i:=by omega
    have t3:(f:Int) + (i:Int) < (f:Int) + (N:Int) + 1:=by omega
    have s2:IntKind.i64.wrap ((i:Int) - 1) = (i:Int) - 1:=IntWalk.i64_in _ (by omega)
    have s4:IntKind.i64.wrap (63 - (b:Int)) = 63 - (b:Int):=IntWalk.i64_in _ (by omega)
    have kl:Calls Tryz.prog 235 #[.slice A N c,.int .i64 i] wr.drew fun e w'=>e = .returned (.int .u64 (gd L i:Nat)) ∧ w' = wr.drew:=(nat_limb (hr.rd.below hb.drew)).mono fun _ _ ⟨h1,h2⟩=>⟨by rw [h1,limbF_nat],h2.symm⟩
    have kl2:Calls Tryz.prog 235 #[.slice A N c,.int .i64 ((i:Int) - 1)] wr.drew fun e w'=>e = .returned (.int .u64 (limbF L ((i:Int) - 1):Nat)) ∧ w' = wr.drew:=(nat_limb (hr.rd.below hb.drew)).mono fun _ _ ⟨h1,h2⟩=>⟨by rw [h1],h2.symm⟩
    rw [hpv,← hy] at kl2
    have KL:=Lib.hid kl
    have KL2:=Lib.hid kl2
    obtain ⟨hco,hfo⟩:=hown.at (f + i) (by show f + i < f + N + 1; omega)
    clear kl kl2 hpv hz hy
    go_wp2
    refine region_still_tail 19 (by kernel_rfl) (by kernel_rfl) ?_
    simp only [List.take_succ_cons,List.take_zero,List.drop_succ_cons,List.drop_zero]
    repeat still_step
    still_call KL.out
    repeat still_step
    still_call KL2.out
    repeat still_step
    refine wpStill_nil ?_
    go_wp2
    go_roundw
    case rel=>exact ⟨i + 1,_,by omega,by go_num,hstep,hown.store (f + i) z,(hb.setCell (p:=⟨w.heap.size,f + i,none⟩) (Nat.le_refl _) _).drew⟩
    case measure=>simp [intOf]; omega
   ·obtain rfl:i = N + 1:=by omega
    have hfin:val 18446744073709551616 o = val 18446744073709551616 l * 2 ^ k:=by
     have h1:ShlInv L f b (L.length + 1) o:=by rw [HLL.out]; exact hinv
     rw [h1.last,HL.out,val_limbs B64]
     have h2:=HF.out
     have h3:=HB.out
     rw [show 64 * f + b = k by omega]
    have HF2:=Lib.hid hfin
    clear hfin
    go_wp2_with fail
    refine (nat_trim ⟨hown.rd,hinv.lt⟩ (by show f + N + 1 ≤ _; omega)).mono ?_
    rintro e w1 ⟨rfl,rfl⟩
    have hr:=hown.trim hinv.lt
    rw [HF2.out] at hr
    go_wp2
    go_ret
    exact ⟨_,_,_,rfl,hr,hb⟩
set_option maxRecDepth 100000 in
set_option maxHeartbeats 2000000 in
theorem nat_shr {A n c} {l:List Nat} {P} {w:World} {kk:Int} (h:RdU w P ⟨A,n,c⟩ l) (hn:n ≤ 1099511627776) (hk0:0 ≤ kk) (hk:kk ≤ 1099511627776) :
 Calls Tryz.prog 243 #[.slice A n c,.int .i64 kk] w fun e w'=>∃ A1 n1 c1,e = .returned (.slice A1 n1 c1) ∧ RdU w' (fun b=>w.heap.size ≤ b) ⟨A1,n1,c1⟩ (limbs 18446744073709551616 (val 18446744073709551616 l / 2 ^ kk.toNat)) ∧ Below w.heap.size w w':=by
 obtain ⟨k,rfl⟩:=Int.eq_ofNat_of_zero_le hk0
 have HLL:=Lib.hid h.rd.len
 obtain ⟨f,hf⟩:∃ f,f = k / 64:=⟨_,rfl⟩
 obtain ⟨b,hb⟩:∃ b,b = k % 64:=⟨_,rfl⟩
 have kf:(k:Int) / 64 = (f:Int):=by omega
 have kb:(k:Int) % 64 = (b:Int):=by omega
 have hf1:f ≤ 1099511627776:=by omega
 have hb1:b < 64:=by omega
 have HF:=Lib.hid hf
 have HB:=Lib.hid hb
 clear hf hb
 go_enter Tryz.func243,Tryz.ntmps243
 go_wp2
 go_loopw [7,8] (fun v iv wr=>∃ (j:Nat) (o:List Nat) (s:Sl),(f + j ≤ n ∨ j = 0) ∧ iv = .int .i64 ((f + j:Nat):Int) ∧ v = .slice s.A s.n s.c ∧ ShrInv (l.drop f) b j o ∧ OwnN .u64 wr w.heap.size 146 s o ∧ Below w.heap.size w wr) (fun _ iv _=>n - (intOf iv).toNat)
 case atStart=>exact ⟨0,[],⟨none,0,0⟩,.inr rfl,by simp,rfl,ShrInv.start _ b,OwnN.nil _ _ _ _,Below.refl _ _⟩
 case round =>
  obtain ⟨j,o,s,hj,rfl,rfl,hinv,hown,hb⟩:=hrel
  have hlen':=Lib.hid hinv.len
  have hfj:f + j ≤ 2199023255552:=by omega
  obtain ⟨q,hq⟩:∃ q,q = f + j:=⟨_,rfl⟩
  rw [← hq]
  by_cases hlt:q < n
  ·have hstep:=hinv.step (h.lt.drop f) hb1
   rw [gd_drop,gd_drop,← Nat.add_assoc,← hq] at hstep
   have s5:=shrZ_go (x:=gd l q) (y:=gd l (q + 1)) hb1 (h.lt.gd (by omega) q)
   obtain ⟨z,hz⟩:∃ z,z = shrZ (gd l q) (gd l (q + 1)) b:=⟨_,rfl⟩
   rw [← hz] at s5 hstep
   have s1:IntKind.i64.wrap ((q:Int) + 1) = (q:Int) + 1:=IntWalk.i64_in _ (by omega)
   have s4:IntKind.i64.wrap (63 - (b:Int)) = 63 - (b:Int):=IntWalk.i64_in _ (by omega)
   have kl:Calls Tryz.prog 235 #[.slice A n c,.int .i64 q] wr.drew fun e w'=>e = .returned (.int .u64 (gd l q:Nat)) ∧ w' = wr.drew:=(nat_limb (h.rd.below hb.drew)).mono fun _ _ ⟨h1,h2⟩=>⟨by rw [h1,limbF_nat],h2.symm⟩
   have kl2:Calls Tryz.prog 235 #[.slice A n c,.int .i64 ((q:Int) + 1)] wr.drew fun e w'=>e = .returned (.int .u64 (gd l (q + 1):Nat)) ∧ w' = wr.drew:=(nat_limb (h.rd.below hb.drew)).mono fun _ _ ⟨h1,h2⟩=>⟨by rw [h1,show (q:Int) + 1 = ((q + 1:Nat):Int) by omega,limbF_nat],h2.symm⟩
   have KL:=Lib.hid kl
   have KL2:=Lib.hid kl2
   have HQ:=Lib.hid hq
   have hsz:(o.length + 1) * 8 ≤ 140737488355328:=by have:=hlen'.out; omega
   clear kl kl2 hz hq
   go_wp2
   go_region_law (first | ((refine append1s (w0:=w) (W:=wr.drew) w.heap.size rfl (.tmp 20) (.tmp 35) 23 146 .u64 8 rfl Tryz.underlying23 info_u64 (by decide) s o z rfl rfl hown hb.drew hb.size hsz ?_); intro v1 w1 hown1 hb2 hg1) | (go_simp; go_at_call 235; ((with_reducible refine KL.out.mono ?_); rintro e w1 ⟨rfl,rfl⟩)) | (go_simp; go_at_call 235; ((with_reducible refine KL2.out.mono ?_); rintro e w1 ⟨rfl,rfl⟩)))
   go_wp2
   go_roundw
   case rel=>exact ⟨j + 1,_,v1,.inl (by have:=HQ.out; omega),congrArg (Value.int .i64) (by have:=HQ.out; omega),rfl,hstep,hown1,hb2⟩
   case measure=>simp [intOf]; omega
  ·have hfin:val 18446744073709551616 o = val 18446744073709551616 l / 2 ^ k:=by
    rw [hinv.last (by rw [List.length_drop,HLL.out]; show n - f ≤ j; omega),shr_val h.lt]
    have h2:=HF.out
    have h3:=HB.out
    rw [show 64 * f + b = k by omega]
   have HF2:=Lib.hid hfin
   clear hfin
   have HQ:=Lib.hid hq
   clear hq
   go_wp2_with fail
   refine (nat_trim ⟨hown.rd,hinv.lt⟩ (by have h8:=hown.len; have h9:=hlen'.out; show s.n ≤ _; omega)).mono ?_
   rintro e w1 ⟨rfl,rfl⟩
   have hr:=RdU.trim ⟨hown.rd,hinv.lt⟩
   rw [HF2.out] at hr
   go_wp2
   go_ret
   exact ⟨_,_,_,rfl,hr,hb⟩
end Go.Proofs.YtcpgflbfjplheaaGreatDoor
