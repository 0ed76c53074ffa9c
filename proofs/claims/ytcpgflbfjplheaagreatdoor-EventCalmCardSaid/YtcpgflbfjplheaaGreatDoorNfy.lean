import Derived.Test.YtcpgflbfjplheaaGreatDoorNcy
import Derived.Test.YtcpgflbfjplheaaGreatDoorMdy
import Derived.Test.YtcpgflbfjplheaaGreatDoorRry
import Derived.Deep.DeepCutAuto
import Derived.Deep.CutBlock
namespace Go.Proofs.YtcpgflbfjplheaaGreatDoor
open Go.RowKit Gs
set_option linter.unusedVariables false
theorem u64_in (z:Nat) (h:z < 18446744073709551616):IntKind.u64.wrap (z:Int) = (z:Int):=by rw [IntKind.wrap_u64]; omega
theorem u64_div (a b:Nat) (h:a < 18446744073709551616):IntKind.u64.wrap ((a:Int) / (b:Int)) = ((a / b:Nat):Int):=by
 rw [show (a:Int) / (b:Int) = ((a / b:Nat):Int) by simp]
 exact u64_in _ (Nat.lt_of_le_of_lt (Nat.div_le_self _ _) h)
theorem u64_add (a b:Nat) (h:a + b < 18446744073709551616):IntKind.u64.wrap ((a:Int) + (b:Int)) = ((a + b:Nat):Int):=by rw [IntKind.wrap_u64]; omega
theorem div_rest (N y:Nat):N - N / y * y = N % y:=by
 have:=Nat.mod_add_div N y
 rw [Nat.mul_comm] at this
 omega
theorem u64_mul (a b:Nat) (h:a * b < 18446744073709551616):IntKind.u64.wrap ((a:Int) * (b:Int)) = ((a * b:Nat):Int):=by
 rw [show (a:Int) * (b:Int) = ((a * b:Nat):Int) by simp]
 exact u64_in _ h
theorem u64_sub (a b:Nat) (h:b ≤ a) (ha:a < 18446744073709551616):IntKind.u64.wrap ((a:Int) - (b:Int)) = ((a - b:Nat):Int):=by
 rw [IntKind.wrap_u64]; omega
theorem u64_pair (a b:Nat) (ha:a < 4294967296) (hb:b < 4294967296):IntKind.u64.wrap (IntKind.u64.wrap ((a:Int) * 4294967296) + (b:Int)) = ((a * 4294967296 + b:Nat):Int):=by
 simp only [IntKind.wrap_u64]; omega
theorem nz_beq {a:Nat} (h:0 < a):((a:Int) == 0) = false:=by rw [beq_eq_false_iff_ne]; omega
theorem nz_ne {a:Nat} (h:0 < a):¬ ((a:Int) = 0):=by omega
theorem half_words {q r yn1 yn0 u:Nat} (hq:q < 4294967296) (hr:r < 4294967296) (hy:yn0 < 4294967296) (hu:u < 4294967296) :
 IntKind.u64.wrap ((q:Int) * (yn0:Int)) = ((q * yn0:Nat):Int) ∧ IntKind.u64.wrap (4294967296 * (r:Int) + (u:Int)) = ((4294967296 * r + u:Nat):Int):=by
 refine ⟨u64_mul _ _ ?_,?_⟩
 ·have:q * yn0 ≤ 4294967295 * 4294967295:=Nat.mul_le_mul (by omega) (by omega)
  omega
 ·simp only [IntKind.wrap_u64]; omega
theorem u64_sub1 (a:Nat) (h:1 ≤ a) (ha:a < 18446744073709551616):IntKind.u64.wrap ((a:Int) - 1) = ((a - 1:Nat):Int):=by
 rw [IntKind.wrap_u64]; omega
set_option maxRecDepth 100000 in
set_option maxHeartbeats 4000000 in
theorem bits_Div64_0 (lo y:Nat) (hh:0 < y) (hlo:lo < 18446744073709551616) (w:World) :
 Calls Tryz.prog 225 #[.int .u64 0,.int .u64 lo,.int .u64 y] w fun e w'=>e = .returned (.tuple #[.int .u64 (lo / y:Nat),.int .u64 (lo % y:Nat)]) ∧ w' = w.drew:=by
 have hyb:((y:Int) == 0) = false:=by rw [beq_eq_false_iff_ne]; omega
 have hyl:¬ ((y:Int) ≤ 0):=by omega
 have hq:IntKind.u64.wrap ((lo:Int) / (y:Int)) = ((lo / y:Nat):Int):=u64_div lo y hlo
 have hr:(lo:Int).tmod (y:Int) = ((lo % y:Nat):Int):=(Int.ofNat_tmod lo y).symm
 have HQ:=Lib.hid hq
 have HR:=Lib.hid hr
 clear hq hr
 go_enter Tryz.func225,Tryz.ntmps225
 go_wp2
 refine region_still (by kernel_rfl) (by kernel_rfl) ?_
 repeat still_step
 refine wpStill_nil ?_
 go_wp2
 go_ret2
 exact ⟨by rw [← HQ.out,← HR.out]; rfl,rfl⟩
set_option maxRecDepth 100000 in
set_option maxHeartbeats 8000000 in
theorem bits_Div64_1 (hi lo y:Nat) (h0:0 < hi) (hh:hi < y) (hy:y < 18446744073709551616) (hlo:lo < 18446744073709551616) (w:World) :
 Calls Tryz.prog 225 #[.int .u64 hi,.int .u64 lo,.int .u64 y] w fun e w'=>e = .returned (.tuple #[.int .u64 ((hi * 18446744073709551616 + lo) / y:Nat),.int .u64 ((hi * 18446744073709551616 + lo) % y:Nat)]) ∧ w' = w:=by
 have hyb:((y:Int) == 0) = false:=by rw [beq_eq_false_iff_ne]; omega
 have hyl:decide ((y:Int) ≤ (hi:Int)) = false:=by rw [decide_eq_false_iff_not]; omega
 have hib:((hi:Int) == 0) = false:=by rw [beq_eq_false_iff_ne]; omega
 have kz:=Tryz.bits_LeadingZeros64 (y:Int) w (by omega) (by omega)
 rw [Int.toNat_natCast,bitLen_u64 hy] at kz
 obtain ⟨n1,n2⟩:=norm_le (show y ≠ 0 by omega) hy
 have b1:=blen_u64 hy
 have b2:=blen_pos (show y ≠ 0 by omega)
 obtain ⟨s,hs⟩:∃ s,s = 64 - blen y:=⟨_,rfl⟩
 rw [← hs] at n1 n2
 have hs63:s ≤ 63:=by omega
 rw [show (64:Int) - (blen y:Int) = (s:Int) by omega] at kz
 -- the divisor,normal
 obtain ⟨y',hy'⟩:∃ y',y' = y * 2 ^ s:=⟨_,rfl⟩
 rw [← hy'] at n1 n2
 have e1:IntKind.u64.wrap ((y:Int) * 2 ^ s) = (y':Int):=by rw [show (y:Int) * 2 ^ s = ((y * 2 ^ s:Nat):Int) by simp,← hy']; exact u64_in _ n2
 obtain ⟨yn1,hyn1⟩:∃ z,z = y' / 4294967296:=⟨_,rfl⟩
 obtain ⟨yn0,hyn0⟩:∃ z,z = y' % 4294967296:=⟨_,rfl⟩
 have e2:(y':Int) / 4294967296 = (yn1:Int):=by omega
 have e3:bits .and .u64 (y':Int) 4294967295 = (yn0:Int):=by rw [and_mask _ n2,hyn0]
 have ey:yn1 * 4294967296 + yn0 = y':=by omega
 -- the dividend's limbs
 obtain ⟨g1,g2⟩:=div_high hs63 (hy' ▸ n2) hh hlo
 have gw:=div_whole (hi:=hi) (lo:=lo) hs63
 obtain ⟨un,hun⟩:∃ z,z = hi * 2 ^ s + lo / 2 ^ (64 - s):=⟨_,rfl⟩
 obtain ⟨u10,hu10⟩:∃ z,z = lo * 2 ^ s % 18446744073709551616:=⟨_,rfl⟩
 have e5:IntKind.u64.wrap ((lo:Int) * 2 ^ s) = (u10:Int):=by rw [hu10]; exact div_low
 rw [← hun,← hu10] at gw
 rw [← hun] at g1 g2
 rw [← hy'] at g2
 have hu10b:u10 < 18446744073709551616:=by rw [hu10]; exact Nat.mod_lt _ (by omega)
 obtain ⟨a1,ha1⟩:∃ z,z = u10 / 4294967296:=⟨_,rfl⟩
 obtain ⟨a0,ha0⟩:∃ z,z = u10 % 4294967296:=⟨_,rfl⟩
 have e6:(u10:Int) / 4294967296 = (a1:Int):=by omega
 have hpair:a1 * 4294967296 + a0 = u10:=by rw [ha1,ha0]; exact Nat.div_add_mod' _ _
 have e7:bits .and .u64 (u10:Int) 4294967295 = (a0:Int):=by rw [and_mask _ hu10b,ha0]
 have hp1:HalfPre yn1 yn0 un a1:=⟨by omega,by omega,by omega,by omega,by omega⟩
 have hs1:=hp1.start
 obtain ⟨q1i,hq1i⟩:∃ z,z = un / yn1:=⟨_,rfl⟩
 obtain ⟨r1i,hr1i⟩:∃ z,z = un - q1i * yn1:=⟨_,rfl⟩
 rw [← hq1i] at hs1
 rw [← hr1i] at hs1
 have hq1m:q1i * yn1 ≤ un:=by rw [hq1i]; exact Nat.div_mul_le_self _ _
 have e8:IntKind.u64.wrap ((un:Int) / (yn1:Int)) = (q1i:Int):=by rw [hq1i]; exact u64_div _ _ (by omega)
 have e9:IntKind.u64.wrap ((un:Int) - IntKind.u64.wrap ((q1i:Int) * (yn1:Int))) = (r1i:Int):=by rw [u64_mul _ _ (by omega),u64_sub _ _ hq1m (by omega),hr1i]
 -- the first half step's answer
 obtain ⟨Q1,hQ1⟩:∃ z,z = (un * 4294967296 + a1) / y':=⟨_,rfl⟩
 obtain ⟨U2,hU2⟩:∃ z,z = (un * 4294967296 + a1) % y':=⟨_,rfl⟩
 have hQm:Q1 * y' ≤ un * 4294967296 + a1:=by rw [hQ1]; exact Nat.div_mul_le_self _ _
 have hU2':un * 4294967296 + a1 - Q1 * y' = U2:=by
  rw [hQ1,hU2]; exact div_rest _ _
 have hyp:0 < y':=Nat.lt_of_lt_of_le (by decide) n1
 have hU2l:U2 < y':=by rw [hU2]; exact Nat.mod_lt _ hyp
 have e10:=half_rest un 4294967296 a1 Q1 y' hQm (by omega)
 rw [hU2',show ((4294967296:Nat):Int) = 4294967296 by rfl] at e10
 -- the second half step
 have hp2:HalfPre yn1 yn0 U2 a0:=⟨by omega,by omega,by omega,by omega,by omega⟩
 have hs2:=hp2.start
 obtain ⟨q2i,hq2i⟩:∃ z,z = U2 / yn1:=⟨_,rfl⟩
 obtain ⟨r2i,hr2i⟩:∃ z,z = U2 - q2i * yn1:=⟨_,rfl⟩
 rw [← hq2i] at hs2
 rw [← hr2i] at hs2
 have hq2m:q2i * yn1 ≤ U2:=by rw [hq2i]; exact Nat.div_mul_le_self _ _
 have e11:IntKind.u64.wrap ((U2:Int) / (yn1:Int)) = (q2i:Int):=by rw [hq2i]; exact u64_div _ _ (by omega)
 have e12:IntKind.u64.wrap ((U2:Int) - IntKind.u64.wrap ((q2i:Int) * (yn1:Int))) = (r2i:Int):=by rw [u64_mul _ _ (by omega),u64_sub _ _ hq2m (by omega),hr2i]
 obtain ⟨Q0,hQ0⟩:∃ z,z = (U2 * 4294967296 + a0) / y':=⟨_,rfl⟩
 obtain ⟨R,hR⟩:∃ z,z = (U2 * 4294967296 + a0) % y':=⟨_,rfl⟩
 have hQ0m:Q0 * y' ≤ U2 * 4294967296 + a0:=by rw [hQ0]; exact Nat.div_mul_le_self _ _
 have hR':U2 * 4294967296 + a0 - Q0 * y' = R:=by
  rw [hQ0,hR]; exact div_rest _ _
 have hRl:R < y':=by rw [hR]; exact Nat.mod_lt _ hyp
 have e13:=half_rest U2 4294967296 a0 Q0 y' hQ0m (by omega)
 rw [hR',show ((4294967296:Nat):Int) = 4294967296 by rfl] at e13
 -- the two together
 have hw:=two_halves (U:=un) (y:=y') (a:=a1) (b:=a0) hyp
 rw [← hQ1,← hU2,← hQ0,← hR,hpair,← gw,hy',Nat.mul_div_mul_right _ _ (Nat.two_pow_pos s),Nat.mul_mod_mul_right] at hw
 have hQ1l:Q1 < 4294967296:=by rw [hQ1,← ey]; exact hp1.lt
 have hQ0l:Q0 < 4294967296:=by rw [hQ0,← ey]; exact hp2.lt
 have e14:IntKind.u64.wrap (IntKind.u64.wrap ((Q1:Int) * 4294967296) + (Q0:Int)) = (((hi * 18446744073709551616 + lo) / y:Nat):Int):=by
  rw [← hw.1]; exact u64_pair _ _ hQ1l hQ0l
 have e15:(R:Int) / 2 ^ s = (((hi * 18446744073709551616 + lo) % y:Nat):Int):=by
  rw [hw.2,show (((hi * 18446744073709551616 + lo) % y * 2 ^ s:Nat):Int) / 2 ^ s = (((hi * 18446744073709551616 + lo) % y * 2 ^ s / 2 ^ s:Nat):Int) by simp,Nat.mul_div_cancel _ (Nat.two_pow_pos s)]
 rw [← ey] at hQ1 hQ0
 obtain ⟨FQ,hFQ⟩:∃ z,z = (hi * 18446744073709551616 + lo) / y:=⟨_,rfl⟩
 obtain ⟨FR,hFR⟩:∃ z,z = (hi * 18446744073709551616 + lo) % y:=⟨_,rfl⟩
 rw [← hFQ] at e14 ⊢
 rw [← hFR] at e15 ⊢
 have hyn1p:0 < yn1:=Nat.lt_of_lt_of_le (by decide) hp1.y1
 have KZ:=Lib.hid (kz.mono (R':=fun (e:Ending) w'=>e = Ending.returned (.int .i64 (s:Int)) ∧ w = w') fun _ _ h=>⟨h.1,h.2.symm⟩)
 have HQ1:=Lib.hid hQ1
 have HQ0:=Lib.hid hQ0
 have hyn1b:((yn1:Int) == 0) = false:=nz_beq hyn1p
 have hyn1n:¬ ((yn1:Int) = 0):=nz_ne hyn1p
 clear kz hyp hpair hs hy' hyn1 hyn0 ey gw hun hu10 g2 hu10b ha1 ha0 hq1i hr1i hq1m hQ1 hU2 hQm hU2' hU2l hq2i hr2i hq2m hQ0 hR hQ0m hR' hRl hw hQ1l hQ0l hFQ hFR n1 n2 b1 b2 hlo hy
 go_enter Tryz.func225,Tryz.ntmps225
 go_upto_block 0 with (go_at_call 238; refine KZ.out.mono ?_; rintro e w1 ⟨rfl,rfl⟩)
 go_cut [15] (fun v wx=>v = .int .u64 (Q1:Int) ∧ w = wx)
 case first =>
  go_wp2_with fail
  go_loop [15,16] (fun v v2=>∃ q r:Nat,v = .int .u64 (q:Int) ∧ v2 = .int .u64 (r:Int) ∧ Half yn1 yn0 un a1 q r) (fun _ v2=>4294967296 - (intOf v2).toNat)
  case atStart=>exact ⟨_,_,rfl,rfl,hs1⟩
  case round =>
   obtain ⟨q,r,rfl,rfl,hh⟩:=hrel
   have hrl:=hh.rlt
   have hql:=hh.le
   have hadd:IntKind.u64.wrap ((r:Int) + (yn1:Int)) = ((r + yn1:Nat):Int):=u64_add _ _ (by have:=hp1.y2; omega)
   by_cases c1:4294967296 ≤ q
   ·have t1:decide ((4294967296:Int) ≤ (q:Int)) = true:=by rw [decide_eq_true_iff]; omega
    have hsub:=u64_sub1 q (by omega) (by omega)
    have hyes:=Half.yes1 hp1 c1
    by_cases c3:4294967296 ≤ r + yn1
    ·have t3:decide ((4294967296:Int) ≤ ((r + yn1:Nat):Int)) = true:=by rw [decide_eq_true_iff]; omega
     have hoff:=Half.off hp1 hh hyes c3
     rw [← HQ1.out] at hoff
     have HOFF:=Lib.hid hoff
     clear hoff hyes c1 c3
     rw [Int.natCast_add] at t3 hadd
     go_wp2
     all_goals (go_meet; case rel=>exact ⟨by rw [HOFF.out],rfl⟩)
    ·have t3:decide ((4294967296:Int) ≤ ((r + yn1:Nat):Int)) = false:=by rw [decide_eq_false_iff_not]; omega
     have hon:=Half.on hh hyes (Nat.lt_of_not_le c3)
     clear hyes c1 c3
     rw [Int.natCast_add] at t3 hadd
     go_wp2
     go_round
     case rel=>exact ⟨_,_,rfl,by rw [← Int.natCast_add],hon⟩
     case measure=>simp [intOf]; have:=hp1.y1; omega
   ·have t1:decide ((4294967296:Int) ≤ (q:Int)) = false:=by rw [decide_eq_false_iff_not]; omega
    obtain ⟨m1,m2⟩:=half_words (yn1:=yn1) (show q < 4294967296 by omega) hrl hp1.y3 hp1.u1
    obtain ⟨M1,hM1⟩:∃ M,M = q * yn0:=⟨_,rfl⟩
    obtain ⟨M2,hM2⟩:∃ M,M = 4294967296 * r + a1:=⟨_,rfl⟩
    rw [← hM1] at m1
    rw [← hM2] at m2
    by_cases c2:M2 < M1
    ·have hsub:=u64_sub1 q (Nat.pos_of_ne_zero (by rintro rfl; rw [Nat.zero_mul] at hM1; exact absurd c2 (by rw [hM1]; exact Nat.not_lt_zero _))) (Nat.lt_of_le_of_lt hql (by decide))
     have t2:decide ((M2:Int) < (M1:Int)) = true:=decide_eq_true (Int.ofNat_lt.2 c2)
     have hyes:=Half.yes2 hp1 hh (by rw [← hM1,← hM2]; exact c2)
     by_cases c3:4294967296 ≤ r + yn1
     ·have t3:decide ((4294967296:Int) ≤ ((r + yn1:Nat):Int)) = true:=by rw [decide_eq_true_iff]; omega
      have hoff:=Half.off hp1 hh hyes c3
      rw [← HQ1.out] at hoff
      have HOFF:=Lib.hid hoff
      clear hoff hyes c1 c3 hM1 hM2
      rw [Int.natCast_add] at t3 hadd
      go_wp2
      all_goals (go_meet; case rel=>exact ⟨by rw [HOFF.out],rfl⟩)
     ·have t3:decide ((4294967296:Int) ≤ ((r + yn1:Nat):Int)) = false:=by rw [decide_eq_false_iff_not]; omega
      have hon:=Half.on hh hyes (Nat.lt_of_not_le c3)
      clear hyes c1 c3 hM1 hM2
      rw [Int.natCast_add] at t3 hadd
      go_wp2
      go_round
      case rel=>exact ⟨_,_,rfl,by rw [← Int.natCast_add],hon⟩
      case measure=>simp [intOf]; have:=hp1.y1; omega
    ·have t2:decide ((M2:Int) < (M1:Int)) = false:=decide_eq_false (fun h=>c2 (Int.ofNat_lt.1 h))
     have hno:=Half.no hp1 hh (by rw [← hM1,← hM2]; exact Nat.le_of_not_lt c2)
     rw [← HQ1.out] at hno
     have HNO:=Lib.hid hno
     clear hno c1 hM1 hM2
     go_wp2
     all_goals (go_meet; case rel=>exact ⟨by rw [HNO.out],rfl⟩)
 case rest =>
  obtain ⟨rfl,rfl⟩:=hcut
  go_upto_block 2 with fail
  go_cut [18] (fun v wx=>v = .int .u64 (Q0:Int) ∧ w = wx)
  case first =>
   go_wp2_with fail
   go_loop [18,16] (fun v v2=>∃ q r:Nat,v = .int .u64 (q:Int) ∧ v2 = .int .u64 (r:Int) ∧ Half yn1 yn0 U2 a0 q r) (fun _ v2=>4294967296 - (intOf v2).toNat)
   case atStart=>exact ⟨_,_,rfl,rfl,hs2⟩
   case round =>
    obtain ⟨q,r,rfl,rfl,hh⟩:=hrel
    have hrl:=hh.rlt
    have hql:=hh.le
    have hadd:IntKind.u64.wrap ((r:Int) + (yn1:Int)) = ((r + yn1:Nat):Int):=u64_add _ _ (by have:=hp2.y2; omega)
    by_cases c1:4294967296 ≤ q
    ·have t1:decide ((4294967296:Int) ≤ (q:Int)) = true:=by rw [decide_eq_true_iff]; omega
     have hsub:=u64_sub1 q (by omega) (by omega)
     have hyes:=Half.yes1 hp2 c1
     by_cases c3:4294967296 ≤ r + yn1
     ·have t3:decide ((4294967296:Int) ≤ ((r + yn1:Nat):Int)) = true:=by rw [decide_eq_true_iff]; omega
      have hoff:=Half.off hp2 hh hyes c3
      rw [← HQ0.out] at hoff
      have HOFF:=Lib.hid hoff
      clear hoff hyes c1 c3
      rw [Int.natCast_add] at t3 hadd
      go_wp2
      all_goals (go_meet; case rel=>exact ⟨by rw [HOFF.out],rfl⟩)
     ·have t3:decide ((4294967296:Int) ≤ ((r + yn1:Nat):Int)) = false:=by rw [decide_eq_false_iff_not]; omega
      have hon:=Half.on hh hyes (Nat.lt_of_not_le c3)
      clear hyes c1 c3
      rw [Int.natCast_add] at t3 hadd
      go_wp2
      go_round
      case rel=>exact ⟨_,_,rfl,by rw [← Int.natCast_add],hon⟩
      case measure=>simp [intOf]; have:=hp2.y1; omega
    ·have t1:decide ((4294967296:Int) ≤ (q:Int)) = false:=by rw [decide_eq_false_iff_not]; omega
     obtain ⟨m1,m2⟩:=half_words (yn1:=yn1) (show q < 4294967296 by omega) hrl hp2.y3 hp2.u1
     obtain ⟨M1,hM1⟩:∃ M,M = q * yn0:=⟨_,rfl⟩
     obtain ⟨M2,hM2⟩:∃ M,M = 4294967296 * r + a0:=⟨_,rfl⟩
     rw [← hM1] at m1
     rw [← hM2] at m2
     by_cases c2:M2 < M1
     ·have hsub:=u64_sub1 q (Nat.pos_of_ne_zero (by rintro rfl; rw [Nat.zero_mul] at hM1; exact absurd c2 (by rw [hM1]; exact Nat.not_lt_zero _))) (Nat.lt_of_le_of_lt hql (by decide))
      have t2:decide ((M2:Int) < (M1:Int)) = true:=decide_eq_true (Int.ofNat_lt.2 c2)
      have hyes:=Half.yes2 hp2 hh (by rw [← hM1,← hM2]; exact c2)
      by_cases c3:4294967296 ≤ r + yn1
      ·have t3:decide ((4294967296:Int) ≤ ((r + yn1:Nat):Int)) = true:=by rw [decide_eq_true_iff]; omega
       have hoff:=Half.off hp2 hh hyes c3
       rw [← HQ0.out] at hoff
       have HOFF:=Lib.hid hoff
       clear hoff hyes c1 c3 hM1 hM2
       rw [Int.natCast_add] at t3 hadd
       go_wp2
       all_goals (go_meet; case rel=>exact ⟨by rw [HOFF.out],rfl⟩)
      ·have t3:decide ((4294967296:Int) ≤ ((r + yn1:Nat):Int)) = false:=by rw [decide_eq_false_iff_not]; omega
       have hon:=Half.on hh hyes (Nat.lt_of_not_le c3)
       clear hyes c1 c3 hM1 hM2
       rw [Int.natCast_add] at t3 hadd
       go_wp2
       go_round
       case rel=>exact ⟨_,_,rfl,by rw [← Int.natCast_add],hon⟩
       case measure=>simp [intOf]; have:=hp2.y1; omega
     ·have t2:decide ((M2:Int) < (M1:Int)) = false:=decide_eq_false (fun h=>c2 (Int.ofNat_lt.1 h))
      have hno:=Half.no hp2 hh (by rw [← hM1,← hM2]; exact Nat.le_of_not_lt c2)
      rw [← HQ0.out] at hno
      have HNO:=Lib.hid hno
      clear hno c1 hM1 hM2
      go_wp2
      all_goals (go_meet; case rel=>exact ⟨by rw [HNO.out],rfl⟩)
  case rest =>
   obtain ⟨rfl,rfl⟩:=hcut
   go_wp2
   go_ret2
   exact ⟨rfl,rfl⟩
theorem bits_Div64 (hi lo y:Nat) (hh:hi < y) (hy:y < 18446744073709551616) (hlo:lo < 18446744073709551616) (w:World) :
 Calls Tryz.prog 225 #[.int .u64 hi,.int .u64 lo,.int .u64 y] w fun e w'=>e = .returned (.tuple #[.int .u64 ((hi * 18446744073709551616 + lo) / y:Nat),.int .u64 ((hi * 18446744073709551616 + lo) % y:Nat)]) ∧ ∃ d,w' = w.drewN d:=by
 by_cases h0:hi = 0
 ·subst h0
  rw [Nat.zero_mul,Nat.zero_add]
  exact (bits_Div64_0 lo y hh hlo w).mono fun _ _ h=>⟨h.1,1,h.2⟩
 ·exact (bits_Div64_1 hi lo y (by omega) hh hy hlo w).mono fun _ _ h=>⟨h.1,0,h.2⟩
end Go.Proofs.YtcpgflbfjplheaaGreatDoor
