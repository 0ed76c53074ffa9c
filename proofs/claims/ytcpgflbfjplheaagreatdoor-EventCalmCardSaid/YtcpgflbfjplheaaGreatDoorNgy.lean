import Derived.Test.YtcpgflbfjplheaaGreatDoorNey
import Derived.Test.YtcpgflbfjplheaaGreatDoorNfy
import Derived.Test.YtcpgflbfjplheaaGreatDoorMey
import Derived.Test.YtcpgflbfjplheaaGreatDoorKby
namespace Go.Proofs.YtcpgflbfjplheaaGreatDoor
open Go.RowKit Gs
set_option linter.unusedVariables false
set_option maxRecDepth 100000 in
set_option maxHeartbeats 1000000 in
theorem nat_Bits {A n c} {l:List Nat} {P} {w:World} (h:RdU w P ⟨A,n,c⟩ l) (hn:n ≤ 1099511627776) :
 Calls Tryz.prog 133 #[.slice A n c] w fun e w'=>e = .returned (.int .i64 (blen (val 18446744073709551616 l):Nat)) ∧ w = w':=by
 have hN:=h.nl_le
 have hr:=h.trim
 have kt:=nat_trim h (by omega)
 obtain ⟨N,hNN⟩:∃ N,N = nl l:=⟨_,rfl⟩
 rw [← hNN] at hN hr kt
 have hv:val 18446744073709551616 l = val 18446744073709551616 (limbs 18446744073709551616 (val 18446744073709551616 l)):=(val_limbs B64 _).symm
 have hcan:=limbs_can B64 (val 18446744073709551616 l)
 generalize limbs 18446744073709551616 (val 18446744073709551616 l) = L at *
 have KT:=Lib.hid kt
 clear hNN kt
 cases N with
 | zero =>
  have hz:val 18446744073709551616 l = 0:=by rw [hv,List.length_eq_zero_iff.1 hr.rd.len]; rfl
  rw [hz,blen_zero]
  clear hz hv
  go_enter Tryz.func133,Tryz.ntmps133
  go_wp2_with (go_at_call 178; refine KT.out.mono ?_; rintro e w1 ⟨rfl,rfl⟩)
  go_ret
  exact ⟨rfl,rfl⟩
 | succ q =>
  have h0:gd L q ≠ 0:=(can_iff hr.rd.len).1 hcan
  have hb:=blen_val hr.lt hr.rd.len h0
  rw [← hv] at hb
  have hlt:=hr.lt.gd (by omega) q
  obtain ⟨ad,e,hc⟩:=hr.rd.at q (by show q < q + 1; omega)
  simp only at e
  subst e
  have kl:=Tryz.bits_Len64 (gd L q:Nat) w (by omega) (by omega)
  rw [Int.toNat_natCast,bitLen_u64 hlt] at kl
  have h1:=blen_u64 hlt
  obtain ⟨x,hx⟩:∃ x,x = gd L q:=⟨_,rfl⟩
  rw [← hx] at hc kl hb h1
  obtain ⟨y,hy⟩:∃ y,y = blen x:=⟨_,rfl⟩
  rw [← hy] at kl hb h1
  have s1:IntKind.i64.wrap ((q:Int) + 1 - 1) = (q:Int):=by rw [Int.add_sub_cancel]; exact IntWalk.i64_in _ (by omega)
  have s2:IntKind.i64.wrap (64 * (q:Int)) = 64 * (q:Int):=IntWalk.i64_in _ (by omega)
  have s3:IntKind.i64.wrap (64 * (q:Int) + (y:Int)) = ((64 * q + y:Nat):Int):=by rw [show ((64 * q + y:Nat):Int) = 64 * (q:Int) + (y:Int) by omega]; exact IntWalk.i64_in _ (by omega)
  have HB:=Lib.hid hb
  have KL:=Lib.hid (kl.mono (R':=fun (e:Ending) w'=>e = Ending.returned (.int .i64 (y:Int)) ∧ w = w') fun _ _ h=>⟨h.1,h.2.symm⟩)
  rw [HB.out]
  clear hx hy hb kl hv hcan h0 hlt
  go_enter Tryz.func133,Tryz.ntmps133
  go_wp2_with (first | (go_at_call 178; refine KT.out.mono ?_; rintro e w1 ⟨rfl,rfl⟩) | (go_at_call 189; refine KL.out.mono ?_; rintro e w1 ⟨rfl,rfl⟩))
  go_ret
  exact ⟨rfl,rfl⟩
structure Lessened (o O:List Nat) (i n q:Nat) (V:List Nat) (d:Nat):Prop where
 part:PartTo o O i (n + 1)
 d1:d ≤ 1
 eq:val 18446744073709551616 ((o.drop i).take (n + 1)) + 18446744073709551616 ^ (n + 1) * d = val 18446744073709551616 ((O.drop i).take (n + 1)) + q * val 18446744073709551616 V
structure Backed (o O:List Nat) (i n:Nat) (V:List Nat) (d:Nat):Prop where
 part:PartTo o O i (n + 1)
 d1:d ≤ 1
 eq:val 18446744073709551616 ((O.drop i).take (n + 1)) + 18446744073709551616 ^ (n + 1) * d = val 18446744073709551616 ((o.drop i).take (n + 1)) + val 18446744073709551616 V
theorem part_of {o O:List Nat} {i n:Nat} (hlt:Lt 18446744073709551616 O) (hl:O.length = o.length) (hpre:O.take i = o.take i) (hs:∀ j,n + 1 ≤ j → gd (O.drop i) j = gd (o.drop i) j):PartTo o O i (n + 1):=by
 refine PartTo.of hl hlt (fun j hj=>?_)
 rcases hj with hj | hj
 ·rw [← gd_take (l:=O) hj,hpre,gd_take hj]
 ·have:=hs (j - i) (by omega)
  rw [gd_drop,gd_drop,show i + (j - i) = j by omega] at this
  exact this
theorem drop_set {o:List Nat} {i j x:Nat}:(o.set (i + j) x).drop i = (o.drop i).set j x:=by
 rw [List.drop_set]
 rw [if_neg (by omega),Nat.add_sub_cancel_left]
theorem take_set {o:List Nat} {i j x:Nat}:(o.set (i + j) x).take i = o.take i:=by
 rw [List.take_set_of_le (by omega)]
theorem dec_ne (d:Nat) (h:d ≤ 1):(((d:Nat):Int) != 0) = decide (d = 1):=by
 rcases (show d = 0 ∨ d = 1 by omega) with rfl | rfl <;> rfl
theorem dec_eq1 (d:Nat) (h:d ≤ 1):(((d:Nat):Int) == 1) = decide (d = 1):=by
 rcases (show d = 0 ∨ d = 1 by omega) with rfl | rfl <;> rfl
theorem sub64_0 (x y h d:Nat) (hh:h = if x < y then 1 else 0) (hd:d = (x + 18446744073709551616 - y) % 18446744073709551616) (w:World):(callFunc 236 #[.int .u64 x,.int .u64 y,.int .u64 0]).run Tryz.prog w =
 .ok (.value (.tuple #[.int .u64 (d:Int),.int .u64 (h:Int)])) w:=by
 subst hh hd
 exact sub64 x y 0 (by omega) w
set_option maxRecDepth 100000 in
set_option maxHeartbeats 4000000 in
theorem nat_lessen {g N c i n q cc:Nat} {A cv} {o V:List Nat} {P} {w:World} {base:Nat} (hu:OwnN .u64 w base 146 ⟨some ⟨g,0,none⟩,N,c⟩ o) (ho:Lt 18446744073709551616 o)
 (hv:RdU w P ⟨A,n,cv⟩ V) (hP:∀ b,P b → b ≠ g) (hi:i + n + 1 ≤ N) (hN:N ≤ 1099511627777) (hq:q < 18446744073709551616) :
 Calls Tryz.prog 241 #[.slice (some ⟨g,i,none⟩) (n + 1) cc,.slice A n cv,.int .u64 q] w fun e w'=>∃ O d,e = .returned (.bool (decide (d = 1))) ∧ OwnN .u64 w' base 146 ⟨some ⟨g,0,none⟩,N,c⟩ O ∧ Lessened o O i n q V d ∧ Solo g w w':=by
 have hVl:=Lib.hid hv.rd.len
 have hol:=Lib.hid hu.len
 go_enter Tryz.func241,Tryz.ntmps241
 go_wp2
 go_loopw [7,15] (fun v iv wr=>∃ (k b:Nat) (O:List Nat),k ≤ n ∧ v = .int .u64 b ∧ iv = .int .i64 k ∧ LessInv (o.drop i) V q k b (O.drop i) ∧ O.take i = o.take i ∧ OwnN .u64 wr base 146 ⟨some ⟨g,0,none⟩,N,c⟩ O ∧ Solo g w wr) (fun _ iv _=>n - (intOf iv).toNat)
 case atStart=>exact ⟨0,0,o,Nat.zero_le _,rfl,rfl,LessInv.start _ _ _ (ho.drop i),rfl,hu,Solo.refl g w⟩
 case round =>
  obtain ⟨k,b,O,hk,rfl,rfl,hinv,hpre,hown,ht⟩:=hrel
  have hOl:=Lib.hid hown.len
  by_cases hlt:k < n
  ·obtain ⟨ad,e,hc⟩:=(hv.rd.solo ht hP).at k hlt
   simp only at e
   subst e
   obtain ⟨hco,hfo⟩:=hown.at (i + k) (by omega)
   have hv1:=hv.lt.gd (by omega) k
   have hu1:=hinv.lt.gd (by omega) k
   have kM:=Tryz.bits_Mul64 q (gd V k) hq hv1 wr
   have hst:=fun p1 p2 d l h=>less_step (p1:=p1) (p2:=p2) (d:=d) (l:=l) (h:=h) hq hv1 hinv.c1 hu1
   have hgd:gd (O.drop i) k = gd O (i + k):=gd_drop _ _ _
   rw [hgd] at hst
   have hin2:=fun (x c':Nat) (hx:x < 18446744073709551616) (hc':c' < 18446744073709551616) (e:gd O (i + k) + 18446744073709551616 * c' = x + (q * gd V k + b))=>hinv.step (x:=x) (c':=c') (by rw [List.length_drop,hol.out]; show k < N - i; omega) hx hc' (by rw [hgd]; exact e)
   simp only [← drop_set] at hin2
   obtain ⟨y,hy⟩:∃ y,y = gd V k:=⟨_,rfl⟩
   obtain ⟨u,hu'⟩:∃ u,u = gd O (i + k):=⟨_,rfl⟩
   rw [← hy] at hst kM hc hin2
   rw [← hu'] at hst hco hin2
   obtain ⟨p1,hp1⟩:∃ z,z = q * y / 18446744073709551616:=⟨_,rfl⟩
   obtain ⟨p2,hp2⟩:∃ z,z = q * y % 18446744073709551616:=⟨_,rfl⟩
   rw [← hp1,← hp2] at kM
   obtain ⟨d1,hd1⟩:∃ z,z = (p2 + b) / 18446744073709551616:=⟨_,rfl⟩
   obtain ⟨l1,hl1⟩:∃ z,z = (p2 + b) % 18446744073709551616:=⟨_,rfl⟩
   have ka:=fun W=>add64_0 p2 b W
   rw [← hd1,← hl1] at ka
   obtain ⟨h1,hh1⟩:∃ z:Nat,z = if u < l1 then 1 else 0:=⟨_,rfl⟩
   obtain ⟨x1,hx1⟩:∃ z,z = (u + 18446744073709551616 - l1) % 18446744073709551616:=⟨_,rfl⟩
   have ks:=fun W=>sub64_0 u l1 h1 x1 hh1 hx1 W
   obtain ⟨z1,z2,z3⟩:=hst p1 p2 d1 l1 h1 hp1 hp2 hd1 hl1 hh1
   rw [← hx1] at z3
   have hnew:=hin2 x1 (p1 + d1 + h1) (by rw [hx1]; exact Nat.mod_lt _ (by omega)) z2 z3
   have kw1:=wrap_u64 (x:=p1) (y:=d1) z1
   have kw2:IntKind.u64.wrap ((p1:Int) + (d1:Int) + (h1:Int)) = (p1:Int) + (d1:Int) + (h1:Int):=by have:=wrap_u64 (x:=p1 + d1) (y:=h1) z2; simpa using this
   have KM:=Lib.hid kM
   have hpre2:(O.set (i + k) x1).take i = o.take i:=by rw [take_set]; exact hpre
   clear kM hst hgd hin2 hy hu' hp1 hp2 hd1 hl1 hh1 hx1 z1 z2 z3 hv1 hu1
   go_wp2_with (go_at_call 192; refine KM.out.mono ?_; rintro e w1 ⟨rfl,rfl⟩)
   go_roundw
   case rel=>exact ⟨k + 1,p1 + d1 + h1,_,by omega,congrArg (Value.int .u64) (by omega),by go_num,hnew,hpre2,hown.store (i + k) x1,ht.setCell _ _⟩
   case measure=>simp [intOf]; omega
  ·obtain rfl:k = n:=by omega
   obtain ⟨hco,hfo⟩:=hown.at (i + k) (by omega)
   have hu1:=hinv.lt.gd (by omega) k
   have hgd:gd (O.drop i) k = gd O (i + k):=gd_drop _ _ _
   have heq:=hinv.eq
   rw [List.take_of_length_le (by rw [hVl.out]; exact Nat.le_refl _) (l:=V)] at heq
   rw [hgd] at hu1
   have hsm:=hinv.same k (Nat.le_refl _)
   have hc1:=hinv.c1
   rw [hgd] at hsm
   obtain ⟨u,hu'⟩:∃ u,u = gd O (i + k):=⟨_,rfl⟩
   rw [← hu'] at hu1 hco hsm
   obtain ⟨h1,hh1⟩:∃ z:Nat,z = if u < b then 1 else 0:=⟨_,rfl⟩
   obtain ⟨x1,hx1⟩:∃ z,z = (u + 18446744073709551616 - b) % 18446744073709551616:=⟨_,rfl⟩
   have ks:=fun W=>sub64_0 u b h1 x1 hh1 hx1 W
   have h1l:h1 ≤ 1:=by rw [hh1]; split <;> omega
   have heq2:u + 18446744073709551616 * h1 = x1 + b:=by
    rw [hh1,hx1]; split <;> omega
   have hx1l:x1 < 18446744073709551616:=by rw [hx1]; exact Nat.mod_lt _ (by omega)
   have hlen:(O.drop i).length = N - i:=by rw [List.length_drop,hOl.out]
   have hfin:Lessened o (O.set (i + k) x1) i k q V h1:=by
    have hlt2:Lt 18446744073709551616 O:=by
     intro z hz
     have h1:O = O.take i ++ O.drop i:=(List.take_append_drop i O).symm
     rw [h1,hpre] at hz
     rcases List.mem_append.1 hz with hz | hz
     ·exact ho _ (List.mem_of_mem_take hz)
     ·exact hinv.lt _ hz
    refine ⟨part_of (hlt2.set _ hx1l) (by rw [List.length_set,hOl.out,hol.out]) (by rw [take_set]; exact hpre) (fun j hj=>by rw [drop_set,gd_set_ne (by omega)]; exact hinv.same j (by omega)),h1l,?_⟩
    rw [drop_set,val_take_set_lt (by rw [hlen]; omega),val_take_succ,← hsm,Nat.pow_succ]
    generalize 18446744073709551616 ^ k = K at *
    have e2:K * (u + 18446744073709551616 * h1) = K * (x1 + b):=by rw [heq2]
    grind
   have HF:=Lib.hid hfin
   have hdn:=dec_ne h1 h1l
   clear hfin heq heq2 hsm hgd hu1 hu' hh1 hx1 hlen hinv
   go_wp2
   go_ret
   exact ⟨_,h1,by rw [← hdn]; rfl,hown.store (i + k) x1,HF.out,ht.setCell _ _⟩
set_option maxRecDepth 100000 in
set_option maxHeartbeats 4000000 in
theorem nat_back {g N c i n cc:Nat} {A cv} {o V:List Nat} {P} {w:World} {base:Nat} (hu:OwnN .u64 w base 146 ⟨some ⟨g,0,none⟩,N,c⟩ o) (ho:Lt 18446744073709551616 o)
 (hv:RdU w P ⟨A,n,cv⟩ V) (hP:∀ b,P b → b ≠ g) (hi:i + n + 1 ≤ N) (hN:N ≤ 1099511627777) :
 Calls Tryz.prog 242 #[.slice (some ⟨g,i,none⟩) (n + 1) cc,.slice A n cv] w fun e w'=>∃ O d,e = .returned (.bool (decide (d = 1))) ∧ OwnN .u64 w' base 146 ⟨some ⟨g,0,none⟩,N,c⟩ O ∧ Backed o O i n V d ∧ Solo g w w':=by
 have hVl:=Lib.hid hv.rd.len
 have hol:=Lib.hid hu.len
 go_enter Tryz.func242,Tryz.ntmps242
 go_wp2
 go_loopw [5,9] (fun v iv wr=>∃ (k b:Nat) (O:List Nat),k ≤ n ∧ v = .int .u64 b ∧ iv = .int .i64 k ∧ BackInv (o.drop i) V k b (O.drop i) ∧ O.take i = o.take i ∧ OwnN .u64 wr base 146 ⟨some ⟨g,0,none⟩,N,c⟩ O ∧ Solo g w wr) (fun _ iv _=>n - (intOf iv).toNat)
 case atStart=>exact ⟨0,0,o,Nat.zero_le _,rfl,rfl,BackInv.start _ _ (ho.drop i),rfl,hu,Solo.refl g w⟩
 case round =>
  obtain ⟨k,b,O,hk,rfl,rfl,hinv,hpre,hown,ht⟩:=hrel
  have hOl:=Lib.hid hown.len
  by_cases hlt:k < n
  ·obtain ⟨ad,e,hc⟩:=(hv.rd.solo ht.drew hP).at k hlt
   simp only at e
   subst e
   obtain ⟨hco,hfo⟩:=(show OwnN .u64 wr.drew base 146 ⟨some ⟨g,0,none⟩,N,c⟩ O from hown).at (i + k) (by omega)
   have hgd:gd (O.drop i) k = gd O (i + k):=gd_drop _ _ _
   have hnew:=hinv.step (by rw [List.length_drop,hol.out]; show k < N - i; omega) hv.lt
   rw [← drop_set,hgd] at hnew
   have ka:=fun W=>add64 (gd O (i + k)) (gd V k) b hinv.c1 W
   obtain ⟨x1,hx1⟩:∃ z,z = (gd O (i + k) + gd V k + b) % 18446744073709551616:=⟨_,rfl⟩
   obtain ⟨d1,hd1⟩:∃ z,z = (gd O (i + k) + gd V k + b) / 18446744073709551616:=⟨_,rfl⟩
   simp only [← hx1,← hd1] at ka
   rw [← hx1,← hd1] at hnew
   have hpre2:(O.set (i + k) x1).take i = o.take i:=by rw [take_set]; exact hpre
   clear hgd hx1 hd1
   go_wp2
   have t3:(k:Int) < (n:Int) + 1:=by omega
   go_region_law (fail)
   all_goals
    go_wp2
    go_roundw
    case rel=>exact ⟨k + 1,d1,_,by omega,rfl,by go_num,hnew,hpre2,hown.store (i + k) x1,(ht.drew).setCell _ _⟩
    case measure=>simp [intOf]; omega
  ·obtain rfl:k = n:=by omega
   obtain ⟨hco,hfo⟩:=hown.at (i + k) (by omega)
   have hu1:=hinv.lt.gd (by omega) k
   have hgd:gd (O.drop i) k = gd O (i + k):=gd_drop _ _ _
   have heq:=hinv.eq
   rw [List.take_of_length_le (by rw [hVl.out]; exact Nat.le_refl _) (l:=V)] at heq
   rw [hgd] at hu1
   have hsm:=hinv.same k (Nat.le_refl _)
   have hc1:=hinv.c1
   rw [hgd] at hsm
   obtain ⟨u,hu'⟩:∃ u,u = gd O (i + k):=⟨_,rfl⟩
   rw [← hu'] at hu1 hco hsm
   have ka:=fun W=>add64_0 u b W
   obtain ⟨x1,hx1⟩:∃ z,z = (u + b) % 18446744073709551616:=⟨_,rfl⟩
   obtain ⟨d1,hd1⟩:∃ z,z = (u + b) / 18446744073709551616:=⟨_,rfl⟩
   simp only [← hx1,← hd1] at ka
   have h1l:d1 ≤ 1:=by omega
   have heq2:x1 + 18446744073709551616 * d1 = u + b:=by omega
   have hx1l:x1 < 18446744073709551616:=by rw [hx1]; exact Nat.mod_lt _ (by omega)
   have hlen:(O.drop i).length = N - i:=by rw [List.length_drop,hOl.out]
   have hfin:Backed o (O.set (i + k) x1) i k V d1:=by
    have hlt2:Lt 18446744073709551616 O:=by
     intro z hz
     have h1:O = O.take i ++ O.drop i:=(List.take_append_drop i O).symm
     rw [h1,hpre] at hz
     rcases List.mem_append.1 hz with hz | hz
     ·exact ho _ (List.mem_of_mem_take hz)
     ·exact hinv.lt _ hz
    refine ⟨part_of (hlt2.set _ hx1l) (by rw [List.length_set,hOl.out,hol.out]) (by rw [take_set]; exact hpre) (fun j hj=>by rw [drop_set,gd_set_ne (by omega)]; exact hinv.same j (by omega)),h1l,?_⟩
    rw [drop_set,val_take_set_lt (by rw [hlen]; omega),val_take_succ,← hsm,Nat.pow_succ]
    generalize 18446744073709551616 ^ k = K at *
    have e2:K * (x1 + 18446744073709551616 * d1) = K * (u + b):=by rw [heq2]
    grind
   have HF:=Lib.hid hfin
   have hdn:=dec_eq1 d1 h1l
   clear hfin heq heq2 hsm hgd hu1 hu' hx1 hd1 hlen hinv
   go_wp2
   go_ret
   exact ⟨_,d1,by rw [← hdn]; rfl,hown.store (i + k) x1,HF.out,ht.setCell _ _⟩
set_option maxRecDepth 100000 in
set_option maxHeartbeats 8000000 in
theorem nat_guess {g N c i n k cc:Nat} {A cv} {o V:List Nat} {P} {w:World} {base:Nat} (hu:OwnN .u64 w base 146 ⟨some ⟨g,0,none⟩,N,c⟩ o) (ho:Lt 18446744073709551616 o)
 (hv:RdU w P ⟨A,n,cv⟩ V) (hi:i + n + 1 ≤ N) (hN:N ≤ 1099511627777) (hn:n = k + 2) :
 Calls Tryz.prog 240 #[.slice (some ⟨g,i,none⟩) (n + 1) cc,.slice A n cv] w fun e w'=>(e = .returned (.int .u64 (guessF ((o.drop i).take (n + 1)) V k:Nat)) ∧ ∃ d,w' = w.drewN d) ∧ (val 18446744073709551616 ((o.drop i).take (n + 1)) < 18446744073709551616 * val 18446744073709551616 V → val 18446744073709551616 ((o.drop i).take (n + 1)) / val 18446744073709551616 V ≤ guessF ((o.drop i).take (n + 1)) V k) ∧ guessF ((o.drop i).take (n + 1)) V k < 18446744073709551616:=by
 obtain ⟨U,hU⟩:∃ U,U = (o.drop i).take (n + 1):=⟨_,rfl⟩
 have lU:U.length = k + 3:=by rw [hU,List.length_take,List.length_drop,hu.len]; show min (n + 1) (N - i) = k + 3; omega
 have lV:V.length = k + 2:=by rw [hv.rd.len]; exact hn
 have ltU:Lt 18446744073709551616 U:=by rw [hU]; exact (ho.drop _).take _
 have hg:∀ j,j < n + 1 → gd U j = gd o (i + j):=fun j hj=>by rw [hU,gd_take hj,gd_drop]
 rw [← hU]
 have hp:=guess_pre (V:=V) ltU lU lV
 obtain ⟨c2,f2⟩:=hu.at (i + n) (by omega)
 obtain ⟨c1,f1⟩:=hu.at (i + (k + 1)) (by omega)
 obtain ⟨c0,f0⟩:=hu.at (i + k) (by omega)
 rw [← hg _ (by omega)] at c2 c1 c0
 rw [show gd U n = gd U (k + 2) by rw [hn]] at c2
 obtain ⟨ad,e,d1⟩:=hv.rd.at (k + 1) (by show k + 1 < n; omega)
 obtain ⟨ad2,e',d0⟩:=hv.rd.at k (by show k < n; omega)
 simp only at e e'
 subst e
 injection e' with e'
 subst e'
 obtain ⟨G,hG⟩:∃ G,G = guessF U V k:=⟨_,rfl⟩
 rw [← hG]
 unfold guessF at hG
 have ha:=ltU.gd (by omega) (k + 2)
 have hb:=ltU.gd (by omega) (k + 1)
 have hc:=ltU.gd (by omega) k
 have hy:=hv.lt.gd (by omega) (k + 1)
 have hz:=hv.lt.gd (by omega) k
 obtain ⟨xa,hxa⟩:∃ x,x = gd U (k + 2):=⟨_,rfl⟩
 obtain ⟨xb,hxb⟩:∃ x,x = gd U (k + 1):=⟨_,rfl⟩
 obtain ⟨xc,hxc⟩:∃ x,x = gd U k:=⟨_,rfl⟩
 obtain ⟨y,hyy⟩:∃ x,x = gd V (k + 1):=⟨_,rfl⟩
 obtain ⟨z,hzz⟩:∃ x,x = gd V k:=⟨_,rfl⟩
 rw [← hxa] at hp c2 ha hG
 rw [← hxb] at hp c1 hb hG
 rw [← hxc] at hp c0 hc hG
 rw [← hyy] at hp hy d1 hG
 rw [← hzz] at hp hz d0 hG
 obtain ⟨Q,hQ⟩:∃ Q,Q = val 18446744073709551616 U / val 18446744073709551616 V:=⟨_,rfl⟩
 rw [← hQ] at hp ⊢
 obtain ⟨big,hbig⟩:∃ big,big = (val 18446744073709551616 U < 18446744073709551616 * val 18446744073709551616 V):=⟨_,rfl⟩
 have hQB:big → Q < 18446744073709551616:=by
  rw [hbig,hQ]
  intro hlt
  exact Nat.div_lt_of_lt_mul (by rw [Nat.mul_comm]; exact hlt)
 rw [← hbig]
 obtain ⟨k1,hk1⟩:∃ k1,k1 = k + 1:=⟨_,rfl⟩
 rw [← hk1] at c1 f1 d1
 have s1:IntKind.i64.wrap ((n:Int) - 1) = (k1:Int):=by rw [show (n:Int) - 1 = (k1:Int) by omega]; exact IntWalk.i64_in _ (by omega)
 have s2:IntKind.i64.wrap ((n:Int) - 2) = (k:Int):=by rw [show (n:Int) - 2 = (k:Int) by omega]; exact IntWalk.i64_in _ (by omega)
 have t1:(k1:Int) < (n:Int) + 1:=by omega
 have t2:(k:Int) < (n:Int) + 1:=by omega
 have t3:(k1:Int) < (n:Int):=by omega
 have t4:(k:Int) < (n:Int):=by omega
 have t5:(n:Int) < (n:Int) + 1:=by omega
 have HP:=Lib.hid hp
 have HQB:=Lib.hid hQB
 clear hbig hU lU lV ltU hg hp hu hv ho hxa hxb hxc hyy hzz hQ hk1 hn hi hQB
 by_cases hay:xa < y
 ·have hge:decide ((y:Int) ≤ (xa:Int)) = false:=decide_eq_false (by omega)
  have kd:=bits_Div64 xa xb y hay hy hb
  obtain ⟨q0,hq0⟩:∃ q,q = (xa * 18446744073709551616 + xb) / y:=⟨_,rfl⟩
  obtain ⟨r0,hr0⟩:∃ q,q = (xa * 18446744073709551616 + xb) % y:=⟨_,rfl⟩
  have hs:=HP.out.start hay (Nat.le_of_lt hy) hb
  rw [← hq0,← hr0] at hs
  rw [if_pos hay,← hq0,← hr0] at hG
  obtain ⟨F0,hF0⟩:∃ F0,F0 = 18446744073709551616:=⟨_,rfl⟩
  have hF1:18446744073709551616 - r0 ≤ F0:=by omega
  have hG2:guessL y z xc F0 q0 r0 = G:=by rw [hF0]; exact hG.symm
  have HG:=Lib.hid hG2
  have HF:=Lib.hid hF1
  have hy1:0 < y:=by omega
  simp only [← hq0,← hr0] at kd
  have KD:=Lib.hid kd
  have HS:=Lib.hid hs
  clear kd hs hq0 hr0 hG hG2 hF0 hF1
  go_enter Tryz.func240,Tryz.ntmps240
  go_wp2
  refine region_still (by kernel_rfl) (by kernel_rfl) ?_
  repeat still_step
  refine wpStill_nil ?_
  go_wp2
  refine wp_region_quiet_lit (by kernel_rfl) (by kernel_rfl) ?_
  repeat (go_big_quiet_step (fail))
  go_big_quiet_want
  go_big_quiet_op
  apply Exists.intro
  refine ⟨fun _=>?_,?_⟩
  ·refine (KD.out _).mono ?_
   rintro e w1 ⟨rfl,d,rfl⟩
   exact ⟨rfl,_,by rw [World.drewN_drewN,Nat.add_assoc]⟩
  go_big_quiet_on
  repeat (go_big_quiet_step (fail))
  refine wpQuiet_nil ?_
  rintro _ ⟨nq,rfl⟩
  go_wp2
  rw [show decide (y ≤ xa) = false from decide_eq_false (by omega)]
  go_loopw [6,7] (fun v v2 wr=>∃ q r d f:Nat,v = .int .u64 (q:Int) ∧ v2 = .int .u64 (r:Int) ∧ GuessInv 18446744073709551616 xa xb y Q q r ∧ wr = w.drewN d ∧ Hid (guessL y z xc f q r = G) ∧ Hid (18446744073709551616 - r ≤ f)) (fun _ v2 _=>18446744073709551616 - (intOf v2).toNat)
  case atStart=>exact ⟨q0,r0,1 + nq,F0,rfl,rfl,HS.out,World.drewN_drew _ _,HG,HF⟩
  case round =>
   obtain ⟨q,r,d,f,rfl,rfl,hinv,rfl,hGf,hff⟩:=hrel
   have hq1:=hinv.q1
   have hr1:=hinv.r1
   have kM:=Tryz.bits_Mul64 q z hq1 hz (w.drewN d)
   have htest:=guess_test (q:=q) (z:=z) (r:=r) hc
   obtain ⟨p1,hp1⟩:∃ p,p = q * z / 18446744073709551616:=⟨_,rfl⟩
   obtain ⟨p2,hp2⟩:∃ p,p = q * z % 18446744073709551616:=⟨_,rfl⟩
   rw [← hp1,← hp2] at kM htest
   have KM:=Lib.hid kM
   clear kM hp1 hp2
   by_cases ht:q * z ≤ r * 18446744073709551616 + xc
   ·have hge:=Lib.hid hinv.ge
    have hor:=htest.1 ht
    have HQG:=Lib.hid (hGf.out.symm.trans (guessL_stop ht))
    clear htest ht
    by_cases h1:p1 < r
    ·have b1:decide ((p1:Int) < (r:Int)) = true:=decide_eq_true (by omega)
     clear hor
     go_wp2_with (go_at_call 192; refine KM.out.mono ?_; rintro e w1 ⟨rfl,rfl⟩)
     go_ret
     exact ⟨⟨by rw [HQG.out]; rfl,d,rfl⟩,fun _=>by rw [HQG.out]; exact hge.out,by rw [HQG.out]; exact hq1⟩
    ·obtain ⟨rfl,h3⟩:p1 = r ∧ p2 ≤ xc:=by rcases hor with h | h; exact absurd h h1; exact h
     clear hor
     have b2:((p1:Int) == (p1:Int)) = true:=by simp
     have b3:decide ((p2:Int) ≤ (xc:Int)) = true:=decide_eq_true (by omega)
     go_wp2_with (go_at_call 192; refine KM.out.mono ?_; rintro e w1 ⟨rfl,rfl⟩)
     go_ret
     exact ⟨⟨by rw [HQG.out]; rfl,d,rfl⟩,fun _=>by rw [HQG.out]; exact hge.out,by rw [HQG.out]; exact hq1⟩
   ·have hless:=hinv.less HP.out (by omega)
    have hor:¬ (p1 < r ∨ (p1 = r ∧ p2 ≤ xc)):=fun h=>ht (htest.2 h)
    have hqp:=u64_sub1 q (by omega) hq1
    have hstep:=hinv.step hless
    have hon:=guessL_on (f:=f) (y:=y) ht hff.out hr1
    have hoff:=guessL_off (f:=f) (y:=y) ht hff.out hr1
    rw [hGf.out] at hon hoff
    have HL:=Lib.hid hless
    clear htest ht hinv
    have ka:=fun W=>add64_0 r y W
    have n1:¬ p1 < r:=fun h=>hor (.inl h)
    have hb1:decide ((p1:Int) < (r:Int)) = false:=decide_eq_false (by omega)
    by_cases heq:p1 = r
    ·subst heq
     have n2:xc < p2:=Nat.lt_of_not_le fun h=>hor (.inr ⟨rfl,h⟩)
     have hb2:((p1:Int) == (p1:Int)) = true:=by simp
     have hb3:decide ((p2:Int) ≤ (xc:Int)) = false:=decide_eq_false (by omega)
     clear hor
     by_cases hov:p1 + y < 18446744073709551616
     ·have hst:=hstep hov
      obtain ⟨ff2,hf2,hf3⟩:=hon hov hy1
      have HF2:=Lib.hid hf2.symm
      have HF3:=Lib.hid hf3
      clear hon hoff hf2 hf3
      simp only [Nat.mod_eq_of_lt hov,Nat.div_eq_of_lt hov] at ka
      clear hstep hov
      go_wp2_with (go_at_call 192; refine KM.out.mono ?_; rintro e w1 ⟨rfl,rfl⟩)
      go_roundw
      case rel=>exact ⟨_,_,d,ff2,rfl,rfl,hst,rfl,HF2,HF3⟩
      case measure=>simp [intOf]; omega
     ·have hle:Q ≤ q - 1:=by omega
      have HQG:=Lib.hid (hoff hov)
      clear hon hoff
      have hdv:(p1 + y) / 18446744073709551616 = 1:=by omega
      have hlq:q - 1 < 18446744073709551616:=by omega
      simp only [hdv] at ka
      have HLE:=Lib.hid hle
      have HLQ:=Lib.hid hlq
      obtain ⟨s,hs⟩:∃ s,s = (p1 + y) % 18446744073709551616:=⟨_,rfl⟩
      simp only [← hs] at ka
      clear hstep hov hdv hle hlq hs
      go_wp2_with (go_at_call 192; refine KM.out.mono ?_; rintro e w1 ⟨rfl,rfl⟩)
      go_ret
      exact ⟨⟨by rw [HQG.out]; rfl,d,rfl⟩,fun _=>by rw [HQG.out]; exact HLE.out,by rw [HQG.out]; exact HLQ.out⟩
    ·have hb2:((p1:Int) == (r:Int)) = false:=by rw [beq_eq_false_iff_ne]; omega
     clear hor
     by_cases hov:r + y < 18446744073709551616
     ·have hst:=hstep hov
      obtain ⟨ff2,hf2,hf3⟩:=hon hov hy1
      have HF2:=Lib.hid hf2.symm
      have HF3:=Lib.hid hf3
      clear hon hoff hf2 hf3
      simp only [Nat.mod_eq_of_lt hov,Nat.div_eq_of_lt hov] at ka
      clear hstep hov
      go_wp2_with (go_at_call 192; refine KM.out.mono ?_; rintro e w1 ⟨rfl,rfl⟩)
      go_roundw
      case rel=>exact ⟨_,_,d,ff2,rfl,rfl,hst,rfl,HF2,HF3⟩
      case measure=>simp [intOf]; omega
     ·have hle:Q ≤ q - 1:=by omega
      have HQG:=Lib.hid (hoff hov)
      clear hon hoff
      have hdv:(r + y) / 18446744073709551616 = 1:=by omega
      have hlq:q - 1 < 18446744073709551616:=by omega
      simp only [hdv] at ka
      have HLE:=Lib.hid hle
      have HLQ:=Lib.hid hlq
      obtain ⟨s,hs⟩:∃ s,s = (r + y) % 18446744073709551616:=⟨_,rfl⟩
      simp only [← hs] at ka
      clear hstep hov hdv hle hlq hs
      go_wp2_with (go_at_call 192; refine KM.out.mono ?_; rintro e w1 ⟨rfl,rfl⟩)
      go_ret
      exact ⟨⟨by rw [HQG.out]; rfl,d,rfl⟩,fun _=>by rw [HQG.out]; exact HLE.out,by rw [HQG.out]; exact HLQ.out⟩
 ·rw [if_neg hay] at hG
  have HG:=Lib.hid hG
  clear HP hb hc hz hG
  go_enter Tryz.func240,Tryz.ntmps240
  go_wp2
  refine region_still (by kernel_rfl) (by kernel_rfl) ?_
  repeat still_step
  refine wpStill_nil ?_
  go_wp2
  go_ret
  exact ⟨⟨by rw [HG.out]; rfl,1,rfl⟩,fun hb=>by rw [HG.out]; exact Nat.le_of_lt_succ (HQB.out hb),by rw [HG.out]; decide⟩
end Go.Proofs.YtcpgflbfjplheaaGreatDoor
