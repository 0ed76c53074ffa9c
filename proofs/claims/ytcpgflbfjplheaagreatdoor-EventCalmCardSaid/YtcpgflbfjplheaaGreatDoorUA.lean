import Derived.Test.YtcpgflbfjplheaaGreatDoorMuy
import Derived.Test.YtcpgflbfjplheaaGreatDoorNby
import Derived.Deep.RegionLaw
import Derived.Test.YtcpgflbfjplheaaGreatDoorMvy
import Derived.Test.YtcpgflbfjplheaaGreatDoorOby
import Derived.Test.YtcpgflbfjplheaaGreatDoorMwy
import Derived.Laws.DeepStrings4
namespace Go.Proofs.YtcpgflbfjplheaaGreatDoor
open Go.RowKit Gs
set_option linter.unusedVariables false
theorem info_u32:(Tryz.prog.info? 194).map (fun i=>(i.zero,i.size,i.bytes)) = some (some (.int .u32 0),1,4):=by kernel_rfl
set_option maxRecDepth 100000 in
set_option maxHeartbeats 1000000 in
theorem ref_trim {A n c} {l:List Nat} {P} {w:World} (h:R32 w P ⟨A,n,c⟩ l) (hn:n ≤ 281474976710656) :
 Calls Tryz.prog 147 #[.slice A n c] w fun e w'=>e = .returned (.slice A (nl2 l) c) ∧ w = w':=by
 have hcap:=h.rd.cap
 have htop:=h.rd.top
 have hlen:=h.rd.len
 simp only at hcap htop hlen
 have HL:=Lib.hid hlen
 clear hlen
 go_enter Tryz.func147,Tryz.ntmps147
 go_wp2
 go_loopw [3] (fun nv wr=>∃ m:Nat,m ≤ n ∧ nv = .int .i64 m ∧ Hid (val 4294967296 (l.take m) = val 4294967296 l) ∧ wr = w) (fun nv _=>(intOf nv).toNat)
 case atStart=>exact ⟨n,Nat.le_refl _,rfl,Lib.hid (by rw [List.take_of_length_le (by rw [HL.out]; exact Nat.le_refl _)]),rfl⟩
 case round =>
  obtain ⟨m,hm,rfl,hv,rfl⟩:=hrel
  have hml:Hid (m ≤ l.length):=Lib.hid (by rw [HL.out]; exact hm)
  cases m with
  | succ q =>
   obtain ⟨ad,e,hc⟩:=h.rd.at q (by show q < n; omega)
   simp only at e
   subst e
   have s1:IntKind.i64.wrap (((q + 1:Nat):Int) - 1) = (q:Int):=by rw [IntWalk.i64_in _ (by omega)]; omega
   have s2:IntKind.i64.wrap ((q:Int) + 1 - 1) = (q:Int):=by rw [IntWalk.i64_in _ (by omega)]; omega
   have t1:(0:Int) < (q:Int) + 1:=by omega
   by_cases hz:gd l q = 0
   ·have hzb:(((gd l q:Nat):Int) == 0) = true:=by rw [hz]; rfl
    have hv':Hid (val 4294967296 (l.take q) = val 4294967296 l):=Lib.hid ((take_getLast hz _).trans hv.out)
    clear hz
    go_wp2
    refine ⟨⟨q,by omega,rfl,hv',trivial⟩,?_⟩
    simp [intOf]
   ·have hzb:(((gd l q:Nat):Int) == 0) = false:=by rw [beq_eq_false_iff_ne]; omega
    have HZ:=Lib.hid (nl2_of h.lt hml.out hv.out (fun q' e=>by (have e2:q' = q:=by omega); rw [e2]; exact hz)).1
    clear hz
    go_wp2
    go_ret
    exact ⟨by rw [HZ.out]; rfl,rfl⟩
  | zero =>
   have HZ:=Lib.hid (nl2_of h.lt hml.out hv.out (fun q' e=>by cases e)).1
   go_wp2
   go_ret
   exact ⟨by rw [HZ.out]; rfl,rfl⟩
set_option maxRecDepth 100000 in
set_option maxHeartbeats 2000000 in
theorem ref_In {A n c} {l:List Nat} {P} {w:World} (h:RdU w P ⟨A,n,c⟩ l) (hn:n ≤ 1000000000) :
 Calls Tryz.prog 85 #[.slice A n c] w fun e w'=>∃ A1 n1 c1,e = .returned (.slice A1 n1 c1) ∧ R32 w' (fun b=>w.heap.size ≤ b) ⟨A1,n1,c1⟩ (limbs 4294967296 (val 18446744073709551616 l)) ∧ Below w.heap.size w w':=by
 have HL:=Lib.hid h.rd.len
 go_enter Tryz.func85,Tryz.ntmps85
 go_wp2
 go_loopw [3,4] (fun v iv wr=>∃ (i:Nat) (s:Sl),i ≤ n ∧ iv = .int .i64 i ∧ v = .slice s.A s.n s.c ∧ OwnN .u32 wr w.heap.size 194 s (halves (l.take i)) ∧ Below w.heap.size w wr) (fun _ iv _=>n - (intOf iv).toNat)
 case atStart=>exact ⟨0,⟨none,0,0⟩,Nat.zero_le _,rfl,rfl,OwnN.nil _ _ _ _,Below.refl _ _⟩
 case round =>
  obtain ⟨i,s,hi,rfl,rfl,hown,hb⟩:=hrel
  by_cases hlt:i < n
  ·obtain ⟨ad,e,hc⟩:=(h.rd.below hb.drew).at i hlt
   simp only at e
   subst e
   have hx:=h.lt.gd (by omega) i
   have hnew:halves (l.take (i + 1)) = halves (l.take i) ++ [gd l i % 4294967296,gd l i / 4294967296]:=halves_take_succ (by rw [HL.out]; exact hlt)
   obtain ⟨x,hx0⟩:∃ x,x = gd l i:=⟨_,rfl⟩
   rw [← hx0] at hc hx hnew
   have HN:=Lib.hid hnew
   have hsz:((halves (l.take i)).length + 2) * 4 ≤ 140737488355328:=by
    rw [halves_length,List.length_take]
    omega
   have s1:IntKind.i64.wrap ((i:Int) + 1) = (i:Int) + 1:=IntWalk.i64_in _ (by omega)
   have s2:IntKind.u32.wrap (x:Int) = ((x % 4294967296:Nat):Int):=by rw [IntKind.wrap_u32]; omega
   have s3:IntKind.u32.wrap ((x:Int) / 4294967296) = ((x / 4294967296:Nat):Int):=by rw [IntKind.wrap_u32]; omega
   have s4:IntKind.u32.wrap ((x / 4294967296:Nat):Int) = ((x / 4294967296:Nat):Int):=by rw [IntKind.wrap_u32]; omega
   clear hnew hx0
   go_wp2
   go_region_law (refine append2s (w0:=w) (W:=wr.drew) w.heap.size rfl (.tmp 11) (.tmp 23) 38 194 .u32 4 rfl Tryz.underlying38 info_u32 (by decide) s (halves (l.take i)) (x % 4294967296) (x / 4294967296) rfl rfl hown hb.drew hb.size hsz ?_; intro v1 w1 hown1 hb2 hg1)
   all_goals
    go_wp2
    refine ⟨⟨i + 1,v1,by omega,by go_num,rfl,by rw [HN.out]; exact hown1,hb2⟩,?_⟩
    simp [intOf]; omega
  ·obtain rfl:i = n:=by omega
   rw [List.take_of_length_le (by rw [HL.out]; exact Nat.le_refl _)] at hown
   have hrd:R32 wr (fun b=>w.heap.size ≤ b) s (halves l):=⟨hown.rd,halves_lt h.lt⟩
   have hlen:=hown.len
   rw [halves_length,HL.out] at hlen
   go_wp2_with fail
   refine (ref_trim hrd (by omega)).mono ?_
   rintro e w1 ⟨rfl,rfl⟩
   have hr:=hrd.trim
   rw [halves_val] at hr
   have HR:=Lib.hid hr
   clear hr
   go_wp2
   go_ret
   exact ⟨_,_,_,rfl,HR.out,hb⟩
set_option maxRecDepth 100000 in
set_option maxHeartbeats 2000000 in
theorem ref_Out {A n c} {x:Nat} {P} {w:World} (h:R32 w P ⟨A,n,c⟩ (limbs 4294967296 x)) (hn:n ≤ 1000000000) :
 Calls Tryz.prog 153 #[.slice A n c] w fun e w'=>∃ A1 n1 c1,e = .returned (.slice A1 n1 c1) ∧ RdU w' (fun b=>w.heap.size ≤ b) ⟨A1,n1,c1⟩ (limbs 18446744073709551616 x) ∧ Below w.heap.size w w':=by
 have HL:=Lib.hid h.rd.len
 obtain ⟨l,hl⟩:∃ l,l = limbs 4294967296 x:=⟨_,rfl⟩
 rw [← hl] at h HL
 have HX:=Lib.hid hl
 clear hl
 go_enter Tryz.func153,Tryz.ntmps153
 go_wp2
 go_loopw [3,4] (fun v iv wr=>∃ (i j:Nat) (s:Sl),Hid (i = 2 * j) ∧ i ≤ n + 1 ∧ iv = .int .i64 (i:Int) ∧ v = .slice s.A s.n s.c ∧ OwnN .u64 wr w.heap.size 146 s (joinL l j) ∧ Below w.heap.size w wr) (fun _ iv _=>n + 1 - (intOf iv).toNat)
 case atStart=>exact ⟨0,0,⟨none,0,0⟩,Lib.hid rfl,by omega,rfl,rfl,OwnN.nil _ _ _ _,Below.refl _ _⟩
 case round =>
  obtain ⟨i,j,s,hij,hi,rfl,rfl,hown,hb⟩:=hrel
  by_cases hlt:i < n
  ·obtain ⟨ad,e,hc⟩:=(h.rd.below hb).at i hlt
   simp only at e
   subst e
   have hx:=h.lt.gd (by omega) i
   have hy:=h.lt.gd (by omega) (i + 1)
   have hnew:joinL l (j + 1) = joinL l j ++ [gd l i + 4294967296 * gd l (i + 1)]:=by rw [hij.out]; exact joinL_succ l j
   have hij2:i = 2 * j:=hij.out
   have hsz:((joinL l j).length + 1) * 8 ≤ 140737488355328:=by rw [joinL_length]; omega
   clear hij2
   have s1:IntKind.i64.wrap ((i:Int) + 2) = (i:Int) + 2:=IntWalk.i64_in _ (by omega)
   have s2:IntKind.i64.wrap ((i:Int) + 1) = (i:Int) + 1:=IntWalk.i64_in _ (by omega)
   obtain ⟨x0,hx0⟩:∃ x0,x0 = gd l i:=⟨_,rfl⟩
   rw [← hx0] at hc hx hnew
   have s3:IntKind.u64.wrap (x0:Int) = (x0:Int):=by rw [IntKind.wrap_u64]; omega
   by_cases hlt2:i + 1 < n
   ·obtain ⟨ad2,e2,hc2⟩:=(h.rd.below hb).at (i + 1) hlt2
    simp only at e2
    injection e2 with e2
    subst e2
    have hc3:wr.cell? ⟨ad.block,ad.off + (i + 1),none⟩ = some (.int .u32 (gd l (i + 1):Nat)):=by rw [← hc2]; unfold Addr.add; rw [if_neg (by omega)]
    obtain ⟨y0,hy0⟩:∃ y0,y0 = gd l (i + 1):=⟨_,rfl⟩
    rw [← hy0] at hc2 hc3 hy hnew
    have s5:IntKind.u64.wrap ((y0:Int) * 4294967296) = ((4294967296 * y0:Nat):Int):=by rw [IntKind.wrap_u64]; omega
    have s6:IntKind.u64.wrap ((x0:Int) + ((4294967296 * y0:Nat):Int)) = ((x0 + 4294967296 * y0:Nat):Int):=by rw [IntKind.wrap_u64]; omega
    have s7:IntKind.u64.wrap ((x0:Int) + 4294967296 * (y0:Int)) = ((x0 + 4294967296 * y0:Nat):Int):=by rw [IntKind.wrap_u64]; omega
    have s8:IntKind.u64.wrap ((x0:Int) + (y0:Int) * 4294967296) = ((x0 + 4294967296 * y0:Nat):Int):=by rw [IntKind.wrap_u64]; omega
    have t1:(i:Int) + 1 < (n:Int):=by omega
    have s4:IntKind.u64.wrap (y0:Int) = (y0:Int):=by rw [IntKind.wrap_u64]; omega
    have HN:=Lib.hid hnew
    obtain ⟨z0,hz0⟩:∃ z0,z0 = x0 + 4294967296 * y0:=⟨_,rfl⟩
    rw [← hz0] at s6 s7 s8
    have HZ0:=Lib.hid hz0
    clear hnew hx0 hy0 hz0
    go_wp2_with (at_builtin; refine append1 (w0:=w) (W:=wr) w.heap.size rfl (.tmp 31) (.tmp 33) 23 146 .u64 8 rfl Tryz.underlying23 info_u64 (by decide) s (joinL l j) z0 rfl rfl hown hb hb.size hsz ?_; intro v1 w1 hown1 hb2 hg1)
    refine ⟨⟨i + 2,j + 1,v1,Lib.hid (by rw [hij.out]; omega),by omega,by go_num,rfl,by rw [HN.out,← HZ0.out]; exact hown1,hb2⟩,?_⟩
    simp [intOf]; omega
   ·have hy0:gd l (i + 1) = 0:=gd_ge (by rw [HL.out]; show n ≤ i + 1; omega)
    rw [hy0] at hnew
    have t1:¬ (i:Int) + 1 < (n:Int):=by omega
    have HN:=Lib.hid hnew
    clear hnew hx0 hy0 hy
    go_wp2_with (at_builtin; refine append1 (w0:=w) (W:=wr) w.heap.size rfl (.tmp 31) (.tmp 33) 23 146 .u64 8 rfl Tryz.underlying23 info_u64 (by decide) s (joinL l j) x0 rfl rfl hown hb hb.size hsz ?_; intro v1 w1 hown1 hb2 hg1)
    refine ⟨⟨i + 2,j + 1,v1,Lib.hid (by rw [hij.out]; omega),by omega,by go_num,rfl,by rw [HN.out,Nat.mul_zero,Nat.add_zero]; exact hown1,hb2⟩,?_⟩
    simp [intOf]; omega
  ·have hfin:joinL l j = limbs 18446744073709551616 x:=by
    have h1:=HL.out
    rw [HX.out] at h1 ⊢
    have h2:=hij.out
    exact joinL_all (by omega) (by omega)
   have hrd:RdU wr (fun b=>w.heap.size ≤ b) s (joinL l j):=⟨hown.rd,joinL_lt h.lt j⟩
   rw [hfin] at hrd
   have HR:=Lib.hid hrd
   have t1:¬ (i:Int) < (n:Int):=by omega
   clear hfin hrd
   go_wp2
   go_ret
   exact ⟨_,_,_,rfl,HR.out,hb⟩
set_option maxRecDepth 100000 in
set_option maxHeartbeats 2000000 in
theorem ref_Cmp {A n c A' n' c'} {x y:Nat} {P P'} {w:World} (h:R32 w P ⟨A,n,c⟩ (limbs 4294967296 x)) (h':R32 w P' ⟨A',n',c'⟩ (limbs 4294967296 y)) (hn:n ≤ 1000000000000) (hn':n' ≤ 1000000000000) :
 Calls Tryz.prog 199 #[.slice A n c,.slice A' n' c'] w fun e w'=>e = .returned (.int .i64 (cmpI (x:Nat) (y:Nat))) ∧ Below w.heap.size w w':=by
 have hl:(limbs 4294967296 x).length = n:=h.rd.len
 have hm:(limbs 4294967296 y).length = n':=h'.rd.len
 have hx:=val_limbs B32 x
 have hy:=val_limbs B32 y
 have cl:=limbs2_can x
 have cm:=limbs2_can y
 obtain ⟨l,hl0⟩:∃ l,l = limbs 4294967296 x:=⟨_,rfl⟩
 obtain ⟨m,hm0⟩:∃ m,m = limbs 4294967296 y:=⟨_,rfl⟩
 rw [← hl0] at h hl hx cl
 rw [← hm0] at h' hm hy cm
 have hb32:(0:Nat) < 4294967296:=by omega
 obtain ⟨Z,hZ⟩:∃ Z,Z = cmpI (x:Nat) (y:Nat):=⟨_,rfl⟩
 rw [← hZ]
 have HZ:=Lib.hid hZ
 have HX:=Lib.hid hx
 have HY:=Lib.hid hy
 have HL:=Lib.hid hl
 have HM:=Lib.hid hm
 clear hl0 hm0 hx hy hZ
 rcases Nat.lt_trichotomy n n' with hlt | heq | hgt
 ·have hz:Z = -1:=by
   have:=lt_of_len_lt B32 h.lt cm (by omega)
   rw [HX.out,HY.out] at this
   rw [HZ.out]
   unfold cmpI
   rw [if_pos (by omega)]
  subst hz
  have t1:((n:Int) != (n':Int)) = true:=by rw [bne_iff_ne]; omega
  have t2:(n:Int) < (n':Int):=by omega
  clear hl hm
  go_enter Tryz.func199,Tryz.ntmps199
  go_wp2
  go_ret
  exact ⟨rfl,Below.refl _ _⟩
 ·subst heq
  clear hl hm
  go_enter Tryz.func199,Tryz.ntmps199
  have s0:IntKind.i64.wrap ((n:Int) - 1) = (n:Int) - 1:=IntWalk.i64_in _ (by omega)
  go_wp2
  go_loopw [5] (fun iv wr=>∃ q:Nat,q ≤ n ∧ iv = .int .i64 ((q:Int) - 1) ∧ Hid (l.drop q = m.drop q) ∧ Below w.heap.size w wr) (fun iv _=>(intOf iv + 1).toNat)
  case atStart=>exact ⟨n,Nat.le_refl _,rfl,Lib.hid (by rw [List.drop_eq_nil_of_le (by rw [HL.out]; exact Nat.le_refl _),List.drop_eq_nil_of_le (by rw [HM.out]; exact Nat.le_refl _)]),Below.refl _ _⟩
  case round =>
   obtain ⟨q,hq,rfl,hd,hb⟩:=hrel
   cases q with
   | zero =>
    have hz:Z = 0:=by
     have h1:l = m:=by have:=hd.out; simpa using this
     have h2:x = y:=by rw [← HX.out,← HY.out,h1]
     rw [HZ.out,h2]
     unfold cmpI
     rw [if_neg (by omega),if_neg (by omega)]
    subst hz
    go_wp2
    go_ret
    exact ⟨rfl,hb⟩
   | succ i =>
    obtain ⟨ad,e,hc⟩:=(h.rd.below hb.drew).at i (by show i < n; omega)
    obtain ⟨ad',e',hc'⟩:=(h'.rd.below hb.drew).at i (by show i < n; omega)
    simp only at e e'
    subst e e'
    obtain ⟨ad2,e2,hd1⟩:=(h.rd.below hb.drew.drew).at i (by show i < n; omega)
    obtain ⟨ad3,e3,hd2⟩:=(h'.rd.below hb.drew.drew).at i (by show i < n; omega)
    simp only at e2 e3
    injection e2 with e2
    injection e3 with e3
    subst e2 e3
    have s1:IntKind.i64.wrap ((i:Int) - 1) = (i:Int) - 1:=IntWalk.i64_in _ (by omega)
    have s2:((i + 1:Nat):Int) - 1 = (i:Int):=by omega
    have hin:i < n:=by omega
    have hil:i < l.length:=by rw [HL.out]; omega
    have him:i < m.length:=by rw [HM.out]; omega
    have HD:=hd
    have hless:gd l i < gd m i → x < y:=fun hh=>by have:=val_lt_at h.lt hil him hd.out hh; rwa [HX.out,HY.out] at this
    have hmore:gd m i < gd l i → y < x:=fun hh=>by have:=val_lt_at h'.lt him hil hd.out.symm hh; rwa [HX.out,HY.out] at this
    have hsame:gd l i = gd m i → l.drop i = m.drop i:=fun hh=>by
     rw [List.drop_eq_getElem_cons hil,List.drop_eq_getElem_cons him,hd.out,← gd_lt hil,← gd_lt him,hh]
    obtain ⟨a,ha⟩:∃ a,a = gd l i:=⟨_,rfl⟩
    obtain ⟨b,hb0⟩:∃ b,b = gd m i:=⟨_,rfl⟩
    rw [← ha] at hc hd1 hless hmore hsame
    rw [← hb0] at hc' hd2 hless hmore hsame
    clear ha hb0 hil him
    rw [s2]
    rcases Nat.lt_trichotomy a b with h1 | h1 | h1
    ·have hz:Z = -1:=by rw [HZ.out]; have:=hless h1; unfold cmpI; rw [if_pos (by omega)]
     have t1:((a:Int) != (b:Int)) = true:=by rw [bne_iff_ne]; omega
     have t2:(a:Int) < (b:Int):=by omega
     have t3:a < b:=h1
     clear hless hmore hsame
     subst hz
     go_wp2
     go_region_law fail
     all_goals
      go_wp2
      go_region_law fail
      all_goals
       go_wp2
       go_ret
       exact ⟨rfl,hb.drew.drew⟩
    ·have HS:=Lib.hid (hsame h1)
     have t1:((a:Int) != (b:Int)) = false:=by rw [h1]; simp
     clear hless hmore hsame h1
     go_wp2
     go_region_law fail
     all_goals
      go_wp2
      refine ⟨⟨i,by omega,rfl,HS,hb.drew⟩,?_⟩
      simp [intOf]
    ·have hz:Z = 1:=by rw [HZ.out]; have:=hmore h1; unfold cmpI; rw [if_neg (by omega),if_pos (by omega)]
     have t1:((a:Int) != (b:Int)) = true:=by rw [bne_iff_ne]; omega
     have t2:¬ (a:Int) < (b:Int):=by omega
     have t3:¬ a < b:=by omega
     clear hless hmore hsame
     subst hz
     go_wp2
     go_region_law fail
     all_goals
      go_wp2
      go_region_law fail
      all_goals
       go_wp2
       go_ret
       exact ⟨rfl,hb.drew.drew⟩
 ·have hz:Z = 1:=by
   have:=lt_of_len_lt B32 h'.lt cl (by omega)
   rw [HX.out,HY.out] at this
   rw [HZ.out]
   unfold cmpI
   rw [if_neg (by omega),if_pos (by omega)]
  subst hz
  have t1:((n:Int) != (n':Int)) = true:=by rw [bne_iff_ne]; omega
  have t2:¬ (n:Int) < (n':Int):=by omega
  clear hl hm
  go_enter Tryz.func199,Tryz.ntmps199
  go_wp2
  go_ret
  exact ⟨rfl,Below.refl _ _⟩
end Go.Proofs.YtcpgflbfjplheaaGreatDoor
namespace Go.Proofs.YtcpgflbfjplheaaGreatDoor
open Go.RowKit Gs
set_option linter.unusedVariables false
set_option maxRecDepth 100000 in
set_option maxHeartbeats 4000000 in
theorem ref_Add {A n c A' n' c'} {x y:Nat} {P P'} {w:World} (h:R32 w P ⟨A,n,c⟩ (limbs 4294967296 x)) (h':R32 w P' ⟨A',n',c'⟩ (limbs 4294967296 y)) (hn:n ≤ 1000000000) (hn':n' ≤ 1000000000) :
 Calls Tryz.prog 222 #[.slice A n c,.slice A' n' c'] w fun e w'=>∃ A1 n1 c1,e = .returned (.slice A1 n1 c1) ∧ R32 w' (fun b=>w.heap.size ≤ b) ⟨A1,n1,c1⟩ (limbs 4294967296 (x + y)) ∧ Below w.heap.size w w':=by
 have hl:(limbs 4294967296 x).length = n:=h.rd.len
 have hm:(limbs 4294967296 y).length = n':=h'.rd.len
 have hx:=val_limbs B32 x
 have hy:=val_limbs B32 y
 obtain ⟨l,hl0⟩:∃ l,l = limbs 4294967296 x:=⟨_,rfl⟩
 obtain ⟨m,hm0⟩:∃ m,m = limbs 4294967296 y:=⟨_,rfl⟩
 rw [← hl0] at h hl hx
 rw [← hm0] at h' hm hy
 have HX:=Lib.hid hx
 have HY:=Lib.hid hy
 have HL:=Lib.hid hl
 have HM:=Lib.hid hm
 obtain ⟨K,hK⟩:∃ K,max n n' = K:=⟨_,rfl⟩
 have k1:n ≤ K:=by omega
 have k2:n' ≤ K:=by omega
 have k3:K ≤ 1000000000:=by omega
 have kmax:=fun ats ty=>run_max2 ats ty n n' K hK
 have K5:=Lib.hid (show K = n ∨ K = n' by omega)
 have s0:IntKind.i64.wrap ((K:Int) + 1) = (K:Int) + 1:=IntWalk.i64_in _ (by omega)
 have km:∀ W:World,(Instr.makeSlice 38 (.int .i64 0) (.int .i64 ((K:Int) + 1))).run Tryz.prog W = .ok (.slice (some ⟨W.heap.size,0,none⟩) 0 (K + 1)) (W.alloc (.cells (nums .u32 (List.replicate (K + 1) 0)).toArray 194)):=make_cap (P:=Tryz.prog) 38 194 .u32 4 Tryz.underlying38 info_u32 (by decide) (K + 1) (by omega)
 clear hl0 hm0 hx hy hl hm hK
 go_enter Tryz.func222,Tryz.ntmps222
 go_wp2
 obtain ⟨W1,hW1⟩:∃ W1,W1 = w.alloc (.cells (nums .u32 (List.replicate (K + 1) 0)).toArray 194):=⟨_,rfl⟩
 have hO1:OwnN .u32 W1 w.heap.size 194 ⟨some ⟨w.heap.size,0,none⟩,0,K + 1⟩ []:=by rw [hW1]; exact OwnN.cap w w.heap.size 194 (K + 1) (Nat.le_refl _) (by omega)
 have hB1:Below w.heap.size w W1:=by rw [hW1]; exact (Below.refl _ w).alloc (Nat.le_refl _) _
 rw [← hW1]
 clear hW1 km
 go_loopw [5,6,7] (fun v cv iv wr=>∃ (i cc:Nat) (o:List Nat) (s:Sl),i + cc ≤ K + 1 ∧ iv = .int .i64 i ∧ cv = .int .u64 cc ∧ v = .slice s.A s.n s.c ∧ RAdd l m i cc o ∧ OwnN .u32 wr w.heap.size 194 s o ∧ Below w.heap.size w wr) (fun _ _ iv _=>K + 2 - (intOf iv).toNat)
 case atStart=>exact ⟨0,0,[],⟨some ⟨w.heap.size,0,none⟩,0,K + 1⟩,by omega,rfl,rfl,by go_num,RAdd.start l m,hO1,hB1⟩
 case round =>
  obtain ⟨i,cc,o,s,hi2,rfl,rfl,rfl,hinv,hown,hb⟩:=hrel
  have hcc:=hinv.c1
  have hlen:o.length = i:=hinv.len
  have hsz:(o.length + 1) * 4 ≤ 140737488355328:=by omega
  have s1:IntKind.i64.wrap ((i:Int) + 1) = (i:Int) + 1:=IntWalk.i64_in _ (by omega)
  by_cases hgo:i < K ∨ 0 < cc
  ·have hinv2:=hinv.step h.lt h'.lt
   have hx1:=h.lt.gd (by omega) i
   have hy1:=h'.lt.gd (by omega) i
   have HLEN:=Lib.hid hlen
   have hgo2:(¬ (i:Int) < (K:Int) ∧ (0:Int) < (cc:Int)) ∨ (i:Int) < (K:Int):=by omega
   clear hlen
   by_cases hlt1:i < n
   ·have t1:(i:Int) < (n:Int):=by omega
    by_cases hlt2:i < n'
    ·have t2:(i:Int) < (n':Int):=by omega
     have t3:(i:Int) < (K:Int):=by omega
     obtain ⟨ad,e,hc⟩:=(h.rd.below hb).at i hlt1
     simp only at e
     subst e
     obtain ⟨ad',e',hc'⟩:=(h'.rd.below hb).at i hlt2
     simp only at e'
     subst e'
     obtain ⟨a,ha⟩:∃ a,a = gd l i:=⟨_,rfl⟩
     obtain ⟨b,hb0⟩:∃ b,b = gd m i:=⟨_,rfl⟩
     rw [← ha] at hc hx1 hinv2
     rw [← hb0] at hc' hy1 hinv2
     obtain ⟨v0,hv0⟩:∃ v0,v0 = cc + a + b:=⟨_,rfl⟩
     rw [← hv0] at hinv2
     have hv1:v0 ≤ 8589934591:=by omega
     have w1:IntKind.u64.wrap ((cc:Int) + (a:Int)) = (cc:Int) + (a:Int):=by rw [IntKind.wrap_u64]; omega
     have w2:IntKind.u64.wrap ((cc:Int) + (a:Int) + (b:Int)) = (v0:Int):=by rw [IntKind.wrap_u64]; omega
     have wa:IntKind.u64.wrap (a:Int) = (a:Int):=by rw [IntKind.wrap_u64]; omega
     have wb:IntKind.u64.wrap (b:Int) = (b:Int):=by rw [IntKind.wrap_u64]; omega
     obtain ⟨r,hr⟩:∃ r,r = v0 % 4294967296:=⟨_,rfl⟩
     obtain ⟨q,hq⟩:∃ q,q = v0 / 4294967296:=⟨_,rfl⟩
     rw [← hr,← hq] at hinv2
     have w3:IntKind.u32.wrap (v0:Int) = (r:Int):=by rw [IntKind.wrap_u32]; omega
     have w4:(v0:Int) / 4294967296 = (q:Int):=by omega
     have HQ:=Lib.hid (show q ≤ 1 by omega)
     clear hr hq hv0 ha hb0
     go_wp2_with (at_builtin; refine append1 (w0:=w) (W:=wr) w.heap.size rfl (.tmp 52) (.tmp 55) 38 194 .u32 4 rfl Tryz.underlying38 info_u32 (by decide) s o r rfl rfl hown hb hb.size hsz ?_; intro v1 w1 hown1 hb2 hg1)
     refine ⟨⟨i + 1,q,_,v1,by have:=HQ.out; omega,by go_num,rfl,rfl,hinv2,hown1,hb2⟩,?_⟩
     simp only [intOf]; have:=HQ.out; omega
    ·have t2:¬ (i:Int) < (n':Int):=by omega
     have t3:(i:Int) < (K:Int):=by omega
     obtain ⟨ad,e,hc⟩:=(h.rd.below hb).at i hlt1
     simp only at e
     subst e
     obtain ⟨a,ha⟩:∃ a,a = gd l i:=⟨_,rfl⟩
     obtain ⟨b,hb0⟩:∃ b,b = gd m i:=⟨_,rfl⟩
     rw [← ha] at hc hx1 hinv2
     rw [← hb0] at hy1 hinv2
     have hb2:b = 0:=by rw [hb0]; exact gd_ge (by rw [HM.out]; omega)
     obtain ⟨v0,hv0⟩:∃ v0,v0 = cc + a + b:=⟨_,rfl⟩
     rw [← hv0] at hinv2
     have hv1:v0 ≤ 8589934591:=by omega
     have w2:IntKind.u64.wrap ((cc:Int) + (a:Int)) = (v0:Int):=by rw [IntKind.wrap_u64]; omega
     have wa:IntKind.u64.wrap (a:Int) = (a:Int):=by rw [IntKind.wrap_u64]; omega
     obtain ⟨r,hr⟩:∃ r,r = v0 % 4294967296:=⟨_,rfl⟩
     obtain ⟨q,hq⟩:∃ q,q = v0 / 4294967296:=⟨_,rfl⟩
     rw [← hr,← hq] at hinv2
     have w3:IntKind.u32.wrap (v0:Int) = (r:Int):=by rw [IntKind.wrap_u32]; omega
     have w4:(v0:Int) / 4294967296 = (q:Int):=by omega
     have HQ:=Lib.hid (show q ≤ 1 by omega)
     clear hr hq hv0 ha hb0 hb2
     go_wp2_with (at_builtin; refine append1 (w0:=w) (W:=wr) w.heap.size rfl (.tmp 52) (.tmp 55) 38 194 .u32 4 rfl Tryz.underlying38 info_u32 (by decide) s o r rfl rfl hown hb hb.size hsz ?_; intro v1 w1 hown1 hb2 hg1)
     refine ⟨⟨i + 1,q,_,v1,by have:=HQ.out; omega,by go_num,rfl,rfl,hinv2,hown1,hb2⟩,?_⟩
     simp only [intOf]; have:=HQ.out; omega
   ·have t1:¬ (i:Int) < (n:Int):=by omega
    by_cases hlt2:i < n'
    ·have t2:(i:Int) < (n':Int):=by omega
     have t3:(i:Int) < (K:Int):=by omega
     obtain ⟨ad',e',hc'⟩:=(h'.rd.below hb).at i hlt2
     simp only at e'
     subst e'
     obtain ⟨a,ha⟩:∃ a,a = gd l i:=⟨_,rfl⟩
     obtain ⟨b,hb0⟩:∃ b,b = gd m i:=⟨_,rfl⟩
     rw [← ha] at hx1 hinv2
     rw [← hb0] at hc' hy1 hinv2
     have ha2:a = 0:=by rw [ha]; exact gd_ge (by rw [HL.out]; omega)
     obtain ⟨v0,hv0⟩:∃ v0,v0 = cc + a + b:=⟨_,rfl⟩
     rw [← hv0] at hinv2
     have hv1:v0 ≤ 8589934591:=by omega
     have w2:IntKind.u64.wrap ((cc:Int) + (b:Int)) = (v0:Int):=by rw [IntKind.wrap_u64]; omega
     have wb:IntKind.u64.wrap (b:Int) = (b:Int):=by rw [IntKind.wrap_u64]; omega
     obtain ⟨r,hr⟩:∃ r,r = v0 % 4294967296:=⟨_,rfl⟩
     obtain ⟨q,hq⟩:∃ q,q = v0 / 4294967296:=⟨_,rfl⟩
     rw [← hr,← hq] at hinv2
     have w3:IntKind.u32.wrap (v0:Int) = (r:Int):=by rw [IntKind.wrap_u32]; omega
     have w4:(v0:Int) / 4294967296 = (q:Int):=by omega
     have HQ:=Lib.hid (show q ≤ 1 by omega)
     clear hr hq hv0 ha hb0 ha2
     go_wp2_with (at_builtin; refine append1 (w0:=w) (W:=wr) w.heap.size rfl (.tmp 52) (.tmp 55) 38 194 .u32 4 rfl Tryz.underlying38 info_u32 (by decide) s o r rfl rfl hown hb hb.size hsz ?_; intro v1 w1 hown1 hb2 hg1)
     refine ⟨⟨i + 1,q,_,v1,by have:=HQ.out; omega,by go_num,rfl,rfl,hinv2,hown1,hb2⟩,?_⟩
     simp only [intOf]; have:=HQ.out; omega
    ·have t2:¬ (i:Int) < (n':Int):=by omega
     have t3:¬ (i:Int) < (K:Int):=by have:=K5.out; omega
     have t4:(0:Int) < (cc:Int):=by omega
     obtain ⟨a,ha⟩:∃ a,a = gd l i:=⟨_,rfl⟩
     obtain ⟨b,hb0⟩:∃ b,b = gd m i:=⟨_,rfl⟩
     rw [← ha] at hx1 hinv2
     rw [← hb0] at hy1 hinv2
     have ha2:a = 0:=by rw [ha]; exact gd_ge (by rw [HL.out]; omega)
     have hb2:b = 0:=by rw [hb0]; exact gd_ge (by rw [HM.out]; omega)
     obtain ⟨v0,hv0⟩:∃ v0,v0 = cc + a + b:=⟨_,rfl⟩
     rw [← hv0] at hinv2
     have hv1:v0 ≤ 8589934591:=by omega
     obtain rfl:v0 = cc:=by omega
     obtain ⟨r,hr⟩:∃ r,r = v0 % 4294967296:=⟨_,rfl⟩
     obtain ⟨q,hq⟩:∃ q,q = v0 / 4294967296:=⟨_,rfl⟩
     rw [← hr,← hq] at hinv2
     have w3:IntKind.u32.wrap (v0:Int) = (r:Int):=by rw [IntKind.wrap_u32]; omega
     have w4:(v0:Int) / 4294967296 = (q:Int):=by omega
     have HQ:=Lib.hid (show q = 0 by omega)
     clear hr hq hv0 ha hb0 ha2 hb2
     go_wp2_with (at_builtin; refine append1 (w0:=w) (W:=wr) w.heap.size rfl (.tmp 52) (.tmp 55) 38 194 .u32 4 rfl Tryz.underlying38 info_u32 (by decide) s o r rfl rfl hown hb hb.size hsz ?_; intro v1 w1 hown1 hb2 hg1)
     refine ⟨⟨i + 1,q,_,v1,by have:=HQ.out; omega,by go_num,rfl,rfl,hinv2,hown1,hb2⟩,?_⟩
     simp only [intOf]; have:=HQ.out; omega
  ·have hc0:cc = 0:=by omega
   subst hc0
   have hfin:=hinv.last (by rw [HL.out]; omega) (by rw [HM.out]; omega)
   rw [HX.out,HY.out] at hfin
   have hrd:R32 wr (fun b=>w.heap.size ≤ b) s o:=⟨hown.rd,hinv.lt⟩
   have t1:¬ (i:Int) < (K:Int):=by omega
   have hsn:s.n ≤ 281474976710656:=by have:=hown.len; omega
   have HF:=Lib.hid hfin
   clear hfin hlen
   go_wp2_with fail
   refine (ref_trim hrd hsn).mono ?_
   rintro e w1 ⟨rfl,rfl⟩
   have hr:=hrd.trim
   rw [HF.out] at hr
   have HR:=Lib.hid hr
   clear hr
   go_wp2
   go_ret
   exact ⟨_,_,_,rfl,HR.out,hb⟩
set_option maxRecDepth 100000 in
set_option maxHeartbeats 4000000 in
theorem ref_Sub {A n c A' n' c'} {x y:Nat} {P P'} {w:World} (h:R32 w P ⟨A,n,c⟩ (limbs 4294967296 x)) (h':R32 w P' ⟨A',n',c'⟩ (limbs 4294967296 y)) (hn:n ≤ 1000000000) (hle:y ≤ x) :
 Calls Tryz.prog 202 #[.slice A n c,.slice A' n' c'] w fun e w'=>∃ A1 n1 c1,e = .returned (.slice A1 n1 c1) ∧ R32 w' (fun b=>w.heap.size ≤ b) ⟨A1,n1,c1⟩ (limbs 4294967296 (x - y)) ∧ Below w.heap.size w w':=by
 have hl:(limbs 4294967296 x).length = n:=h.rd.len
 have hm:(limbs 4294967296 y).length = n':=h'.rd.len
 have hx:=val_limbs B32 x
 have hy:=val_limbs B32 y
 have hn':n' ≤ n:=by rw [← hl,← hm]; exact limbs_len_mono B32 hle
 obtain ⟨l,hl0⟩:∃ l,l = limbs 4294967296 x:=⟨_,rfl⟩
 obtain ⟨m,hm0⟩:∃ m,m = limbs 4294967296 y:=⟨_,rfl⟩
 rw [← hl0] at h hl hx
 rw [← hm0] at h' hm hy
 have HX:=Lib.hid hx
 have HY:=Lib.hid hy
 have HL:=Lib.hid hl
 have HM:=Lib.hid hm
 have HLE:=Lib.hid hle
 have km:∀ W:World,(Instr.makeSlice 38 (.int .i64 0) (.int .i64 (n:Int))).run Tryz.prog W = .ok (.slice (some ⟨W.heap.size,0,none⟩) 0 n) (W.alloc (.cells (nums .u32 (List.replicate n 0)).toArray 194)):=make_cap (P:=Tryz.prog) 38 194 .u32 4 Tryz.underlying38 info_u32 (by decide) n (by omega)
 clear hl0 hm0 hx hy hl hm hle
 go_enter Tryz.func202,Tryz.ntmps202
 go_wp2
 obtain ⟨W1,hW1⟩:∃ W1,W1 = w.alloc (.cells (nums .u32 (List.replicate n 0)).toArray 194):=⟨_,rfl⟩
 have hO1:OwnN .u32 W1 w.heap.size 194 ⟨some ⟨w.heap.size,0,none⟩,0,n⟩ []:=by rw [hW1]; exact OwnN.cap w w.heap.size 194 n (Nat.le_refl _) (by omega)
 have hB1:Below w.heap.size w W1:=by rw [hW1]; exact (Below.refl _ w).alloc (Nat.le_refl _) _
 rw [← hW1]
 clear hW1 km
 go_loopw [5,6,7] (fun v cv iv wr=>∃ (i cc:Nat) (o:List Nat) (s:Sl),i ≤ n ∧ iv = .int .i64 i ∧ cv = .int .u64 cc ∧ v = .slice s.A s.n s.c ∧ RSub l m i cc o ∧ OwnN .u32 wr w.heap.size 194 s o ∧ Below w.heap.size w wr) (fun _ _ iv _=>n - (intOf iv).toNat)
 case atStart=>exact ⟨0,0,[],⟨some ⟨w.heap.size,0,none⟩,0,n⟩,by omega,rfl,rfl,by go_num,RSub.start l m,hO1,hB1⟩
 case round =>
  obtain ⟨i,cc,o,s,hi,rfl,rfl,rfl,hinv,hown,hb⟩:=hrel
  have hcc:=hinv.c1
  have hlen:o.length = i:=hinv.len
  have hsz:(o.length + 1) * 4 ≤ 140737488355328:=by omega
  have s1:IntKind.i64.wrap ((i:Int) + 1) = (i:Int) + 1:=IntWalk.i64_in _ (by omega)
  by_cases hgo:i < n
  ·have hx1:=h.lt.gd (by omega) i
   have hy1:=h'.lt.gd (by omega) i
   have hstep:=fun (c' r:Nat) h1 h2 h3=>hinv.step (c':=c') (r:=r) h1 h2 h3
   have t0:(i:Int) < (n:Int):=by omega
   obtain ⟨ad,e,hc⟩:=(h.rd.below hb).at i hgo
   simp only at e
   subst e
   clear hlen
   obtain ⟨a,ha⟩:∃ a,a = gd l i:=⟨_,rfl⟩
   rw [← ha] at hc hx1 hstep
   have wa:IntKind.u64.wrap (a:Int) = (a:Int):=by rw [IntKind.wrap_u64]; omega
   clear ha
   by_cases hlt2:i < n'
   ·have t2:(i:Int) < (n':Int):=by omega
    obtain ⟨ad',e',hc'⟩:=(h'.rd.below hb).at i hlt2
    simp only at e'
    subst e'
    obtain ⟨b,hb0⟩:∃ b,b = gd m i:=⟨_,rfl⟩
    rw [← hb0] at hc' hy1 hstep
    have wb:IntKind.u64.wrap (b:Int) = (b:Int):=by rw [IntKind.wrap_u64]; omega
    have w1:IntKind.u64.wrap ((cc:Int) + (b:Int)) = (cc:Int) + (b:Int):=by rw [IntKind.wrap_u64]; omega
    clear hb0
    by_cases hbor:a < cc + b
    ·have t3:(a:Int) < (cc:Int) + (b:Int):=by omega
     obtain ⟨r,hr⟩:∃ r,r = a + 4294967296 - (cc + b):=⟨_,rfl⟩
     have hinv2:=hstep 1 r (by omega) (by omega) (by omega)
     have w2:IntKind.u64.wrap ((a:Int) + 4294967296) = (a:Int) + 4294967296:=by rw [IntKind.wrap_u64]; omega
     have w3:IntKind.u64.wrap ((a:Int) + 4294967296 - ((cc:Int) + (b:Int))) = (r:Int):=by rw [IntKind.wrap_u64]; omega
     have w4:IntKind.u32.wrap (r:Int) = (r:Int):=by rw [IntKind.wrap_u32]; omega
     clear hr hstep
     go_wp2_with (at_builtin; refine append1 (w0:=w) (W:=wr) w.heap.size rfl (.tmp 41) (.tmp 46) 38 194 .u32 4 rfl Tryz.underlying38 info_u32 (by decide) s o r rfl rfl hown hb hb.size hsz ?_; intro v1 w1 hown1 hb2 hg1)
     refine ⟨⟨i + 1,1,_,v1,by omega,by go_num,rfl,rfl,hinv2,hown1,hb2⟩,?_⟩
     simp only [intOf]; omega
    ·have t3:¬ (a:Int) < (cc:Int) + (b:Int):=by omega
     obtain ⟨r,hr⟩:∃ r,r = a - (cc + b):=⟨_,rfl⟩
     have hinv2:=hstep 0 r (by omega) (by omega) (by omega)
     have w3:IntKind.u64.wrap ((a:Int) - ((cc:Int) + (b:Int))) = (r:Int):=by rw [IntKind.wrap_u64]; omega
     have w4:IntKind.u32.wrap (r:Int) = (r:Int):=by rw [IntKind.wrap_u32]; omega
     clear hr hstep
     go_wp2_with (at_builtin; refine append1 (w0:=w) (W:=wr) w.heap.size rfl (.tmp 41) (.tmp 46) 38 194 .u32 4 rfl Tryz.underlying38 info_u32 (by decide) s o r rfl rfl hown hb hb.size hsz ?_; intro v1 w1 hown1 hb2 hg1)
     refine ⟨⟨i + 1,0,_,v1,by omega,by go_num,rfl,rfl,hinv2,hown1,hb2⟩,?_⟩
     simp only [intOf]; omega
   ·have t2:¬ (i:Int) < (n':Int):=by omega
    have hb0:gd m i = 0:=gd_ge (by rw [HM.out]; omega)
    rw [hb0] at hstep
    clear hb0 hy1
    by_cases hbor:a < cc
    ·have t3:(a:Int) < (cc:Int):=by omega
     have t4:a < cc:=hbor
     obtain ⟨r,hr⟩:∃ r,r = a + 4294967296 - cc:=⟨_,rfl⟩
     have hinv2:=hstep 1 r (by omega) (by omega) (by omega)
     have w2:IntKind.u64.wrap ((a:Int) + 4294967296) = (a:Int) + 4294967296:=by rw [IntKind.wrap_u64]; omega
     have w3:IntKind.u64.wrap ((a:Int) + 4294967296 - (cc:Int)) = (r:Int):=by rw [IntKind.wrap_u64]; omega
     have w4:IntKind.u32.wrap (r:Int) = (r:Int):=by rw [IntKind.wrap_u32]; omega
     clear hr hstep
     go_wp2_with (at_builtin; refine append1 (w0:=w) (W:=wr) w.heap.size rfl (.tmp 41) (.tmp 46) 38 194 .u32 4 rfl Tryz.underlying38 info_u32 (by decide) s o r rfl rfl hown hb hb.size hsz ?_; intro v1 w1 hown1 hb2 hg1)
     refine ⟨⟨i + 1,1,_,v1,by omega,by go_num,rfl,rfl,hinv2,hown1,hb2⟩,?_⟩
     simp only [intOf]; omega
    ·have t3:¬ (a:Int) < (cc:Int):=by omega
     obtain ⟨r,hr⟩:∃ r,r = a - cc:=⟨_,rfl⟩
     have hinv2:=hstep 0 r (by omega) (by omega) (by omega)
     have w3:IntKind.u64.wrap ((a:Int) - (cc:Int)) = (r:Int):=by rw [IntKind.wrap_u64]; omega
     have w4:IntKind.u32.wrap (r:Int) = (r:Int):=by rw [IntKind.wrap_u32]; omega
     clear hr hstep
     go_wp2_with (at_builtin; refine append1 (w0:=w) (W:=wr) w.heap.size rfl (.tmp 41) (.tmp 46) 38 194 .u32 4 rfl Tryz.underlying38 info_u32 (by decide) s o r rfl rfl hown hb hb.size hsz ?_; intro v1 w1 hown1 hb2 hg1)
     refine ⟨⟨i + 1,0,_,v1,by omega,by go_num,rfl,rfl,hinv2,hown1,hb2⟩,?_⟩
     simp only [intOf]; omega
  ·obtain rfl:i = n:=by omega
   have hfin:=(show RSub l m l.length cc o by rw [HL.out]; exact hinv).last (by rw [HL.out,HM.out]; exact hn') (by rw [HX.out,HY.out]; exact HLE.out)
   rw [HX.out,HY.out] at hfin
   have hrd:R32 wr (fun b=>w.heap.size ≤ b) s o:=⟨hown.rd,hinv.lt⟩
   have hsn:s.n ≤ 281474976710656:=by have:=hown.len; omega
   have HF:=Lib.hid hfin
   clear hfin hlen
   go_wp2_with fail
   refine (ref_trim hrd hsn).mono ?_
   rintro e w1 ⟨rfl,rfl⟩
   have hr:=hrd.trim
   rw [HF.out] at hr
   have HR:=Lib.hid hr
   clear hr
   go_wp2
   go_ret
   exact ⟨_,_,_,rfl,HR.out,hb⟩
end Go.Proofs.YtcpgflbfjplheaaGreatDoor
namespace Go.Proofs.YtcpgflbfjplheaaGreatDoor
open Go.RowKit Gs
set_option linter.unusedVariables false
set_option maxRecDepth 100000 in
set_option maxHeartbeats 4000000 in
theorem ref_Mul {A n c A' n' c'} {x y:Nat} {P P'} {w:World} (h:R32 w P ⟨A,n,c⟩ (limbs 4294967296 x)) (h':R32 w P' ⟨A',n',c'⟩ (limbs 4294967296 y)) (hn:n ≤ 1000000000) (hn':n' ≤ 1000000000) :
 Calls Tryz.prog 172 #[.slice A n c,.slice A' n' c'] w fun e w'=>∃ A1 n1 c1,e = .returned (.slice A1 n1 c1) ∧ R32 w' (fun b=>w.heap.size ≤ b) ⟨A1,n1,c1⟩ (limbs 4294967296 (x * y)) ∧ Below w.heap.size w w':=by
 have hl:(limbs 4294967296 x).length = n:=h.rd.len
 have hm:(limbs 4294967296 y).length = n':=h'.rd.len
 have hx:=val_limbs B32 x
 have hy:=val_limbs B32 y
 obtain ⟨l,hl0⟩:∃ l,l = limbs 4294967296 x:=⟨_,rfl⟩
 obtain ⟨m,hm0⟩:∃ m,m = limbs 4294967296 y:=⟨_,rfl⟩
 rw [← hl0] at h hl hx
 rw [← hm0] at h' hm hy
 have HX:=Lib.hid hx
 have HY:=Lib.hid hy
 have HL:=Lib.hid hl
 have HM:=Lib.hid hm
 have km:=make_num (P:=Tryz.prog) 38 194 .u32 4 Tryz.underlying38 info_u32 (by decide) (n + n') (by omega)
 rw [Int.natCast_add] at km
 have s0:IntKind.i64.wrap ((n:Int) + (n':Int)) = (n:Int) + (n':Int):=IntWalk.i64_in _ (by omega)
 clear hl0 hm0 hx hy hl hm
 go_enter Tryz.func172,Tryz.ntmps172
 go_wp2
 go_loopw [6] (fun iv wr=>∃ (i:Nat) (o:List Nat),i ≤ n ∧ iv = .int .i64 i ∧ RMul l m i o ∧ OwnN .u32 wr w.heap.size 194 ⟨some ⟨w.heap.size,0,none⟩,n + n',n + n'⟩ o ∧ Below w.heap.size w wr) (fun iv _=>n - (intOf iv).toNat)
 case atStart =>
  refine ⟨0,List.replicate (n + n') 0,Nat.zero_le _,rfl,?_,?_,(Below.refl _ _).alloc (Nat.le_refl _) _⟩
  ·have:=RMul.start l m
   rwa [HL.out,HM.out] at this
  ·have:=OwnN.made .u32 w w.heap.size 194 (List.replicate (n + n') 0) (Nat.le_refl _) (by simp; omega)
   simpa using this
 case round =>
  obtain ⟨i,o,hi,rfl,hinv,hown,hb⟩:=hrel
  clear km
  have si:IntKind.i64.wrap ((i:Int) + 1) = (i:Int) + 1:=IntWalk.i64_in _ (by omega)
  by_cases hlt:i < n
  ·have hxB:=h.lt.gd (by omega) i
   have t0:(i:Int) < (n:Int):=by omega
   go_wp2
   obtain ⟨wo,rfl⟩:∃ wo:World,wo = wr:=⟨_,rfl⟩
   go_loopw [7,8] (fun cv kv wr2=>∃ (k cc:Nat) (o2:List Nat),k ≤ n' ∧ kv = .int .i64 k ∧ cv = .int .u64 cc ∧ RMulI l m i k cc o o2 ∧ OwnN .u32 wr2 w.heap.size 194 ⟨some ⟨w.heap.size,0,none⟩,n + n',n + n'⟩ o2 ∧ Below w.heap.size w wr2) (fun _ kv _=>n' - (intOf kv).toNat)
   case atStart=>exact ⟨0,0,o,Nat.zero_le _,rfl,rfl,hinv.inner,hown,hb⟩
   case round =>
    obtain ⟨k,cc,o2,hk,rfl,rfl,hin,hown2,hb2⟩:=hrel
    have sik:IntKind.i64.wrap ((i:Int) + (k:Int)) = (i:Int) + (k:Int):=IntWalk.i64_in _ (by omega)
    by_cases hltk:k < n'
    ·obtain ⟨ad',e',hc'⟩:=(h'.rd.below hb2.drew).at k hltk
     simp only at e'
     subst e'
     obtain ⟨ad,e,hc⟩:=(h.rd.below hb2.drew).at i hlt
     simp only at e
     subst e
     have tk:(k:Int) < (n':Int):=by omega
     have sk:IntKind.i64.wrap ((k:Int) + 1) = (k:Int) + 1:=IntWalk.i64_in _ (by omega)
     obtain ⟨hco,hfo⟩:=(hown2.drewN 1).at (i + k) (by omega)
     have hco':wr.drew.cell? ⟨w.heap.size,i + k,none⟩ = some (.int .u32 (gd o2 (i + k):Nat)):=hco
     have hfo':wr.drew.frozen? ⟨w.heap.size,i + k,none⟩ = false:=hfo
     clear hco hfo
     have hstep:=hin.step h.lt h'.lt (by rw [HL.out]; exact hlt) (by rw [HM.out]; exact hltk)
     have hyB:=h'.lt.gd (by omega) k
     have hoB:=hin.lt.gd (by omega) (i + k)
     have hcB:=hin.cl
     have hp0:gd l i * gd m k ≤ 4294967295 * 4294967295:=Nat.mul_le_mul (by omega) (by omega)
     obtain ⟨x1,hx1⟩:∃ x1,x1 = gd l i:=⟨_,rfl⟩
     obtain ⟨y1,hy1⟩:∃ y1,y1 = gd m k:=⟨_,rfl⟩
     obtain ⟨oo,hoo⟩:∃ oo,oo = gd o2 (i + k):=⟨_,rfl⟩
     rw [← hx1] at hstep hc hp0 hxB
     rw [← hy1] at hstep hc' hp0 hyB
     rw [← hoo] at hstep hco' hoB
     obtain ⟨p,hp⟩:∃ p,p = x1 * y1:=⟨_,rfl⟩
     have hpi:(x1:Int) * (y1:Int) = (p:Int):=by rw [hp,Int.natCast_mul]
     rw [← hp] at hstep hp0
     obtain ⟨v0,hv0⟩:∃ v0,v0 = oo + p + cc:=⟨_,rfl⟩
     rw [← hv0] at hstep
     obtain ⟨r,hr⟩:∃ r,r = v0 % 4294967296:=⟨_,rfl⟩
     obtain ⟨q,hq⟩:∃ q,q = v0 / 4294967296:=⟨_,rfl⟩
     rw [← hr,← hq] at hstep
     have wx:IntKind.u64.wrap (x1:Int) = (x1:Int):=by rw [IntKind.wrap_u64]; omega
     have wy:IntKind.u64.wrap (y1:Int) = (y1:Int):=by rw [IntKind.wrap_u64]; omega
     have wo1:IntKind.u64.wrap (oo:Int) = (oo:Int):=by rw [IntKind.wrap_u64]; omega
     have wp:IntKind.u64.wrap ((x1:Int) * (y1:Int)) = (p:Int):=by rw [hpi,IntKind.wrap_u64]; omega
     have w1:IntKind.u64.wrap ((oo:Int) + (p:Int)) = (oo:Int) + (p:Int):=by rw [IntKind.wrap_u64]; omega
     have w2:IntKind.u64.wrap ((oo:Int) + (p:Int) + (cc:Int)) = (v0:Int):=by rw [IntKind.wrap_u64]; omega
     have w3:IntKind.u32.wrap (v0:Int) = (r:Int):=by rw [IntKind.wrap_u32]; omega
     have w4:(v0:Int) / 4294967296 = (q:Int):=by omega
     have t5:(i:Int) + (k:Int) < (n:Int) + (n':Int):=by omega
     have t6:(0:Int) ≤ (i:Int) + (k:Int):=by omega
     have t7:((i:Int) + (k:Int)).toNat = i + k:=by omega
     have t8:i + k < n + n':=by omega
     clear hx1 hy1 hoo hp hv0 hr hq hpi
     go_wp2
     go_region_law fail
     all_goals
      go_wp2
      refine ⟨⟨k + 1,q,_,by omega,by go_num,rfl,hstep,(hown2.store (i + k) r).drewN 1,(hb2.setCell (p:=⟨w.heap.size,i + k,none⟩) (Nat.le_refl _) _).drew⟩,?_⟩
      simp only [intOf]; omega
    ·obtain rfl:k = n':=by omega
     obtain ⟨hco,hfo⟩:=hown2.at (i + k) (by omega)
     have hlast:RMul l m (i + 1) (o2.set (i + k) cc):=by
      have:=(show RMulI l m i m.length cc o o2 by rw [HM.out]; exact hin).last hinv (by rw [HL.out]; exact hlt)
      rwa [HM.out] at this
     have hcB:=hin.cl
     have w3:IntKind.u32.wrap (cc:Int) = (cc:Int):=by rw [IntKind.wrap_u32]; omega
     have t5:(i:Int) + (k:Int) < (n:Int) + (k:Int):=by omega
     have t6:(0:Int) ≤ (i:Int) + (k:Int):=by omega
     have t7:((i:Int) + (k:Int)).toNat = i + k:=by omega
     have t8:i + k < n + k:=by omega
     go_wp2
     refine ⟨⟨i + 1,_,by omega,by go_num,hlast,hown2.store (i + k) cc,hb2.setCell (p:=⟨w.heap.size,i + k,none⟩) (Nat.le_refl _) _⟩,?_⟩
     simp only [intOf]; omega
  ·obtain rfl:i = n:=by omega
   have hfin:=(show RMul l m l.length o by rw [HL.out]; exact hinv).last
   rw [HX.out,HY.out] at hfin
   have hrd:R32 wr (fun b=>w.heap.size ≤ b) ⟨some ⟨w.heap.size,0,none⟩,i + n',i + n'⟩ o:=⟨hown.rd,hinv.lt⟩
   have HF:=Lib.hid hfin
   clear hfin
   go_wp2_with fail
   refine (ref_trim hrd (by omega)).mono ?_
   rintro e w1 ⟨rfl,rfl⟩
   have hr:=hrd.trim
   rw [HF.out] at hr
   have HR:=Lib.hid hr
   clear hr
   go_wp2
   go_ret
   exact ⟨_,_,_,rfl,HR.out,hb⟩
end Go.Proofs.YtcpgflbfjplheaaGreatDoor
namespace Gs
open Go Go.RowKit
def CanR (w:World) (v:Value) (x K:Nat):Prop:=∃ A n c,v = .slice A n c ∧ R32 w (fun _=>True) ⟨A,n,c⟩ (limbs 4294967296 x) ∧ n ≤ K
theorem CanR.below {w w' v x K} (h:CanR w v x K) (hb:Below w.heap.size w w'):CanR w' v x K:=by
 obtain ⟨A,n,c,e,hr,hn⟩:=h
 exact ⟨A,n,c,e,hr.below hb,hn⟩
theorem CanR.alloc {w v x K} (h:CanR w v x K) (o:Obj):CanR (w.alloc o) v x K:=h.below ((Below.refl _ w).alloc (Nat.le_refl _) o)
theorem CanR.of {w:World} {P:Nat → Prop} {A n c x K} (h:R32 w P ⟨A,n,c⟩ (limbs 4294967296 x)) (hx:x < 4294967296 ^ K):CanR w (.slice A n c) x K:=by
 refine ⟨A,n,c,rfl,h.mono fun _ _=>trivial,?_⟩
 have h2:=h.rd.len
 simp only at h2
 rw [← h2]
 exact limbs_len_le B32 hx
theorem CanR.lt {w v x K} (h:CanR w v x K):x < 4294967296 ^ K:=by
 obtain ⟨A,n,c,e,hr,hn⟩:=h
 have h2:=hr.rd.len
 simp only at h2
 exact lt_of_limbs_len B32 (by rw [h2]; exact hn)
def CanF (G:Nat → Prop) (w:World) (v:Value) (x K:Nat):Prop:=∃ A n c,v = .slice A n c ∧ R32 w G ⟨A,n,c⟩ (limbs 4294967296 x) ∧ n ≤ K
theorem CanF.r {G:Nat → Prop} {w:World} {v:Value} {x K:Nat} (h:CanF G w v x K):CanR w v x K:=by
 obtain ⟨A,n,c,e,hr,hn⟩:=h
 exact ⟨A,n,c,e,hr.mono fun _ _=>trivial,hn⟩
theorem CanF.below {G:Nat → Prop} {w w':World} {v:Value} {x K:Nat} (h:CanF G w v x K) (hb:Below w.heap.size w w'):CanF G w' v x K:=by
 obtain ⟨A,n,c,e,hr,hn⟩:=h
 exact ⟨A,n,c,e,hr.below hb,hn⟩
theorem CanF.mono {G G':Nat → Prop} {w:World} {v:Value} {x K:Nat} (h:CanF G w v x K) (hG:∀ b,G b → G' b):CanF G' w v x K:=by
 obtain ⟨A,n,c,e,hr,hn⟩:=h
 exact ⟨A,n,c,e,hr.mono hG,hn⟩
theorem CanF.of {G:Nat → Prop} {w:World} {A n c x K} (h:R32 w G ⟨A,n,c⟩ (limbs 4294967296 x)) (hx:x < 4294967296 ^ K):CanF G w (.slice A n c) x K:=by
 refine ⟨A,n,c,rfl,h,?_⟩
 have h2:=h.rd.len
 simp only at h2
 rw [← h2]
 exact limbs_len_le B32 hx
theorem CanF.tight {G:Nat → Prop} {w:World} {v:Value} {x K K':Nat} (h:CanF G w v x K) (hx:x < 4294967296 ^ K'):CanF G w v x K':=by
 obtain ⟨A,n,c,rfl,hr,hn⟩:=h
 exact CanF.of hr hx
theorem CanF.nil (G:Nat → Prop) (w:World) (K:Nat):CanF G w (.slice none 0 0) 0 K:=⟨none,0,0,rfl,⟨RdN.nil _ _ _ 0 (by omega) _,Lt.nil _⟩,Nat.zero_le _⟩
def RawN (w:World) (v:Value) (l:List Nat):Prop:=∃ A n c,v = .slice A n c ∧ RdU w (fun _=>True) ⟨A,n,c⟩ l
theorem RawN.below {w w' v l} (h:RawN w v l) (hb:Below w.heap.size w w'):RawN w' v l:=by
 obtain ⟨A,n,c,e,hr⟩:=h
 exact ⟨A,n,c,e,hr.below hb⟩
theorem RawN.alloc {w v l} (h:RawN w v l) (o:Obj):RawN (w.alloc o) v l:=h.below ((Below.refl _ w).alloc (Nat.le_refl _) o)
theorem RawN.num {w v l} (h:RawN w v l):Num w v (val 18446744073709551616 l) l.length:=by
 obtain ⟨A,n,c,e,hr⟩:=h
 exact ⟨A,n,c,l,e,hr,rfl,by have:=hr.rd.len; simp only at this; omega⟩
theorem RawN.num' {w v l x K} (h:RawN w v l) (hx:val 18446744073709551616 l = x) (hl:l.length ≤ K):Num w v x K:=by
 obtain ⟨A,n,c,e,hr⟩:=h
 exact ⟨A,n,c,l,e,hr,hx,by have:=hr.rd.len; simp only at this; omega⟩
theorem RawN.of {w:World} {P:Nat → Prop} {A n c l} (h:RdU w P ⟨A,n,c⟩ l):RawN w (.slice A n c) l:=⟨A,n,c,rfl,h.mono fun _ _=>trivial⟩
theorem pow64_32 (K:Nat):(18446744073709551616:Nat) ^ K = 4294967296 ^ (2 * K):=by
 rw [Nat.pow_mul]
theorem pow32_mul_lt {x y K K':Nat} (h:x < 4294967296 ^ K) (h':y < 4294967296 ^ K'):x * y < 4294967296 ^ (K + K'):=by
 rw [Nat.pow_add]
 rcases Nat.eq_zero_or_pos x with h0 | h0
 ·subst h0
  rw [Nat.zero_mul]
  exact Nat.mul_pos (Nat.pow_pos (by omega)) (Nat.pow_pos (by omega))
 ·exact Nat.mul_lt_mul_of_lt_of_le h (Nat.le_of_lt h') (by omega)
end Gs
namespace Go.Proofs.YtcpgflbfjplheaaGreatDoor
open Go.RowKit Gs
set_option linter.unusedVariables false
variable {w:World} {a b:Value} {x y K K':Nat}
theorem call_In (h:Num w a x K) (hK:K ≤ 1000000) :
 Calls Tryz.prog 85 #[a] w fun e w'=>∃ r,e = .returned r ∧ CanR w' r x (2 * K) ∧ Below w.heap.size w w':=by
 have q:=h.lt
 rw [pow64_32] at q
 obtain ⟨A,n,c,l,rfl,hr,hv,hn⟩:=h
 refine (ref_In hr (by omega)).mono ?_
 rintro e w' ⟨A1,n1,c1,rfl,h1,hb⟩
 rw [hv] at h1
 exact ⟨_,rfl,CanR.of h1 q,hb⟩
theorem call_RCmp {z:Int} (h:CanR w a x K) (h':CanR w b y K') (hK:K ≤ 1000000) (hK':K' ≤ 1000000) (hz:cmpI (x:Nat) (y:Nat) = z) :
 Calls Tryz.prog 199 #[a,b] w fun e w'=>e = .returned (.int .i64 z) ∧ Below w.heap.size w w':=by
 obtain ⟨A,n,c,rfl,hr,hn⟩:=h
 obtain ⟨A',n',c',rfl,hr',hn'⟩:=h'
 rw [← hz]
 exact ref_Cmp hr hr' (by omega) (by omega)
theorem call_RMul (h:CanR w a x K) (h':CanR w b y K') (hK:K ≤ 1000000) (hK':K' ≤ 1000000) :
 Calls Tryz.prog 172 #[a,b] w fun e w'=>∃ r,e = .returned r ∧ CanR w' r (x * y) (K + K') ∧ Below w.heap.size w w':=by
 have q:=pow32_mul_lt h.lt h'.lt
 obtain ⟨A,n,c,rfl,hr,hn⟩:=h
 obtain ⟨A',n',c',rfl,hr',hn'⟩:=h'
 refine (ref_Mul hr hr' (by omega) (by omega)).mono ?_
 rintro e w' ⟨A1,n1,c1,rfl,h1,hb⟩
 exact ⟨_,rfl,CanR.of h1 q,hb⟩
end Go.Proofs.YtcpgflbfjplheaaGreatDoor
namespace Go.Proofs.YtcpgflbfjplheaaGreatDoor
open Go.RowKit Gs
set_option linter.unusedVariables false
theorem ref_Of (v:Nat) (hv:v < 18446744073709551616) (w:World):Calls Tryz.prog 86 #[.int .u64 v] w fun e w'=>∃ r,e = .returned r ∧ CanR w' r v 2 ∧ Below w.heap.size w w':=by
 have ki:=call_In (w:=w.alloc (.cells (nums .u64 [v]).toArray 146)) (Num.made' w 146 [v] (x:=v) (m:=1) (b:=w.heap.size) (Lt.cons hv (Lt.nil _)) rfl (by decide) rfl (by simp [val])) (by decide)
 have KI:=Lib.hid ki
 clear ki
 go_enter Tryz.func86,Tryz.ntmps86
 go_wp2_with fail
 refine KI.out.mono ?_
 rintro e w1 ⟨r,rfl,hr,hb⟩
 go_wp2
 go_ret
 exact ⟨_,rfl,hr,Gs.Below.un hb⟩
theorem CanR.tight {w v x K K'} (h:CanR w v x K) (hx:x < 4294967296 ^ K'):CanR w v x K':=by
 obtain ⟨A,n,c,e,hr,hn⟩:=h
 subst e
 exact CanR.of hr hx
theorem CanR.nil (w:World) (K:Nat):CanR w (.slice none 0 0) 0 K:=⟨none,0,0,rfl,⟨RdN.nil _ _ _ 0 (by omega) _,Lt.nil _⟩,Nat.zero_le _⟩
end Go.Proofs.YtcpgflbfjplheaaGreatDoor
namespace Gs
open Go Go.RowKit
structure RShort (l:List Nat) (b i r:Nat) (o:List Nat):Prop where
 len:o.length = l.length
 lt:Lt 4294967296 o
 rl:r < b
 eq:val 4294967296 (o.drop i) * b + r = val 4294967296 (l.drop i)
theorem drop_set_lt {o:List Nat} {i j x:Nat} (h:i < j):(o.set i x).drop j = o.drop j:=by
 rw [List.drop_set,if_pos h]
theorem RShort.start (l:List Nat) {b:Nat} (hb:0 < b):RShort l b l.length 0 (List.replicate l.length 0) :=
 ⟨by simp,Lt.replicate (by omega) _,hb,by simp [val]⟩
theorem RShort.step {l o:List Nat} {b i r:Nat} (h:RShort l b (i + 1) r o) (hl:Lt 4294967296 l) (hi:i < l.length) (hb:b < 4294967296) :
 RShort l b i ((r * 4294967296 + gd l i) % b) (o.set i ((r * 4294967296 + gd l i) / b)):=by
 have h1:=hl.gd (by omega) i
 have hr:=h.rl
 have hq:(r * 4294967296 + gd l i) / b < 4294967296:=by
  rw [Nat.div_lt_iff_lt_mul (by omega)]
  have:(r + 1) * 4294967296 ≤ b * 4294967296:=Nat.mul_le_mul_right _ hr
  rw [Nat.mul_comm 4294967296]
  omega
 refine ⟨by rw [List.length_set]; exact h.len,h.lt.set _ hq,Nat.mod_lt _ (by omega),?_⟩
 rw [val_drop,drop_set_lt (Nat.lt_succ_self i),gd_set_self (by rw [h.len]; exact hi),val_drop 4294967296 l]
 have he:=h.eq
 have hd:=Nat.mod_add_div (r * 4294967296 + gd l i) b
 generalize val 4294967296 (o.drop (i + 1)) = O at *
 generalize val 4294967296 (l.drop (i + 1)) = L at *
 generalize (r * 4294967296 + gd l i) % b = m at *
 generalize (r * 4294967296 + gd l i) / b = q at *
 rw [← he]
 grind
theorem RShort.last {l o:List Nat} {b r:Nat} (h:RShort l b 0 r o):val 4294967296 o = val 4294967296 l / b ∧ r = val 4294967296 l % b:=by
 have he:=h.eq
 have hr:=h.rl
 rw [List.drop_zero,List.drop_zero] at he
 rw [← he]
 constructor
 ·rw [Nat.mul_comm,Nat.mul_add_div (by omega),Nat.div_eq_of_lt hr,Nat.add_zero]
 ·rw [Nat.mul_comm,Nat.mul_add_mod,Nat.mod_eq_of_lt hr]
end Gs
namespace Go.Proofs.YtcpgflbfjplheaaGreatDoor
open Go.RowKit Gs
set_option linter.unusedVariables false
theorem ref_Of_new (v:Nat) (hv:v < 18446744073709551616) (w:World):Calls Tryz.prog 86 #[.int .u64 v] w fun e w'=>∃ A1 n1 c1,e = .returned (.slice A1 n1 c1) ∧ R32 w' (fun b=>w.heap.size ≤ b) ⟨A1,n1,c1⟩ (limbs 4294967296 v) ∧ Below w.heap.size w w':=by
 have ki:=ref_In (w:=w.alloc (.cells (nums .u64 [v]).toArray 146)) (A:=some ⟨w.heap.size,0,none⟩) (n:=1) (c:=1) (l:=[v]) (P:=fun b=>w.heap.size ≤ b) ⟨(OwnN.made .u64 w w.heap.size 146 [v] (Nat.le_refl _) (by simp)).rd,Lt.cons hv (Lt.nil _)⟩ (by decide)
 have KI:=Lib.hid ki
 clear ki
 go_enter Tryz.func86,Tryz.ntmps86
 go_wp2_with fail
 refine KI.out.mono ?_
 rintro e w1 ⟨A1,n1,c1,rfl,hr,hb⟩
 have hv1:val 18446744073709551616 [v] = v:=by simp [val]
 rw [hv1] at hr
 have HR:=Lib.hid hr
 clear hr hv1
 go_wp2
 go_ret
 exact ⟨_,_,_,rfl,HR.out.mono (fun b hb=>by simp at hb; omega),Gs.Below.un hb⟩
theorem two_cells {W:World} {b:Nat} {t:TypeId} {u v:Value} (h:W.heap[b]? = some (.cells #[u,v] t (0,0))) (p q:Value) :
 ((W.setCell ⟨b,0,none⟩ p).setCell ⟨b,1,none⟩ q).heap[b]? = some (.cells #[p,q] t (0,0)):=by
 simp [World.setCell,Array.getElem?_modify,h]
theorem two_at {W:World} {b:Nat} {u v:Value} {t:TypeId} (h:W.heap[b]? = some (.cells #[u,v] t (0,0))):W.cell? ⟨b,0,none⟩ = some u ∧ W.cell? ⟨b,1,none⟩ = some v:=by simp [World.cell?,h]
theorem R32.store2 {W:World} {P:Nat → Prop} {s:Sl} {l:List Nat} {b:Nat} (h:R32 W P s l) (hP:∀ j,P j → j ≠ b) (p q:Value):R32 ((W.setCell ⟨b,0,none⟩ p).setCell ⟨b,1,none⟩ q) P s l :=
 ⟨h.rd.keep fun j hj _=>by rw [set_heap _ (by exact hP j hj),set_heap _ (by exact hP j hj)],h.lt⟩
set_option maxRecDepth 100000 in
set_option maxHeartbeats 4000000 in
theorem ref_short_new {A n c} {x b:Nat} {P} {w:World} (h:R32 w P ⟨A,n,c⟩ (limbs 4294967296 x)) (hn:n ≤ 1000000000) (hb0:0 < b) (hb1:b < 4294967296) :
 Calls Tryz.prog 200 #[.slice A n c,.int .u32 (b:Int)] w fun e w'=>∃ Aq nq cq Ar nr cr,e = .returned (.agg #[.slice Aq nq cq,.slice Ar nr cr]) ∧ R32 w' (fun j=>w.heap.size < j) ⟨Aq,nq,cq⟩ (limbs 4294967296 (x / b)) ∧ R32 w' (fun j=>w.heap.size < j) ⟨Ar,nr,cr⟩ (limbs 4294967296 (x % b)) ∧ Below w.heap.size w w':=by
 have hl:(limbs 4294967296 x).length = n:=h.rd.len
 have hx:=val_limbs B32 x
 obtain ⟨l,hl0⟩:∃ l,l = limbs 4294967296 x:=⟨_,rfl⟩
 rw [← hl0] at h hl hx
 have HX:=Lib.hid hx
 have HL:=Lib.hid hl
 have km:=make_num (P:=Tryz.prog) 38 194 .u32 4 Tryz.underlying38 info_u32 (by decide) n (by omega)
 have s0:IntKind.i64.wrap ((n:Int) - 1) = (n:Int) - 1:=IntWalk.i64_in _ (by omega)
 clear hl0 hl hx
 go_enter Tryz.func200,Tryz.ntmps200
 go_wp2
 obtain ⟨W1,hW1⟩:∃ W1,W1 = (w.alloc (Obj.cells #[Value.slice none 0 0,Value.slice none 0 0] 217)).alloc (Obj.cells (nums IntKind.u32 (List.replicate n 0)).toArray 194):=⟨_,rfl⟩
 rw [← hW1]
 have hT1:W1.heap[w.heap.size]? = some (.cells #[Value.slice none 0 0,Value.slice none 0 0] 217 (0,0)):=by
  rw [hW1]
  exact (Below.heap_alloc _ _ _ (by simp)).trans (heap_alloc_new w _)
 have hO1:OwnN .u32 W1 (w.heap.size + 1) 194 ⟨some ⟨w.heap.size + 1,0,none⟩,n,n⟩ (List.replicate n 0):=by
  rw [hW1]
  have:=OwnN.made .u32 (w.alloc (Obj.cells #[Value.slice none 0 0,Value.slice none 0 0] 217)) (w.heap.size + 1) 194 (List.replicate n 0) (by simp) (by simp; omega)
  simpa using this
 have hB1:Below w.heap.size w W1:=by rw [hW1]; exact ((Below.refl _ w).alloc (Nat.le_refl _) _).alloc (by simp) _
 have hsz1:w.heap.size + 2 ≤ W1.heap.size:=by rw [hW1]; simp
 clear hW1 km
 go_loopw [6,7] (fun rv iv wr=>∃ (i r:Nat) (o:List Nat),i ≤ n ∧ iv = .int .i64 ((i:Int) - 1) ∧ rv = .int .u64 (r:Int) ∧ RShort l b i r o ∧ OwnN .u32 wr (w.heap.size + 1) 194 ⟨some ⟨w.heap.size + 1,0,none⟩,n,n⟩ o ∧ wr.heap[w.heap.size]? = some (.cells #[Value.slice none 0 0,Value.slice none 0 0] 217 (0,0)) ∧ w.heap.size + 2 ≤ wr.heap.size ∧ Below w.heap.size w wr) (fun _ iv _=>(intOf iv + 1).toNat)
 case atStart =>
  refine ⟨n,0,List.replicate n 0,Nat.le_refl _,rfl,rfl,?_,hO1,hT1,hsz1,hB1⟩
  have:=RShort.start l hb0
  rwa [HL.out] at this
 case round =>
  obtain ⟨i,r,o,hi,rfl,rfl,hinv,hown,hT,hsz,hb⟩:=hrel
  cases i with
  | zero =>
   obtain ⟨hq,hrr⟩:=hinv.last
   rw [HX.out] at hq hrr
   have hrb:=hinv.rl
   have hrd:R32 wr (fun b=>w.heap.size + 1 ≤ b) ⟨some ⟨w.heap.size + 1,0,none⟩,n,n⟩ o:=⟨hown.rd,hinv.lt⟩
   have HQ:=Lib.hid hq
   have HR:=Lib.hid hrr
   clear hq hrr hT1 hO1 hB1 hsz1
   go_wp2_with fail
   refine (ref_trim hrd (by omega)).mono ?_
   rintro e w1 ⟨rfl,rfl⟩
   have hq1:=hrd.trim
   rw [HQ.out] at hq1
   go_wp2_with fail
   refine (ref_Of_new r (by omega) _).mono ?_
   rintro e w2 ⟨Ar,nr,cr,rfl,hrr,hb2⟩
   have hq2:=hq1.below hb2
   have hT2:=(hb2.block _ (by omega)).trans hT
   have hcell:w2.cell? ⟨w.heap.size,0,none⟩ = some (.slice none 0 0):=by simp [World.cell?,hT2]
   have hcell1:w2.cell? ⟨w.heap.size,1,none⟩ = some (.slice none 0 0):=by simp [World.cell?,hT2]
   have hfr:w2.frozen? ⟨w.heap.size,0,none⟩ = false:=by simp [World.frozen?,hT2]
   have hfr1:w2.frozen? ⟨w.heap.size,1,none⟩ = false:=by simp [World.frozen?,hT2]
   have hTT:=fun p q=>two_cells hT2 p q
   have hqs:=fun p q=>R32.store2 hq2 (b:=w.heap.size) (fun j hj=>by omega) p q
   have hrs:=fun p q=>R32.store2 hrr (b:=w.heap.size) (fun j hj=>by omega) p q
   have hbs:Below w.heap.size w w2:=Gs.Below.then hb hb.size hb2
   go_wp2
   obtain ⟨QV,hQV⟩:∃ QV,QV = Value.slice (some ⟨w.heap.size + 1,0,none⟩) (nl2 o) n:=⟨_,rfl⟩
   obtain ⟨RV,hRV⟩:∃ RV,RV = Value.slice Ar nr cr:=⟨_,rfl⟩
   have hc0:((w2.setCell ⟨w.heap.size,0,none⟩ QV).setCell ⟨w.heap.size,1,none⟩ RV).cell? ⟨w.heap.size,0,none⟩ = some QV:=by simp [World.cell?,hTT]
   have hc1:((w2.setCell ⟨w.heap.size,0,none⟩ QV).setCell ⟨w.heap.size,1,none⟩ RV).cell? ⟨w.heap.size,1,none⟩ = some RV:=by simp [World.cell?,hTT]
   rw [← hQV,← hRV]
   refine bodyPost_ret (v:=.agg #[QV,RV]) (by simp [results,Tryz.f200,go_sem,hc0,hc1]) rfl ?_
   subst hQV hRV
   refine ⟨_,_,_,_,_,_,rfl,(hqs _ _).mono (fun b hb=>by omega),?_,(hbs.setCell (p:=⟨w.heap.size,0,none⟩) (Nat.le_refl _) _).setCell (p:=⟨w.heap.size,1,none⟩) (Nat.le_refl _) _⟩
   rw [← HR.out]
   exact (hrs _ _).mono (fun b hb=>by omega)
  | succ j =>
   have e2:((j + 1:Nat):Int) - 1 = (j:Int):=by omega
   rw [e2]
   obtain ⟨ad,e,hc⟩:=(h.rd.below hb).at j (by show j < n; omega)
   simp only at e
   subst e
   obtain ⟨hco,hfo⟩:=hown.at j (by omega)
   have hstep:=hinv.step h.lt (by rw [HL.out]; omega) hb1
   have hxB:=h.lt.gd (by omega) j
   have hrl:=hinv.rl
   obtain ⟨x1,hx1⟩:∃ x1,x1 = gd l j:=⟨_,rfl⟩
   rw [← hx1] at hc hxB hstep
   obtain ⟨v,hv⟩:∃ v,v = r * 4294967296 + x1:=⟨_,rfl⟩
   rw [← hv] at hstep
   have hor:=or_join (q:=r) (r:=x1) (i:=32) (by omega) (by omega) (by omega)
   rw [show r * 2 ^ 32 + x1 = v by omega,show ((r * 2 ^ 32:Nat):Int) = (r:Int) * 4294967296 by omega] at hor
   have hqlt:v / b < 4294967296:=by
    rw [Nat.div_lt_iff_lt_mul hb0]
    have:(r + 1) * 4294967296 ≤ b * 4294967296:=Nat.mul_le_mul_right _ hrl
    rw [Nat.mul_comm 4294967296]
    omega
   obtain ⟨q,hq⟩:∃ q,q = v / b:=⟨_,rfl⟩
   obtain ⟨m,hm⟩:∃ m,m = v % b:=⟨_,rfl⟩
   rw [← hq] at hstep hqlt
   rw [← hm] at hstep
   have hmb:m < b:=by rw [hm]; exact Nat.mod_lt _ hb0
   have w1:IntKind.u64.wrap ((r:Int) * 4294967296) = (r:Int) * 4294967296:=by rw [IntKind.wrap_u64]; omega
   have w2:IntKind.u64.wrap (x1:Int) = (x1:Int):=by rw [IntKind.wrap_u64]; omega
   have w3:IntKind.u64.wrap (b:Int) = (b:Int):=by rw [IntKind.wrap_u64]; omega
   have w4:(v:Int) / (b:Int) = (q:Int):=by rw [hq]; simp
   have w5:(v:Int) % (b:Int) = (m:Int):=by rw [hm]; simp
   have w6:IntKind.u32.wrap (q:Int) = (q:Int):=by rw [IntKind.wrap_u32]; omega
   have s1:IntKind.i64.wrap ((j:Int) - 1) = (j:Int) - 1:=IntWalk.i64_in _ (by omega)
   have t1:((b:Int) == 0) = false:=by rw [beq_eq_false_iff_ne]; omega
   have t2:¬ (b:Int) = 0:=by omega
   have t3:¬ b = 0:=by omega
   have t4:j < n:=by omega
   clear hx1 hv hq hm hT1 hO1 hB1 hsz1
   go_wp2
   refine ⟨⟨j,m,_,by omega,rfl,congrArg (Value.int .u64) w5,hstep,hown.store j q,?_,?_,hb.setCell (p:=⟨w.heap.size + 1,j,none⟩) (by simp) _⟩,?_⟩
   ·rw [set_heap _ (by simp)]; exact hT
   ·simp; omega
   ·simp only [intOf]; omega
end Go.Proofs.YtcpgflbfjplheaaGreatDoor
namespace Gs
open Go Go.RowKit
set_option linter.unusedVariables false
theorem guess_low {X Y d t u T:Nat} (hX:t * T ≤ X) (hY:Y < (u + 1) * T) (hd:d * (u + 1) ≤ t):Y * d ≤ X:=by
 have h1:Y * d ≤ (u + 1) * T * d:=Nat.mul_le_mul_right _ (Nat.le_of_lt hY)
 have h2:(u + 1) * T * d = d * (u + 1) * T:=by rw [Nat.mul_comm,← Nat.mul_assoc]
 have h3:d * (u + 1) * T ≤ t * T:=Nat.mul_le_mul_right _ hd
 omega
theorem guess_end {X Y lo hi:Nat} (h1:Y * lo ≤ X) (h2:X < Y * hi) (h:hi ≤ lo + 1):lo = X / Y:=by
 have hY:0 < Y:=by
  rcases Nat.eq_zero_or_pos Y with h0 | h0
  ·rw [h0] at h2; omega
  ·exact h0
 symm
 refine Nat.div_eq_of_lt_le (by rw [Nat.mul_comm]; exact h1) (Nat.lt_of_lt_of_le h2 ?_)
 rw [Nat.mul_comm]
 exact Nat.mul_le_mul_right _ h
theorem guess_lt {X Y lo hi:Nat} (h1:Y * lo ≤ X) (h2:X < Y * hi):lo < hi:=by
 rcases Nat.lt_or_ge lo hi with h | h
 ·exact h
 ·have:=Nat.mul_le_mul_left Y h; omega
theorem RShort.stepY {l o:List Nat} {b i r:Nat} (h:RShort l b (i + 1) r o) (hl:Lt 4294967296 l) (hi:i < l.length) :
 RShort l b i ((r * 4294967296 + gd l i) % b) (o.set i ((r * 4294967296 + gd l i) / b)):=by
 have h1:=hl.gd (by omega) i
 have hr:=h.rl
 have hq:(r * 4294967296 + gd l i) / b < 4294967296:=by
  rw [Nat.div_lt_iff_lt_mul (by omega)]
  have:(r + 1) * 4294967296 ≤ b * 4294967296:=Nat.mul_le_mul_right _ hr
  rw [Nat.mul_comm 4294967296]
  omega
 refine ⟨by rw [List.length_set]; exact h.len,h.lt.set _ hq,Nat.mod_lt _ (by omega),?_⟩
 rw [val_drop,drop_set_lt (Nat.lt_succ_self i),gd_set_self (by rw [h.len]; exact hi),val_drop 4294967296 l]
 have he:=h.eq
 have hd:=Nat.mod_add_div (r * 4294967296 + gd l i) b
 generalize val 4294967296 (o.drop (i + 1)) = O at *
 generalize val 4294967296 (l.drop (i + 1)) = L at *
 generalize (r * 4294967296 + gd l i) % b = m at *
 generalize (r * 4294967296 + gd l i) / b = q at *
 rw [← he]
 grind
theorem set_same {o:List Nat} {i:Nat} (hi:i < o.length) (h:gd o i = 0):o.set i 0 = o:=by
 apply List.ext_getElem (by simp)
 intro j h1 h2
 by_cases hj:i = j
 ·subst hj
  rw [List.getElem_set_self,← gd_lt h2,h]
 ·rw [List.getElem_set_ne hj]
end Gs
namespace Go.Proofs.YtcpgflbfjplheaaGreatDoor
open Go.RowKit Gs
set_option linter.unusedVariables false
set_option maxRecDepth 100000 in
set_option maxHeartbeats 4000000 in
theorem ref_guess {A n c A' n' c'} {x y:Nat} {P P'} {w:World} (h:R32 w P ⟨A,n,c⟩ (limbs 4294967296 x)) (h':R32 w P' ⟨A',n',c'⟩ (limbs 4294967296 y)) (hn:n ≤ 10000) (hy:y ≤ x) (hxy:x < y * 4294967296) (hn2:1 ≤ n') :
 Calls Tryz.prog 201 #[.slice A n c,.slice A' n' c'] w fun e w'=>e = .returned (.int .u32 ((x / y:Nat):Int)) ∧ Below w.heap.size w w':=by
 obtain ⟨Q,hQ⟩:∃ Q,Q = x / y:=⟨_,rfl⟩
 rw [← hQ]
 have HQ:=Lib.hid hQ
 clear hQ
 have hl:(limbs 4294967296 x).length = n:=h.rd.len
 have hm:(limbs 4294967296 y).length = n':=h'.rd.len
 have hx:=val_limbs B32 x
 have hyv:=val_limbs B32 y
 have hnn:n' ≤ n:=by rw [← hl,← hm]; exact limbs_len_mono B32 hy
 have hnn2:n ≤ n' + 1:=by
  rw [← hl]
  refine limbs_len_le B32 (Nat.lt_of_lt_of_le hxy ?_)
  rw [Nat.pow_succ]
  exact Nat.mul_le_mul_right _ (Nat.le_of_lt (by rw [← hyv]; have:=val_lt (limbs_lt B32 y); rwa [hm] at this))
 have hA:=(show CanR w (.slice A n c) x n from ⟨A,n,c,rfl,h.mono fun _ _=>trivial,Nat.le_refl _⟩)
 have hB:=(show CanR w (.slice A' n' c') y n' from ⟨A',n',c',rfl,h'.mono fun _ _=>trivial,Nat.le_refl _⟩)
 obtain ⟨l,hl0⟩:∃ l,l = limbs 4294967296 x:=⟨_,rfl⟩
 obtain ⟨m,hm0⟩:∃ m,m = limbs 4294967296 y:=⟨_,rfl⟩
 rw [← hl0] at h hl hx
 rw [← hm0] at h' hm hyv
 obtain ⟨q',hq'⟩:∃ q',n' = q' + 1:=⟨n' - 1,by omega⟩
 subst hq'
 obtain ⟨ad',e',hcb⟩:=h'.rd.at q' (by show q' < q' + 1; omega)
 simp only at e'
 subst e'
 have hub:=h'.lt.gd (by omega) q'
 -- y lies below (u + 1) times the power
 have hY:y < (gd m q' + 1) * 4294967296 ^ q':=by
  have h1:=val_split 4294967296 m q' (by omega)
  rw [List.drop_eq_nil_of_le (by omega),val_nil,Nat.mul_zero,Nat.add_zero,hyv] at h1
  have h2:=val_lt (h'.lt.take q')
  rw [List.length_take,Nat.min_eq_left (by omega)] at h2
  rw [Nat.add_mul,Nat.one_mul,Nat.mul_comm (gd m q')]
  omega
 obtain ⟨u,hu⟩:∃ u,u = gd m q':=⟨_,rfl⟩
 rw [← hu] at hcb hub hY
 have HXY:=Lib.hid hxy
 -- the first digit told,whichever way
 have key:∃ t,t * 4294967296 ^ q' ≤ x ∧ t < 18446744073709551616 ∧ ((n = q' + 1 ∧ t = gd l q') ∨ (n = q' + 2 ∧ t = gd l (q' + 1) * 4294967296 + gd l q')):=by
  have hxs:=val_split 4294967296 l q' (by omega)
  rw [hx] at hxs
  have g1:=h.lt.gd (by omega) q'
  have g2:=h.lt.gd (by omega) (q' + 1)
  rcases (show n = q' + 1 ∨ n = q' + 2 by omega) with h1 | h1
  ·refine ⟨gd l q',?_,by omega,.inl ⟨h1,rfl⟩⟩
   rw [List.drop_eq_nil_of_le (by omega),val_nil,Nat.mul_zero,Nat.add_zero,Nat.mul_comm] at hxs
   omega
  ·refine ⟨gd l (q' + 1) * 4294967296 + gd l q',?_,by omega,.inr ⟨h1,rfl⟩⟩
   rw [val_drop 4294967296 l (q' + 1),List.drop_eq_nil_of_le (by omega),val_nil,Nat.mul_zero,Nat.add_zero] at hxs
   rw [Nat.mul_comm,Nat.add_comm (gd l (q' + 1) * 4294967296),Nat.mul_comm (gd l (q' + 1))]
   omega
 obtain ⟨t,ht1,ht2,htc⟩:=key
 obtain ⟨d,hd⟩:∃ d,d = t / (u + 1):=⟨_,rfl⟩
 have hdY:y * d ≤ x:=guess_low ht1 hY (by rw [hd]; exact Nat.div_mul_le_self t (u + 1))
 have hdlt:d < 4294967296:=guess_lt hdY hxy
 have HDY:=Lib.hid hdY
 have hua:IntKind.u64.wrap (u:Int) = (u:Int):=by rw [IntKind.wrap_u64]; omega
 have hub1:IntKind.u64.wrap ((u:Int) + 1) = (u:Int) + 1:=by rw [IntKind.wrap_u64]; omega
 have hdq:(t:Int) / ((u:Int) + 1) = (d:Int):=by rw [hd]; simp
 have tz:(((u:Int) + 1) == 0) = false:=by rw [beq_eq_false_iff_ne]; omega
 have tz2:¬ (u:Int) + 1 = 0:=by omega
 have s1:IntKind.i64.wrap (((q' + 1:Nat):Int) - 1) = (q':Int):=by rw [IntWalk.i64_in _ (by omega)]; omega
 have s1':IntKind.i64.wrap ((q':Int) + 1 - 1) = (q':Int):=by rw [IntWalk.i64_in _ (by omega)]; omega
 have htt:∀ k,k < n → ∃ ad,A = some ad ∧ w.cell? (ad.add k) = some (.int .u32 (gd l k:Nat)):=fun k hk=>h.rd.at k hk
 clear hl0 hm0 hx hyv hu hd ht1 hdY hxy hy
 rcases htc with ⟨rfl,htl⟩ | ⟨rfl,htl⟩
 ·obtain ⟨ad,e,hca⟩:=htt q' (by omega)
  subst e
  rw [← htl] at hca
  have hta:IntKind.u64.wrap (t:Int) = (t:Int):=by rw [IntKind.wrap_u64]; omega
  clear htl htt hl hm
  go_enter Tryz.func201,Tryz.ntmps201
  go_wp2
  go_loopw [8,9,10] (fun lv hv sv wr=>∃ (lo hi st:Nat),lv = .int .u64 lo ∧ hv = .int .u64 hi ∧ sv = .int .u64 st ∧ 1 ≤ st ∧ st ≤ hi + 1 ∧ hi ≤ 8589934592 ∧ Hid (y * lo ≤ x) ∧ lo ≤ hi ∧ lo < 4294967296 ∧ Below w.heap.size w wr) (fun _ hv _ _=>8589934600 - (intOf hv).toNat)
  case atStart=>exact ⟨d,d,1,rfl,rfl,rfl,by omega,by omega,by omega,HDY,Nat.le_refl _,hdlt,Below.refl _ _⟩
  case round =>
   obtain ⟨lo,hi,st,rfl,rfl,rfl,hst,hst2,hhi,hlo,hlh,hlo2,hb⟩:=hrel
   have hA1:=hA.below hb
   have hB1:=hB.below hb
   go_wp2_with fail
   refine (ref_Of hi (by omega) _).mono ?_
   rintro e w2 ⟨o1,rfl,ho1,hb2⟩
   have hA2:=hA1.below hb2
   have hB2:=hB1.below hb2
   go_wp2_with fail
   refine (call_RMul hB2 ho1 (by omega) (by decide)).mono ?_
   rintro e w3 ⟨o2,rfl,ho2,hb3⟩
   have hA3:=hA2.below hb3
   have hb30:Below w.heap.size w w3:=Gs.Below.tr hb (Gs.Below.tr hb2 hb3)
   clear hA1 hA2 hB1 hB2 ho1 hb hb2 hb3
   by_cases hle:y * hi ≤ x
   ·obtain ⟨z,hz⟩:∃ z,cmpI ((y * hi:Nat):Int) (x:Nat) = z:=⟨_,rfl⟩
    have hz1:z ≤ 0:=by
     rw [← hz]
     rcases Nat.lt_or_ge (y * hi) x with h1 | h1
     ·rw [cmpI_lt h1]; decide
     ·rw [cmpI_eq (Nat.le_antisymm hle h1)]; decide
    have HZ:=Lib.hid hz
    have hhi2:hi < 4294967296:=guess_lt hle HXY.out
    have HLE:=Lib.hid hle
    have t7:(hi:Int) < 4294967296:=by omega
    have w5:IntKind.u64.wrap ((hi:Int) + (st:Int)) = (hi:Int) + (st:Int):=by rw [IntKind.wrap_u64]; omega
    have w6:IntKind.u64.wrap ((st:Int) * 2) = (st:Int) * 2:=by rw [IntKind.wrap_u64]; omega
    clear hz hle
    go_wp2_with fail
    refine (call_RCmp ho2 hA3 (by omega) (by omega) HZ.out).mono ?_
    rintro e w4 ⟨rfl,hb4⟩
    have hb40:=Gs.Below.tr hb30 hb4
    go_wp2
    refine ⟨⟨hi,hi + st,st * 2,rfl,by go_num,by go_num,by omega,by omega,by omega,HLE,by omega,hhi2,hb40⟩,?_⟩
    simp only [intOf]; omega
   ·have HZ:=Lib.hid (cmpI_gt (x:=y * hi) (y:=x) (by omega))
    obtain ⟨H,hH⟩:∃ H,H = min hi 4294967296:=⟨_,rfl⟩
    have HGT:=Lib.hid (show x < y * H by
     rw [hH,Nat.min_def]
     split
     ·omega
     ·exact HXY.out)
    have hm1:(if (4294967296:Int) < (hi:Int) then (4294967296:Int) else (hi:Int)) = (H:Int):=by split <;> omega
    have hm2:min (hi:Int) (4294967296:Int) = (H:Int):=by omega
    have hm3:(if (4294967296:Nat) < hi then (4294967296:Nat) else hi) = H:=by split <;> omega
    have hH2:H ≤ 4294967296:=by omega
    have hlH:lo < H:=guess_lt hlo.out HGT.out
    clear hle hH
    go_wp2_with fail
    refine (call_RCmp ho2 hA3 (by omega) (by omega) HZ.out).mono ?_
    rintro e w4 ⟨rfl,hb4⟩
    have hb40:=Gs.Below.tr hb30 hb4
    go_wp2
    go_loopw [8,9] (fun lv hv wr2=>∃ (lo2 hi2:Nat),lv = .int .u64 lo2 ∧ hv = .int .u64 hi2 ∧ Hid (y * lo2 ≤ x) ∧ Hid (x < y * hi2) ∧ lo2 < hi2 ∧ hi2 ≤ 4294967296 ∧ Below w.heap.size w wr2) (fun lv hv _=>(intOf hv - intOf lv).toNat)
    case atStart=>exact ⟨lo,H,rfl,rfl,hlo,HGT,hlH,hH2,hb40⟩
    case round =>
     obtain ⟨lo2,hi2,rfl,rfl,hl2,hg2,hlh2,hhi3,hb5⟩:=hrel
     have w7:IntKind.u64.wrap ((hi2:Int) - (lo2:Int)) = (hi2:Int) - (lo2:Int):=by rw [IntKind.wrap_u64]; omega
     by_cases hgo:1 < hi2 - lo2
     ·have t8:(1:Int) < (hi2:Int) - (lo2:Int):=by omega
      obtain ⟨mid,hmid⟩:∃ mid,mid = lo2 + (hi2 - lo2) / 2:=⟨_,rfl⟩
      have w8:IntKind.u64.wrap ((lo2:Int) + ((hi2:Int) - (lo2:Int)) / 2) = (mid:Int):=by rw [IntKind.wrap_u64]; omega
      have hm1:lo2 < mid:=by omega
      have hm2:mid < hi2:=by omega
      have hA1:=hA.below hb5
      have hB1:=hB.below hb5
      clear hmid
      go_wp2_with fail
      refine (ref_Of mid (by omega) _).mono ?_
      rintro e w6 ⟨o3,rfl,ho3,hb6⟩
      have hA2:=hA1.below hb6
      have hB2:=hB1.below hb6
      go_wp2_with fail
      refine (call_RMul hB2 ho3 (by omega) (by decide)).mono ?_
      rintro e w7 ⟨o4,rfl,ho4,hb7⟩
      have hA7:=hA2.below hb7
      have hb70:Below w.heap.size w w7:=Gs.Below.tr hb5 (Gs.Below.tr hb6 hb7)
      clear hA1 hA2 hB1 hB2 ho3 hb5 hb6 hb7
      by_cases hle:y * mid ≤ x
      ·obtain ⟨z,hz⟩:∃ z,cmpI ((y * mid:Nat):Int) (x:Nat) = z:=⟨_,rfl⟩
       have hz1:z ≤ 0:=by
        rw [← hz]
        rcases Nat.lt_or_ge (y * mid) x with h1 | h1
        ·rw [cmpI_lt h1]; decide
        ·rw [cmpI_eq (Nat.le_antisymm hle h1)]; decide
       have HZ2:=Lib.hid hz
       have HLE:=Lib.hid hle
       clear hz hle
       go_wp2_with fail
       refine (call_RCmp ho4 hA7 (by omega) (by omega) HZ2.out).mono ?_
       rintro e w8 ⟨rfl,hb8⟩
       have hb80:=Gs.Below.tr hb70 hb8
       go_wp2
       refine ⟨⟨mid,hi2,rfl,rfl,HLE,hg2,hm2,hhi3,hb80⟩,?_⟩
       simp only [intOf]; omega
      ·have HZ2:=Lib.hid (cmpI_gt (x:=y * mid) (y:=x) (by omega))
       have HG:=Lib.hid (show x < y * mid by omega)
       clear hle
       go_wp2_with fail
       refine (call_RCmp ho4 hA7 (by omega) (by omega) HZ2.out).mono ?_
       rintro e w8 ⟨rfl,hb8⟩
       have hb80:=Gs.Below.tr hb70 hb8
       go_wp2
       refine ⟨⟨lo2,mid,rfl,rfl,hl2,HG,hm1,by omega,hb80⟩,?_⟩
       simp only [intOf]; omega
     ·have hfin:=guess_end hl2.out hg2.out (by omega)
      have t8:¬ (1:Int) < (hi2:Int) - (lo2:Int):=by omega
      have w9:IntKind.u32.wrap (lo2:Int) = (lo2:Int):=by rw [IntKind.wrap_u32]; omega
      have HF:=Lib.hid (hfin.trans HQ.out.symm)
      clear hfin
      go_wp2
      go_ret
      exact ⟨by rw [← HF.out]; rfl,hb5⟩
 ·obtain ⟨ad,e,hca⟩:=htt q' (by omega)
  obtain ⟨ad2,e2,hca2⟩:=htt (q' + 1) (by omega)
  subst e
  injection e2 with e2
  subst e2
  have g1:=h.lt.gd (by omega) q'
  have g2:=h.lt.gd (by omega) (q' + 1)
  obtain ⟨t0,ht0⟩:∃ t0,t0 = gd l q':=⟨_,rfl⟩
  obtain ⟨t1,ht1⟩:∃ t1,t1 = gd l (q' + 1):=⟨_,rfl⟩
  rw [← ht0] at hca g1 htl
  rw [← ht1] at hca2 g2 htl
  have hor:=or_join (q:=t1) (r:=t0) (i:=32) (by omega) (by omega) (by omega)
  rw [show t1 * 2 ^ 32 + t0 = t by omega,show ((t1 * 2 ^ 32:Nat):Int) = (t1:Int) * 4294967296 by omega] at hor
  have hw1:IntKind.u64.wrap ((t1:Int) * 4294967296) = (t1:Int) * 4294967296:=by rw [IntKind.wrap_u64]; omega
  have hw2:IntKind.u64.wrap (t1:Int) = (t1:Int):=by rw [IntKind.wrap_u64]; omega
  have hw3:IntKind.u64.wrap (t0:Int) = (t0:Int):=by rw [IntKind.wrap_u64]; omega
  have s3:IntKind.i64.wrap (((q' + 2:Nat):Int) - 1) = (q':Int) + 1:=by rw [IntWalk.i64_in _ (by omega)]; omega
  have s3':IntKind.i64.wrap ((q':Int) + 2 - 1) = (q':Int) + 1:=by rw [IntWalk.i64_in _ (by omega)]; omega
  have s4:IntKind.i64.wrap (((q' + 2:Nat):Int) - 2) = (q':Int):=by rw [IntWalk.i64_in _ (by omega)]; omega
  have s4':IntKind.i64.wrap ((q':Int) + 2 - 2) = (q':Int):=by rw [IntWalk.i64_in _ (by omega)]; omega
  have hca3:w.cell? ⟨ad.block,ad.off + (q' + 1),none⟩ = some (.int .u32 (t1:Int)):=by rw [← hca2]; unfold Addr.add; rw [if_neg (by omega)]
  clear htl htt hl hm ht0 ht1
  go_enter Tryz.func201,Tryz.ntmps201
  go_wp2
  go_loopw [8,9,10] (fun lv hv sv wr=>∃ (lo hi st:Nat),lv = .int .u64 lo ∧ hv = .int .u64 hi ∧ sv = .int .u64 st ∧ 1 ≤ st ∧ st ≤ hi + 1 ∧ hi ≤ 8589934592 ∧ Hid (y * lo ≤ x) ∧ lo ≤ hi ∧ lo < 4294967296 ∧ Below w.heap.size w wr) (fun _ hv _ _=>8589934600 - (intOf hv).toNat)
  case atStart=>exact ⟨d,d,1,rfl,rfl,rfl,by omega,by omega,by omega,HDY,Nat.le_refl _,hdlt,Below.refl _ _⟩
  case round =>
   obtain ⟨lo,hi,st,rfl,rfl,rfl,hst,hst2,hhi,hlo,hlh,hlo2,hb⟩:=hrel
   have hA1:=hA.below hb
   have hB1:=hB.below hb
   go_wp2_with fail
   refine (ref_Of hi (by omega) _).mono ?_
   rintro e w2 ⟨o1,rfl,ho1,hb2⟩
   have hA2:=hA1.below hb2
   have hB2:=hB1.below hb2
   go_wp2_with fail
   refine (call_RMul hB2 ho1 (by omega) (by decide)).mono ?_
   rintro e w3 ⟨o2,rfl,ho2,hb3⟩
   have hA3:=hA2.below hb3
   have hb30:Below w.heap.size w w3:=Gs.Below.tr hb (Gs.Below.tr hb2 hb3)
   clear hA1 hA2 hB1 hB2 ho1 hb hb2 hb3
   by_cases hle:y * hi ≤ x
   ·obtain ⟨z,hz⟩:∃ z,cmpI ((y * hi:Nat):Int) (x:Nat) = z:=⟨_,rfl⟩
    have hz1:z ≤ 0:=by
     rw [← hz]
     rcases Nat.lt_or_ge (y * hi) x with h1 | h1
     ·rw [cmpI_lt h1]; decide
     ·rw [cmpI_eq (Nat.le_antisymm hle h1)]; decide
    have HZ:=Lib.hid hz
    have hhi2:hi < 4294967296:=guess_lt hle HXY.out
    have HLE:=Lib.hid hle
    have t7:(hi:Int) < 4294967296:=by omega
    have w5:IntKind.u64.wrap ((hi:Int) + (st:Int)) = (hi:Int) + (st:Int):=by rw [IntKind.wrap_u64]; omega
    have w6:IntKind.u64.wrap ((st:Int) * 2) = (st:Int) * 2:=by rw [IntKind.wrap_u64]; omega
    clear hz hle
    go_wp2_with fail
    refine (call_RCmp ho2 hA3 (by omega) (by omega) HZ.out).mono ?_
    rintro e w4 ⟨rfl,hb4⟩
    have hb40:=Gs.Below.tr hb30 hb4
    go_wp2
    refine ⟨⟨hi,hi + st,st * 2,rfl,by go_num,by go_num,by omega,by omega,by omega,HLE,by omega,hhi2,hb40⟩,?_⟩
    simp only [intOf]; omega
   ·have HZ:=Lib.hid (cmpI_gt (x:=y * hi) (y:=x) (by omega))
    obtain ⟨H,hH⟩:∃ H,H = min hi 4294967296:=⟨_,rfl⟩
    have HGT:=Lib.hid (show x < y * H by
     rw [hH,Nat.min_def]
     split
     ·omega
     ·exact HXY.out)
    have hm1:(if (4294967296:Int) < (hi:Int) then (4294967296:Int) else (hi:Int)) = (H:Int):=by split <;> omega
    have hm2:min (hi:Int) (4294967296:Int) = (H:Int):=by omega
    have hm3:(if (4294967296:Nat) < hi then (4294967296:Nat) else hi) = H:=by split <;> omega
    have hH2:H ≤ 4294967296:=by omega
    have hlH:lo < H:=guess_lt hlo.out HGT.out
    clear hle hH
    go_wp2_with fail
    refine (call_RCmp ho2 hA3 (by omega) (by omega) HZ.out).mono ?_
    rintro e w4 ⟨rfl,hb4⟩
    have hb40:=Gs.Below.tr hb30 hb4
    go_wp2
    go_loopw [8,9] (fun lv hv wr2=>∃ (lo2 hi2:Nat),lv = .int .u64 lo2 ∧ hv = .int .u64 hi2 ∧ Hid (y * lo2 ≤ x) ∧ Hid (x < y * hi2) ∧ lo2 < hi2 ∧ hi2 ≤ 4294967296 ∧ Below w.heap.size w wr2) (fun lv hv _=>(intOf hv - intOf lv).toNat)
    case atStart=>exact ⟨lo,H,rfl,rfl,hlo,HGT,hlH,hH2,hb40⟩
    case round =>
     obtain ⟨lo2,hi2,rfl,rfl,hl2,hg2,hlh2,hhi3,hb5⟩:=hrel
     have w7:IntKind.u64.wrap ((hi2:Int) - (lo2:Int)) = (hi2:Int) - (lo2:Int):=by rw [IntKind.wrap_u64]; omega
     by_cases hgo:1 < hi2 - lo2
     ·have t8:(1:Int) < (hi2:Int) - (lo2:Int):=by omega
      obtain ⟨mid,hmid⟩:∃ mid,mid = lo2 + (hi2 - lo2) / 2:=⟨_,rfl⟩
      have w8:IntKind.u64.wrap ((lo2:Int) + ((hi2:Int) - (lo2:Int)) / 2) = (mid:Int):=by rw [IntKind.wrap_u64]; omega
      have hm1:lo2 < mid:=by omega
      have hm2:mid < hi2:=by omega
      have hA1:=hA.below hb5
      have hB1:=hB.below hb5
      clear hmid
      go_wp2_with fail
      refine (ref_Of mid (by omega) _).mono ?_
      rintro e w6 ⟨o3,rfl,ho3,hb6⟩
      have hA2:=hA1.below hb6
      have hB2:=hB1.below hb6
      go_wp2_with fail
      refine (call_RMul hB2 ho3 (by omega) (by decide)).mono ?_
      rintro e w7 ⟨o4,rfl,ho4,hb7⟩
      have hA7:=hA2.below hb7
      have hb70:Below w.heap.size w w7:=Gs.Below.tr hb5 (Gs.Below.tr hb6 hb7)
      clear hA1 hA2 hB1 hB2 ho3 hb5 hb6 hb7
      by_cases hle:y * mid ≤ x
      ·obtain ⟨z,hz⟩:∃ z,cmpI ((y * mid:Nat):Int) (x:Nat) = z:=⟨_,rfl⟩
       have hz1:z ≤ 0:=by
        rw [← hz]
        rcases Nat.lt_or_ge (y * mid) x with h1 | h1
        ·rw [cmpI_lt h1]; decide
        ·rw [cmpI_eq (Nat.le_antisymm hle h1)]; decide
       have HZ2:=Lib.hid hz
       have HLE:=Lib.hid hle
       clear hz hle
       go_wp2_with fail
       refine (call_RCmp ho4 hA7 (by omega) (by omega) HZ2.out).mono ?_
       rintro e w8 ⟨rfl,hb8⟩
       have hb80:=Gs.Below.tr hb70 hb8
       go_wp2
       refine ⟨⟨mid,hi2,rfl,rfl,HLE,hg2,hm2,hhi3,hb80⟩,?_⟩
       simp only [intOf]; omega
      ·have HZ2:=Lib.hid (cmpI_gt (x:=y * mid) (y:=x) (by omega))
       have HG:=Lib.hid (show x < y * mid by omega)
       clear hle
       go_wp2_with fail
       refine (call_RCmp ho4 hA7 (by omega) (by omega) HZ2.out).mono ?_
       rintro e w8 ⟨rfl,hb8⟩
       have hb80:=Gs.Below.tr hb70 hb8
       go_wp2
       refine ⟨⟨lo2,mid,rfl,rfl,hl2,HG,hm1,by omega,hb80⟩,?_⟩
       simp only [intOf]; omega
     ·have hfin:=guess_end hl2.out hg2.out (by omega)
      have t8:¬ (1:Int) < (hi2:Int) - (lo2:Int):=by omega
      have w9:IntKind.u32.wrap (lo2:Int) = (lo2:Int):=by rw [IntKind.wrap_u32]; omega
      have HF:=Lib.hid (hfin.trans HQ.out.symm)
      clear hfin
      go_wp2
      go_ret
      exact ⟨by rw [← HF.out]; rfl,hb5⟩
end Go.Proofs.YtcpgflbfjplheaaGreatDoor
namespace Go.Proofs.YtcpgflbfjplheaaGreatDoor
open Go.RowKit Gs
set_option linter.unusedVariables false
set_option maxRecDepth 100000 in
set_option maxHeartbeats 1000000 in
theorem ref_DivMod_lessF {G:Nat → Prop} {a b:Value} {x y K K':Nat} {w:World} (h:CanF G w a x K) (h':CanR w b y K') (hK:K ≤ 1000000) (hK':K' ≤ 1000000) (hlt:x < y) :
 Calls Tryz.prog 149 #[a,b] w fun e w'=>∃ q r,e = .returned (.agg #[q,r]) ∧ CanF (fun b=>G b ∨ w.heap.size ≤ b) w' q (x / y) K ∧ CanF (fun b=>G b ∨ w.heap.size ≤ b) w' r (x % y) K ∧ Below w.heap.size w w':=by
 have ha:=h.r
 obtain ⟨A,n,c,rfl,hr,hn⟩:=h
 have hal:Below w.heap.size w (w.alloc (.cells #[.slice none 0 0,.slice none 0 0] 217)):=(Below.refl _ w).alloc (Nat.le_refl _) _
 have kc:=call_RCmp (ha.below hal) (h'.below hal) hK hK' (cmpI_lt hlt)
 have KC:=Lib.hid kc
 have HD:=Lib.hid (Nat.div_eq_of_lt hlt)
 have HM:=Lib.hid (Nat.mod_eq_of_lt hlt)
 have hT:(w.alloc (.cells #[.slice none 0 0,.slice none 0 0] 217)).heap[w.heap.size]? = some (.cells #[.slice none 0 0,.slice none 0 0] 217 (0,0)):=heap_alloc_new w _
 have hra:R32 w (fun j=>G j ∧ j < w.heap.size) ⟨A,n,c⟩ (limbs 4294967296 x):=⟨hr.rd.lt,hr.lt⟩
 obtain ⟨W,hW⟩:∃ W,W = w.alloc (.cells #[.slice none 0 0,.slice none 0 0] 217):=⟨_,rfl⟩
 rw [← hW] at hal KC hT
 have hsz:w.heap.size < W.heap.size:=by rw [hW]; simp
 have HW:=Lib.hid hW
 clear kc hlt hr
 go_enter Tryz.func149,Tryz.ntmps149
 go_wp2_with fail
 rw [← hW]
 refine KC.out.mono ?_
 rintro e w1 ⟨rfl,hb1⟩
 have hT1:=(hb1.block _ hsz).trans hT
 obtain ⟨hc0,hc1⟩:=two_at hT1
 have hf0:w1.frozen? ⟨w.heap.size,0,none⟩ = false:=by simp [World.frozen?,hT1]
 have hf1:w1.frozen? ⟨w.heap.size,1,none⟩ = false:=by simp [World.frozen?,hT1]
 have hTT:=fun p q=>two_at (two_cells hT1 p q)
 have hb0:Below w.heap.size w w1:=Gs.Below.then hal hal.size hb1
 have hr2:=hra.below hb0
 have hrs:=fun p q=>R32.store2 hr2 (b:=w.heap.size) (fun j hj=>by omega) p q
 clear hW hr2 hra
 go_wp2
 obtain ⟨QV,hQV⟩:∃ QV,QV = Value.slice none 0 0:=⟨_,rfl⟩
 obtain ⟨RV,hRV⟩:∃ RV,RV = Value.slice A n c:=⟨_,rfl⟩
 have hd0:=(hTT QV RV).1
 have hd1:=(hTT QV RV).2
 have hrs2:=hrs QV RV
 rw [← hQV,← hRV]
 refine bodyPost_ret (v:=.agg #[QV,RV]) (by simp [results,Tryz.f149,go_sem,hd0,hd1]) rfl ?_
 subst hQV hRV
 refine ⟨_,_,rfl,?_,?_,(hb0.setCell (p:=⟨w.heap.size,0,none⟩) (Nat.le_refl _) _).setCell (p:=⟨w.heap.size,1,none⟩) (Nat.le_refl _) _⟩
 ·rw [HD.out]
  exact CanF.nil _ _ _
 ·rw [HM.out]
  exact ⟨A,n,c,rfl,hrs2.mono fun _ hb=>.inl hb.1,hn⟩
theorem CanR.f {w:World} {v:Value} {x K:Nat} (h:CanR w v x K):CanF (fun _=>True) w v x K:=h
set_option maxRecDepth 100000 in
set_option maxHeartbeats 1000000 in
theorem ref_DivMod_oneF {a b:Value} {x y K:Nat} {w:World} (h:CanR w a x K) (h':CanR w b y 1) (hK:K ≤ 1000000) (hy:0 < y) (hle:y ≤ x) :
 Calls Tryz.prog 149 #[a,b] w fun e w'=>∃ q r,e = .returned (.agg #[q,r]) ∧ CanF (fun b=>w.heap.size ≤ b) w' q (x / y) K ∧ CanF (fun b=>w.heap.size ≤ b) w' r (x % y) K ∧ Below w.heap.size w w':=by
 have hy32:y < 4294967296:=by have:=h'.lt; omega
 have hxK:=h.lt
 have hK1:1 ≤ K:=by
  rcases Nat.eq_zero_or_pos K with h0 | h0
  ·subst h0; rw [Nat.pow_zero] at hxK; omega
  ·exact h0
 have ha:=h
 have hb:=h'
 obtain ⟨A,n,c,rfl,hr,hn⟩:=h
 obtain ⟨A',n',c',rfl,hr',hn'⟩:=h'
 have hly:limbs 4294967296 y = [y]:=limbs_eq B32 (Lt.cons hy32 (Lt.nil _)) (by intro x hx; simp at hx; omega) (by simp [val])
 rw [hly] at hr'
 obtain rfl:n' = 1:=hr'.rd.len.symm
 have hal:Below w.heap.size w (w.alloc (.cells #[.slice none 0 0,.slice none 0 0] 217)):=(Below.refl _ w).alloc (Nat.le_refl _) _
 have hzz:∃ z:Int,cmpI (x:Nat) (y:Nat) = z ∧ ¬ z < 0:=⟨_,rfl,by unfold cmpI; rw [if_neg (by omega)]; split <;> omega⟩
 obtain ⟨z,hz,hz0⟩:=hzz
 have kc:=call_RCmp (ha.below hal) (hb.below hal) hK (by decide) hz
 have KC:=Lib.hid kc
 have hT:(w.alloc (.cells #[.slice none 0 0,.slice none 0 0] 217)).heap[w.heap.size]? = some (.cells #[.slice none 0 0,.slice none 0 0] 217 (0,0)):=heap_alloc_new w _
 obtain ⟨W,hW⟩:∃ W,W = w.alloc (.cells #[.slice none 0 0,.slice none 0 0] 217):=⟨_,rfl⟩
 rw [← hW] at hal KC hT
 have hsz:w.heap.size < W.heap.size:=by rw [hW]; simp
 have HXK:=Lib.hid hxK
 clear kc hly ha hb hz hxK
 go_enter Tryz.func149,Tryz.ntmps149
 go_wp2_with fail
 rw [← hW]
 refine KC.out.mono ?_
 rintro e w1 ⟨rfl,hb1⟩
 have hT1:=(hb1.block _ hsz).trans hT
 have hb0:Below w.heap.size w w1:=Gs.Below.then hal hal.size hb1
 obtain ⟨ad,e,hcy⟩:=(hr'.below hb0).rd.at 0 (by show 0 < 1; omega)
 simp only at e
 subst e
 rw [show ad.add 0 = ad by unfold Addr.add; rw [if_pos rfl],show gd [y] 0 = y from rfl] at hcy
 have hr1:=hr.below hb0
 have hsz1:w.heap.size < w1.heap.size:=Nat.lt_of_lt_of_le hsz hb1.size
 have ks:=ref_short_new hr1 (by omega) hy hy32
 have KS:=Lib.hid ks
 clear hW ks hr hr'
 go_wp2_with fail
 refine KS.out.mono ?_
 rintro e w2 ⟨Aq,nq,cq,Ar,nr,cr,rfl,hq,hrr,hb2⟩
 have hT2:=(hb2.block _ hsz1).trans hT1
 obtain ⟨hc0,hc1⟩:=two_at hT2
 have hf0:w2.frozen? ⟨w.heap.size,0,none⟩ = false:=by simp [World.frozen?,hT2]
 have hf1:w2.frozen? ⟨w.heap.size,1,none⟩ = false:=by simp [World.frozen?,hT2]
 have hTT:=fun p q=>two_at (two_cells hT2 p q)
 have hqs:=fun p q=>R32.store2 hq (b:=w.heap.size) (fun j hj=>by omega) p q
 have hrs:=fun p q=>R32.store2 hrr (b:=w.heap.size) (fun j hj=>by omega) p q
 have hb20:Below w.heap.size w w2:=Gs.Below.then hb0 hb0.size hb2
 clear hq hrr
 go_wp2
 obtain ⟨QV,hQV⟩:∃ QV,QV = Value.slice Aq nq cq:=⟨_,rfl⟩
 obtain ⟨RV,hRV⟩:∃ RV,RV = Value.slice Ar nr cr:=⟨_,rfl⟩
 have hd0:=(hTT QV RV).1
 have hd1:=(hTT QV RV).2
 have hqs2:=hqs QV RV
 have hrs2:=hrs QV RV
 rw [← hQV,← hRV]
 refine bodyPost_ret (v:=.agg #[QV,RV]) (by simp [results,Tryz.f149,go_sem,hd0,hd1]) rfl ?_
 subst hQV hRV
 refine ⟨_,_,rfl,?_,?_,(hb20.setCell (p:=⟨w.heap.size,0,none⟩) (Nat.le_refl _) _).setCell (p:=⟨w.heap.size,1,none⟩) (Nat.le_refl _) _⟩
 ·exact CanF.of (hqs2.mono fun b hb=>Nat.le_trans hb0.size (Nat.le_of_lt hb)) (Nat.lt_of_le_of_lt (Nat.div_le_self _ _) HXK.out)
 ·exact CanF.of (hrs2.mono fun b hb=>Nat.le_trans hb0.size (Nat.le_of_lt hb)) (Nat.lt_of_le_of_lt (Nat.mod_le _ _) HXK.out)
end Go.Proofs.YtcpgflbfjplheaaGreatDoor
namespace Go.Proofs.YtcpgflbfjplheaaGreatDoor
open Go.RowKit Gs
set_option linter.unusedVariables false
set_option maxRecDepth 100000 in
set_option maxHeartbeats 8000000 in
theorem ref_DivMod_longF {A n c A' n' c'} {x y N:Nat} {P P'} {w:World} (h:R32 w P ⟨A,n,c⟩ (limbs 4294967296 x)) (h':R32 w P' ⟨A',n',c'⟩ (limbs 4294967296 y)) (hn:n ≤ 1000) (hN:n' ≤ N) (hN2:N ≤ 1000) (hn2:2 ≤ n') (hle:y ≤ x) :
 Calls Tryz.prog 149 #[.slice A n c,.slice A' n' c'] w fun e w'=>∃ q r,e = .returned (.agg #[q,r]) ∧ CanF (fun b=>w.heap.size ≤ b) w' q (x / y) n ∧ CanF (fun b=>w.heap.size ≤ b) w' r (x % y) N ∧ Below w.heap.size w w':=by
 have hl:(limbs 4294967296 x).length = n:=h.rd.len
 have hm:(limbs 4294967296 y).length = n':=h'.rd.len
 have hx:=val_limbs B32 x
 have hyN:y < 4294967296 ^ N:=lt_of_limbs_len B32 (by omega)
 have hy0:0 < y:=by
  rcases Nat.eq_zero_or_pos y with h0 | h0
  ·rw [h0] at hm; simp [limbs_zero] at hm; omega
  ·exact h0
 have haA:CanR w (.slice A n c) x n:=⟨A,n,c,rfl,h.mono fun _ _=>trivial,Nat.le_refl _⟩
 have hbB:CanR w (.slice A' n' c') y N:=⟨A',n',c',rfl,h'.mono fun _ _=>trivial,hN⟩
 have hbR:R32 w (fun j=>True) ⟨A',n',c'⟩ (limbs 4294967296 y):=h'.mono fun _ _=>trivial
 have hal:Below w.heap.size w (w.alloc (.cells #[.slice none 0 0,.slice none 0 0] 217)):=(Below.refl _ w).alloc (Nat.le_refl _) _
 obtain ⟨z,hz,hz0⟩:∃ z:Int,cmpI (x:Nat) (y:Nat) = z ∧ ¬ z < 0:=⟨_,rfl,by unfold cmpI; rw [if_neg (by omega)]; split <;> omega⟩
 have kc:=call_RCmp (haA.below hal) (hbB.below hal) (by omega) (by omega) hz
 have KC:=Lib.hid kc
 have hT:(w.alloc (.cells #[.slice none 0 0,.slice none 0 0] 217)).heap[w.heap.size]? = some (.cells #[.slice none 0 0,.slice none 0 0] 217 (0,0)):=heap_alloc_new w _
 obtain ⟨W,hW⟩:∃ W,W = w.alloc (.cells #[.slice none 0 0,.slice none 0 0] 217):=⟨_,rfl⟩
 rw [← hW] at hal KC hT
 have hsz:w.heap.size < W.heap.size:=by rw [hW]; simp
 obtain ⟨l,hl0⟩:∃ l,l = limbs 4294967296 x:=⟨_,rfl⟩
 rw [← hl0] at h hl hx
 have HX:=Lib.hid hx
 have HL:=Lib.hid hl
 have HYN:=Lib.hid hyN
 have km:=make_num (P:=Tryz.prog) 38 194 .u32 4 Tryz.underlying38 info_u32 (by decide) n (by omega)
 have s0:IntKind.i64.wrap ((n:Int) - 1) = (n:Int) - 1:=IntWalk.i64_in _ (by omega)
 have tn:((n':Int) == 1) = false:=by rw [beq_eq_false_iff_ne]; omega
 have tn2:¬ (n':Int) = 1:=by omega
 clear kc hz hl0 hl hm hx hyN
 go_enter Tryz.func149,Tryz.ntmps149
 go_wp2_with fail
 rw [← hW]
 refine KC.out.mono ?_
 rintro e w1 ⟨rfl,hb1⟩
 have hT1:=(hb1.block _ hsz).trans hT
 have hbw1:Below w.heap.size w w1:=Gs.Below.then hal hal.size hb1
 have hsz1:w.heap.size < w1.heap.size:=Nat.lt_of_lt_of_le hsz hb1.size
 clear hW hal hT hsz hb1
 go_wp2
 obtain ⟨W2,hW2⟩:∃ W2,W2 = w1.alloc (.cells (nums .u32 (List.replicate n 0)).toArray 194):=⟨_,rfl⟩
 rw [← hW2]
 have hO2:OwnN .u32 W2 w1.heap.size 194 ⟨some ⟨w1.heap.size,0,none⟩,n,n⟩ (List.replicate n 0):=by
  rw [hW2]
  have:=OwnN.made .u32 w1 w1.heap.size 194 (List.replicate n 0) (Nat.le_refl _) (by simp; omega)
  simpa using this
 have hT2:W2.heap[w.heap.size]? = some (.cells #[.slice none 0 0,.slice none 0 0] 217 (0,0)):=by rw [hW2]; exact (Below.heap_alloc _ _ _ hsz1).trans hT1
 have hb2:Below w.heap.size w W2:=by rw [hW2]; exact hbw1.alloc hbw1.size _
 have hsz2:w1.heap.size < W2.heap.size:=by rw [hW2]; simp
 clear hW2 km hT1 hbw1
 go_loopw [6,7] (fun rv iv wr=>∃ (i r:Nat) (o:List Nat) (Ar:Option Addr) (nr cr:Nat),i ≤ n ∧ iv = .int .i64 ((i:Int) - 1) ∧ rv = .slice Ar nr cr ∧ R32 wr (fun j=>w1.heap.size < j) ⟨Ar,nr,cr⟩ (limbs 4294967296 r) ∧ Hid (RShort l y i r o) ∧ Hid (∀ k,k < i → gd o k = 0) ∧ OwnN .u32 wr w1.heap.size 194 ⟨some ⟨w1.heap.size,0,none⟩,n,n⟩ o ∧ wr.heap[w.heap.size]? = some (.cells #[.slice none 0 0,.slice none 0 0] 217 (0,0)) ∧ w.heap.size < wr.heap.size ∧ w1.heap.size < wr.heap.size ∧ Below w.heap.size w wr) (fun _ iv _=>(intOf iv + 1).toNat)
 case atStart =>
  refine ⟨n,0,List.replicate n 0,none,0,0,Nat.le_refl _,rfl,rfl,⟨RdN.nil _ _ _ 0 (by omega) _,Lt.nil _⟩,Lib.hid ?_,Lib.hid (fun k _=>gd_replicate _ k),hO2,hT2,by omega,hsz2,hb2⟩
  have:=RShort.start l hy0
  rwa [HL.out] at this
 case round =>
  obtain ⟨i,r,o,Ar,nr,cr,hi,rfl,rfl,hr,hinv,hzer,hown,hT,hszr,hszr2,hb⟩:=hrel
  clear hO2 hT2 hb2 hsz2
  cases i with
  | zero =>
   obtain ⟨hq,hrr⟩:=hinv.out.last
   rw [HX.out] at hq hrr
   have hrd:R32 wr (fun j=>w1.heap.size ≤ j) ⟨some ⟨w1.heap.size,0,none⟩,n,n⟩ o:=⟨hown.rd,hinv.out.lt⟩
   have hqt:=hrd.trim
   rw [hq] at hqt
   rw [hrr] at hr
   have HQ:=Lib.hid hqt
   have HR:=Lib.hid hr
   clear hq hrr hqt hr
   obtain ⟨hc0,hc1⟩:=two_at hT
   have hf0:wr.frozen? ⟨w.heap.size,0,none⟩ = false:=by simp [World.frozen?,hT]
   have hf1:wr.frozen? ⟨w.heap.size,1,none⟩ = false:=by simp [World.frozen?,hT]
   have hTT:=fun p q=>two_at (two_cells hT p q)
   have hqs:=fun p q=>R32.store2 HQ.out (b:=w.heap.size) (fun j hj=>by omega) p q
   have hrs:=fun p q=>R32.store2 HR.out (b:=w.heap.size) (fun j hj=>by omega) p q
   go_wp2_with fail
   refine (ref_trim hrd (by omega)).mono ?_
   rintro e w6 ⟨rfl,rfl⟩
   go_wp2
   obtain ⟨QV,hQV⟩:∃ QV,QV = Value.slice (some ⟨w1.heap.size,0,none⟩) (nl2 o) n:=⟨_,rfl⟩
   obtain ⟨RV,hRV⟩:∃ RV,RV = Value.slice Ar nr cr:=⟨_,rfl⟩
   have hd0:=(hTT QV RV).1
   have hd1:=(hTT QV RV).2
   have hqs2:=hqs QV RV
   have hrs2:=hrs QV RV
   rw [← hQV,← hRV]
   refine bodyPost_ret (v:=.agg #[QV,RV]) (by simp [results,Tryz.f149,go_sem,hd0,hd1]) rfl ?_
   subst hQV hRV
   have hxn:x < 4294967296 ^ n:=by rw [← HX.out,← HL.out]; exact val_lt h.lt
   exact ⟨_,_,rfl,CanF.of (hqs2.mono fun b hb=>by omega) (Nat.lt_of_le_of_lt (Nat.div_le_self _ _) hxn),CanF.of (hrs2.mono fun b hb=>by omega) (Nat.lt_trans (Nat.mod_lt _ hy0) HYN.out),(hb.setCell (p:=⟨w.heap.size,0,none⟩) (Nat.le_refl _) _).setCell (p:=⟨w.heap.size,1,none⟩) (Nat.le_refl _) _⟩
  | succ j =>
   have e2:((j + 1:Nat):Int) - 1 = (j:Int):=by omega
   rw [e2]
   have sj:IntKind.i64.wrap ((j:Int) - 1) = (j:Int) - 1:=IntWalk.i64_in _ (by omega)
   obtain ⟨ad,e,hc⟩:=(h.rd.below hb).at j (by show j < n; omega)
   simp only at e
   subst e
   have hst:=hinv.out.stepY h.lt (by rw [HL.out]; omega)
   have ha0:=h.lt.gd (by omega) j
   have hry:=hinv.out.rl
   obtain ⟨a0,hA0⟩:∃ a0,a0 = gd l j:=⟨_,rfl⟩
   rw [← hA0] at hc ha0 hst
   obtain ⟨X',hX'⟩:∃ X',X' = r * 4294967296 + a0:=⟨_,rfl⟩
   rw [← hX'] at hst
   have HXX:=Lib.hid hX'
   have hnr:=hr.rd.len
   simp only at hnr
   have hnr2:(limbs 4294967296 r).length = nr:=hnr
   have hnrN:nr ≤ N:=by rw [← hnr]; exact limbs_len_le B32 (Nat.lt_trans hry HYN.out)
   have HXN:=Lib.hid (show X' < 4294967296 ^ (N + 1) by
    rw [hX',Nat.pow_succ]
    have h1:(r + 1) * 4294967296 ≤ 4294967296 ^ N * 4294967296:=Nat.mul_le_mul_right _ (Nat.lt_trans hry HYN.out)
    omega)
   have tj:j < n:=by omega
   clear hA0 hX'
   cases Ar with
   | none =>
    obtain rfl:nr = 0:=by
     rcases Nat.eq_zero_or_pos nr with h1 | h1
     ·exact h1
     ·obtain ⟨ad0,e0,_⟩:=hr.rd.cells h1
      cases e0
    have hown1:OwnN .u32 (wr.alloc (.cells (nums .u32 [a0]).toArray 194)) wr.heap.size 194 ⟨some ⟨wr.heap.size,0,none⟩,1,1⟩ (a0 :: limbs 4294967296 r):=by
     rw [List.length_eq_zero_iff.1 hnr]
     exact OwnN.made .u32 wr wr.heap.size 194 [a0] (Nat.le_refl _) (by simp)
    have hb1:Below wr.heap.size wr (wr.alloc (.cells (nums .u32 [a0]).toArray 194)):=(Below.refl _ wr).alloc (Nat.le_refl _) _
    obtain ⟨v1,hv1⟩:∃ v1:Sl,v1 = ⟨some ⟨wr.heap.size,0,none⟩,1,1⟩:=⟨_,rfl⟩
    obtain ⟨w5,hw5⟩:∃ w5,w5 = wr.alloc (.cells (nums .u32 [a0]).toArray 194):=⟨_,rfl⟩
    rw [← hv1,← hw5] at hown1
    rw [← hw5] at hb1
    have HV1:=Lib.hid hv1
    have HW5:=Lib.hid hw5
    have hgoal:∀ R,Calls Tryz.prog 147 #[.slice v1.A v1.n v1.c] w5 R → Calls Tryz.prog 147 #[.slice (some ⟨wr.heap.size,0,none⟩) 1 1] (wr.alloc (.cells (nums .u32 [a0]).toArray 194)) R:=by
     intro R hR
     rw [hv1,hw5] at hR
     exact hR
    clear hv1 hw5
    go_wp2_with fail
    refine hgoal _ ?_
    clear hgoal
    have hval:val 4294967296 (a0 :: limbs 4294967296 r) = X':=by rw [val_cons,val_limbs B32]; have:=HXX.out; omega
    have hrd:R32 w5 (fun j=>wr.heap.size ≤ j) v1 (a0 :: limbs 4294967296 r):=⟨hown1.rd,Lt.cons ha0 (limbs_lt B32 r)⟩
    have hv1n:=hown1.len
    have hvn:v1.n ≤ 281474976710656:=by rw [← hv1n,List.length_cons,hnr2]; omega
    have hrt:=hrd.trim
    rw [hval] at hrt
    have HRT:=Lib.hid hrt
    clear hrt hval hv1n
    refine (ref_trim hrd hvn).mono ?_
    rintro e w6 ⟨rfl,rfl⟩
    have hX5:CanR w5 (.slice v1.A (nl2 (a0 :: limbs 4294967296 r)) v1.c) X' (N + 1):=CanR.of HRT.out HXN.out
    have hb5:Below w.heap.size w w5:=Gs.Below.then hb hb.size hb1
    have hB5:=hbB.below hb5
    have hown5:=hown.below hb1
    have hT5:=(hb1.block _ hszr).trans hT
    have hsz5:w1.heap.size < w5.heap.size:=Nat.lt_of_lt_of_le hszr2 hb1.size
    by_cases hlt:X' < y
    ·have hq0:X' / y = 0:=Nat.div_eq_of_lt hlt
     have hm0:X' % y = X':=Nat.mod_eq_of_lt hlt
     have HZ:=Lib.hid (cmpI_lt hlt)
     have hst2:=hst
     rw [hq0,hm0,set_same (by have:=hown.len; simp only at this; omega) (hzer.out j (by omega))] at hst2
     have HST:=Lib.hid hst2
     clear hst2 hst hq0 hm0 hlt
     go_wp2_with fail
     refine (call_RCmp hX5 hB5 (by omega) (by omega) HZ.out).mono ?_
     rintro e w7 ⟨rfl,hb7⟩
     have hr7:=HRT.out.below hb7
     have hown7:=hown5.below hb7
     have hT7:=(hb7.block _ (by omega)).trans hT5
     have hs7:=hb7.size
     have hbs7:=hb1.size
     go_wp2
     refine ⟨⟨j,X',o,v1.A,_,v1.c,by omega,rfl,rfl,hr7.mono (fun b hb=>by omega),HST,Lib.hid (fun k hk=>hzer.out k (by omega)),hown7,hT7,by omega,by omega,Gs.Below.then hb5 hb5.size hb7⟩,?_⟩
     simp only [intOf]; omega
    ·have hge:y ≤ X':=by omega
     obtain ⟨z,hz,hz0⟩:∃ z:Int,cmpI (X':Nat) (y:Nat) = z ∧ ¬ z < 0:=⟨_,rfl,by unfold cmpI; rw [if_neg (by omega)]; split <;> omega⟩
     have HZ:=Lib.hid hz
     have hXy:X' < y * 4294967296:=by
      have h1:=HXX.out
      have h2:(r + 1) * 4294967296 ≤ y * 4294967296:=Nat.mul_le_mul_right _ hry
      omega
     have HGE:=Lib.hid hge
     have HXY:=Lib.hid hXy
     clear hz hlt hge hXy
     go_wp2_with fail
     refine (call_RCmp hX5 hB5 (by omega) (by omega) HZ.out).mono ?_
     rintro e w7 ⟨rfl,hb7⟩
     have hr7:=HRT.out.below hb7
     have hown7:=hown5.below hb7
     have hT7:=(hb7.block _ (by omega)).trans hT5
     have hb70:Below w.heap.size w w7:=Gs.Below.then hb5 hb5.size hb7
     have hB7:=hbR.below hb70
     have hs7:=hb7.size
     have hs1:=hb1.size
     have hnlX:=hr7.rd.len
     simp only at hnlX
     have hnl:nl2 (a0 :: limbs 4294967296 r) ≤ N + 1:=by rw [← hnlX]; exact limbs_len_le B32 HXN.out
     clear hnlX
     go_wp2_with fail
     refine (ref_guess hr7 hB7 (by omega) HGE.out HXY.out (by omega)).mono ?_
     rintro e w8 ⟨rfl,hb8⟩
     have hr8:=hr7.below hb8
     have hown8:=hown7.below hb8
     have hT8:=(hb8.block _ (by omega)).trans hT7
     have hb80:Below w.heap.size w w8:=Gs.Below.then hb70 hb70.size hb8
     have hs8:=hb8.size
     obtain ⟨d,hd⟩:∃ d,d = X' / y:=⟨_,rfl⟩
     rw [← hd] at hst ⊢
     have hdlt:d < 4294967296:=by
      rw [hd,Nat.div_lt_iff_lt_mul hy0,Nat.mul_comm]
      exact HXY.out
     have hd1:1 ≤ d:=by rw [hd]; exact (Nat.one_le_div_iff hy0).2 HGE.out
     have hdm:X' - y * d = X' % y:=by
      have:=Nat.div_add_mod X' y
      rw [hd]
      omega
     have hdle:y * d ≤ X':=by rw [hd]; exact Nat.mul_div_le X' y
     obtain ⟨hco,hfo⟩:=hown8.at j (by omega)
     have hown9:=hown8.store j d
     have hb90:Below w.heap.size w (w8.setCell ⟨w1.heap.size,j,none⟩ (.int .u32 (d:Int))):=hb80.setCell (p:=⟨w1.heap.size,j,none⟩) (by simp; omega) _
     have hr9:R32 (w8.setCell ⟨w1.heap.size,j,none⟩ (.int .u32 (d:Int))) (fun j=>wr.heap.size ≤ j) ⟨v1.A,nl2 (a0 :: limbs 4294967296 r),v1.c⟩ (limbs 4294967296 X'):=⟨hr8.rd.keep fun b hb _=>set_heap _ (by simp; omega),hr8.lt⟩
     have hT9:(w8.setCell ⟨w1.heap.size,j,none⟩ (.int .u32 (d:Int))).heap[w.heap.size]? = some (.cells #[.slice none 0 0,.slice none 0 0] 217 (0,0)):=(set_heap _ (by simp; omega)).trans hT8
     have hsz9:(w8.setCell ⟨w1.heap.size,j,none⟩ (.int .u32 (d:Int))).heap.size = w8.heap.size:=by simp
     obtain ⟨W9,hW9⟩:∃ W9,W9 = w8.setCell ⟨w1.heap.size,j,none⟩ (.int .u32 (d:Int)):=⟨_,rfl⟩
     rw [← hW9] at hown9 hb90 hr9 hT9 hsz9
     have hld:limbs 4294967296 d = [d]:=limbs_eq B32 (Lt.cons hdlt (Lt.nil _)) (by intro x hx; simp at hx; omega) (by simp [val])
     have hDD:CanR (W9.alloc (.cells (nums .u32 [d]).toArray 194)) (.slice (some ⟨W9.heap.size,0,none⟩) 1 1) d 1 :=
      ⟨_,_,_,rfl,by rw [hld]; exact ⟨(OwnN.made .u32 W9 0 194 [d] (Nat.zero_le _) (by simp)).rd.mono (fun _ _=>trivial),Lt.cons hdlt (Lt.nil _)⟩,Nat.le_refl _⟩
     rw [hsz9] at hDD
     have hal9:Below W9.heap.size W9 (W9.alloc (.cells (nums .u32 [d]).toArray 194)):=(Below.refl _ W9).alloc (Nat.le_refl _) _
     have hB9:=(hbB.below hb90).below hal9
     have HDM:=Lib.hid hdm
     have HDL:=Lib.hid hdle
     have HST:=Lib.hid hst
     have hwd:IntKind.u32.wrap (d:Int) = (d:Int):=by rw [IntKind.wrap_u32]; omega
     have HW9:=Lib.hid hW9
     clear hst hd hdm hdle hld hr8 hown8 hT8 hb80 hr7 hown7 hT7 hb70 hB7 hW9
     go_wp2_with fail
     rw [← HW9.out]
     refine (call_RMul hB9 hDD (by omega) (by decide)).mono ?_
     rintro e w10 ⟨m1,rfl,hm1,hb10⟩
     have hb10':Below W9.heap.size W9 w10:=Gs.Below.un hb10
     have hr10:=hr9.below hb10'
     have hown10:=hown9.below hb10'
     have hT10:=(hb10'.block _ (by omega)).trans hT9
     have hs10:=hb10'.size
     obtain ⟨Am,nm,cm,rfl,hmm,hnm⟩:=hm1
     have hb100:Below w.heap.size w w10:=Gs.Below.then hb90 hb90.size hb10'
     clear hr9 hown9 hT9 hb10 hb10' hDD hB9 hal9
     go_wp2_with fail
     refine (ref_Sub hr10 hmm (by omega) HDL.out).mono ?_
     rintro e w11 ⟨As,ns,cs,rfl,hs,hb11⟩
     rw [HDM.out] at hs
     have hown11:=hown10.below hb11
     have hT11:=(hb11.block _ (by omega)).trans hT10
     have hs11:=hb11.size
     go_wp2
     refine ⟨⟨j,X' % y,o.set j d,As,ns,cs,by omega,rfl,rfl,hs.mono (fun b hb=>by omega),HST,Lib.hid (fun k hk=>by rw [gd_set_ne (by omega)]; exact hzer.out k (by omega)),hown11,hT11,by omega,by omega,Gs.Below.then hb100 hb100.size hb11⟩,?_⟩
     simp only [intOf]; omega
   | some adr =>
    go_wp2_with (at_builtin; refine appendN (w0:=wr) wr.heap.size rfl (.tmp 37) (.tmp 38) 38 194 .u32 4 rfl Tryz.underlying38 info_u32 (by decide) ⟨some ⟨wr.heap.size,0,none⟩,1,1⟩ [a0] adr nr cr (limbs 4294967296 r) rfl rfl (OwnN.made .u32 wr wr.heap.size 194 [a0] (Nat.le_refl _) (by simp)) (hr.rd.below ((Below.refl _ wr).alloc (Nat.le_refl _) _)) ((Below.refl _ wr).alloc (Nat.le_refl _) _) (by simp) (by simp; omega) ?_; intro v1 w5 hown1 hb1)
    rw [List.singleton_append] at hown1
    have hval:val 4294967296 (a0 :: limbs 4294967296 r) = X':=by rw [val_cons,val_limbs B32]; have:=HXX.out; omega
    have hrd:R32 w5 (fun j=>wr.heap.size ≤ j) v1 (a0 :: limbs 4294967296 r):=⟨hown1.rd,Lt.cons ha0 (limbs_lt B32 r)⟩
    have hv1n:=hown1.len
    have hvn:v1.n ≤ 281474976710656:=by rw [← hv1n,List.length_cons,hnr2]; omega
    have hrt:=hrd.trim
    rw [hval] at hrt
    have HRT:=Lib.hid hrt
    clear hrt hval hv1n
    refine (ref_trim hrd hvn).mono ?_
    rintro e w6 ⟨rfl,rfl⟩
    have hX5:CanR w5 (.slice v1.A (nl2 (a0 :: limbs 4294967296 r)) v1.c) X' (N + 1):=CanR.of HRT.out HXN.out
    have hb5:Below w.heap.size w w5:=Gs.Below.then hb hb.size hb1
    have hB5:=hbB.below hb5
    have hown5:=hown.below hb1
    have hT5:=(hb1.block _ hszr).trans hT
    have hsz5:w1.heap.size < w5.heap.size:=Nat.lt_of_lt_of_le hszr2 hb1.size
    by_cases hlt:X' < y
    ·have hq0:X' / y = 0:=Nat.div_eq_of_lt hlt
     have hm0:X' % y = X':=Nat.mod_eq_of_lt hlt
     have HZ:=Lib.hid (cmpI_lt hlt)
     have hst2:=hst
     rw [hq0,hm0,set_same (by have:=hown.len; simp only at this; omega) (hzer.out j (by omega))] at hst2
     have HST:=Lib.hid hst2
     clear hst2 hst hq0 hm0 hlt
     go_wp2_with fail
     refine (call_RCmp hX5 hB5 (by omega) (by omega) HZ.out).mono ?_
     rintro e w7 ⟨rfl,hb7⟩
     have hr7:=HRT.out.below hb7
     have hown7:=hown5.below hb7
     have hT7:=(hb7.block _ (by omega)).trans hT5
     have hs7:=hb7.size
     have hbs7:=hb1.size
     go_wp2
     refine ⟨⟨j,X',o,v1.A,_,v1.c,by omega,rfl,rfl,hr7.mono (fun b hb=>by omega),HST,Lib.hid (fun k hk=>hzer.out k (by omega)),hown7,hT7,by omega,by omega,Gs.Below.then hb5 hb5.size hb7⟩,?_⟩
     simp only [intOf]; omega
    ·have hge:y ≤ X':=by omega
     obtain ⟨z,hz,hz0⟩:∃ z:Int,cmpI (X':Nat) (y:Nat) = z ∧ ¬ z < 0:=⟨_,rfl,by unfold cmpI; rw [if_neg (by omega)]; split <;> omega⟩
     have HZ:=Lib.hid hz
     have hXy:X' < y * 4294967296:=by
      have h1:=HXX.out
      have h2:(r + 1) * 4294967296 ≤ y * 4294967296:=Nat.mul_le_mul_right _ hry
      omega
     have HGE:=Lib.hid hge
     have HXY:=Lib.hid hXy
     clear hz hlt hge hXy
     go_wp2_with fail
     refine (call_RCmp hX5 hB5 (by omega) (by omega) HZ.out).mono ?_
     rintro e w7 ⟨rfl,hb7⟩
     have hr7:=HRT.out.below hb7
     have hown7:=hown5.below hb7
     have hT7:=(hb7.block _ (by omega)).trans hT5
     have hb70:Below w.heap.size w w7:=Gs.Below.then hb5 hb5.size hb7
     have hB7:=hbR.below hb70
     have hs7:=hb7.size
     have hs1:=hb1.size
     have hnlX:=hr7.rd.len
     simp only at hnlX
     have hnl:nl2 (a0 :: limbs 4294967296 r) ≤ N + 1:=by rw [← hnlX]; exact limbs_len_le B32 HXN.out
     clear hnlX
     go_wp2_with fail
     refine (ref_guess hr7 hB7 (by omega) HGE.out HXY.out (by omega)).mono ?_
     rintro e w8 ⟨rfl,hb8⟩
     have hr8:=hr7.below hb8
     have hown8:=hown7.below hb8
     have hT8:=(hb8.block _ (by omega)).trans hT7
     have hb80:Below w.heap.size w w8:=Gs.Below.then hb70 hb70.size hb8
     have hs8:=hb8.size
     obtain ⟨d,hd⟩:∃ d,d = X' / y:=⟨_,rfl⟩
     rw [← hd] at hst ⊢
     have hdlt:d < 4294967296:=by
      rw [hd,Nat.div_lt_iff_lt_mul hy0,Nat.mul_comm]
      exact HXY.out
     have hd1:1 ≤ d:=by rw [hd]; exact (Nat.one_le_div_iff hy0).2 HGE.out
     have hdm:X' - y * d = X' % y:=by
      have:=Nat.div_add_mod X' y
      rw [hd]
      omega
     have hdle:y * d ≤ X':=by rw [hd]; exact Nat.mul_div_le X' y
     obtain ⟨hco,hfo⟩:=hown8.at j (by omega)
     have hown9:=hown8.store j d
     have hb90:Below w.heap.size w (w8.setCell ⟨w1.heap.size,j,none⟩ (.int .u32 (d:Int))):=hb80.setCell (p:=⟨w1.heap.size,j,none⟩) (by simp; omega) _
     have hr9:R32 (w8.setCell ⟨w1.heap.size,j,none⟩ (.int .u32 (d:Int))) (fun j=>wr.heap.size ≤ j) ⟨v1.A,nl2 (a0 :: limbs 4294967296 r),v1.c⟩ (limbs 4294967296 X'):=⟨hr8.rd.keep fun b hb _=>set_heap _ (by simp; omega),hr8.lt⟩
     have hT9:(w8.setCell ⟨w1.heap.size,j,none⟩ (.int .u32 (d:Int))).heap[w.heap.size]? = some (.cells #[.slice none 0 0,.slice none 0 0] 217 (0,0)):=(set_heap _ (by simp; omega)).trans hT8
     have hsz9:(w8.setCell ⟨w1.heap.size,j,none⟩ (.int .u32 (d:Int))).heap.size = w8.heap.size:=by simp
     obtain ⟨W9,hW9⟩:∃ W9,W9 = w8.setCell ⟨w1.heap.size,j,none⟩ (.int .u32 (d:Int)):=⟨_,rfl⟩
     rw [← hW9] at hown9 hb90 hr9 hT9 hsz9
     have hld:limbs 4294967296 d = [d]:=limbs_eq B32 (Lt.cons hdlt (Lt.nil _)) (by intro x hx; simp at hx; omega) (by simp [val])
     have hDD:CanR (W9.alloc (.cells (nums .u32 [d]).toArray 194)) (.slice (some ⟨W9.heap.size,0,none⟩) 1 1) d 1 :=
      ⟨_,_,_,rfl,by rw [hld]; exact ⟨(OwnN.made .u32 W9 0 194 [d] (Nat.zero_le _) (by simp)).rd.mono (fun _ _=>trivial),Lt.cons hdlt (Lt.nil _)⟩,Nat.le_refl _⟩
     rw [hsz9] at hDD
     have hal9:Below W9.heap.size W9 (W9.alloc (.cells (nums .u32 [d]).toArray 194)):=(Below.refl _ W9).alloc (Nat.le_refl _) _
     have hB9:=(hbB.below hb90).below hal9
     have HDM:=Lib.hid hdm
     have HDL:=Lib.hid hdle
     have HST:=Lib.hid hst
     have hwd:IntKind.u32.wrap (d:Int) = (d:Int):=by rw [IntKind.wrap_u32]; omega
     have HW9:=Lib.hid hW9
     clear hst hd hdm hdle hld hr8 hown8 hT8 hb80 hr7 hown7 hT7 hb70 hB7 hW9
     go_wp2_with fail
     rw [← HW9.out]
     refine (call_RMul hB9 hDD (by omega) (by decide)).mono ?_
     rintro e w10 ⟨m1,rfl,hm1,hb10⟩
     have hb10':Below W9.heap.size W9 w10:=Gs.Below.un hb10
     have hr10:=hr9.below hb10'
     have hown10:=hown9.below hb10'
     have hT10:=(hb10'.block _ (by omega)).trans hT9
     have hs10:=hb10'.size
     obtain ⟨Am,nm,cm,rfl,hmm,hnm⟩:=hm1
     have hb100:Below w.heap.size w w10:=Gs.Below.then hb90 hb90.size hb10'
     clear hr9 hown9 hT9 hb10 hb10' hDD hB9 hal9
     go_wp2_with fail
     refine (ref_Sub hr10 hmm (by omega) HDL.out).mono ?_
     rintro e w11 ⟨As,ns,cs,rfl,hs,hb11⟩
     rw [HDM.out] at hs
     have hown11:=hown10.below hb11
     have hT11:=(hb11.block _ (by omega)).trans hT10
     have hs11:=hb11.size
     go_wp2
     refine ⟨⟨j,X' % y,o.set j d,As,ns,cs,by omega,rfl,rfl,hs.mono (fun b hb=>by omega),HST,Lib.hid (fun k hk=>by rw [gd_set_ne (by omega)]; exact hzer.out k (by omega)),hown11,hT11,by omega,by omega,Gs.Below.then hb100 hb100.size hb11⟩,?_⟩
     simp only [intOf]; omega
end Go.Proofs.YtcpgflbfjplheaaGreatDoor
namespace Gs
end Gs
namespace Go.Proofs.YtcpgflbfjplheaaGreatDoor
open Go.RowKit Gs
set_option linter.unusedVariables false
end Go.Proofs.YtcpgflbfjplheaaGreatDoor
namespace Gs
theorem byt_append (s t:ByteArray):byt (s ++ t) = byt s ++ byt t:=by
 unfold byt
 rw [ByteArray.data_append,Array.toList_append,List.map_append]
def TextCat (v x:Nat) (s:ByteArray):Prop:=allDig (byt s) = true ∧ x * 10 ^ (byt s).length + dec (byt s) = v
theorem TextCat.start (v:Nat):TextCat v v ⟨#[]⟩:=⟨rfl,by simp [byt,dec]⟩
theorem TextCat.step {v x:Nat} {s p:ByteArray} (h:TextCat v x s) (hp:byt p = digs 9 (x % 10 ^ 9)):TextCat v (x / 10 ^ 9) (p ++ s):=by
 obtain ⟨h1,h2⟩:=h
 refine ⟨?_,?_⟩
 ·rw [byt_append,allDig_append,hp,allDig_digs,h1]; rfl
 ·rw [byt_append,dec_append,List.length_append,hp,digs_length,dec_digs,Nat.mod_mod,Nat.pow_add,← h2]
  have:=Nat.div_add_mod x (10 ^ 9)
  generalize 10 ^ (byt s).length = T at *
  generalize dec (byt s) = U at *
  rw [← Nat.add_assoc,← Nat.mul_assoc,← Nat.add_mul,Nat.mul_comm (x / 10 ^ 9),this]
def NineInv (r m:Nat) (d:ByteArray) (v:Nat):Prop:=v = r / 10 ^ m ∧ (byt d).length = m ∧ ∀ j,j < m → gd (byt d) j = 48 + r / 10 ^ (m - 1 - j) % 10
theorem NineInv.start (r:Nat):NineInv r 0 ⟨#[]⟩ r:=⟨by simp,rfl,fun j h=>by omega⟩
theorem NineInv.step {r m v:Nat} {d p:ByteArray} (h:NineInv r m d v) (hp:byt p = [48 + v % 10]):NineInv r (m + 1) (p ++ d) (v / 10):=by
 obtain ⟨h1,h2,h3⟩:=h
 refine ⟨by rw [h1,Nat.div_div_eq_div_mul,← Nat.pow_succ],by rw [byt_append,hp,List.length_append,h2,List.length_singleton]; omega,fun j hj=>?_⟩
 rw [byt_append,hp]
 cases j with
 | zero =>
  show 48 + v % 10 = _
  rw [h1]
  congr 2
 | succ j =>
  show gd ((48 + v % 10) :: byt d) (j + 1) = _
  rw [gd_cons_succ,h3 j (by omega)]
  congr 4
  omega
theorem NineInv.last {r v:Nat} {d:ByteArray} (h:NineInv r 9 d v):byt d = digs 9 r:=digs_ext h.2.1 fun j hj=>h.2.2 j hj
def TailIs (v k:Nat) (s:ByteArray):Prop:=k < s.size ∧ allDig ((byt s).drop k) = true ∧ dec ((byt s).drop k) = v
theorem TailIs.step {v k:Nat} {s:ByteArray} (h:TailIs v k s) (hk:k + 1 < s.size) (h0:gd (byt s) k = 48):TailIs v (k + 1) s:=by
 obtain ⟨h1,h2,h3⟩:=h
 have hl:k < (byt s).length:=by rw [byt_length]; exact h1
 rw [List.drop_eq_getElem_cons hl,← gd_lt hl,h0] at h2 h3
 refine ⟨hk,?_,?_⟩
 ·have:allDig (48 :: (byt s).drop (k + 1)) = (isDig 48 && allDig ((byt s).drop (k + 1))):=rfl
  rw [this,Bool.and_eq_true] at h2
  exact h2.2
 ·rw [dec_cons] at h3
  simpa using h3
theorem TailIs.text {v k:Nat} {s:ByteArray} (h:TailIs v k s) (h0:gd (byt s) k = 48 → s.size = k + 1):IsText (s.extract k s.size) v:=by
 obtain ⟨h1,h2,h3⟩:=h
 have hb:=byt_extract s k
 have hs:(s.extract k s.size).size = s.size - k:=by rw [ByteArray.size_extract]; omega
 refine ⟨by rw [hb]; exact h2,by rw [hb]; exact h3,by omega,fun hz=>?_⟩
 rw [hb,gd_drop,Nat.add_zero] at hz
 rw [hs,h0 hz]
 omega
end Gs
namespace Go.Proofs.YtcpgflbfjplheaaGreatDoor
open Go.RowKit Gs
set_option linter.unusedVariables false
end Go.Proofs.YtcpgflbfjplheaaGreatDoor
