import Derived.Test.YtcpgflbfjplheaaGreatDoorNjy
import Derived.Test.YtcpgflbfjplheaaGreatDoorMfy
import Derived.Test.YtcpgflbfjplheaaGreatDoorRly
namespace Go.Proofs.YtcpgflbfjplheaaGreatDoor
open Go.RowKit Go.Shelf Gs
set_option linter.unusedVariables false
attribute [local go_sem] Oper.semAt_some
set_option maxRecDepth 100000 in
set_option maxHeartbeats 8000000 in
theorem nat_DivMod_long {A n c A' n' c'} {l m:List Nat} {P} {w:World} {k:Nat} (h:RdU w P ⟨A,n,c⟩ l) (h':RdU w P ⟨A',n',c'⟩ m) (hn:n ≤ 274877906944) (hn':n' ≤ 274877906944) (hz:nl m = k + 2) (hl:val 18446744073709551616 m ≤ val 18446744073709551616 l) :
 Calls Tryz.prog 191 #[.slice A n c,.slice A' n' c'] w fun e w'=>∃ A1 n1 c1 A2 n2 c2,e = .returned (.tuple #[.slice A1 n1 c1,.slice A2 n2 c2,.int .i64 0]) ∧ RdU w' (fun b=>w.heap.size ≤ b) ⟨A1,n1,c1⟩ (limbs 18446744073709551616 (val 18446744073709551616 l / val 18446744073709551616 m)) ∧ RdU w' (fun b=>w.heap.size ≤ b) ⟨A2,n2,c2⟩ (limbs 18446744073709551616 (val 18446744073709551616 l % val 18446744073709551616 m)) ∧ Below w.heap.size w w':=by
 have hN:=h.nl_le
 have hN':=h'.nl_le
 have hr:=h.trim
 have hr':=h'.trim
 have hcan:=limbs_can B64 (val 18446744073709551616 m)
 have hvm:=val_limbs B64 (val 18446744073709551616 m)
 have hvl:=val_limbs B64 (val 18446744073709551616 l)
 have hNm:nl m ≤ nl l:=limbs_len_mono B64 hl
 obtain ⟨W0,hW0⟩:∃ W0,W0 = w.alloc (.cells #[.slice none 0 0] 23):=⟨_,rfl⟩
 have b0:Box W0 w.heap.size 23 (.slice none 0 0):=by rw [hW0]; exact Box.new w _ _
 have hB0:Below w.heap.size w W0:=by rw [hW0]; exact (Below.refl _ w).alloc (Nat.le_refl _) _
 have kt:=nat_trim (h.below hB0) (by omega)
 have kt2:=nat_trim (h'.below hB0) (by omega)
 have kc:=nat_Cmp (hr.below hB0) (hr'.below hB0) (by omega) (by omega)
 rw [val_limbs B64,val_limbs B64] at kc
 have hcl:decide (cmpI (val 18446744073709551616 l:Nat) (val 18446744073709551616 m:Nat) < 0) = false:=by
  unfold cmpI; rw [if_neg (by omega)]; split <;> rfl
 obtain ⟨ci,hci⟩:∃ ci,ci = cmpI (val 18446744073709551616 l:Nat) (val 18446744073709551616 m:Nat):=⟨_,rfl⟩
 rw [← hci] at kc hcl
 obtain ⟨a,ha⟩:∃ a,a = val 18446744073709551616 l:=⟨_,rfl⟩
 obtain ⟨b,hb⟩:∃ b,b = val 18446744073709551616 m:=⟨_,rfl⟩
 obtain ⟨N,hN1⟩:∃ N,N = nl l:=⟨_,rfl⟩
 obtain ⟨q,hq⟩:∃ q,q = nl m:=⟨_,rfl⟩
 have hqk:q = k + 2:=hq.trans hz
 have haN:(limbs 18446744073709551616 a).length = N:=by rw [hN1,ha]; rfl
 have hbn:(limbs 18446744073709551616 b).length = k + 1 + 1:=by rw [← hz,hb]; rfl
 rw [← hN1] at kt kc hr hN hNm
 rw [← hq] at kt2 kc hr' hN' hNm
 rw [← ha,← hb] at hl ⊢
 rw [← ha] at hr hvl
 rw [← hb] at hr' hcan hvm
 have hx0:gd (limbs 18446744073709551616 b) (k + 1) ≠ 0:=(can_iff hbn).1 hcan
 have hxB:=hr'.lt.gd (by omega) (k + 1)
 obtain ⟨ad,e,hcell⟩:=hr'.rd.at (k + 1) (by show k + 1 < q; omega)
 simp only at e
 subst e
 -- the shift
 obtain ⟨s,hs⟩:∃ s,s = 64 - blen (gd (limbs 18446744073709551616 b) (k + 1)):=⟨_,rfl⟩
 have hvlen:=shl_len_top hbn hs
 have hs63:s ≤ 63:=by have:=blen_pos hx0; omega
 have hulen:=shl_len_le (Nat.le_of_eq haN) hs63
 have kz:=fun W=>Tryz.bits_LeadingZeros64 (gd (limbs 18446744073709551616 b) (k + 1):Nat) W (by omega) (by omega)
 simp only [Int.toNat_natCast,bitLen_u64 hxB] at kz
 have hbl:=blen_u64 hxB
 simp only [show (64:Int) - (blen (gd (limbs 18446744073709551616 b) (k + 1)):Int) = (s:Int) by omega] at kz
 obtain ⟨x,hx⟩:∃ x,x = gd (limbs 18446744073709551616 b) (k + 1):=⟨_,rfl⟩
 rw [← hx] at hcell
 simp only [← hx] at kz
 obtain ⟨k1,hk1⟩:∃ k1,k1 = k + 1:=⟨_,rfl⟩
 rw [← hk1] at hcell
 have s1:IntKind.i64.wrap ((q:Int) - 1) = (k1:Int):=by rw [show (q:Int) - 1 = (k1:Int) by omega]; exact IntWalk.i64_in _ (by omega)
 have t1:(k1:Int) < (q:Int):=by omega
 have n0:((q:Int) == 0) = false:=by rw [beq_eq_false_iff_ne]; omega
 have n1:((q:Int) == 1) = false:=by rw [beq_eq_false_iff_ne]; omega
 have n2:(q == 0) = false:=by rw [beq_eq_false_iff_ne]; omega
 have n3:(q == 1) = false:=by rw [beq_eq_false_iff_ne]; omega
 have KT:=Lib.hid kt
 have KT2:=Lib.hid kt2
 have KC:=Lib.hid kc
 have KZ:=Lib.hid kz
 have HK1:=Lib.hid hk1
 have HQK:=Lib.hid hqk
 have HVL:=Lib.hid hvlen
 have HUL:=Lib.hid hulen
 have HBN:=Lib.hid hbn
 have HAN:=Lib.hid haN
 clear kt kt2 kc kz hz hN1 hq hci hx hs hk1 hqk hvlen hulen hbn haN hx0 hxB hbl hcan ha hb
 have f0:=b0.free
 have c0:=b0.cell
 refine callsIn_wide.1 (callsIn_of_wp_marks (n:=9) Tryz.func191 rfl trivial ?_ rfl)
 simp only [Tryz.ntmps191,List.size_toArray,List.length_cons,List.length_nil,Nat.reduceAdd,Nat.reduceSub,Array.replicate_succ,Array.replicate_zero,List.push_toArray,List.append_toArray,List.nil_append,List.cons_append]
 refine wpIn_wide.2 ?_
 go_wp2_with fail
 rw [← hW0]
 clear hW0
 refine KT.out.mono ?_
 rintro e w1 ⟨rfl,rfl⟩
 go_wp2_with fail
 refine KT2.out.mono ?_
 rintro e w1 ⟨rfl,rfl⟩
 go_wp2_with fail
 refine KC.out.mono ?_
 rintro e w1 ⟨rfl,hb1⟩
 have b1:=b0.below hb1
 have hB1:=Below.then hB0 hB0.size hb1
 have f1:=b1.free
 have c1:=b1.cell
 have hcell1:=cell_below hB1 hcell
 clear c0 f0 hcell
 go_wp2_with fail
 refine (KZ.out _).mono ?_
 rintro e w2 ⟨rfl,hw2⟩
 obtain rfl:=hw2.symm
 clear hw2
 go_wp2_with fail
 refine (nat_shl_own (hr'.below hB1) (by omega) (by omega) (by omega)).mono ?_
 rintro e w2 ⟨Av,nv,cv,rfl,hv,hb2⟩
 rw [hvm,Int.toNat_natCast] at hv
 have hvn:=hv.len
 simp only [HVL.out] at hvn
 obtain rfl:q = nv:=by have:=HQK.out; omega
 obtain ⟨gv,e,hgv,hgv2⟩:=hv.form (by show 0 < q; have:=HQK.out; omega)
 simp only at e
 subst e
 have hvlt:=limbs_lt B64 (b * 2 ^ s)
 have hvval:=val_limbs B64 (b * 2 ^ s)
 obtain ⟨V,hV⟩:∃ V,V = limbs 18446744073709551616 (b * 2 ^ s):=⟨_,rfl⟩
 rw [← hV] at hv hvlt hvval
 have HVV:=Lib.hid hvval
 have b2:=b1.below hb2
 have hB2:=Below.then hB1 hB1.size hb2
 obtain ⟨W2,hW2⟩:∃ W2,W2 = w2.alloc (.cells #[.slice (some ⟨gv,0,none⟩) q cv] 23):=⟨_,rfl⟩
 have b2':Box W2 w.heap.size 23 (.slice none 0 0):=by rw [hW2]; exact b2.alloc _
 have v2:Box W2 w2.heap.size 23 (.slice (some ⟨gv,0,none⟩) q cv):=by rw [hW2]; exact Box.new w2 _ _
 have hv2:OwnN .u64 W2 w1.heap.size 146 ⟨some ⟨gv,0,none⟩,q,cv⟩ V:=by rw [hW2]; exact hv.alloc _
 have hB2':Below w.heap.size w W2:=by rw [hW2]; exact hB2.alloc hB2.size _
 clear f1 c1 hcell1 hvn hvval
 go_wp2_with fail
 rw [← hW2]
 clear hW2
 refine (nat_shl_own (hr.below hB2') (by omega) (by omega) (by omega)).mono ?_
 rintro e w3 ⟨Au,nu,cu,rfl,hu,hb3⟩
 rw [hvl,Int.toNat_natCast] at hu
 have hun:=hu.len
 have hult:=limbs_lt B64 (a * 2 ^ s)
 have huval:=val_limbs B64 (a * 2 ^ s)
 have huN:=HUL.out
 obtain ⟨U,hU⟩:∃ U,U = limbs 18446744073709551616 (a * 2 ^ s):=⟨_,rfl⟩
 rw [← hU] at hu hult huval hun huN
 simp only at hun
 have HUV:=Lib.hid huval
 have HUN:=Lib.hid hun
 have HULE:=Lib.hid huN
 clear huval hun huN hU hV
 obtain ⟨W3,hW3⟩:∃ W3,W3 = w3.alloc (.cells #[.slice Au nu cu] 23):=⟨_,rfl⟩
 have b3:Box W3 w.heap.size 23 (.slice none 0 0):=by rw [hW3]; exact (b2'.below hb3).alloc _
 have v3:Box W3 w2.heap.size 23 (.slice (some ⟨gv,0,none⟩) q cv):=by rw [hW3]; exact (v2.below hb3).alloc _
 have hv3:OwnN .u64 W3 w1.heap.size 146 ⟨some ⟨gv,0,none⟩,q,cv⟩ V:=by rw [hW3]; exact (hv2.below hb3).alloc _
 have u3:Box W3 w3.heap.size 23 (.slice Au nu cu):=by rw [hW3]; exact Box.new w3 _ _
 have hu3:OwnN .u64 W3 W2.heap.size 146 ⟨Au,nu,cu⟩ U:=by rw [hW3]; exact hu.alloc _
 have hB3:Below W2.heap.size W2 W3:=by rw [hW3]; exact hb3.alloc hb3.size _
 have lt1:=b1.lt
 have lt2:=b2'.lt
 have lt3:=v2.lt
 have lt4:gv < W2.heap.size:=by obtain ⟨g',e,_,hg'⟩:=hv2.form (by show 0 < q; have:=HQK.out; omega); injection e with e; injection e with e; omega
 have lt5:=hb3.size
 go_wp2_with fail
 rw [← hW3]
 clear hW3
 have hnuN:nu ≤ N + 1:=by have h1:=HUN.out; have h2:=HULE.out; omega
 go_loopw [] (fun wr=>∃ (su:Sl) (ul:List Nat),su.n ≤ N + 1 ∧ Box wr w3.heap.size 23 (.slice su.A su.n su.c) ∧ OwnN .u64 wr W2.heap.size 146 su ul ∧ Lt 18446744073709551616 ul ∧ Hid (val 18446744073709551616 ul = a * 2 ^ s) ∧ Below W2.heap.size W2 wr) (fun wr=>N + 1 - (match wr.cell? ⟨w3.heap.size,0,none⟩ with | some (.slice _ j _)=>j | _=>0))
 case atStart=>exact ⟨⟨Au,nu,cu⟩,U,hnuN,u3,hu3,hult,HUV,hB3⟩
 case round =>
  obtain ⟨su,ul,hsu,ub,uo,ult,uv,uB⟩:=hrel
  have uc:=ub.cell
  have uf:=ub.free
  by_cases hlt:su.n ≤ N
  ·have hsz:(ul.length + 1) * 8 ≤ 140737488355328:=by have h1:=uo.len; omega
   go_wp2_with (at_builtin; refine append1 (w0:=W2) W2.heap.size rfl (.tmp 63) (.tmp 64) 23 146 .u64 8 rfl Tryz.underlying23 info_u64 (by decide) su ul 0 rfl rfl uo uB uB.size hsz ?_; intro v1 w4 hown1 hb4 hg4; have ub4:=ub.grownRow uo (by decide) hg4; have uc4:=ub4.cell; have uf4:=ub4.free)
   go_roundw
   case rel =>
    refine ⟨v1,ul ++ [0],?_,ub4.set _,hown1.far (OwnN.ne_boxS hown1 ub4 (by decide)) _,ult.append (Lt.cons (by omega) (Lt.nil _)),Lib.hid (by rw [val_snoc,Nat.mul_zero,Nat.add_zero]; exact uv.out),hb4.setCell (p:=⟨w3.heap.size,0,none⟩) (by simp; omega) _⟩
    ·have h1:=hown1.len; have h2:=uo.len; simp at h1; omega
   case measure =>
    have h1:=hown1.len
    have h2:=uo.len
    simp only [List.length_append,List.length_singleton] at h1
    rw [uc,(ub4.set _).cell]
    show N + 1 - v1.n < N + 1 - su.n
    omega
  ·obtain ⟨Au2,nu2,cu2⟩:=su
   simp only at hsu hlt ub uc
   obtain ⟨gu,e,hgu,hgu2⟩:=uo.form (by show 0 < nu2; omega)
   simp only at e
   subst e
   have hnu2:nu2 = N + 1:=by omega
   obtain ⟨mq,hmq⟩:∃ mq,mq = nu2 - q:=⟨_,rfl⟩
   have s2:IntKind.i64.wrap ((nu2:Int) - (q:Int)) = (mq:Int):=by rw [show (nu2:Int) - (q:Int) = (mq:Int) by omega]; exact IntWalk.i64_in _ (by omega)
   have s3:¬ ((nu2:Int) ≤ (N:Int)):=by omega
   have km:=make_num (P:=Tryz.prog) 23 146 .u64 8 Tryz.underlying23 info_u64 (by decide) mq (by omega)
   have HNU2:=Lib.hid hnu2
   have HMQ:=Lib.hid hmq
   have vb:=v2.below uB
   have hvb:=hv2.below uB
   have bb:=b2'.below uB
   have hBr:=Below.then hB2' hB2'.size uB
   have ubs:=uo.ne_box ub (by decide)
   have ult2:=ub.lt
   have vc:=vb.cell
   have bf:=bb.free
   have bc:=bb.cell
   clear hnu2 hmq b0 b1 b2 b2' v2 v3 b3 hv3 u3 hu3 hv hv2 hu hB0 hB1 hB2 hb1 hb2 hb3 hB3 hult hsu hlt
   have bba:=bb.alloc (.cells (nums .u64 (List.replicate mq 0)).toArray 146)
   have bfa:=bba.free
   have bca:=bba.cell
   go_wp2_with (go_at_call 179; refine (callsIn_wide.1 (bkU_in Fence.wide 8 trivial rfl _ _ _ _)).mono ?_; rintro e w1 ⟨rfl,rfl⟩)
   obtain ⟨W6,hW6⟩:∃ W6,W6 = ((wr.alloc (.cells (nums .u64 (List.replicate mq 0)).toArray 146)).setCell ⟨w.heap.size,0,none⟩ (.slice (some ⟨wr.heap.size,0,none⟩) mq mq)).alloc (.cells #[.slice (some ⟨wr.heap.size,0,none⟩) mq mq] 23):=⟨_,rfl⟩
   obtain ⟨gq,hgq⟩:∃ gq,gq = wr.heap.size:=⟨_,rfl⟩
   have hbl:w.heap.size < wr.heap.size:=bb.lt
   have Q0:Box W6 w.heap.size 23 (.slice (some ⟨gq,0,none⟩) mq mq):=by rw [hW6,hgq]; exact (bba.set _).alloc _
   have QV:Box W6 w2.heap.size 23 (.slice (some ⟨gv,0,none⟩) q cv):=by rw [hW6]; exact ((vb.alloc _).far (by simp; omega) _).alloc _
   have QU:Box W6 w3.heap.size 23 (.slice (some ⟨gu,0,none⟩) nu2 cu2):=by rw [hW6]; exact ((ub.alloc _).far (by simp; omega) _).alloc _
   have OV:OwnN .u64 W6 w.heap.size 146 ⟨some ⟨gv,0,none⟩,q,cv⟩ V:=by
    rw [hW6]; exact (((hvb.weaken (by omega)).alloc _).far (by intro g e; injection e with e; subst e; simp; omega) _).alloc _
   have OU:OwnN .u64 W6 w.heap.size 146 ⟨some ⟨gu,0,none⟩,nu2,cu2⟩ ul:=by
    rw [hW6]; exact (((uo.weaken (by omega)).alloc _).far (by intro g e; injection e with e; subst e; simp; omega) _).alloc _
   have OQ:OwnN .u64 W6 w.heap.size 146 ⟨some ⟨gq,0,none⟩,mq,mq⟩ (List.replicate mq 0):=by
    have:=OwnN.made .u64 wr w.heap.size 146 (List.replicate mq 0) (by omega) (by have h1:=HMQ.out; have h2:=HNU2.out; simp; omega)
    rw [List.length_replicate,← hgq] at this
    rw [hW6]
    rw [← hgq]
    exact (this.far (by intro g e; injection e with e; subst e; simp; omega) _).alloc _
   have B6:Box W6 (wr.heap.size + 1) 23 (.slice (some ⟨gq,0,none⟩) mq mq):=by rw [hW6,hgq]; exact Box.new' _ _ _ (by simp [World.setCell])
   have hB6:Below w.heap.size w W6:=by rw [hW6]; exact ((hBr.alloc hBr.size _).setCell (p:=⟨w.heap.size,0,none⟩) (Nat.le_refl _) _).alloc (by simp [World.setCell]; omega) _
   rw [← hW6,← hgq]
   clear hW6 km bba bfa bca bb bf bc vb vc ub uf uc hvb uo uB hBr
   obtain ⟨Bs,hBs⟩:∃ Bs,Bs = gq + 1:=⟨_,rfl⟩
   rw [← hBs]
   rw [← hgq,← hBs] at B6
   have hgb:gq ≠ Bs:=by omega
   have hgu3:gu < gq:=by omega
   have hgv3:gv < gq:=by omega
   have hbl2:w.heap.size < gq:=by omega
   have hb2l:w2.heap.size < gq:=by omega
   have hb3l:w3.heap.size < gq:=by omega
   have HBS:=Lib.hid hBs
   clear hgq hBs
   have hmq0:mq ≤ 281474976710656:=by have h1:=HMQ.out; have h2:=HNU2.out; omega
   have hadd:∀ j,(⟨gq,0,none⟩:Addr).add j = ⟨gq,j,none⟩:=fun j=>by unfold Addr.add; split <;> simp_all
   -- what the loop keeps of the quotient's own limbs: numbers
   obtain ⟨Cells,hCells⟩:∃ Cells:World → Prop,Cells = fun W=>∀ j,j < mq → ∃ x:Nat,W.cell? ⟨gq,j,none⟩ = some (.int .u64 (x:Int)):=⟨_,rfl⟩
   have hkp:∀ W W':World,(Below w.heap.size W W' ∧ W'.heap[Bs]? = W.heap[Bs]? ∧ (Cells W → Cells W')) → BkURx Bs (some ⟨gq,0,none⟩) mq mq (fun _ _=>True) W → BkURx Bs (some ⟨gq,0,none⟩) mq mq (fun _ _=>True) W':=by
    intro W W' hk hr
    refine ⟨(World.cell?_of_block hk.2.1).trans hr.1,fun h0=>⟨_,rfl,fun j hj=>?_⟩⟩
    have h1:Cells W:=by
     rw [hCells]
     intro j hj
     obtain ⟨ad,e,hc⟩:=hr.2 h0
     injection e with e
     subst e
     obtain ⟨x,_,hx⟩:=hc j hj
     rw [hadd] at hx
     exact ⟨x,hx⟩
    have h2:=hk.2.2 h1
    rw [hCells] at h2
    obtain ⟨x,hx⟩:=h2 j hj
    exact ⟨x,trivial,by rw [hadd]; exact hx⟩
   have hcof:∀ W base o,OwnN .u64 W base 146 ⟨some ⟨gq,0,none⟩,mq,mq⟩ o → Cells W:=by
    rw [hCells]
    intro W base o ho j hj
    exact ⟨_,(ho.at j hj).1⟩
   refine wpIn_wide.1 (wpIn_rangeFunc_ownG (F:=Fence.wide) (n:=9) rfl (by omega) (gf:=223) (lb:=#[.pointer (some ⟨Bs,0,none⟩)]) rfl trivial (enters_of Tryz.func223 (by kernel_rfl) rfl)
    (bkU_stops Fence.wide 8 trivial rfl (by omega) Bs (some ⟨gq,0,none⟩) mq mq hmq0 (fun _ _=>True) (fun W W'=>Below w.heap.size W W' ∧ W'.heap[Bs]? = W.heap[Bs]? ∧ (Cells W → Cells W')) hkp W6 ?keep) ?kt ?kb (Below.refl _ _) (fun _=>rfl)
    (fun pre W=>(Box W w.heap.size 23 (.slice (some ⟨gq,0,none⟩) mq mq) ∧ Box W w2.heap.size 23 (.slice (some ⟨gv,0,none⟩) q cv) ∧ Box W w3.heap.size 23 (.slice (some ⟨gu,0,none⟩) nu2 cu2) ∧ OwnN .u64 W w.heap.size 146 ⟨some ⟨gv,0,none⟩,q,cv⟩ V ∧
     ∃ (u qo:List Nat),OwnN .u64 W w.heap.size 146 ⟨some ⟨gu,0,none⟩,nu2,cu2⟩ u ∧ OwnN .u64 W w.heap.size 146 ⟨some ⟨gq,0,none⟩,mq,mq⟩ qo ∧ Lt 18446744073709551616 u ∧ Lt 18446744073709551616 qo ∧ (Downs mq (pre.map (·.i)) → KInv (a * 2 ^ s) (b * 2 ^ s) (mq - pre.length) u qo)) ∧ Below w.heap.size w W)
    (fun cd pre W=>False)
    (ownFrom_of fun sx W W' hsx hk hb=>⟨⟨hsx.1.1.keepF hk,hsx.1.2.1.keepF hk,hsx.1.2.2.1.keepF hk,hsx.1.2.2.2.1.keepF hk,by
     obtain ⟨u,qo,h1,h2,h3⟩:=hsx.1.2.2.2.2
     exact ⟨u,qo,h1.keepF hk,h2.keepF hk,h3⟩⟩,hb _ _ (Nat.le_refl _) hB6.size hsx.2⟩)
    (fun cd=>ownFrom_of fun sx W W' hsx hk hb=>hsx)
    ⟨⟨Q0,QV,QU,OV,ul,List.replicate mq 0,OU,OQ,ult,Lt.replicate (by omega) mq,?start⟩,hB6⟩
    (fun y=>{ tmps:=#[.slice A N c,.slice (some ad) q c',undef,undef,.pointer (some ⟨w.heap.size,0,none⟩),.slice none 0 0,.int .i64 0,undef,undef,.int .i64 (s:Int),.pointer (some ⟨w2.heap.size,0,none⟩),.pointer (some ⟨w3.heap.size,0,none⟩),.int .i64 (y.i:Int),undef,undef,.slice A n c,.slice A N c,.slice (some ad) n' c',.slice (some ad) q c',.bool false,.slice (some ad) q c',.int .i64 (q:Int),.bool false,.bool false,.slice A N c,.slice (some ad) q c',.int .i64 ci,.bool false,undef,undef,.bool false,.slice (some ad) q c',.int .i64 (q:Int),.bool false,undef,undef,undef,undef,undef,undef,undef,undef,undef,undef,undef,.slice (some ad) q c',.slice (some ad) q c',.int .i64 (q:Int),.int .i64 (k1:Int),.pointer (some (ad.add k1)),.int .u64 (x:Int),.int .i64 (s:Int),.slice (some ad) q c',.int .i64 (s:Int),.slice (some ⟨gv,0,none⟩) q cv,.slice A N c,.int .i64 (s:Int),.slice Au nu cu,.slice (some ⟨gu,0,none⟩) nu2 cu2,.int .i64 (nu2:Int),.slice A N c,.int .i64 (N:Int),.bool false,u63,u64,u65,.slice (some ⟨gu,0,none⟩) nu2 cu2,.int .i64 (nu2:Int),.slice (some ⟨gv,0,none⟩) q cv,.int .i64 (q:Int),.int .i64 (mq:Int),.slice (some ⟨gq,0,none⟩) mq mq,.slice (some ⟨gq,0,none⟩) mq mq,.func (.func 223) #[] #[.pointer (some ⟨Bs,0,none⟩)],.int .i64 (y.i:Int),.int .u64 (y.x:Int),undef,undef,undef,undef,undef,undef,undef,undef,undef,undef,undef,undef,undef,undef,undef,undef,undef,undef,undef,undef,undef,undef,undef,undef,undef,undef,undef,undef,undef,undef,undef,undef,undef,undef,undef,undef,undef,undef,undef,undef,undef,undef],defers:=[] }) ?assign ?body ?done ?stop)
   case start =>
    intro _
    have h1:=OU.len
    simp only at h1
    have h2:=HNU2.out
    have h3:=HMQ.out
    have h4:=HQK.out
    have hb2:=val_ge B64 (limbs_can B64 b) (by intro h; have:=HBN.out; rw [h] at this; cases this)
    rw [HBN.out,val_limbs B64] at hb2
    exact KInv.start (n:=q) (N:=N) ult (Lt.replicate (by omega) mq) uv.out (by rw [List.length_replicate]; rfl) (lt_of_limbs_len B64 (Nat.le_of_eq HAN.out)) (by show mq + q = N + 1; omega) (by omega) (by rw [show q - 1 = k + 1 + 1 - 1 by omega]; exact hb2) (by omega)
   case keep =>
    intro W hW
    refine ⟨(B6.below hW).cell,fun h0=>⟨_,rfl,fun j hj=>?_⟩⟩
    rw [hadd]
    exact ⟨_,trivial,((OQ.below hW).at j hj).1⟩
   case kt=>exact fun h k=>⟨h.1.trans k.1,k.2.1.trans h.2.1,fun c=>k.2.2 (h.2.2 c)⟩
   case kb =>
    intro W l o o' hl ho hc hw
    refine ⟨belowK_b (w:=W6) hB6.size W l o o' hl ho hc hw,World.putObj_heap_other (by have:=B6.lt; omega),?_⟩
    rw [hCells]
    intro hcs j hj
    obtain ⟨x,hx⟩:=hcs j hj
    refine ⟨x,?_⟩
    rw [World.cell?_of_block (w:=W) (World.putObj_heap_other (fun e=>?_))]
    ·exact hx
    ·simp only at e
     have h1:=B6.lt
     have h2:=HBS.out
     omega
   case assign =>
    intro l x W K hK
    gi_wp2
    exact hK
   case body =>
    rintro lp pre y W ⟨⟨q0,qv,qu,ov,u,qo,ou,oq,ltu,ltq,hrel⟩,hq⟩ hpl
    have HPL:=Lib.hid (show pre.length < mq from hpl)
    clear hpl
    have hrel':=hrel
    clear hrel
    have hi:=y.lt
    have hnu:=Lib.hid (show nu2 = mq + q by have:=HMQ.out; have:=HNU2.out; omega)
    have hcap:=ou.rd.cap
    simp only at hcap
    have z1:IntKind.i64.wrap ((y.i:Int) + (q:Int)) = (y.i:Int) + (q:Int):=IntWalk.i64_in _ (by omega)
    have z2:IntKind.i64.wrap ((y.i:Int) + (q:Int) + 1) = (y.i:Int) + (q:Int) + 1:=IntWalk.i64_in _ (by omega)
    have z3:(0:Int) ≤ (y.i:Int) + (q:Int) + 1:=by omega
    have z4:(y.i:Int) + (q:Int) + 1 ≤ (cu2:Int):=by have:=hnu.out; omega
    have z5:((y.i:Int) + (q:Int) + 1).toNat = y.i + q + 1:=by omega
    have z6:(y.i:Int) ≤ (y.i:Int) + (q:Int) + 1:=by omega
    have uv:=qv.cell
    have uu:=qu.cell
    have u0:=q0.cell
    have hul:=ou.len
    simp only at hul
    obtain ⟨P0,hP0⟩:∃ P0,P0 = (u.drop y.i).take (q + 1):=⟨_,rfl⟩
    have lP:P0.length = k + 3:=by rw [hP0,List.length_take,List.length_drop,hul]; have h1:=hnu.out; have h2:=HQK.out; omega
    have lV:V.length = k + 2:=by have h1:=ov.len; have h2:=HQK.out; simp only at h1; omega
    have ltP:Lt 18446744073709551616 P0:=by rw [hP0]; exact (ltu.drop _).take _
    obtain ⟨hge,hGB⟩:=guessF_spec ltP hvlt lP lV
    have kg:∀ d,Calls Tryz.prog 240 #[.slice (some ⟨gu,y.i,none⟩) (q + 1) (q + 1),.slice (some ⟨gv,0,none⟩) q cv] (W.drewN d) fun e w'=>e = .returned (.int .u64 (guessF P0 V k:Nat)) ∧ ∃ d',w' = (W.drewN d).drewN d':=fun d=>by
     have h1:=nat_guess (w:=W.drewN d) (i:=y.i) (n:=q) (cc:=q + 1) (ou.drewN d) ltu ⟨(ov.drewN d).rd,hvlt⟩ (by have h1:=hnu.out; omega) (by have h1:=HNU2.out; omega) HQK.out
     rw [← hP0] at h1
     exact h1.mono fun _ _ h=>h.1
    obtain ⟨G,hG⟩:∃ G,G = guessF P0 V k:=⟨_,rfl⟩
    rw [← hG] at hge hGB
    simp only [← hG] at kg
    obtain ⟨hco,hfo⟩:=oq.at y.i hi
    have KG:=Lib.hid kg
    have HGE:=Lib.hid hge
    have HP0:=Lib.hid hP0
    have HUL:=Lib.hid hul
    have HLV:=Lib.hid lV
    clear hkp Q0 QV QU OV OU OQ B6 hB6 kg hG hge hP0 lP lV hul
    gi_wp2
    rw [show y.i + q + 1 - y.i = q + 1 by omega]
    refine round_quiet_tail 6 (C:=fun W'=>∃ d,W' = W.drew.drewN d) (by kernel_rfl) (by kernel_rfl) (by kernel_rfl) ⟨0,rfl⟩ ?_
    simp only [List.take_succ_cons,List.take_zero,List.drop_succ_cons,List.drop_zero]
    repeat (go_big_quiet_step (fail))
    go_big_quiet_want
    go_big_quiet_op
    apply Exists.intro
    refine ⟨fun _=>?_,?_⟩
    ·refine (KG.out _).mono ?_
     rintro e w1 ⟨rfl,d,rfl⟩
     exact ⟨rfl,_,by rw [World.drewN_drewN,Nat.add_assoc]⟩
    go_big_quiet_on
    repeat (go_big_quiet_step (fail))
    refine wpQuiet_nil ?_
    rintro _ ⟨nq,rfl⟩
    gi_wp2
    have hk1:KeepsOthers W (W.drewN (1 + nq)):=⟨Nat.le_refl _,fun _ _ h _=>h⟩
    obtain ⟨W7,hW7⟩:∃ W7,W7 = (W.drewN (1 + nq)).setCell ⟨gq,y.i,none⟩ (.int .u64 (G:Int)):=⟨_,rfl⟩
    have T7:Turn (fun b=>b = gq ∨ b = gu) W W7:=by rw [hW7]; exact ((Turn.refl _ W).drewN (1 + nq)).setCell (g:=gq) y.i _ (.inl rfl)
    have p0:Box W7 w.heap.size 23 (.slice (some ⟨gq,0,none⟩) mq mq):=q0.turn T7 (by omega)
    have pv:Box W7 w2.heap.size 23 (.slice (some ⟨gv,0,none⟩) q cv):=qv.turn T7 (by have:=OwnN.ne_box ou qv (by decide); omega)
    have pu:Box W7 w3.heap.size 23 (.slice (some ⟨gu,0,none⟩) nu2 cu2):=qu.turn T7 (by have:=OwnN.ne_box ou qu (by decide); omega)
    have pov:OwnN .u64 W7 w.heap.size 146 ⟨some ⟨gv,0,none⟩,q,cv⟩ V:=ov.turn T7 (by intro g e; injection e with e; subst e; simp; omega)
    have pou:OwnN .u64 W7 w.heap.size 146 ⟨some ⟨gu,0,none⟩,nu2,cu2⟩ u:=by
     rw [hW7]; exact (ou.drewN (1 + nq)).far (by intro g e; injection e with e; subst e; simp; omega) _
    have poq:OwnN .u64 W7 w.heap.size 146 ⟨some ⟨gq,0,none⟩,mq,mq⟩ (qo.set y.i G):=by
     rw [hW7]; exact (oq.drewN (1 + nq)).store y.i G
    rw [← hW7]
    clear hW7
    have vv:=pv.cell
    have v0:=p0.cell
    obtain ⟨hco7,hfo7⟩:=poq.at y.i hi
    rw [gd_set_self (by have:=oq.len; simp only at this; omega)] at hco7
    clear uv uu u0 hco hfo
    refine round_still_tail 6 (by kernel_rfl) (by kernel_rfl) (by kernel_rfl) ?_
    simp only [List.take_succ_cons,List.take_zero,List.drop_succ_cons,List.drop_zero]
    repeat still_step
    refine wpStill_nil ?_
    gi_wp2
    have povd:OwnN .u64 W7.drew w.heap.size 146 ⟨some ⟨gv,0,none⟩,q,cv⟩ V:=pov
    refine ⟨trivial,CallsIn.inRound lp (callsIn_wide.2 ((nat_lessen (w:=W7.drew) (i:=y.i) (n:=q) (cc:=q + 1) (show OwnN .u64 W7.drew w.heap.size 146 ⟨some ⟨gu,0,none⟩,nu2,cu2⟩ u from pou) ltu ⟨povd.rdAt,hvlt⟩ (fun b hb e=>by omega) (by have h1:=hnu.out; omega) (by have h1:=HNU2.out; omega) hGB).mono ?_))⟩
    rintro e w8 ⟨O,d,rfl,hou8,hles,hs8⟩
    have T8:Turn (fun b=>b = gq ∨ b = gu) W w8:=T7.drew.solo hs8 (.inr rfl)
    have hoq8:OwnN .u64 w8 w.heap.size 146 ⟨some ⟨gq,0,none⟩,mq,mq⟩ (qo.set y.i G):=(show OwnN .u64 W7.drew w.heap.size 146 ⟨some ⟨gq,0,none⟩,mq,mq⟩ (qo.set y.i G) from poq).solo hs8 (by intro g e; injection e with e; subst e; simp; omega)
    clear hco7 hfo7 vv v0
    gi_wp2
    gi_loopw [14] (fun v wr=>∃ (O:List Nat) (ov qd:Nat),v = .bool (decide (ov = 1)) ∧ ov ≤ 1 ∧ qd < 18446744073709551616 ∧ OwnN .u64 wr w.heap.size 146 ⟨some ⟨gu,0,none⟩,nu2,cu2⟩ O ∧ OwnN .u64 wr w.heap.size 146 ⟨some ⟨gq,0,none⟩,mq,mq⟩ (qo.set y.i qd) ∧ Turn (fun b=>b = gq ∨ b = gu) W wr ∧ PartTo u O y.i (q + 1) ∧ Hid (val 18446744073709551616 P0 < 18446744073709551616 * val 18446744073709551616 V → OverInv (val 18446744073709551616 P0) (val 18446744073709551616 V) q O y.i qd ov) ∧ Hid (¬ val 18446744073709551616 P0 < 18446744073709551616 * val 18446744073709551616 V → ov = 0)) (fun _ wr=>match wr.cell? ⟨gq,y.i,none⟩ with | some (.int _ x)=>x.toNat | _=>0)
    case atStart =>
     have heq:=hles.eq
     rw [← HP0.out] at heq
     exact ⟨O,d,G,rfl,hles.d1,hGB,hou8,hoq8,T8,hles.part,Lib.hid (fun hv=>⟨hGB,HGE.out hv,hles.d1,heq⟩),Lib.hid (fun hv=>over_start hles.part.lt hles.d1 hGB heq hv)⟩
    case round =>
     obtain ⟨O1,ov,qd,rfl,hov,hqd,hou,hoq,hT,hpart,hin,hno⟩:=hrel
     have hqol:=oq.len
     simp only at hqol
     have b0':=q0.turn hT (by omega)
     have bv':=qv.turn hT (by have:=OwnN.ne_box ou qv (by decide); omega)
     have hVw:OwnN .u64 wr w.heap.size 146 ⟨some ⟨gv,0,none⟩,q,cv⟩ V:=OwnN.turn ‹OwnN .u64 W w.heap.size 146 ⟨some ⟨gv,0,none⟩,q,cv⟩ V› hT (by intro g e; injection e with e; subst e; simp; omega)
     by_cases ho1:ov = 1
     ·subst ho1
      have hvalid:val 18446744073709551616 P0 < 18446744073709551616 * val 18446744073709551616 V:=by
       rcases Nat.lt_or_ge (val 18446744073709551616 P0) (18446744073709551616 * val 18446744073709551616 V) with h1 | h1
       ·exact h1
       ·exact absurd (hno.out (Nat.not_lt.2 h1)) (by omega)
      have hI:=hin.out hvalid
      have hmore:=hI.more hpart.lt
      have hqd0:1 ≤ qd:=Nat.lt_of_le_of_lt (Nat.zero_le _) hmore
      have ws:=u64_sub1 qd hqd0 hqd
      obtain ⟨qc,qf⟩:=hoq.at y.i hi
      rw [gd_set_self (by omega)] at qc
      have vc0:=b0'.cell
      have vcv:=bv'.cell
      have HI:=Lib.hid hI
      have HVA:=Lib.hid hvalid
      have hq9:OwnN .u64 (wr.setCell ⟨gq,y.i,none⟩ (.int .u64 ((qd - 1:Nat):Int))) w.heap.size 146 ⟨some ⟨gq,0,none⟩,mq,mq⟩ (qo.set y.i (qd - 1)):=by
       have:=hoq.store y.i (qd - 1)
       rwa [List.set_set] at this
      have T9:Turn (fun b=>b = gq ∨ b = gu) W (wr.setCell ⟨gq,y.i,none⟩ (.int .u64 ((qd - 1:Nat):Int))):=hT.setCell (g:=gq) y.i _ (.inl rfl)
      have hu9:OwnN .u64 (wr.setCell ⟨gq,y.i,none⟩ (.int .u64 ((qd - 1:Nat):Int))) w.heap.size 146 ⟨some ⟨gu,0,none⟩,nu2,cu2⟩ O1:=hou.far (by intro g e; injection e with e; subst e; simp; omega) _
      have hv9:OwnN .u64 (wr.setCell ⟨gq,y.i,none⟩ (.int .u64 ((qd - 1:Nat):Int))) w.heap.size 146 ⟨some ⟨gv,0,none⟩,q,cv⟩ V:=hVw.far (by intro g e; injection e with e; subst e; simp; omega) _
      obtain ⟨qp,hqp⟩:∃ qp,qp = qd - 1:=⟨_,rfl⟩
      rw [← hqp] at ws hq9 T9 hu9 hv9
      have HQP:=Lib.hid hqp
      clear hI hmore hvalid hin hno hqp
      gi_wp2
      refine ⟨trivial,CallsIn.inRound lp (callsIn_wide.2 ((nat_back (i:=y.i) (n:=q) (cc:=q + 1) hu9 hpart.lt ⟨hv9.rdAt,hvlt⟩ (fun b hb e=>by omega) (by have h1:=hnu.out; omega) (by have h1:=HNU2.out; omega)).mono ?_))⟩
      rintro e w10 ⟨O2,c2,rfl,hou2,hback,hs10⟩
      have T10:Turn (fun b=>b = gq ∨ b = gu) W w10:=T9.solo hs10 (.inr rfl)
      have hoq10:OwnN .u64 w10 w.heap.size 146 ⟨some ⟨gq,0,none⟩,mq,mq⟩ (qo.set y.i qp):=hq9.solo hs10 (by intro g e; injection e with e; subst e; simp; omega)
      have hc2:=hback.d1
      have hbv:(!decide (c2 = 1)) = decide (1 - c2 = 1):=by rcases (show c2 = 0 ∨ c2 = 1 by omega) with h | h <;> simp [h]
      have HBV:=Lib.hid hbv
      have qc10:=(hoq10.at y.i hi).1
      rw [gd_set_self (by omega)] at qc10
      clear hbv
      gi_wp2
      go_roundw
      case rel=>exact ⟨O2,1 - c2,qp,by first | exact congrArg Value.bool HBV.out | (rw [← HBV.out]; simp),by omega,by have:=HQP.out; omega,hou2,hoq10,T10,hpart.trans hback.part,Lib.hid (fun _=>by have:=HI.out.step hpart.lt hc2 hback.eq; rwa [← HQP.out] at this),Lib.hid (fun h=>absurd HVA.out h)⟩
      case measure =>
       rw [qc,qc10]
       have:=HQP.out
       simp
       omega
     ·obtain rfl:ov = 0:=by omega
      have hnew:Downs mq ((pre ++ [y]).map (·.i)) → KInv (a * 2 ^ s) (b * 2 ^ s) (mq - (pre ++ [y]).length) O1 (qo.set y.i qd):=by
       intro hd
       rw [List.map_append] at hd
       obtain ⟨h1,h2⟩:=Downs.snoc hd
       rw [List.length_map] at h2
       have hk:=hrel' h1
       have h0:=HPL.out
       have h2:y.i = mq - 1 - pre.length:=h2
       rw [show mq - pre.length = y.i + 1 by omega] at hk
       rw [show mq - (pre ++ [y]).length = y.i by rw [List.length_append]; show mq - (pre.length + 1) = y.i; omega]
       have hV:b * 2 ^ s < 18446744073709551616 ^ q:=by
        have h3:=val_lt hvlt
        rw [HVV.out] at h3
        have h4:=HLV.out
        have h5:=HQK.out
        rwa [h4,← h5] at h3
       have hul2:y.i + q + 1 ≤ u.length:=by have h3:=HUL.out; have h4:=hnu.out; omega
       obtain ⟨hp1,hp2⟩:=hk.part hV hul2
       have hvalid:val 18446744073709551616 P0 < 18446744073709551616 * val 18446744073709551616 V:=by rw [HP0.out,HVV.out]; exact hp2
       have hl0:=(hin.out hvalid).last (by rw [HVV.out]; exact Nat.lt_of_le_of_lt (Nat.zero_le _) hk.top)
       rw [HP0.out,HVV.out] at hl0
       exact hk.step hV hul2 hpart hl0.1 hl0.2 (List.drop_set_of_lt (by omega)) (gd_set_self (by omega) _) (ltq.set _ hqd)
      have HN:=Lib.hid hnew
      clear hnew hin hno
      gi_wp2
      have bu':=qu.turn hT (by have:=OwnN.ne_box hou (qu.turn hT (by have:=OwnN.ne_box ou qu (by decide); omega)) (by decide); omega)
      have hbel:Below w.heap.size W wr:=hT.below (fun b hb=>by omega)
      exact ⟨hT.keeps.from _,⟨hbel,hT.other Bs (by have:=HBS.out; omega),fun _=>hcof _ _ _ hoq⟩,⟨b0',bv',bu',hVw,O1,qo.set y.i qd,hou,hoq,hpart.lt,ltq.set _ hqd,HN.out⟩,hq.trans hbel⟩
   case done =>
    rintro D ys W hD hys ⟨⟨q0,qv,qu,ov,u,qo,ou,oq,ltu,ltq,hrel⟩,hq⟩ hK
    have hyl:ys.length = mq:=by have:=congrArg List.length hys; rwa [List.length_map,downto_length] at this
    have hfin:=hrel (by unfold Downs; rw [List.length_map,hyl]; exact hys)
    rw [hyl,Nat.sub_self] at hfin
    have hlast:=hfin.last
    rw [Nat.mul_div_mul_right _ _ (Nat.two_pow_pos s),Nat.mul_mod_mul_right] at hlast
    have HF:=Lib.hid hlast
    have HK:=Lib.hid hK
    have kt:Calls Tryz.prog 178 #[.slice (some ⟨gq,0,none⟩) mq mq] W.drew fun e w'=>e = .returned (.slice (some ⟨gq,0,none⟩) (nl qo) mq) ∧ w' = W.drew:=(nat_trim (RdU.mk (OwnN.rd (w:=W.drew) oq) ltq) (by show mq ≤ _; omega)).mono fun _ _ ⟨h1,h2⟩=>⟨h1,h2.symm⟩
    have KT3:=Lib.hid kt
    have u0:=q0.cell
    have uu:=qu.cell
    have v0:=q0.free
    clear hkp Q0 QV QU OV OU OQ B6 kt hys hfin hlast hrel hK
    go_wp2
    refine region_still_tail 4 (by kernel_rfl) (by kernel_rfl) ?_
    simp only [List.take_succ_cons,List.take_zero,List.drop_succ_cons,List.drop_zero]
    still_step
    still_call KT3.out
    repeat still_step
    refine wpStill_nil ?_
    go_wp2_with fail
    refine (nat_shr (w:=W.drew) (RdU.mk (OwnN.rd (w:=W.drew) ou) ltu) (by have h1:=HNU2.out; omega) (by omega) (by omega)).mono ?_
    rintro e w9 ⟨A2,n2,c2,rfl,hrd,hb9⟩
    rw [Int.toNat_natCast,HF.out.2,Nat.mul_div_cancel _ (Nat.two_pow_pos s)] at hrd
    have r0:Box w9 w.heap.size 23 (.slice (some ⟨gq,0,none⟩) mq mq):=q0.drew.below hb9
    have hoq9:OwnN .u64 w9 w.heap.size 146 ⟨some ⟨gq,0,none⟩,mq,mq⟩ qo:=OwnN.below (w:=W.drew) oq hb9
    have hK9:w9.heap[D]? = some (.deferred (some [])):=by
     have h1:W.drew.heap[D]? = some (.deferred (some [])):=HK.out
     rw [hb9.block D (Array.getElem?_eq_some_iff.1 h1).1]
     exact h1
    have hlt9:w.heap.size < W.heap.size:=q0.lt
    have hB9:=Below.then hq.drew (hq.size) hb9
    have rf:=r0.free
    have rc:=r0.cell
    have HK9:=Lib.hid hK9
    clear hK9
    go_wp2
    have hK':=(KeepsOthers.setCell w9 ⟨w.heap.size,0,none⟩ (.slice (some ⟨gq,0,none⟩) (nl qo) mq)).same D _ HK9.out rfl
    refine ⟨by simp,.inl ⟨_,_,rfl,run_takeDeferred hK',?_⟩⟩
    have hc5:=((r0.set (.slice (some ⟨gq,0,none⟩) (nl qo) mq)).putObj (.deferred none) hK' rfl).cell
    refine ⟨.tuple #[.slice (some ⟨gq,0,none⟩) (nl qo) mq,.slice A2 n2 c2,.int .i64 0],by simp [results,Tryz.f191,go_sem,hc5],_,_,_,_,_,_,rfl,?_,?_,?_⟩
    ·rw [← HF.out.1]
     exact (((OwnN.trim hoq9 ltq).far (by intro g e; injection e with e; subst e; simp; omega) _).putObj (.deferred none) hK' rfl).rdU (limbs_lt B64 _)
    ·have hDl:D < W.heap.size:=(Array.getElem?_eq_some_iff.1 HK.out).1
     exact ⟨(hrd.rd.keep (fun b (hb:W.heap.size ≤ b) _=>(World.putObj_heap_other (show b ≠ D by omega)).trans (set_heap _ (show b ≠ w.heap.size by omega)))).mono (fun b (hb:W.heap.size ≤ b)=>by omega),hrd.lt⟩
    ·exact below_putObj (hB9.setCell (p:=⟨w.heap.size,0,none⟩) (Nat.le_refl _) _) (Nat.le_refl _) (Nat.le_trans hB6.size hD) _ hK' rfl rfl
   case stop =>
    rintro D cd pre W hD hp hf hK
    exact hf.elim
theorem nat_DivMod {A n c A' n' c'} {l m:List Nat} {P} {w:World} (h:RdU w P ⟨A,n,c⟩ l) (h':RdU w P ⟨A',n',c'⟩ m) (hn:n ≤ 274877906944) (hn':n' ≤ 274877906944) (hz:val 18446744073709551616 m ≠ 0) :
 Calls Tryz.prog 191 #[.slice A n c,.slice A' n' c'] w fun e w'=>∃ A1 n1 c1 A2 n2 c2,e = .returned (.tuple #[.slice A1 n1 c1,.slice A2 n2 c2,.int .i64 0]) ∧ RdU w' (fun b=>w.heap.size ≤ b) ⟨A1,n1,c1⟩ (limbs 18446744073709551616 (val 18446744073709551616 l / val 18446744073709551616 m)) ∧ RdU w' (fun b=>w.heap.size ≤ b) ⟨A2,n2,c2⟩ (limbs 18446744073709551616 (val 18446744073709551616 l % val 18446744073709551616 m)) ∧ Below w.heap.size w w':=by
 rcases Nat.lt_or_ge (val 18446744073709551616 l) (val 18446744073709551616 m) with h1 | h1
 ·exact nat_DivMod_less h h' hn hn' hz h1
 ·have h0:nl m ≠ 0:=fun e=>hz ((limbs_len_zero B64 _).1 e)
  by_cases h2:nl m = 1
  ·exact nat_DivMod_one h h' hn hn' h2 h1
  ·exact nat_DivMod_long (k:=nl m - 2) h h' hn hn' (by omega) h1
end Go.Proofs.YtcpgflbfjplheaaGreatDoor
