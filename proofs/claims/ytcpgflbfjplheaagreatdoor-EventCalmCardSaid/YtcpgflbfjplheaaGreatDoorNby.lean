import Derived.Test.YtcpgflbfjplheaaGreatDoorNay
import Derived.Test.YtcpgflbfjplheaaGreatDoorBky
import Derived.StillTailTactics
import Derived.Test.YtcpgflbfjplheaaGreatDoorRfy
import Derived.Test.YtcpgflbfjplheaaGreatDoorRry
namespace Go.Proofs.YtcpgflbfjplheaaGreatDoor
open Go.RowKit Go.Shelf Gs
set_option linter.unusedVariables false
attribute [local go_sem] Oper.semAt_some
def cmpI (x y:Int):Int:=if x < y then -1 else if y < x then 1 else 0
set_option maxHeartbeats 400000 in
theorem cmp_Compare_int (x y:Int) (w:World):Calls Tryz.prog 102 #[.int .i64 x,.int .i64 y] w fun e w'=>e = .returned (.int .i64 (cmpI x y)) ∧ w = w':=by
 have hn:∀ z:Int,∀ w:World,Calls Tryz.prog 166 #[.int .i64 z] w fun e w'=>e = .returned (.bool false) ∧ w = w':=by
  intro z w
  go_enter Tryz.func166,Tryz.ntmps166
  go_wp2
  go_ret
  exact ⟨rfl,rfl⟩
 have HN:=Lib.hid hn
 clear hn
 by_cases h1:x < y
 ·go_enter Tryz.func102,Tryz.ntmps102
  go_wp2_with (go_at_call 166; refine (HN.out _ _).mono ?_; rintro e w1 ⟨rfl,rfl⟩)
  go_ret
  exact ⟨by unfold cmpI; rw [if_pos (by omega)]; rfl,rfl⟩
 ·by_cases h2:y < x
  ·go_enter Tryz.func102,Tryz.ntmps102
   go_wp2_with (go_at_call 166; refine (HN.out _ _).mono ?_; rintro e w1 ⟨rfl,rfl⟩)
   go_ret
   exact ⟨by unfold cmpI; rw [if_neg (by omega),if_pos (by omega)]; rfl,rfl⟩
  ·go_enter Tryz.func102,Tryz.ntmps102
   go_wp2_with (go_at_call 166; refine (HN.out _ _).mono ?_; rintro e w1 ⟨rfl,rfl⟩)
   go_ret
   exact ⟨by unfold cmpI; rw [if_neg (by omega),if_neg (by omega)]; rfl,rfl⟩
set_option maxHeartbeats 400000 in
theorem cmp_Compare_u64 (x y:Int) (w:World):Calls Tryz.prog 180 #[.int .u64 x,.int .u64 y] w fun e w'=>e = .returned (.int .i64 (cmpI x y)) ∧ w = w':=by
 have hn:∀ z:Int,∀ w:World,Calls Tryz.prog 224 #[.int .u64 z] w fun e w'=>e = .returned (.bool false) ∧ w = w':=by
  intro z w
  go_enter Tryz.func224,Tryz.ntmps224
  go_wp2
  go_ret
  exact ⟨rfl,rfl⟩
 have HN:=Lib.hid hn
 clear hn
 by_cases h1:x < y
 ·go_enter Tryz.func180,Tryz.ntmps180
  go_wp2_with (go_at_call 224; refine (HN.out _ _).mono ?_; rintro e w1 ⟨rfl,rfl⟩)
  go_ret
  exact ⟨by unfold cmpI; rw [if_pos (by omega)]; rfl,rfl⟩
 ·by_cases h2:y < x
  ·go_enter Tryz.func180,Tryz.ntmps180
   go_wp2_with (go_at_call 224; refine (HN.out _ _).mono ?_; rintro e w1 ⟨rfl,rfl⟩)
   go_ret
   exact ⟨by unfold cmpI; rw [if_neg (by omega),if_pos (by omega)]; rfl,rfl⟩
  ·go_enter Tryz.func180,Tryz.ntmps180
   go_wp2_with (go_at_call 224; refine (HN.out _ _).mono ?_; rintro e w1 ⟨rfl,rfl⟩)
   go_ret
   exact ⟨by unfold cmpI; rw [if_neg (by omega),if_neg (by omega)]; rfl,rfl⟩
theorem cmpI_eqb {x y:Nat} (h:x = y):(cmpI (x:Int) (y:Int) != 0) = false:=by unfold cmpI; rw [if_neg (by omega),if_neg (by omega)]; rfl
theorem cmpI_neb {x y:Nat} (h:x ≠ y):(cmpI (x:Int) (y:Int) != 0) = true:=by
 unfold cmpI
 rcases Nat.lt_or_ge x y with h1 | h1
 ·rw [if_pos (by omega)]; rfl
 ·rw [if_neg (by omega),if_pos (by omega)]; rfl
theorem cmpI_nat (x y:Nat):cmpI x y = if x < y then -1 else if y < x then 1 else 0:=by unfold cmpI; simp only [Int.ofNat_lt]
set_option maxRecDepth 100000 in
set_option maxHeartbeats 1000000 in
theorem nat_Cmp {A n c A' n' c'} {l m:List Nat} {P} {w:World} (h:RdU w P ⟨A,n,c⟩ l) (h':RdU w P ⟨A',n',c'⟩ m) (hn:n ≤ 281474976710656) (hn':n' ≤ 281474976710656) :
 Calls Tryz.prog 127 #[.slice A n c,.slice A' n' c'] w fun e w'=>e = .returned (.int .i64 (cmpI (val 18446744073709551616 l:Nat) (val 18446744073709551616 m:Nat))) ∧ Below w.heap.size w w':=by
 refine callsIn_wide.1 (callsIn_of_wp_marks (n:=9) Tryz.func127 rfl trivial ?_ rfl)
 simp only [Tryz.ntmps127,List.size_toArray,List.length_cons,List.length_nil,Nat.reduceAdd,Nat.reduceSub,Array.replicate_succ,Array.replicate_zero,List.push_toArray,List.append_toArray,List.nil_append,List.cons_append]
 refine wpIn_wide.2 ?_
 obtain ⟨W0,hW0⟩:∃ W0,((w.alloc (.cells #[.slice A n c] 23)).alloc (.cells #[.slice A' n' c'] 23)).alloc (.cells #[.int .i64 0] 3) = W0:=⟨_,rfl⟩
 have b0:Box W0 w.heap.size 23 (.slice A n c):=by rw [← hW0]; exact ((Box.new w _ _).alloc _).alloc _
 have b1:Box W0 (w.heap.size + 1) 23 (.slice A' n' c'):=by rw [← hW0]; exact Box.alloc (Box.new' (w.alloc _) _ _ (by simp)) _
 have b2:Box W0 (w.heap.size + 1 + 1) 3 (.int .i64 0):=by rw [← hW0]; exact Box.new' ((w.alloc _).alloc _) _ _ (by simp)
 have hB0:Below w.heap.size w W0:=by rw [← hW0]; exact (((Below.refl _ w).alloc (Nat.le_refl _) _).alloc (by simp) _).alloc (by simp; omega) _
 have hs0:W0.heap.size = w.heap.size + 3:=by rw [← hW0]; simp
 have c0:=b0.cell
 have f0:=b0.free
 have c1:=b1.cell
 have f1:=b1.free
 have c2:=b2.cell
 have f2:=b2.free
 have HW0:=Lib.hid hW0
 have HS0:=Lib.hid hs0
 have ka:Calls Tryz.prog 178 #[.slice A n c] W0.drew fun e w'=>e = .returned (.slice A (nl l) c) ∧ w' = W0.drew:=(nat_trim (h.below hB0.drew) hn).mono fun _ _ ⟨h1,h2⟩=>⟨h1,h2.symm⟩
 have kb:Calls Tryz.prog 178 #[.slice A' n' c'] W0.drew fun e w'=>e = .returned (.slice A' (nl m) c') ∧ w' = W0.drew:=(nat_trim (h'.below hB0.drew) hn').mono fun _ _ ⟨h1,h2⟩=>⟨h1,h2.symm⟩
 have HKA:=Lib.hid ka
 have HKB:=Lib.hid kb
 clear ka kb hs0
 go_wp2
 clear hW0
 refine wp_region_still_tail 4 (by kernel_rfl) (by kernel_rfl) ?_
 simp only [List.take_succ_cons,List.take_zero,List.drop_succ_cons,List.drop_zero]
 change wpStill _ _ W0.drew _ _ _
 still_step
 still_call HKA.out
 still_step
 still_call HKB.out
 refine wpStill_nil ?_
 by_cases hne:nl l = nl m
 ·have hneb:(nl l == nl m) = true:=by simpa using hne
  have HNE:=Lib.hid hne
  clear hne
  go_wp2_with (go_at_call 179; refine (callsIn_wide.1 (bkU_in Fence.wide 8 trivial rfl _ _ _ _)).mono ?_; rintro e w1 ⟨rfl,rfl⟩)
  have s1:(W0.setCell ⟨w.heap.size,0,none⟩ (.slice A (nl l) c)).heap.size = W0.heap.size:=by simp [World.setCell]
  obtain ⟨N,hN⟩:∃ N,nl l = N:=⟨_,rfl⟩
  have hN2:nl m = N:=HNE.out ▸ hN
  obtain ⟨Bs,hBs⟩:∃ Bs,W0.heap.size = Bs:=⟨_,rfl⟩
  have hBs2:w.heap.size + 3 = Bs:=HS0.out ▸ hBs
  obtain ⟨W3,hW3⟩:∃ W3,(((W0.setCell ⟨w.heap.size,0,none⟩ (.slice A (nl l) c)).setCell ⟨w.heap.size + 1,0,none⟩ (.slice A' (nl m) c')).alloc (.cells #[.slice A (nl l) c] 23)).drew = W3:=⟨_,rfl⟩
  rw [hW3,hBs,hN,hN2]
  rw [hN,hN2] at hW3
  have B0:Box W3 w.heap.size 23 (.slice A N c):=by rw [← hW3]; exact (((b0.set _).far (by simp) _).alloc _).drew
  have B1:Box W3 (w.heap.size + 1) 23 (.slice A' N c'):=by rw [← hW3]; exact (((b1.far (by simp) _).set _).alloc _).drew
  have B2:Box W3 (w.heap.size + 1 + 1) 3 (.int .i64 0):=by rw [← hW3]; exact (((b2.far (by simp <;> omega) _).far (by simp) _).alloc _).drew
  have B3:Box W3 Bs 23 (.slice A N c):=by rw [← hW3]; exact (Box.new' _ _ _ (by simp [World.setCell]; exact hBs.symm)).drew
  have hB3:Below w.heap.size w W3:=by rw [← hW3]; exact (((hB0.setCell (p:=⟨w.heap.size,0,none⟩) (by simp) _).setCell (p:=⟨w.heap.size + 1,0,none⟩) (by simp) _).alloc (by simp [World.setCell]; omega) _).drew
  have rl:=h.trim
  have rm:=h'.trim
  rw [hN] at rl
  rw [hN2] at rm
  have hcmp:∀ x y:Nat,x = val 18446744073709551616 (limbs 18446744073709551616 (val 18446744073709551616 l)) → y = val 18446744073709551616 (limbs 18446744073709551616 (val 18446744073709551616 m)) → cmpI (val 18446744073709551616 l:Nat) (val 18446744073709551616 m:Nat) = cmpI x y:=by
   intro x y hx hy
   rw [hx,hy,val_limbs B64,val_limbs B64]
  generalize limbs 18446744073709551616 (val 18446744073709551616 l) = L at *
  generalize limbs 18446744073709551616 (val 18446744073709551616 m) = M at *
  have HC:=Lib.hid (hcmp _ _ rfl rfl)
  have hN0:N ≤ 281474976710656:=Nat.le_trans (hN ▸ h.nl_le) hn
  have HN:=Lib.hid hN
  have HBS:=Lib.hid hBs2
  clear hcmp hN hN2 hBs hBs2 s1 c0 f0 c1 f1 c2 f2 hW3 hB0 b0 b1 b2 HW0 HS0 HKA HKB hneb HNE
  have hkp:∀ W W':World,(Below w.heap.size W W' ∧ W'.heap[Bs]? = W.heap[Bs]?) → BkURx Bs A N c (fun _ _=>True) W → BkURx Bs A N c (fun _ _=>True) W':=by
   intro W W' hk hr
   refine ⟨(World.cell?_of_block hk.2).trans hr.1,fun h0=>?_⟩
   obtain ⟨ad,e,hc⟩:=hr.2 h0
   refine ⟨ad,e,fun j hj=>?_⟩
   obtain ⟨x,hx,hcx⟩:=hc j hj
   refine ⟨x,hx,?_⟩
   obtain ⟨ad',e',hP',_⟩:=rl.ltb.rd.cells h0
   simp only at e'
   rw [e] at e'
   injection e' with e'
   subst e'
   rw [World.cell?_of_block (w:=W) (a:=ad.add j) (by rw [add_block]; exact hk.1.block _ hP'.2)]
   exact hcx
  refine wpIn_wide.1 (wpIn_rangeFunc_ownG (F:=Fence.wide) (n:=9) rfl (by omega) (gf:=223) (lb:=#[.pointer (some ⟨Bs,0,none⟩)]) rfl trivial (enters_of Tryz.func223 (by kernel_rfl) rfl)
   (bkU_stops Fence.wide 8 trivial rfl (by omega) Bs A N c hN0 (fun _ _=>True) (fun W W'=>Below w.heap.size W W' ∧ W'.heap[Bs]? = W.heap[Bs]?) hkp W3 ?keep) ?kt ?kb (Below.refl _ _) (fun _=>rfl)
   (fun pre W=>(Box W w.heap.size 23 (.slice A N c) ∧ Box W (w.heap.size + 1) 23 (.slice A' N c') ∧ Box W (w.heap.size + 1 + 1) 3 (.int .i64 0) ∧ ∀ y ∈ pre,gd L y.i = gd M y.i) ∧ Below w.heap.size w W)
   (fun cd pre W=>(cd = .ret ∧ (∃ ys x,pre = ys ++ [x] ∧ (∀ y ∈ ys,gd L y.i = gd M y.i) ∧ gd L x.i ≠ gd M x.i ∧ Box W (w.heap.size + 1 + 1) 3 (.int .i64 (cmpI (gd L x.i) (gd M x.i))))) ∧ Below w.heap.size w W)
   (ownFrom_of fun s W W' hs hk hb=>⟨⟨hs.1.1.keepF hk,hs.1.2.1.keepF hk,hs.1.2.2.1.keepF hk,hs.1.2.2.2⟩,hb _ _ (Nat.le_refl _) hB3.size hs.2⟩)
   (fun cd=>ownFrom_of fun s W W' hs hk hb=>⟨⟨hs.1.1,by obtain ⟨ys,x,e1,e2,e3,e4⟩:=hs.1.2; exact ⟨ys,x,e1,e2,e3,e4.keepF hk⟩⟩,hb _ _ (Nat.le_refl _) hB3.size hs.2⟩)
   ⟨⟨B0,B1,B2,by simp⟩,hB3⟩
   (fun x=>{ tmps:=#[.slice A n c,.slice A' n' c',.pointer (some ⟨w.heap.size,0,none⟩),.pointer (some ⟨w.heap.size + 1,0,none⟩),.pointer (some ⟨w.heap.size + 1 + 1,0,none⟩),.int .i64 (x.i:Int),undef,.slice A n c,.slice A N c,.slice A' n' c',.slice A' N c',.slice A N c,.int .i64 (N:Int),.slice A' N c',.int .i64 (N:Int),.bool false,undef,undef,undef,undef,undef,.slice A N c,.func (.func 223) #[] #[.pointer (some ⟨Bs,0,none⟩)],.int .i64 (x.i:Int),.int .u64 (x.x:Int),undef,undef,undef,undef,undef,undef,undef,undef,undef,undef,undef,undef],defers:=[] }) ?assign ?body ?done ?stop)
  case keep =>
   intro W hW
   refine ⟨(B3.below hW).cell,fun h0=>?_⟩
   obtain ⟨ad,e,_,hc⟩:=((rl.below hB3).below hW).rd.cells h0
   exact ⟨ad,e,fun j hj=>⟨_,trivial,hc j hj⟩⟩
  case kt=>exact fun h k=>⟨h.1.trans k.1,k.2.trans h.2⟩
  case kb =>
   intro W l o o' hl ho hc hw
   exact ⟨belowK_b (w:=W3) hB3.size W l o o' hl ho hc hw,World.putObj_heap_other (by have:=B3.lt; omega)⟩
  case assign =>
   intro l x W K hK
   gi_wp2
   exact hK
  case body =>
   rintro lp pre x W ⟨⟨q0,q1,q2,hp⟩,hq⟩ _
   have HP:=Lib.hid hp
   clear hp
   have hi:=x.lt
   have u0:=q0.cell
   have u1:=q1.cell
   have u2:=q2.cell
   have v2:=q2.free
   obtain ⟨ad,e1,k1⟩:=(rl.below hq).rd.at x.i hi
   obtain ⟨ad',e1',k1'⟩:=(rm.below hq).rd.at x.i hi
   simp only at e1 e1'
   subst e1 e1'
   have hd:1 ≤ 9 - 1 - 1:=by omega
   have kc:Calls Tryz.prog 180 #[.int .u64 (gd L x.i:Nat),.int .u64 (gd M x.i:Nat)] W.drew fun e w'=>e = .returned (.int .i64 (cmpI (gd L x.i:Nat) (gd M x.i:Nat))) ∧ w' = W.drew:=(cmp_Compare_u64 (gd L x.i:Nat) (gd M x.i:Nat) W.drew).mono fun _ _ ⟨h1,h2⟩=>⟨h1,h2.symm⟩
   have KC:=Lib.hid kc
   clear kc hkp rl rm hB3 B0 B1 B2 B3
   by_cases hne:gd L x.i = gd M x.i
   ·have hb:=cmpI_eqb hne
    have HNE:=Lib.hid hne
    clear hne
    gi_wp2
    refine round_still (by kernel_rfl) (by kernel_rfl) (by kernel_rfl) ?_
    repeat still_step
    still_call KC.out
    still_step
    refine wpStill_nil ?_
    gi_wp2
    refine ⟨(KeepsOthers.drew _).from _,⟨(Below.refl _ _).drew,rfl⟩,⟨q0.drew,q1.drew,q2.drew,fun y hy=>?_⟩,hq.drew⟩
    rcases List.mem_append.1 hy with hy | hy
    ·exact HP.out y hy
    ·rw [List.mem_singleton.1 hy]; exact HNE.out
   ·have hb:=cmpI_neb hne
    have HNE:=Lib.hid hne
    clear hne
    gi_wp2
    refine round_still (by kernel_rfl) (by kernel_rfl) (by kernel_rfl) ?_
    repeat still_step
    still_call KC.out
    still_step
    refine wpStill_nil ?_
    gi_wp2
    exact ⟨((KeepsOthers.drew _).trans (KeepsOthers.setCell _ _ _)).from _,⟨rfl,pre,x,rfl,HP.out,HNE.out,(q2.drew.set _)⟩,hq.drew.setCell (p:=⟨w.heap.size + 1 + 1,0,none⟩) (by simp; omega) _⟩
  case done =>
   rintro D ys W hD hys ⟨⟨q0,q1,q2,hp⟩,hq⟩ hK
   have hLM:L = M:=by
    have:=drop_ext (q:=0) rl.rd.len rm.rd.len (fun j _ hj=>by
     have h1:=mem_downto (Nat.le_refl N) (show N - N ≤ j by omega) hj
     rw [← hys] at h1
     obtain ⟨y,hy,rfl⟩:=List.mem_map.1 h1
     exact hp y hy)
    simpa using this
   have HLM:=Lib.hid hLM
   have HK:=Lib.hid hK
   have u2:=q2.cell
   have v2:=q2.free
   clear hp hys hK hkp rl rm hLM
   go_wp2
   have hK':=(KeepsOthers.setCell W ⟨w.heap.size + 1 + 1,0,none⟩ (.int .i64 0)).same D _ HK.out rfl
   refine ⟨by simp,.inl ⟨_,_,rfl,run_takeDeferred hK',?_⟩⟩
   have hc5:=((q2.set (.int .i64 0)).putObj (.deferred none) hK' rfl).cell
   refine ⟨.int .i64 0,by simp [results,Tryz.f127,go_sem,hc5],?_,below_putObj (hq.setCell (p:=⟨w.heap.size + 1 + 1,0,none⟩) (by simp; omega) _) (Nat.le_refl _) (Nat.le_trans hB3.size hD) _ hK' rfl rfl⟩
   rw [HC.out,HLM.out]
   unfold cmpI
   rw [if_neg (by omega),if_neg (by omega)]
  case stop =>
   rintro D cd pre W hD ⟨k,hk,hpre⟩ ⟨⟨rfl,ys,x,rfl,hp,hne,q2⟩,hq⟩ hK
   have hfin:cmpI (val 18446744073709551616 L:Nat) (val 18446744073709551616 M:Nat) = cmpI (gd L x.i:Nat) (gd M x.i:Nat):=by
    have lL:L.length = N:=rl.rd.len
    have lM:M.length = N:=rm.rd.len
    have hx:=x.lt
    rw [List.map_append] at hpre
    have h3:ys.length + 1 = k:=by have:=congrArg List.length hpre; simpa [downto_length] using this
    subst h3
    rw [downto_succ] at hpre
    have h4:=List.append_inj' hpre rfl
    have h5:x.i = N - 1 - ys.length:=by simpa using h4.2
    have hd:L.drop (x.i + 1) = M.drop (x.i + 1):=drop_ext lL lM (fun j h1 h2=>by
     have h6:=mem_downto (show ys.length ≤ N by omega) (show N - ys.length ≤ j by omega) h2
     rw [← h4.1] at h6
     obtain ⟨y,hy,rfl⟩:=List.mem_map.1 h6
     exact hp y hy)
    rw [cmpI_nat,cmpI_nat]
    rcases Nat.lt_or_ge (gd L x.i) (gd M x.i) with h7 | h7
    ·rw [if_pos h7,if_pos (val_lt_at rl.lt (by omega) (by omega) hd h7)]
    ·have h8:gd M x.i < gd L x.i:=by omega
     have h9:=val_lt_at rm.lt (by omega) (by omega) hd.symm h8
     rw [if_neg (by omega),if_pos h9,if_neg (by omega),if_pos h8]
   have HF:=Lib.hid hfin
   have HK:=Lib.hid hK
   clear hp hpre hne hK hkp rl rm hfin
   refine wpIn_wide.2 ?_
   go_wp2
   refine ⟨by simp,.inl ⟨_,_,rfl,run_takeDeferred HK.out,?_⟩⟩
   have hc5:=(q2.putObj (.deferred none) HK.out rfl).cell
   exact ⟨.int .i64 (cmpI (gd L x.i:Nat) (gd M x.i:Nat)),by simp [results,Tryz.f127,go_sem,hc5],by rw [HC.out,HF.out],below_putObj hq (Nat.le_refl _) (Nat.le_trans hB3.size hD) _ HK.out rfl rfl⟩
 ·have hneb:(nl l == nl m) = false:=by simpa using hne
  have HNE:=Lib.hid hne
  clear hne
  go_wp2_with (go_at_call 102; refine (cmp_Compare_int _ _ _).mono ?_; rintro e w1 ⟨rfl,rfl⟩)
  have hc5:=((b2.far (p:=⟨w.heap.size,0,none⟩) (by simp <;> omega) (.slice A (nl l) c)).far (p:=⟨w.heap.size + 1,0,none⟩) (by simp) (.slice A' (nl m) c') |>.set (.int .i64 (cmpI (nl l) (nl m)))).drew.cell
  refine ⟨.int .i64 (cmpI (nl l) (nl m)),by simp [results,Tryz.f127,go_sem,hc5],?_,?_⟩
  ·have h1:=HNE.out
   rw [cmpI_nat,cmpI_nat]
   rcases Nat.lt_or_ge (nl l) (nl m) with h2 | h2
   ·rw [if_pos h2,if_pos (nl_lt h2)]
   ·have h3:nl m < nl l:=by omega
    have h4:=nl_lt h3
    rw [if_neg (by omega),if_pos h3,if_neg (by omega),if_pos h4]
  ·exact (((hB0.setCell (p:=⟨w.heap.size,0,none⟩) (by simp) _).setCell (p:=⟨w.heap.size + 1,0,none⟩) (by simp) _).setCell (p:=⟨w.heap.size + 1 + 1,0,none⟩) (by simp; omega) _).drew
end Go.Proofs.YtcpgflbfjplheaaGreatDoor
