import Derived.Test.YtcpgflbfjplheaaGreatDoorNgy
import Derived.Test.YtcpgflbfjplheaaGreatDoorRly
import Derived.Test.YtcpgflbfjplheaaGreatDoorNby
namespace Go.Proofs.YtcpgflbfjplheaaGreatDoor
open Go.RowKit Go.Shelf Gs
set_option linter.unusedVariables false
attribute [local go_sem] Oper.semAt_some
def Downs (N:Nat) (is:List Nat):Prop:=is = downto N is.length
theorem Downs.snoc {N:Nat} {is:List Nat} {i:Nat} (h:Downs N (is ++ [i])):Downs N is ∧ i = N - 1 - is.length:=by
 unfold Downs at h
 rw [List.length_append,List.length_singleton,downto_succ] at h
 have h2:=List.append_inj' h rfl
 exact ⟨h2.1,by simpa using h2.2⟩
set_option maxRecDepth 100000 in
set_option maxHeartbeats 4000000 in
theorem nat_small {A n c} {l:List Nat} {P} {w:World} {b:Nat} (h:RdU w P ⟨A,n,c⟩ l) (hn:n ≤ 281474976710) (hb0:0 < b) (hb:b < 18446744073709551616) :
 Calls Tryz.prog 181 #[.slice A n c,.int .u64 b] w fun e w'=>∃ A1 n1 c1,e = .returned (.tuple #[.slice A1 n1 c1,.int .u64 (val 18446744073709551616 l % b:Nat)]) ∧ RdU w' (fun b=>w.heap.size ≤ b) ⟨A1,n1,c1⟩ (limbs 18446744073709551616 (val 18446744073709551616 l / b)) ∧ Below w.heap.size w w':=by
 have HL:=Lib.hid h.rd.len
 have km:=make_num (P:=Tryz.prog) 23 146 .u64 8 Tryz.underlying23 info_u64 (by decide) n (by omega)
 refine callsIn_wide.1 (callsIn_of_wp_marks (n:=9) Tryz.func181 rfl trivial ?_ rfl)
 simp only [Tryz.ntmps181,List.size_toArray,List.length_cons,List.length_nil,Nat.reduceAdd,Nat.reduceSub,Array.replicate_succ,Array.replicate_zero,List.push_toArray,List.append_toArray,List.nil_append,List.cons_append]
 refine wpIn_wide.2 ?_
 go_wp2_with (go_at_call 179; refine (callsIn_wide.1 (bkU_in Fence.wide 8 trivial rfl _ _ _ _)).mono ?_; rintro e w1 ⟨rfl,rfl⟩)
 clear km
 obtain ⟨W3,hW3⟩:∃ W3,W3 = (((((w.alloc (Obj.cells #[Value.slice A n c] 23)).alloc (Obj.cells #[Value.int IntKind.u64 (b:Int)] 146)).alloc (Obj.cells (nums IntKind.u64 (List.replicate n 0)).toArray 146)).alloc (Obj.cells #[Value.slice (some ⟨w.heap.size + 1 + 1,0,none⟩) n n] 23)).alloc (Obj.cells #[Value.int IntKind.u64 0] 146)).alloc (Obj.cells #[Value.slice A n c] 23):=⟨_,rfl⟩
 rw [← hW3]
 have B0:Box W3 w.heap.size 23 (.slice A n c):=by rw [hW3]; exact (((((Box.new w _ _).alloc _).alloc _).alloc _).alloc _).alloc _
 have B1:Box W3 (w.heap.size + 1) 146 (.int .u64 (b:Int)):=by rw [hW3]; exact ((((Box.new' (w.alloc _) _ _ (by simp)).alloc _).alloc _).alloc _).alloc _
 have BO:OwnN .u64 W3 w.heap.size 146 ⟨some ⟨w.heap.size + 1 + 1,0,none⟩,n,n⟩ (List.replicate n 0):=by
  rw [hW3]
  have:=OwnN.made .u64 ((w.alloc (Obj.cells #[Value.slice A n c] 23)).alloc (Obj.cells #[Value.int IntKind.u64 (b:Int)] 146)) w.heap.size 146 (List.replicate n 0) (by simp; omega) (by simp; omega)
  rw [show ((w.alloc (Obj.cells #[Value.slice A n c] 23)).alloc (Obj.cells #[Value.int IntKind.u64 (b:Int)] 146)).heap.size = w.heap.size + 1 + 1 by simp,List.length_replicate] at this
  exact ((this.alloc _).alloc _).alloc _
 have B3:Box W3 (w.heap.size + 1 + 1 + 1) 23 (.slice (some ⟨w.heap.size + 1 + 1,0,none⟩) n n):=by rw [hW3]; exact ((Box.new' (((w.alloc _).alloc _).alloc _) _ _ (by simp)).alloc _).alloc _
 have B4:Box W3 (w.heap.size + 1 + 1 + 1 + 1) 146 (.int .u64 (0:Nat)):=by rw [hW3]; exact (Box.new' ((((w.alloc _).alloc _).alloc _).alloc _) _ _ (by simp)).alloc _
 have B5:Box W3 (w.heap.size + 1 + 1 + 1 + 1 + 1) 23 (.slice A n c):=by rw [hW3]; exact Box.new' (((((w.alloc _).alloc _).alloc _).alloc _).alloc _) _ _ (by simp)
 have hB3:Below w.heap.size w W3:=by rw [hW3]; exact ((((((Below.refl _ w).alloc (Nat.le_refl _) _).alloc (by simp) _).alloc (by simp; omega) _).alloc (by simp; omega) _).alloc (by simp; omega) _).alloc (by simp; omega) _
 have rl:=h.ltb
 clear hW3
 have hkp:∀ W W':World,(Below w.heap.size W W' ∧ W'.heap[w.heap.size + 1 + 1 + 1 + 1 + 1]? = W.heap[w.heap.size + 1 + 1 + 1 + 1 + 1]?) → BkURx (w.heap.size + 1 + 1 + 1 + 1 + 1) A n c (fun _ _=>True) W → BkURx (w.heap.size + 1 + 1 + 1 + 1 + 1) A n c (fun _ _=>True) W':=by
  intro W W' hk hr
  refine ⟨(World.cell?_of_block hk.2).trans hr.1,fun h0=>?_⟩
  obtain ⟨ad,e,hc⟩:=hr.2 h0
  refine ⟨ad,e,fun j hj=>?_⟩
  obtain ⟨x,hx,hcx⟩:=hc j hj
  refine ⟨x,hx,?_⟩
  obtain ⟨ad',e',hP',_⟩:=rl.rd.cells h0
  simp only at e'
  rw [e] at e'
  injection e' with e'
  subst e'
  rw [World.cell?_of_block (w:=W) (a:=ad.add j) (by rw [add_block]; exact hk.1.block _ hP'.2)]
  exact hcx
 refine wpIn_wide.1 (wpIn_rangeFunc_ownG (F:=Fence.wide) (n:=9) rfl (by omega) (gf:=223) (lb:=#[.pointer (some ⟨w.heap.size + 1 + 1 + 1 + 1 + 1,0,none⟩)]) rfl trivial (enters_of Tryz.func223 (by kernel_rfl) rfl)
  (bkU_stops Fence.wide 8 trivial rfl (by omega) (w.heap.size + 1 + 1 + 1 + 1 + 1) A n c (by omega) (fun _ _=>True) (fun W W'=>Below w.heap.size W W' ∧ W'.heap[w.heap.size + 1 + 1 + 1 + 1 + 1]? = W.heap[w.heap.size + 1 + 1 + 1 + 1 + 1]?) hkp W3 ?keep) ?kt ?kb (Below.refl _ _) (fun _=>rfl)
  (fun pre W=>(Box W w.heap.size 23 (.slice A n c) ∧ Box W (w.heap.size + 1) 146 (.int .u64 (b:Int)) ∧ Box W (w.heap.size + 1 + 1 + 1) 23 (.slice (some ⟨w.heap.size + 1 + 1,0,none⟩) n n) ∧ ∃ (o:List Nat) (r:Nat),OwnN .u64 W w.heap.size 146 ⟨some ⟨w.heap.size + 1 + 1,0,none⟩,n,n⟩ o ∧ Lt 18446744073709551616 o ∧ r < b ∧ Box W (w.heap.size + 1 + 1 + 1 + 1) 146 (.int .u64 (r:Int)) ∧ (Downs n (pre.map (·.i)) → SmallInv l b pre.length o r)) ∧ Below w.heap.size w W)
  (fun cd pre W=>False)
  (ownFrom_of fun sx W W' hsx hk hb=>⟨⟨hsx.1.1.keepF hk,hsx.1.2.1.keepF hk,hsx.1.2.2.1.keepF hk,by
   obtain ⟨o,r,h1,h2,h3,h4,h5⟩:=hsx.1.2.2.2
   exact ⟨o,r,h1.keepF hk,h2,h3,h4.keepF hk,h5⟩⟩,hb _ _ (Nat.le_refl _) hB3.size hsx.2⟩)
  (fun cd=>ownFrom_of fun sx W W' hsx hk hb=>hsx)
  ⟨⟨B0,B1,B3,List.replicate n 0,0,BO,Lt.replicate (by omega) n,hb0,B4,fun _=>SmallInv.start l _ b hb0 (by rw [HL.out,List.length_replicate])⟩,hB3⟩
  (fun x=>{ tmps:=#[.slice A n c,.int .u64 (b:Int),.pointer (some ⟨w.heap.size,0,none⟩),.pointer (some ⟨w.heap.size + 1,0,none⟩),.slice none 0 0,.int .u64 0,.pointer (some ⟨w.heap.size + 1 + 1 + 1,0,none⟩),.pointer (some ⟨w.heap.size + 1 + 1 + 1 + 1,0,none⟩),.int .i64 (x.i:Int),.slice A n c,.int .i64 (n:Int),.slice (some ⟨w.heap.size + 1 + 1,0,none⟩) n n,.slice A n c,.func (.func 223) #[] #[.pointer (some ⟨w.heap.size + 1 + 1 + 1 + 1 + 1,0,none⟩)],.int .i64 (x.i:Int),.int .u64 (x.x:Int),undef,undef,undef,undef,undef,undef,undef,undef,undef,undef,undef,undef,undef,undef,undef,undef],defers:=[] }) ?assign ?body ?done ?stop)
 case keep =>
  intro W hW
  refine ⟨(B5.below hW).cell,fun h0=>?_⟩
  obtain ⟨ad,e,_,hc⟩:=((h.below hB3).below hW).rd.cells h0
  exact ⟨ad,e,fun j hj=>⟨_,trivial,hc j hj⟩⟩
 case kt=>exact fun h k=>⟨h.1.trans k.1,k.2.trans h.2⟩
 case kb =>
  intro W l o o' hl ho hc hw
  exact ⟨belowK_b (w:=W3) hB3.size W l o o' hl ho hc hw,World.putObj_heap_other (by have:=B5.lt; omega)⟩
 case assign =>
  intro l x W K hK
  gi_wp2
  exact hK
 case body =>
  rintro lp pre x W ⟨⟨q0,q1,q3,o,r,q2,hlt,hr,q4,hrel⟩,hq⟩ _
  have hi:=x.lt
  obtain ⟨ad,e1,k1⟩:=(h.rd.below hq).at x.i hi
  simp only at e1
  subst e1
  have u0:=q0.cell
  have u1:=q1.cell
  have u3:=q3.cell
  have u4:=q4.cell
  have v4:=q4.free
  obtain ⟨hco,hfo⟩:=q2.at x.i hi
  have hxl:=h.lt.gd (by omega) x.i
  have KD:=Lib.hid (bits_Div64 r (gd l x.i) b hr hb hxl)
  have hol:=Lib.hid q2.len
  have hnew:Downs n ((pre ++ [x]).map (·.i)) → SmallInv l b (pre ++ [x]).length (o.set x.i ((r * 18446744073709551616 + gd l x.i) / b)) ((r * 18446744073709551616 + gd l x.i) % b):=by
   intro hd
   rw [List.map_append] at hd
   obtain ⟨h1,h2⟩:=Downs.snoc hd
   rw [List.length_map] at h2
   rw [List.length_append]
   exact (hrel h1).step (by rw [hol.out,HL.out]) (by rw [HL.out]; omega) (by rw [HL.out]; exact h2)
  have hq2:(r * 18446744073709551616 + gd l x.i) / b < 18446744073709551616:=by
   rw [Nat.div_lt_iff_lt_mul hb0]
   have:(r + 1) * 18446744073709551616 ≤ b * 18446744073709551616:=Nat.mul_le_mul_right _ hr
   omega
  have hr2:(r * 18446744073709551616 + gd l x.i) % b < b:=Nat.mod_lt _ hb0
  obtain ⟨z,hz⟩:∃ z,z = gd l x.i:=⟨_,rfl⟩
  rw [← hz] at k1 KD hnew hq2 hr2
  obtain ⟨Q,hQ⟩:∃ Q,Q = (r * 18446744073709551616 + z) / b:=⟨_,rfl⟩
  obtain ⟨R,hR⟩:∃ R,R = (r * 18446744073709551616 + z) % b:=⟨_,rfl⟩
  rw [← hQ,← hR] at hnew KD
  rw [← hQ] at hq2
  rw [← hR] at hr2
  have hlt2:Lt 18446744073709551616 (o.set x.i Q):=hlt.set _ hq2
  have HN:=Lib.hid hnew
  have HR2:=Lib.hid hr2
  clear hnew hrel hz hQ hR hq2 hxl hr2 hkp rl B0 B1 BO B3 B4 B5 hB3
  gi_wp2
  refine round_quiet_tail_late 11 13 (C:=fun W'=>∃ d,W' = W.drew.drewN d) (by kernel_rfl) (by kernel_rfl) (by kernel_rfl) (by kernel_rfl) (fun _ _ _ _ _ h=>h) ⟨0,rfl⟩ ?_
  simp only [lateL,List.modify_succ_cons,List.modify_zero_cons,waitFor,List.push_toArray,List.cons_append,List.nil_append,List.take_succ_cons,List.take_zero,List.drop_succ_cons,List.drop_zero]
  repeat (go_big_quiet_step (fail))
  go_big_quiet_want
  go_big_quiet_op
  apply Exists.intro
  refine ⟨fun _=>?_,?_⟩
  ·refine (KD.out _).mono ?_
   rintro e w1 ⟨rfl,d,rfl⟩
   exact ⟨rfl,_,by rw [World.drewN_drewN,Nat.add_assoc]⟩
  go_big_quiet_on
  repeat (go_big_quiet_step (fail))
  refine wpQuiet_nil ?_
  rintro _ ⟨nq,rfl⟩
  gi_wp2
  have hk:KeepsOthers W (W.drewN (1 + nq)):=⟨Nat.le_refl _,fun _ _ h _=>h⟩
  refine ⟨((hk.trans (KeepsOthers.setCell _ _ _)).trans (KeepsOthers.setCell _ _ _)).from _,⟨((Below.drewN (Below.refl _ W) (1 + nq)).setCell (p:=⟨w.heap.size + 1 + 1,x.i,none⟩) (by simp <;> omega) _).setCell (p:=⟨w.heap.size + 1 + 1 + 1 + 1,0,none⟩) (by simp <;> omega) _,?_⟩,
   ⟨((q0.drewN (1 + nq)).far (p:=⟨w.heap.size + 1 + 1,x.i,none⟩) (by simp <;> omega) _).far (p:=⟨w.heap.size + 1 + 1 + 1 + 1,0,none⟩) (by simp <;> omega) _,((q1.drewN (1 + nq)).far (p:=⟨w.heap.size + 1 + 1,x.i,none⟩) (by simp <;> omega) _).far (p:=⟨w.heap.size + 1 + 1 + 1 + 1,0,none⟩) (by simp <;> omega) _,((q3.drewN (1 + nq)).far (p:=⟨w.heap.size + 1 + 1,x.i,none⟩) (by simp <;> omega) _).far (p:=⟨w.heap.size + 1 + 1 + 1 + 1,0,none⟩) (by simp <;> omega) _,
    o.set x.i Q,R,((OwnN.drewN q2 (1 + nq)).store x.i Q).far (p:=⟨w.heap.size + 1 + 1 + 1 + 1,0,none⟩) (by simp <;> omega) _,hlt2,HR2.out,((q4.drewN (1 + nq)).far (p:=⟨w.heap.size + 1 + 1,x.i,none⟩) (by simp <;> omega) _).set _,HN.out⟩,((Below.drewN hq (1 + nq)).setCell (p:=⟨w.heap.size + 1 + 1,x.i,none⟩) (by simp <;> omega) _).setCell (p:=⟨w.heap.size + 1 + 1 + 1 + 1,0,none⟩) (by simp <;> omega) _⟩
  rw [set_heap _ (by simp),set_heap _ (by simp <;> omega)]
  rfl
 case done =>
  rintro D ys W hD hys ⟨⟨q0,q1,q3,o,r,q2,hlt,hr,q4,hrel⟩,hq⟩ hK
  have hyl:ys.length = n:=by have:=congrArg List.length hys; rwa [List.length_map,downto_length] at this
  have hfin:=(show SmallInv l b l.length o r by
   have:=hrel (by unfold Downs; rw [List.length_map,hyl]; exact hys)
   rwa [hyl,← HL.out] at this).last
  have HF:=Lib.hid hfin
  have HK:=Lib.hid hK
  have u3:=q3.cell
  have u4:=q4.cell
  have kt:Calls Tryz.prog 178 #[.slice (some ⟨w.heap.size + 1 + 1,0,none⟩) n n] W.drew fun e w'=>e = .returned (.slice (some ⟨w.heap.size + 1 + 1,0,none⟩) (nl o) n) ∧ w' = W.drew:=(nat_trim (RdU.mk (OwnN.rd (w:=W.drew) q2) hlt) (by show n ≤ _; omega)).mono fun _ _ ⟨h1,h2⟩=>⟨h1,h2.symm⟩
  have KT:=Lib.hid kt
  have hres:=OwnN.trim (w:=W.drew) q2 hlt
  rw [hfin.1] at hres
  clear kt hys hfin hrel hK hkp rl
  go_wp2
  refine region_still (by kernel_rfl) (by kernel_rfl) ?_
  still_step
  still_call KT.out
  repeat still_step
  refine wpStill_nil ?_
  go_wp2
  have hK':W.drew.heap[D]? = some (.deferred (some [])):=HK.out
  refine ⟨by simp,.inl ⟨_,_,rfl,run_takeDeferred hK',?_⟩⟩
  have hbe:=below_putObj (l:=D) hq.drew (Nat.le_refl _) (Nat.le_trans hB3.size hD) (.deferred none) hK' rfl rfl
  refine ⟨.tuple #[.slice (some ⟨w.heap.size + 1 + 1,0,none⟩) (nl o) n,.int .u64 (r:Int)],by simp [results,Tryz.f181,go_sem],_,_,_,by rw [HF.out.2],(hres.putObj (.deferred none) hK' rfl).rdU (limbs_lt B64 _),hbe⟩
 case stop =>
  rintro D cd pre W hD hp hf hK
  exact hf.elim
end Go.Proofs.YtcpgflbfjplheaaGreatDoor
