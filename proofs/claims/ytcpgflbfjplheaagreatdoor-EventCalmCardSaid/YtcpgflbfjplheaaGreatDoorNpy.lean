import Derived.Test.YtcpgflbfjplheaaGreatDoorNdy
import Derived.Test.YtcpgflbfjplheaaGreatDoorNhy
import Derived.Test.YtcpgflbfjplheaaGreatDoorTfy
import Derived.Test.YtcpgflbfjplheaaGreatDoorNoy
import Derived.Test.YtcpgflbfjplheaaGreatDoorKcy
namespace Go.Proofs.YtcpgflbfjplheaaGreatDoor
open Go.RowKit Go.Shelf Gs Go.Lib Go.Sort
set_option linter.unusedVariables false
attribute [local go_sem] Oper.semAt_some
def TextInv (r m:Nat) (o:List Nat) (q:Nat):Prop:=q = r / 10 ^ m ∧ ∀ j,18 - m ≤ j → j < 18 → gd o j = 48 + r / 10 ^ (17 - j) % 10
theorem TextInv.start (r:Nat) (o:List Nat):TextInv r 0 o r:=⟨by simp,fun j h1 h2=>by omega⟩
theorem TextInv.step {r m:Nat} {o:List Nat} {q:Nat} (h:TextInv r m o q) (hm:m < 18) (hl:o.length = 18):TextInv r (m + 1) (o.set (17 - m) (48 + q % 10)) (q / 10):=by
 obtain ⟨h1,h2⟩:=h
 refine ⟨by rw [h1,Nat.div_div_eq_div_mul,← Nat.pow_succ],fun j h3 h4=>?_⟩
 by_cases hj:j = 17 - m
 ·subst hj
  rw [gd_set_self (by omega),h1]
  congr 3
  congr 1
  omega
 ·rw [gd_set_ne (by omega)]
  exact h2 j (by omega) h4
theorem TextInv.last {r:Nat} {o:List Nat} {q:Nat} (h:TextInv r 18 o q) (hl:o.length = 18):o = digs 18 r:=digs_ext hl fun j hj=>h.2 j (by omega) hj
def TextK (M:Nat) (W W':World):Prop:=Below M W W' ∧ (BkBRx (M + 1 + 1 + 1) (some ⟨M + 1,0,none⟩) 18 18 (fun _ _=>True) W → BkBRx (M + 1 + 1 + 1) (some ⟨M + 1,0,none⟩) 18 18 (fun _ _=>True) W')
def TextRel (P:Nat → Prop) (w:World) (v g:Nat) (ds:List Deferred) (va vp:Value) (wr:World):Prop :=
 ∃ (A:Option Addr) (n c:Nat) (s:Sl) (ps:List ByteArray),va = .slice A n c ∧ vp = .slice s.A s.n s.c ∧ RdU wr (fun b=>(P b ∧ b < w.heap.size) ∨ w.heap.size + 1 ≤ b) ⟨A,n,c⟩ (limbs 18446744073709551616 g) ∧ OwnV wr (w.heap.size + 1) 9 s (ps.map .string) ∧
  TenS wr w.heap.size ∧ Below w.heap.size w wr ∧ Parts v g ps ∧ (∀ p ∈ ps,p.size = 18) ∧ ps.length ≤ 1000000 ∧ Marks w.heap.size wr wr.heap.size ds
theorem info_u8:(Tryz.prog.info? 5).map (fun i=>(i.zero,i.size,i.bytes)) = some (some (.int .u8 0),1,1):=by kernel_rfl
theorem info_string:(Tryz.prog.info? 9).map (fun i=>(i.zero,i.size,i.bytes)) = some (some (.string ⟨#[]⟩),1,16):=by kernel_rfl
set_option maxHeartbeats 1000000 in
theorem text_join {gb sc q:Nat} {wr:World} {ps:List ByteArray} (hH:Holds encStr wr gb 0 (ps.map (·.data.toList)).toArray) (hlt:gb < wr.heap.size) (hl:ps.length ≤ 1000000) (hcap:ps.length ≤ sc) (hps:∀ p ∈ ps,p.size = 18) :
 Calls Tryz.prog 186 #[.slice (some ⟨gb,0,none⟩) ps.length sc,.string ⟨#[]⟩] (putRow encStr (Sort.ahead wr q) gb 0 (ps.map (·.data.toList)).reverse.toArray) fun e w'=>∃ t,e = .returned (.string t) ∧ byt t = catB ps ∧ Below (putRow encStr (Sort.ahead wr q) gb 0 (ps.map (·.data.toList)).reverse.toArray).heap.size (putRow encStr (Sort.ahead wr q) gb 0 (ps.map (·.data.toList)).reverse.toArray) w':=by
 obtain ⟨W,hW⟩:∃ W,W = putRow encStr (Sort.ahead wr q) gb 0 (ps.map (·.data.toList)).reverse.toArray:=⟨_,rfl⟩
 have hH2:Holds encStr W gb 0 (ps.map (·.data.toList)).reverse.toArray:=by
  rw [hW]
  have hA:Holds encStr (Sort.ahead wr q) gb 0 (ps.map (·.data.toList)).toArray:=hH
  exact holds_putRow encStr (Sort.ahead wr q) gb 0 (ps.map (·.data.toList)).toArray _ hA (by simp)
 have hsz:gb < W.heap.size:=by rw [hW,size_putRow]; exact hlt
 rw [← hW]
 clear hW hH
 have hcells:∀ (j:Nat) x,ps.reverse[j]? = some x → W.cell? ⟨gb,0 + j,none⟩ = some (.string x):=by
  intro j x hx
  have hj:=(List.getElem?_eq_some_iff.1 hx).1
  rw [List.length_reverse] at hj
  have h1:=(hH2 j (by simpa using hj)).1
  rw [h1]
  have h2:(ps.map (·.data.toList)).reverse.toArray[j]! = x.data.toList:=by
   rw [getElem!_pos _ j (by simpa using hj)]
   simp only [List.getElem_toArray]
   have h3:(ps.map (·.data.toList)).reverse[j]? = some x.data.toList:=by
    rw [← List.map_reverse,List.getElem?_map,hx]
    rfl
   exact (List.getElem?_eq_some_iff.1 h3).2
  rw [h2]
 have hjl:(Lib.join (ps.reverse.map (·.data.toList)) []).length = 18 * ps.length:=by
  rw [← catB_length_le ps 18 hps,← byt_join,byt_mk,List.length_map]
 have hb:=byt_join ps
 have hbig:(Lib.join (ps.reverse.map (·.data.toList)) (⟨#[]⟩:ByteArray).data.toList).length ≤ 140737488355328:=by
  refine Nat.le_trans (Nat.le_of_eq hjl) ?_
  omega
 have kj:=Tryz.strings_Join gb 0 sc ps.reverse ⟨#[]⟩ W hcells hsz (by rw [List.length_reverse]; omega) (by rw [List.length_reverse]; exact hcap) hbig
 rw [List.length_reverse] at kj
 exact kj.mono fun e w' h=>⟨_,h.1,hb,h.2⟩
theorem text_rev {gb sc b2:Nat} {wr:World} {ps:List ByteArray} {te:TypeId} (hown:OwnV wr b2 te ⟨some ⟨gb,0,none⟩,ps.length,sc⟩ (ps.map .string)) (hl:ps.length ≤ 1000000) (hps:∀ p ∈ ps,p.size = 18) :
 Calls Tryz.prog 184 #[.slice (some ⟨gb,0,none⟩) ps.length sc] wr fun e w'=>e = .returned (.tuple #[]) ∧ (∀ base w0,Below base w0 wr → base ≤ gb → Below base w0 w') ∧ (∀ base top ds,Marks base wr top ds → Marks base w' top ds) ∧
  Calls Tryz.prog 186 #[.slice (some ⟨gb,0,none⟩) ps.length sc,.string ⟨#[]⟩] w' fun e w''=>∃ t,e = .returned (.string t) ∧ byt t = catB ps ∧ Below w'.heap.size w' w'':=by
 have hh:wr.ownsRow b2 te 1 (.slice (some ⟨gb,0,none⟩) ps.length sc) ps.length ((ps.map (·.data.toList)).map encStr):=by rw [Lib.map_encStr]; exact hown
 obtain ⟨g,cap,e,hbase,hlt,hncap,hcapm,hzl,hH⟩:=Lib.holds_of_ownsRow hh (fun h=>by cases h)
 injection e with e1 _ e3
 injection e1 with e1
 injection e1 with e1
 subst e1 e3
 have kr:=Tryz.slices_Reverse_string gb 0 sc (ps.map (·.data.toList)) wr hH (by rw [List.length_map]; omega)
 rw [List.length_map] at kr
 refine kr.mono fun e w' h=>⟨h.1,?_⟩
 obtain ⟨q,rfl⟩:=h.2
 refine ⟨fun base w0 hb hg=>Lib.below_putRow hb hg,fun base top ds hm=>hm.keep fun D _ _ hD=>?_,text_join hH hlt hl hncap hps⟩
 have hne:gb ≠ D:=by
  rintro rfl
  rcases hown.form with ⟨e1,_⟩ | ⟨g2,c2,cur,e1,_,hh2⟩
  ·injection e1 with e1; cases e1
  ·injection e1 with e1
   injection e1 with e1
   injection e1 with e1
   subst e1
   rw [hD] at hh2
   cases hh2
 simp [putRow,mapBlock,Sort.ahead,Array.getElem?_modify,hne]
set_option maxRecDepth 100000 in
set_option maxHeartbeats 4000000 in
theorem nat_Text {A n c} {l:List Nat} {P} {w:World} {K:Nat} (h:RdU w P ⟨A,n,c⟩ l) (hn:n ≤ 281474976710) (hv:val 18446744073709551616 l < 10 ^ K) (hK:K ≤ 1000000) :
 Calls Tryz.prog 129 #[.slice A n c] w fun e w'=>∃ s,e = .returned (.string s) ∧ IsText s (val 18446744073709551616 l) ∧ Below w.heap.size w w':=by
 have ht:=ten_alloc w
 have hten0:=ten_new w
 have hB1:Below w.heap.size w (w.alloc (.cells (Value.int .u32 0 :: Value.int .i32 0 :: Value.int .u32 0 :: nums .u64 (List.replicate 19 0)).toArray 246)):=(Below.refl _ w).alloc (Nat.le_refl _) _
 have h1:=h.ltb.below hB1
 have kt:=nat_trim h1 (by omega)
 have KT:=Lib.hid kt
 have hr:=h1.trim
 have hN:=h.nl_le
 have hvB:val 18446744073709551616 l < 18446744073709551616 ^ nl l:=lt_of_limbs_len B64 (Nat.le_refl _)
 obtain ⟨M,hM⟩:∃ M,M = nl l:=⟨_,rfl⟩
 rw [← hM] at hvB
 have hM2:M ≤ 281474976710:=by omega
 clear hM
 obtain ⟨v,hv0⟩:∃ v,v = val 18446744073709551616 l:=⟨_,rfl⟩
 rw [← hv0] at hr hv hvB ⊢
 have HV:=Lib.hid hvB
 have HK:=Lib.hid hv
 clear kt h1 hv0 hvB hv
 refine callsIn_wide.1 (callsIn_of_wp_marks (n:=9) Tryz.func129 rfl trivial ?_ rfl)
 simp only [Tryz.ntmps129,List.size_toArray,List.length_cons,List.length_nil,Nat.reduceAdd,Nat.reduceSub,Array.replicate_succ,Array.replicate_zero,List.push_toArray,List.append_toArray,List.nil_append,List.cons_append]
 refine wpIn_wide.2 ?_
 go_wp2_with fail
 refine KT.out.mono ?_
 rintro e w1 ⟨rfl,rfl⟩
 go_wp2
 refine wp_loop_ghost_k (fun g a' w'=>∃ (u5 u6 u7 u8 u12 u13 u14 u15 u16 u17 u18 u19 u20 u21 u22 u23 u24 u25 u26 u27 u28 u29 u30 u31 u32 u33 u34 u35 u36 u37 u38 u39 u40:Value) (ds:List Deferred) (va vp:Value),TextRel P w v g ds va vp w' ∧ a' = { tmps:=#[va,undef,.string ⟨#[]⟩,.pointer (some ⟨w.heap.size,0,none⟩),vp,u5,u6,u7,u8,undef,.slice A n c,.slice A (nl l) c,u12,u13,u14,u15,u16,u17,u18,u19,u20,u21,u22,u23,u24,u25,u26,u27,u28,u29,u30,u31,u32,u33,u34,u35,u36,u37,u38,u39,u40,undef,undef,undef,undef,undef,undef,undef,undef],defers:=ds }) v ?_ ?_
 ·refine ⟨undef,undef,undef,undef,undef,undef,undef,undef,undef,undef,undef,undef,undef,undef,undef,undef,undef,undef,undef,undef,undef,undef,undef,undef,undef,undef,undef,undef,undef,undef,undef,undef,undef,[],.slice A (nl l) c,.slice none 0 0,⟨A,nl l,c,⟨none,0,0⟩,[],rfl,rfl,hr.mono (fun b hb=>.inl hb),OwnV.nil _ _ _,hten0,hB1,Parts.start v,by simp,by simp,trivial⟩,rfl⟩
 intro g a' wr hinv
 obtain ⟨u5,u6,u7,u8,u12,u13,u14,u15,u16,u17,u18,u19,u20,u21,u22,u23,u24,u25,u26,u27,u28,u29,u30,u31,u32,u33,u34,u35,u36,u37,u38,u39,u40,ds,va,vp,⟨A1,n1,c1,s,ps,rfl,rfl,hx,hown,hten,hb,hparts,hps,hlenp,hmarks⟩,rfl⟩:=hinv
 intro J KK hJ hKK
 have hlen:=hx.rd.len
 simp only at hlen
 have HP:=Lib.hid hparts
 have HS:=Lib.hid hps
 have HM:=Lib.hid hmarks
 clear hparts hps hmarks
 by_cases h0:n1 = 0
 ·subst h0
  have hg0:g = 0:=(limbs_len_zero B64 _).1 hlen
  subst hg0
  have hh:wr.ownsRow (w.heap.size + 1) 9 1 (.slice s.A s.n s.c) s.n ((ps.map (·.data.toList)).map encStr):=by rw [Lib.map_encStr]; exact hown
  have hpsn:ps.length = s.n:=by have:=hown.len; rwa [List.length_map] at this
  have hcat:(catB ps).length = 18 * ps.length:=catB_length_le ps 18 HS.out
  by_cases hnil:Value.slice s.A s.n s.c = .slice none 0 0
  ·obtain ⟨sA,sn,sc⟩:=s
   injection hnil with e1 e2 e3
   subst e1 e2 e3
   obtain rfl:ps = []:=List.length_eq_zero_iff.1 hpsn
   have kr:=Tryz.slices_Reverse_string_empty none 0 wr
   have kj:=Tryz.strings_Join_none none 0 ⟨#[]⟩ wr
   have kt:=Tryz.strings_TrimLeft_one ⟨#[]⟩ 48 (by decide) wr
   have KR:=Lib.hid kr
   have KJ:=Lib.hid kj
   have KT2:=Lib.hid kt
   clear kr kj kt hh
   go_wp2_with (first | (go_at_call 184; refine KR.out.mono ?_; rintro e w1 ⟨rfl,rfl⟩) | (go_at_call 186; refine KJ.out.mono ?_; rintro e w1 ⟨rfl,rfl⟩) | (go_at_call 185; refine KT2.out.mono ?_; rintro e w1 ⟨rfl,rfl⟩))
   refine leaves_marks (base:=w.heap.size) (w0:=w) (Nat.le_refl _) rfl ds _ _ HM.out hb (fun W' hb'=>⟨.string ⟨#[48]⟩,by simp [results,Tryz.f129,go_sem],⟨#[48]⟩,rfl,?_,hb'⟩)
   exact HP.out.text0 (s:=⟨#[]⟩) rfl rfl rfl
  ·obtain ⟨gb,cap,e,hbase,hlt,hncap,hcapm,hzl,hH⟩:=Lib.holds_of_ownsRow hh hnil
   obtain ⟨sA,sn,sc⟩:=s
   simp only at e hpsn
   injection e with e1 _ e3
   subst e1 e3 hpsn
   have kr:=text_rev hown hlenp HS.out
   have hgb:w.heap.size + 1 ≤ gb:=(hown.lt gb rfl).1
   have HKR:=Lib.hid kr
   clear kr hh hH
   go_wp2_with fail
   refine HKR.out.mono ?_
   rintro e w1 ⟨rfl,hbl,hml,kj⟩
   have hb1:=hbl w.heap.size w hb (by omega)
   have hm1:=hml w.heap.size wr.heap.size ds HM.out
   have HM1:=Lib.hid hm1
   have HKJ:=Lib.hid kj
   clear hbl hml hm1 kj
   go_wp2_with fail
   refine HKJ.out.mono ?_
   rintro e w2 ⟨t,rfl,hbt,hb2⟩
   have hbu:=byt_trim t
   rw [hbt] at hbu
   have kt:=Tryz.strings_TrimLeft_one t 48 (by decide) w2
   obtain ⟨u,hu⟩:∃ u,u = Lib.trimLeftB t.data.toList 48:=⟨_,rfl⟩
   rw [← hu] at kt hbu
   have KT2:=Lib.hid kt
   have HBU:=Lib.hid hbu
   have hB2:Below w.heap.size w w2:=Gs.Below.then hb1 hb1.size hb2
   have HM2:=Lib.hid (HM1.out.below hb2)
   clear kt hbu hu hbt hb2
   go_wp2_with fail
   refine KT2.out.mono ?_
   rintro e w3 ⟨rfl,rfl⟩
   cases u with
   | nil =>
    go_wp2_with fail
    refine leaves_marks (base:=w.heap.size) (w0:=w) (Nat.le_refl _) rfl ds _ _ HM2.out hB2 (fun W' hb'=>⟨.string ⟨#[48]⟩,by simp [results,Tryz.f129,go_sem],⟨#[48]⟩,rfl,?_,hb'⟩)
    exact HP.out.text0 HBU.out rfl rfl
   | cons c0 u =>
    go_wp2_with fail
    refine leaves_marks (base:=w.heap.size) (w0:=w) (Nat.le_refl _) rfl ds _ _ HM2.out hB2 (fun W' hb'=>⟨.string ⟨(c0 :: u).toArray⟩,by simp [results,Tryz.f129,go_sem],_,rfl,?_,hb'⟩)
    exact HP.out.text HBU.out (by show (c0 :: u).length ≠ 0; simp)
 ·have hgle:g ≤ v:=by
   rw [← HP.out.2]
   exact Nat.le_trans (Nat.le_mul_of_pos_right _ (Nat.pow_pos (by omega))) (Nat.le_add_right _ _)
  have hn1:n1 ≤ 281474976710:=by
   rw [← hlen]
   exact Nat.le_trans (limbs_len_le B64 (Nat.lt_of_le_of_lt hgle HV.out)) hM2
  have hg0:0 < g:=by
   rcases Nat.eq_zero_or_pos g with h1 | h1
   ·exact absurd (by rw [← hlen,h1]; rfl) h0
   ·exact h1
  have hpos:(0:Int) < (n1:Int):=by omega
  have kp:=ten_power hten (n:=18) (by omega) (by omega)
  rw [show (10 ^ (18:Int).toNat:Nat) = 1000000000000000000 from rfl] at kp
  have KP:=Lib.hid kp
  have HL:=Lib.hid hlen
  clear kp hlen
  go_wp2_with (go_at_call 182; refine KP.out.mono ?_; rintro e w1 ⟨rfl,hten1,hsolo⟩)
  have hx1:=hx.solo hsolo (fun b hb=>by omega)
  have hb1:Below w.heap.size w w1:=hb.trans (hsolo.below (Nat.le_refl _))
  have hown1:OwnV w1 (w.heap.size + 1) 9 s (ps.map .string):=hown.keep fun g cur hg _=>hsolo.other g (by
   rintro rfl
   have:=(hown.lt w.heap.size (by rw [hg]; rfl)).1
   omega)
  have hm1:Marks w.heap.size w1 wr.heap.size ds:=HM.out.keep fun D _ _ hD=>hsolo.other D (by
   rintro rfl
   obtain ⟨xs,h5 | ⟨h5,_⟩⟩:=hten <;> rw [h5.heap] at hD <;> cases hD)
  have hsz1:=hsolo.size
  have hsz0:=hten1.lt
  rw [← hsz1] at hm1
  have HM1:=Lib.hid hm1
  clear hm1 HM hx hb hown hten KP
  refine (nat_small (b:=1000000000000000000) hx1 hn1 (by decide) (by decide)).mono ?_
  rintro e w2 ⟨A2,n2,c2,rfl,hq,hb2⟩
  rw [val_limbs B64] at hq ⊢
  have hten2:TenS w2 w.heap.size:=hten1.keep (hb2.block _ hsz0)
  have hown2:=hown1.below hb2
  have hm2:=HM1.out.below hb2
  have hb20:Below w.heap.size w w2:=Gs.Below.then hb1 hb1.size hb2
  have hq2:RdU w2 (fun b=>w1.heap.size ≤ b ∧ b < w2.heap.size) ⟨A2,n2,c2⟩ (limbs 18446744073709551616 (g / 1000000000000000000)):=hq.ltb
  have HM2:=Lib.hid hm2
  have hrow1:∀ j,(Value.slice s.A s.n s.c).ownBlock = some j → j < w1.heap.size:=fun j hj=>(hown1.lt j hj).2
  clear hm2 HM1 hown1 hten1 hx1 hq
  have km:∀ W:World,(Instr.makeSlice 251 (.int .i64 18) (.int .i64 18)).run Tryz.prog W = .ok (.slice (some ⟨W.heap.size,0,none⟩) 18 18) (W.alloc (.cells (nums .u8 (List.replicate 18 0)).toArray 5)):=make_num (P:=Tryz.prog) 251 5 .u8 1 Tryz.underlying251 info_u8 (by decide) 18 (by omega)
  obtain ⟨r,hr0⟩:∃ r,r = g % 1000000000000000000:=⟨_,rfl⟩
  rw [← hr0]
  have HR:=Lib.hid hr0
  have hrl:r < 1000000000000000000:=by rw [hr0]; exact Nat.mod_lt _ (by omega)
  clear hr0
  go_wp2_with (go_at_call 183; refine (callsIn_wide.1 (bkB_in Fence.wide 8 trivial rfl _ _ _ _)).mono ?_; rintro e w3 ⟨rfl,rfl⟩)
  clear km
  obtain ⟨W3,hW3⟩:∃ W3,W3 = (((w2.alloc (Obj.cells #[Value.int IntKind.u64 (r:Int)] 146)).alloc (Obj.cells (nums IntKind.u8 (List.replicate 18 0)).toArray 5)).alloc (Obj.cells #[Value.slice (some ⟨w2.heap.size + 1,0,none⟩) 18 18] 251)).alloc (Obj.cells #[Value.slice (some ⟨w2.heap.size + 1,0,none⟩) 18 18] 251):=⟨_,rfl⟩
  have hgo:((((w2.alloc (Obj.cells #[Value.int IntKind.u64 (r:Int)] 146)).alloc (Obj.cells (nums IntKind.u8 [0,0,0,0,0,0,0,0,0,0,0,0,0,0,0,0,0,0]).toArray 5)).alloc (Obj.cells #[Value.slice (some ⟨w2.heap.size + 1,0,none⟩) 18 18] 251)).alloc (Obj.cells #[Value.slice (some ⟨w2.heap.size + 1,0,none⟩) 18 18] 251)) = W3:=hW3.symm
  rw [hgo]
  clear hgo
  have B6:Box W3 w2.heap.size 146 (.int .u64 (r:Int)):=by rw [hW3]; exact (((Box.new w2 _ _).alloc _).alloc _).alloc _
  have BO:OwnN .u8 W3 w2.heap.size 5 ⟨some ⟨w2.heap.size + 1,0,none⟩,18,18⟩ (List.replicate 18 0):=by
   rw [hW3]
   have:=OwnN.made .u8 (w2.alloc (Obj.cells #[Value.int IntKind.u64 (r:Int)] 146)) w2.heap.size 5 (List.replicate 18 0) (by simp) (by simp)
   rw [show (w2.alloc (Obj.cells #[Value.int IntKind.u64 (r:Int)] 146)).heap.size = w2.heap.size + 1 by simp,List.length_replicate] at this
   exact (this.alloc _).alloc _
  have B7:Box W3 (w2.heap.size + 1 + 1) 251 (.slice (some ⟨w2.heap.size + 1,0,none⟩) 18 18):=by rw [hW3]; exact (Box.new' ((w2.alloc _).alloc _) _ _ (by simp)).alloc _
  have B8:Box W3 (w2.heap.size + 1 + 1 + 1) 251 (.slice (some ⟨w2.heap.size + 1,0,none⟩) 18 18):=by rw [hW3]; exact Box.new' (((w2.alloc _).alloc _).alloc _) _ _ (by simp)
  have hB3:Below w2.heap.size w2 W3:=by rw [hW3]; exact ((((Below.refl _ w2).alloc (Nat.le_refl _) _).alloc (by simp) _).alloc (by simp; omega) _).alloc (by simp; omega) _
  clear hW3
  have hlt8:=B8.lt
  refine wpIn_wide.1 (wpIn_rangeFunc_ownG (F:=Fence.wide) (n:=9) rfl (by omega) (gf:=227) (lb:=#[.pointer (some ⟨w2.heap.size + 1 + 1 + 1,0,none⟩)]) rfl trivial (enters_of Tryz.func227 (by kernel_rfl) rfl)
   (bkB_stops Fence.wide 8 trivial rfl (by omega) (w2.heap.size + 1 + 1 + 1) (some ⟨w2.heap.size + 1,0,none⟩) 18 18 (by omega) (fun _ _=>True) (TextK w2.heap.size) (fun _ _ hk=>hk.2) W3 ?keep) ?kt ?kb (Below.refl _ _) (fun _=>rfl)
   (fun pre W=>(Box W (w2.heap.size + 1 + 1) 251 (.slice (some ⟨w2.heap.size + 1,0,none⟩) 18 18) ∧ ∃ (o:List Nat) (q:Nat),OwnN .u8 W w2.heap.size 5 ⟨some ⟨w2.heap.size + 1,0,none⟩,18,18⟩ o ∧ q < 1000000000000000000 ∧ Box W w2.heap.size 146 (.int .u64 (q:Int)) ∧ Hid (Downs 18 (pre.map (·.i)) → TextInv r pre.length o q)) ∧ Below w2.heap.size w2 W)
   (fun cd pre W=>False)
   (ownFrom_of fun sx W W' hsx hk hb=>⟨⟨hsx.1.1.keepF hk,by
    obtain ⟨o,q,h1,h2,h3,h4⟩:=hsx.1.2
    exact ⟨o,q,h1.keepF hk,h2,h3.keepF hk,h4⟩⟩,hb _ _ (Nat.le_refl _) hB3.size hsx.2⟩)
   (fun cd=>ownFrom_of fun sx W W' hsx hk hb=>hsx)
   ⟨⟨B7,List.replicate 18 0,r,BO,hrl,B6,Lib.hid fun _=>TextInv.start r _⟩,hB3⟩
   (fun x=>{ tmps:=#[.slice A1 n1 c1,undef,.string ⟨#[]⟩,.pointer (some ⟨w.heap.size,0,none⟩),.slice s.A s.n s.c,.slice A2 n2 c2,.pointer (some ⟨w2.heap.size,0,none⟩),.pointer (some ⟨w2.heap.size + 1 + 1,0,none⟩),.int .i64 (x.i:Int),undef,.slice A n c,.slice A (nl l) c,.slice A1 n1 c1,.int .i64 (n1:Int),.bool true,.tuple #[.slice A2 n2 c2,.int .u64 (r:Int)],.slice A1 n1 c1,.int .u64 1000000000000000000,.tuple #[.slice A2 n2 c2,.int .u64 (r:Int)],.slice A2 n2 c2,.int .u64 (r:Int),.slice (some ⟨w2.heap.size + 1,0,none⟩) 18 18,.slice (some ⟨w2.heap.size + 1,0,none⟩) 18 18,.func (.func 227) #[] #[.pointer (some ⟨w2.heap.size + 1 + 1 + 1,0,none⟩)],.int .i64 (x.i:Int),.int .u8 (x.x:Int),u26,u27,u28,u29,u30,u31,u32,u33,u34,u35,u36,u37,u38,u39,u40,undef,undef,undef,undef,undef,undef,undef,undef],defers:=[] }) ?assign ?body ?done ?stop)
  case keep =>
   intro W hW
   refine ⟨(B8.below hW).cell,fun h0=>⟨_,rfl,fun j hj=>⟨0,trivial,?_⟩⟩⟩
   have h5:=((BO.below hW).at j hj).1
   rw [show gd (List.replicate 18 0) j = 0 by rw [gd_lt (by rw [List.length_replicate]; exact hj),List.getElem_replicate]] at h5
   rw [show (⟨w2.heap.size + 1,0,none⟩:Addr).add j = ⟨w2.heap.size + 1,j,none⟩ by unfold Addr.add; split <;> simp_all]
   exact h5
  case kt=>exact fun h k=>⟨h.1.trans k.1,fun q=>k.2 (h.2 q)⟩
  case kb =>
   intro W l o o' hl ho hc hw
   refine ⟨belowK_b (w:=W3) hB3.size W l o o' hl ho hc hw,fun hR=>⟨?_,fun h0=>?_⟩⟩
   ·rw [World.cell?_of_block (w:=W) (a:=⟨w2.heap.size + 1 + 1 + 1,0,none⟩) (World.putObj_heap_other (by simp only; omega))]
    exact hR.1
   ·obtain ⟨ad,e,hc⟩:=hR.2 h0
    injection e with e
    subst e
    refine ⟨_,rfl,fun j hj=>?_⟩
    obtain ⟨x,hx,hcx⟩:=hc j hj
    refine ⟨x,hx,?_⟩
    rw [World.cell?_of_block (w:=W) (World.putObj_heap_other (by rw [add_block]; simp only; omega))]
    exact hcx
  case assign =>
   intro l x W K hK
   gi_wp2
   exact hK
  case body =>
   rintro lp pre x W ⟨⟨q7,o,q,q2,hq0,q6,hrel⟩,hqq⟩ hpl
   have hi:=x.lt
   have u7:=q7.cell
   have u6:=q6.cell
   have v6:=q6.free
   obtain ⟨hco,hfo⟩:=q2.at x.i hi
   clear B6 BO B7 B8 hB3
   gi_wp2
   have e1:(48 + (q:Int) % 10) = ((48 + q % 10:Nat):Int):=by omega
   have e2:(q:Int) / 10 = ((q / 10:Nat):Int):=by omega
   rw [e1,e2]
   have q2':OwnN .u8 ((W.setCell ⟨w2.heap.size + 1,x.i,none⟩ (.int .u8 ((48 + q % 10:Nat):Int))).setCell ⟨w2.heap.size,0,none⟩ (.int .u64 ((q / 10:Nat):Int))) w2.heap.size 5 ⟨some ⟨w2.heap.size + 1,0,none⟩,18,18⟩ (o.set x.i (48 + q % 10)) :=
    (q2.store x.i (48 + q % 10)).far (p:=⟨w2.heap.size,0,none⟩) (by simp) _
   refine ⟨((KeepsOthers.setCell _ _ _).trans (KeepsOthers.setCell _ _ _)).from _,⟨((Below.refl _ W).setCell (p:=⟨w2.heap.size + 1,x.i,none⟩) (by simp <;> omega) _).setCell (p:=⟨w2.heap.size,0,none⟩) (by simp <;> omega) _,fun hR=>⟨?_,fun h0=>⟨_,rfl,fun j hj=>⟨gd (o.set x.i (48 + q % 10)) j,trivial,?_⟩⟩⟩⟩,
    ⟨(q7.far (p:=⟨w2.heap.size + 1,x.i,none⟩) (by simp <;> omega) _).far (p:=⟨w2.heap.size,0,none⟩) (by simp <;> omega) _,_,_,q2',by omega,(q6.far (p:=⟨w2.heap.size + 1,x.i,none⟩) (by simp) _).set _,Lib.hid ?_⟩,(hqq.setCell (p:=⟨w2.heap.size + 1,x.i,none⟩) (by simp <;> omega) _).setCell (p:=⟨w2.heap.size,0,none⟩) (by simp <;> omega) _⟩
   ·rw [World.cell?_of_block (w:=W) (a:=⟨w2.heap.size + 1 + 1 + 1,0,none⟩)]
    ·exact hR.1
    ·rw [set_heap _ (by simp <;> omega),set_heap _ (by simp <;> omega)]
   ·rw [show (⟨w2.heap.size + 1,0,none⟩:Addr).add j = ⟨w2.heap.size + 1,j,none⟩ by unfold Addr.add; split <;> simp_all]
    exact (q2'.at j hj).1
   ·intro hd
    rw [List.map_append] at hd
    obtain ⟨h1,h2⟩:=Downs.snoc hd
    rw [List.length_map] at h2
    have h3:x.i = 17 - pre.length:=by omega
    rw [List.length_append,h3]
    exact (hrel.out h1).step (by omega) q2.len
  case done =>
   rintro D ys W hD hys ⟨⟨q7,o,q,q2,hq0,q6,hrel⟩,hqq⟩ hK
   have hyl:ys.length = 18:=by have:=congrArg List.length hys; rwa [List.length_map,downto_length] at this
   have hfin:o = digs 18 r:=by
    have:=hrel.out (by unfold Downs; rw [List.length_map,hyl]; exact hys)
    rw [hyl] at this
    exact this.last q2.len
   subst hfin
   have HK2:=Lib.hid hK
   have u7:=q7.cell
   have hW:=hqq.size
   have kc:(convert 251 9 (.slice (some ⟨w2.heap.size + 1,0,none⟩) 18 18)).run Tryz.prog W = .ok (.string (strOf (digs 18 r))) W :=
    run_string_nums W 251 9 5 (w2.heap.size + 1) 18 18 (digs 18 r) Tryz.underlying251 Tryz.underlying5 Tryz.underlying9 (digs_length 18 r) (digs_lt 18 r) (fun j hj=>(q2.at j hj).1)
   have hbp:byt (strOf (digs 18 r)) = digs 18 r:=byt_strOf (digs_lt 18 r)
   obtain ⟨p,hp⟩:∃ p,p = strOf (digs 18 r):=⟨_,rfl⟩
   rw [← hp] at kc hbp
   have hps2:∀ q ∈ ps ++ [p],q.size = 18:=by
    intro q hq
    rcases List.mem_append.1 hq with h1 | h1
    ·exact HS.out q h1
    ·obtain rfl:=List.mem_singleton.1 h1
     rw [← byt_length,hbp,digs_length]
   have hparts2:Parts v (g / 10 ^ 18) (ps ++ [p]):=HP.out.step (by rw [hbp,HR.out])
   have hlenps:(ps.map Value.string).length = ps.length ∧ ps.length ≤ 100000:=by
    have h1:=catB_length_le ps 18 HS.out
    have h2:10 ^ (catB ps).length ≤ v:=by
     rw [← HP.out.2]
     exact Nat.le_trans (Nat.le_mul_of_pos_left _ hg0) (Nat.le_add_right _ _)
    have h3:=(Nat.pow_lt_pow_iff_right (show 1 < 10 by omega)).1 (Nat.lt_of_le_of_lt h2 HK.out)
    rw [List.length_map]
    exact ⟨rfl,by omega⟩
   have hownW:=hown2.below hqq
   have hxW:=hq2.below hqq
   have htenW:TenS W w.heap.size:=hten2.keep (hqq.block _ hten2.lt)
   have hbW:Below w.heap.size w W:=Gs.Below.then hb20 hb20.size hqq
   have hDlt:=(Array.getElem?_eq_some_iff.1 hK).1
   have hmW:Marks w.heap.size W W.heap.size ({ target:=.collected D,args:=#[] } :: ds):=⟨D,rfl,Nat.le_trans (Nat.le_trans hb20.size hB3.size) hD,hDlt,hK,(HM2.out.below hqq).mono (Nat.le_trans (Nat.le_trans hb2.size hB3.size) hD)⟩
   have hrow:∀ j,(Value.slice s.A s.n s.c).ownBlock = some j → w.heap.size + 1 ≤ j ∧ j < w1.heap.size:=fun j hj=>⟨(hown2.lt j hj).1,hrow1 j hj⟩
   have HMW:=Lib.hid hmW
   have HP2:=Lib.hid hparts2
   have HS2:=Lib.hid hps2
   clear hys hrel hK B6 BO B7 B8 hmW hparts2 hps2 hbp HM2 hown2 hq2 hten2 q2 q6 HP HS HL hp
   have u7:=q7.cell
   go_wp2_with (at_builtin; refine appendS (w0:=w) (W:=W) (B:=w.heap.size) (w.heap.size + 1) (Nat.le_succ _) rfl (.tmp 35) (.tmp 38) 247 9 rfl Tryz.underlying247 info_string s (ps.map .string) p rfl rfl hownW hbW (by have:=hbW.size; have:=htenW.lt; omega) (by omega) ?_; intro v1 w5 hown5 hb5 hg5)
   refine Handed.intro (g / 10 ^ 18) (Nat.div_lt_self hg0 (by decide)) (hJ _ _ _ ?_)
   repeat apply Exists.intro
   refine ⟨⟨A2,n2,c2,v1,ps ++ [p],rfl,rfl,?_,?_,?_,hb5,HP2.out,HS2.out,by rw [List.length_append,List.length_singleton]; omega,?_⟩,rfl⟩
   ·exact RdU.mono (P:=fun b=>w1.heap.size ≤ b ∧ b < w2.heap.size) ⟨hxW.rd.keep fun b hb hlt=>hg5.block b hlt (fun e=>by have:=(hrow b e.symm).2; omega),hxW.lt⟩ (fun b hb=>by omega)
   ·rw [List.map_append]; exact hown5
   ·exact htenW.keep (hg5.block _ htenW.lt (fun e=>by have:=(hrow _ e.symm).1; omega))
   ·exact (HMW.out.grown hownW hg5).mono hg5.size
  case stop =>
   rintro D cd pre W hD hp hf hK
   exact hf.elim
end Go.Proofs.YtcpgflbfjplheaaGreatDoor
