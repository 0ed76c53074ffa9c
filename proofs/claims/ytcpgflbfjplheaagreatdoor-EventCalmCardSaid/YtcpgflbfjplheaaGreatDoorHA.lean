import Derived.Test.YtcpgflbfjplheaaGreatDoorGA
import Derived.Test.YtcpgflbfjplheaaGreatDoorVP
import Derived.Test.YtcpgflbfjplheaaGreatDoorQB
import Derived.Deep.Slices
namespace Gv
open Go Go.RowKit Gs
set_option linter.unusedVariables false
theorem nr:(∀ (a:PV) (x y:List PV),(a :: x) ++ y = a :: (x ++ y)) ∧ ∀ x:List PV,[] ++ x = x:=⟨fun _ _ _=>rfl,fun _=>rfl⟩
abbrev Pt2:=Rat × Rat
def padd (p q:Pt2):Pt2:=(p.1 + q.1,p.2 + q.2)
def psub (p q:Pt2):Pt2:=(p.1 - q.1,p.2 - q.2)
def pscale (p:Pt2) (k:Rat):Pt2:=(p.1 * k,p.2 * k)
def pmix (p q:Pt2) (t:Rat):Pt2:=padd p (pscale (psub q p) t)
def pcross (p q:Pt2):Rat:=p.1 * q.2 - p.2 * q.1
def porient (a b c:Pt2):Rat:=pcross (psub b a) (psub c a)
theorem sign0 (b:Rat):(b.num.sign == 0) = decide (b = 0):=by
 rw [Bool.eq_iff_iff,beq_iff_eq,decide_eq_true_iff,Int.sign_eq_zero_iff_zero,num_zero_iff]
theorem qcmp_refl (a:Rat):qcmp a a = 0:=by unfold qcmp; rw [if_neg (by grind),if_pos rfl]
theorem qcmp_eq {a b:Rat} (h:a = b):qcmp a b = 0:=by rw [h]; exact qcmp_refl b
theorem qcmp_zero {a b:Rat}:qcmp a b = 0 ↔ a = b:=by
 unfold qcmp
 constructor
 ·intro h
  split at h
  ·cases h
  ·split at h
   ·assumption
   ·cases h
 ·intro h; rw [if_neg (by grind),if_pos h]
theorem qcmp_le {a b:Rat}:qcmp a b ≤ 0 ↔ a ≤ b:=by
 unfold qcmp
 split
 ·exact ⟨fun _=>by grind,fun _=>by decide⟩
 ·split
  ·exact ⟨fun _=>by grind,fun _=>by decide⟩
  ·exact ⟨fun h=>absurd h (by decide),fun h=>by grind⟩
theorem qcmp_lt {a b:Rat}:qcmp a b < 0 ↔ a < b:=by
 unfold qcmp
 split
 ·exact ⟨fun _=>by assumption,fun _=>by decide⟩
 ·split
  ·exact ⟨fun h=>absurd h (by decide),fun h=>by grind⟩
  ·exact ⟨fun h=>absurd h (by decide),fun h=>by grind⟩
theorem qcmp_gt {a b:Rat}:0 < qcmp a b ↔ b < a:=by
 unfold qcmp
 split
 ·exact ⟨fun h=>absurd h (by decide),fun h=>by grind⟩
 ·split
  ·exact ⟨fun h=>absurd h (by decide),fun h=>by grind⟩
  ·exact ⟨fun _=>by grind,fun _=>by decide⟩
theorem qcmp_swap (a b:Rat):qcmp b a = -qcmp a b:=by
 unfold qcmp
 by_cases h1:a < b
 ·rw [if_pos h1,if_neg (by grind),if_neg (by grind)]; rfl
 ·by_cases h2:a = b
  ·rw [if_neg h1,if_pos h2,if_neg (by grind),if_pos h2.symm]; rfl
  ·rw [if_neg h1,if_neg h2,if_pos (by grind)]
theorem Qb.one (a:Rat) {z:Int} {d:Nat} (h:a = mkRat z d) (hd:d ≠ 0) (h1:z.natAbs < 18446744073709551616) (h2:d < 18446744073709551616):Qb a 1:=by
 rw [h]; exact .mk' hd (sz_le (by simpa using h1)) (sz_le (by simpa using h2))
theorem str_txt {x:Nat} {s:ByteArray} (h:IsText s x):txt x = s:=(txt_eq h).symm
structure Pb (p:Pt2) (k:Nat):Prop where
 x:Qb p.1 k
 y:Qb p.2 k
theorem Pb.more {p:Pt2} {k k':Nat} (h:Pb p k) (hk:k ≤ k'):Pb p k':=⟨h.x.more hk,h.y.more hk⟩
theorem Pb.add {p q:Pt2} {k k':Nat} (h:Pb p k) (h':Pb q k'):Pb (padd p q) (k + k' + 1):=⟨h.x.add h'.x,h.y.add h'.y⟩
theorem Pb.sub {p q:Pt2} {k k':Nat} (h:Pb p k) (h':Pb q k'):Pb (psub p q) (k + k' + 1):=⟨h.x.sub h'.x,h.y.sub h'.y⟩
theorem Pb.scale {p:Pt2} {t:Rat} {k k':Nat} (h:Pb p k) (h':Qb t k'):Pb (pscale p t) (k + k'):=⟨h.x.mul h',h.y.mul h'⟩
theorem Pb.mix {p q:Pt2} {t:Rat} {k k' j:Nat} (h:Pb p k) (h':Pb q k') (ht:Qb t j):Pb (pmix p q t) (k + (k' + k + 1 + j) + 1):=h.add ((h'.sub h).scale ht)
theorem Qb.cross {p q:Pt2} {k k':Nat} (h:Pb p k) (h':Pb q k'):Qb (pcross p q) (k + k' + (k + k') + 1):=(h.x.mul h'.y).sub (h.y.mul h'.x)
def pcs (p:Pt2):List PV:=[.raw (.bool (decide (p.1.num < 0))),nat p.1.num.natAbs,nat p.1.den,.raw (.bool (decide (p.2.num < 0))),nat p.2.num.natAbs,nat p.2.den]
def pc (p:Pt2):PV:=.agg (pcs p)
def pfs (p:Pt2):List PV:=[.raw (.bool (decide (p.1.num < 0))),r32 p.1.num.natAbs,r32 p.1.den,.raw (.bool (decide (p.2.num < 0))),r32 p.2.num.natAbs,r32 p.2.den]
def pf (p:Pt2):PV:=.agg (pfs p)
def IsP (v:PV) (p:Pt2) (k:Nat):Prop:=∃ a b c d e f,v = .agg [a,b,c,d,e,f] ∧ IsQ (.agg [a,b,c]) p.1 k ∧ IsQ (.agg [d,e,f]) p.2 k
theorem IsP.pc {p:Pt2} {k:Nat} (h:Pb p k):IsP (pc p) p k:=⟨_,_,_,_,_,_,rfl,IsQ.qc h.x,IsQ.qc h.y⟩
theorem IsP.b {v:PV} {p:Pt2} {k:Nat} (h:IsP v p k):Pb p k:=by
 obtain ⟨a,b,c,d,e,f,_,h1,h2⟩:=h
 exact ⟨h1.b,h2.b⟩
theorem IsQ.more {v:PV} {q:Rat} {k k':Nat} (h:IsQ v q k) (hk:k ≤ k'):IsQ v q k':=by
 obtain ⟨s,l,m,h1,h2,h3,h4,h5,h6,h7⟩:=h
 exact ⟨s,l,m,h1,h2,h3,h4,by omega,by omega,by omega⟩
theorem IsP.more {v:PV} {p:Pt2} {k k':Nat} (h:IsP v p k) (hk:k ≤ k'):IsP v p k':=by
 obtain ⟨a,b,c,d,e,f,h0,h1,h2⟩:=h
 exact ⟨a,b,c,d,e,f,h0,h1.more hk,h2.more hk⟩
section
variable {P:Program} {R:PV → Prop} {ρ:List PV} {C:List (List PV → Prop)} {k:VC} {args:List SV}
theorem ok_callv {fv:SV} {args:List SV} {sh:RSh} {v:PV} {ps:List PV} {r:PV} (h:FnV P v ps r) (hv:pv ρ fv = v) (hp:pvs ρ args = ps) (hf:fitsR sh r = true) (hk:k.ok P R (ρ ++ [r]) C):(VC.callv fv args sh k).ok P R ρ C:=⟨r,by rw [hp,hv]; exact h,hf,hk⟩
theorem ok_ld {n:Nat} {cs:List PV} (hp:pvs ρ args = [.ref cs]) (hn:cs.length = n) (hk:k.ok P R (ρ ++ [.agg cs]) C):(VC.prim (.ld (some n)) args k).ok P R ρ C:=by
 subst hn
 refine ⟨.agg cs,?_,hk⟩
 rw [hp]
 simp [Prim.ev]
theorem ok_idx {n m:Nat} {es:List (List PV)} {e:List PV} {kk:IntKind} (hp:pvs ρ args = [.sl es,.raw (.int kk (m:Int))]) (he:es[m]? = some e) (hn:e.length = n) (hk:k.ok P R (ρ ++ [.ref e]) C):(VC.prim (.idx n) args k).ok P R ρ C:=by
 refine ⟨.ref e,?_,hk⟩
 rw [hp]
 simp [Prim.ev,idxOf,he,hn]
theorem ok_lenS {es:List (List PV)} (hp:pvs ρ args = [.sl es]) (n:Int) (h:(es.length:Int) = n) (hk:k.ok P R (ρ ++ [.raw (.int .i64 n)]) C):(VC.prim .len args k).ok P R ρ C:=by
 subst h
 refine ⟨_,?_,hk⟩
 rw [hp]
 rfl
theorem ok_app {n bytes:Nat} {es xs:List (List PV)} (hp:pvs ρ args = [.sl es,.sl xs]) (h1:(es.length + xs.length) * bytes ≤ 140737488355328) (h2:es.length + xs.length ≤ 140737488355328) (h3:∀ x ∈ xs,x.length = n) (hk:k.ok P R (ρ ++ [.sl (es ++ xs)]) C):(VC.prim (.app n bytes) args k).ok P R ρ C:=by
 refine ⟨_,?_,hk⟩
 rw [hp]
 simp only [Prim.ev]
 rw [if_pos ⟨h1,h2,List.all_eq_true.2 fun x hx=>by simpa using h3 x hx⟩]
end
end Gv
namespace Go.Proofs.YtcpgflbfjplheaaGreatDoor
open Go.RowKit Gs Gv
set_option linter.unusedVariables false
theorem p_both {u v fv:PV} {p q:Pt2} {k k':Nat} {x y:Rat} (hu:IsP u p k) (hv:IsP v q k') (h1:∀ {a b:PV},IsQ a p.1 k → IsQ b q.1 k' → FnV Tryz.prog fv [a,b] (qc x)) (h2:∀ {a b:PV},IsQ a p.2 k → IsQ b q.2 k' → FnV Tryz.prog fv [a,b] (qc y)) (hfl:fv.flat = true) :
 Gv.Fn Tryz.prog 144 [u,v,fv] (pc (x,y)):=by
 obtain ⟨a,b,c,d,e,f,rfl,i1,i2⟩:=hu
 obtain ⟨a',b',c',d',e',f',rfl,j1,j2⟩:=hv
 refine Fn.intro mixed vc_pt_both (by simp [fitsAll,fits,hfl]) ?_
 refine ok_callv (h1 i1 j1) rfl rfl rfl ?_
 try simp only [nr]
 refine ok_callv (h2 i2 j2) rfl rfl rfl ?_
 try simp only [nr]
 exact ok_ret rfl rfl
theorem p_Add {u v:PV} {p q:Pt2} {k k':Nat} (hu:IsP u p k) (hv:IsP v q k') (hk:k + k' ≤ 100000):Gv.Fn Tryz.prog 125 [u,v] (pc (padd p q)):=by
 have hb:=p_both hu hv (fv:=.clo (.func 21) [] []) (fun ha hb=>q_Add ha hb hk) (fun ha hb=>q_Add ha hb hk) rfl
 obtain ⟨a,b,c,d,e,f,rfl,i1,i2⟩:=hu
 obtain ⟨a',b',c',d',e',f',rfl,j1,j2⟩:=hv
 refine Fn.intro mixed vc_pt_Add rfl ?_
 refine ok_call hb rfl rfl ?_
 try simp only [nr]
 exact ok_ret rfl rfl
theorem p_Sub {u v:PV} {p q:Pt2} {k k':Nat} (hu:IsP u p k) (hv:IsP v q k') (hk:k + k' ≤ 100000):Gv.Fn Tryz.prog 76 [u,v] (pc (psub p q)):=by
 have hb:=p_both hu hv (fv:=.clo (.func 131) [] []) (fun ha hb=>q_Sub ha hb hk) (fun ha hb=>q_Sub ha hb hk) rfl
 obtain ⟨a,b,c,d,e,f,rfl,i1,i2⟩:=hu
 obtain ⟨a',b',c',d',e',f',rfl,j1,j2⟩:=hv
 refine Fn.intro mixed vc_pt_Sub rfl ?_
 refine ok_call hb rfl rfl ?_
 try simp only [nr]
 exact ok_ret rfl rfl
theorem p_scale1 {a b c0 c1 c2:PV} {x t:Rat} {k k':Nat} {y:PV} (ha:IsQ a x k) (ht:IsQ (.agg [c0,c1,c2]) t k') (hk:k + k' ≤ 100000) (hb:∃ b0 b1 b2,b = .agg [b0,b1,b2]):Gv.Fn Tryz.prog 209 [a,b,.ref [c0,c1,c2]] (qc (x * t)):=by
 have hm:=q_Mul ha ht hk
 obtain ⟨s,l,m,rfl,_⟩:=ha
 obtain ⟨b0,b1,b2,rfl⟩:=hb
 refine Fn.introC mixed vc_pt_Scale_1 rfl ?_
 refine ok_ld (cs:=[c0,c1,c2]) rfl rfl ?_
 try simp only [nr]
 refine ok_call hm rfl rfl ?_
 try simp only [nr]
 exact ok_ret rfl rfl
theorem p_Scale {u v:PV} {p:Pt2} {t:Rat} {k k':Nat} (hu:IsP u p k) (ht:IsQ v t k') (hk:k + k' ≤ 100000):Gv.Fn Tryz.prog 164 [u,v] (pc (pscale p t)):=by
 obtain ⟨s,l,m,hv,_⟩:=id ht
 subst hv
 have hb:=p_both hu hu (fv:=.clo (.func 209) [] [.ref [.raw (.bool s),u64s l,u64s m]]) (x:=p.1 * t) (y:=p.2 * t)
  (fun ha hb=>p_scale1 (y:=u) ha ht hk (by obtain ⟨_,_,_,rfl,_⟩:=hb; exact ⟨_,_,_,rfl⟩)) (fun ha hb=>p_scale1 (y:=u) ha ht hk (by obtain ⟨_,_,_,rfl,_⟩:=hb; exact ⟨_,_,_,rfl⟩)) rfl
 obtain ⟨a,b,c,d,e,f,rfl,i1,i2⟩:=hu
 refine Fn.intro mixed vc_pt_Scale rfl ?_
 refine ok_call hb rfl rfl ?_
 try simp only [nr]
 exact ok_ret rfl rfl
theorem p_Mix {u v w:PV} {p q:Pt2} {t:Rat} {k k' j:Nat} (hu:IsP u p k) (hv:IsP v q k') (ht:IsQ w t j) (hk:3 * k + k' + j + 3 ≤ 100000):Gv.Fn Tryz.prog 97 [u,v,w] (pc (pmix p q t)):=by
 have c1:=p_Sub hv hu (by omega)
 have c2:=p_Scale (IsP.pc (hv.b.sub hu.b)) ht (by omega)
 have c3:=p_Add hu (IsP.pc ((hv.b.sub hu.b).scale ht.b)) (by omega)
 obtain ⟨a,b,c,d,e,f,rfl,i1,i2⟩:=hu
 obtain ⟨a',b',c',d',e',f',rfl,j1,j2⟩:=hv
 obtain ⟨s,l,m,rfl,_⟩:=ht
 refine Fn.intro mixed vc_pt_Mix rfl ?_
 refine ok_call c1 rfl rfl ?_
 try simp only [nr]
 refine ok_call c2 rfl rfl ?_
 try simp only [nr]
 refine ok_call c3 rfl rfl ?_
 try simp only [nr]
 exact ok_ret rfl rfl
theorem p_Cross {u v:PV} {p q:Pt2} {k k':Nat} (hu:IsP u p k) (hv:IsP v q k') (hk:2 * (k + k') ≤ 100000):Gv.Fn Tryz.prog 73 [u,v] (qc (pcross p q)):=by
 obtain ⟨a,b,c,d,e,f,rfl,i1,i2⟩:=hu
 obtain ⟨a',b',c',d',e',f',rfl,j1,j2⟩:=hv
 have c1:=q_Mul i1 j2 (by omega)
 have c2:=q_Mul i2 j1 (by omega)
 have c3:=q_Sub (IsQ.qc (i1.b.mul j2.b)) (IsQ.qc (i2.b.mul j1.b)) (by omega)
 refine Fn.intro mixed vc_pt_Cross rfl ?_
 refine ok_call c1 rfl rfl ?_
 try simp only [nr]
 refine ok_call c2 rfl rfl ?_
 try simp only [nr]
 refine ok_call c3 rfl rfl ?_
 try simp only [nr]
 exact ok_ret rfl rfl
theorem p_Orient {u v w:PV} {p q r:Pt2} {k:Nat} (hu:IsP u p k) (hv:IsP v q k) (hw:IsP w r k) (hk:k ≤ 10000):Gv.Fn Tryz.prog 26 [u,v,w] (.raw (.int .i64 (porient p q r).num.sign)):=by
 have c1:=p_Sub hv hu (by omega)
 have c2:=p_Sub hw hu (by omega)
 have c3:=p_Cross (IsP.pc (hv.b.sub hu.b)) (IsP.pc (hw.b.sub hu.b)) (by omega)
 have c4:=q_Sign (IsQ.qc (Qb.cross (hv.b.sub hu.b) (hw.b.sub hu.b))) (by omega)
 obtain ⟨a,b,c,d,e,f,rfl,i1,i2⟩:=hu
 obtain ⟨a',b',c',d',e',f',rfl,j1,j2⟩:=hv
 obtain ⟨a2,b2,c2',d2,e2,f2,rfl,k1,k2⟩:=hw
 refine Fn.intro mixed vc_pt_Orient rfl ?_
 refine ok_call c1 rfl rfl ?_
 try simp only [nr]
 refine ok_call c2 rfl rfl ?_
 try simp only [nr]
 refine ok_call c3 rfl rfl ?_
 try simp only [nr]
 refine ok_call c4 rfl rfl ?_
 try simp only [nr]
 exact ok_ret rfl rfl
theorem p_Same {u v:PV} {p q:Pt2} {k k':Nat} (hu:IsP u p k) (hv:IsP v q k') (hk:k + k' ≤ 100000):Gv.Fn Tryz.prog 64 [u,v] (.raw (.bool (decide (p = q)))):=by
 obtain ⟨a,b,c,d,e,f,rfl,i1,i2⟩:=hu
 obtain ⟨a',b',c',d',e',f',rfl,j1,j2⟩:=hv
 have c1:=q_Cmp i1 j1 hk
 have c2:=q_Cmp i2 j2 hk
 refine Fn.intro mixed vc_pt_Same rfl ?_
 refine ok_call c1 rfl rfl ?_
 try simp only [nr]
 refine ok_eq rfl _ rfl ?_
 try simp only [nr]
 refine ok_ite rfl (fun h=>?_) (fun h=>?_)
 ·have h1:=Gv.qcmp_zero.1 (by simpa using h)
  refine ok_call c2 rfl rfl ?_
  try simp only [nr]
  refine ok_eq rfl (decide (p = q)) ?_ (by (try simp only [nr]); exact ok_ret rfl rfl)
  rw [Bool.eq_iff_iff,beq_iff_eq,Gv.qcmp_zero,decide_eq_true_iff,Prod.ext_iff]
  exact ⟨fun h2=>⟨h1,h2⟩,fun h2=>h2.2⟩
 ·have h1:¬ p.1 = q.1:=fun e=>by rw [Gv.qcmp_zero.2 e] at h; cases h
  have e:decide (p = q) = false:=by simp [Prod.ext_iff,h1]
  rw [e]
  exact ok_ret rfl rfl
end Go.Proofs.YtcpgflbfjplheaaGreatDoor
namespace Gv
open Go Go.RowKit Gs
set_option linter.unusedVariables false
structure RQ where
 s:Bool
 l:List Nat
 m:List Nat
def RQ.cs (r:RQ):List PV:=[.raw (.bool r.s),u64s r.l,u64s r.m]
def RQ.wf (r:RQ):Prop:=Lt 18446744073709551616 r.l ∧ Lt 18446744073709551616 r.m
def RQ.q (r:RQ):Rat:=qv (sg r.s (val 18446744073709551616 r.l)) (val 18446744073709551616 r.m)
def RQ.small (r:RQ) (k:Int):Bool:=decide ((r.l.length:Int) ≤ k) && decide ((r.m.length:Int) ≤ k)
theorem RQ.is {r:RQ} {k:Nat} (h:r.wf) (hs:r.small k = true) (hk:1 ≤ k):IsQ (.agg r.cs) r.q k:=by
 simp only [RQ.small,Bool.and_eq_true,decide_eq_true_eq] at hs
 exact ⟨r.s,r.l,r.m,rfl,h.1,h.2,rfl,by omega,by omega,hk⟩
structure RP where
 x:RQ
 y:RQ
def RP.cs (p:RP):List PV:=[.raw (.bool p.x.s),u64s p.x.l,u64s p.x.m,.raw (.bool p.y.s),u64s p.y.l,u64s p.y.m]
def RP.wf (p:RP):Prop:=p.x.wf ∧ p.y.wf
def RP.p (p:RP):Pt2:=(p.x.q,p.y.q)
def RP.small (p:RP) (k:Int):Bool:=p.x.small k && p.y.small k
theorem RP.is {p:RP} {k:Nat} (h:p.wf) (hs:p.small k = true) (hk:1 ≤ k):IsP (.agg p.cs) p.p k:=by
 simp only [RP.small,Bool.and_eq_true] at hs
 exact ⟨_,_,_,_,_,_,rfl,RQ.is h.1 hs.1 hk,RQ.is h.2 hs.2 hk⟩
def rline (L:List RP):PV:=.sl (L.map RP.cs)
def IsL (v:PV) (l:List Pt2) (k:Nat):Prop:=∃ es:List (List PV),v = .sl es ∧ es.length = l.length ∧ ∀ (i:Nat) (e:List PV) (p:Pt2),es[i]? = some e → l[i]? = some p → IsP (.agg e) p k
theorem IsL.at {es:List (List PV)} {l:List Pt2} {k m:Nat} {p:Pt2} (h:IsL (.sl es) l k) (hp:l[m]? = some p):∃ a b c d e f,es[m]? = some [a,b,c,d,e,f] ∧ IsP (.agg [a,b,c,d,e,f]) p k:=by
 obtain ⟨es',h1,h2,h3⟩:=h
 cases h1
 have hlt:=(List.getElem?_eq_some_iff.1 hp).1
 have he:es[m]? = some (es[m]'(by omega)):=List.getElem?_eq_getElem _
 have h4:=h3 m _ p he hp
 obtain ⟨a,b,c,d,e,f,h5,h6,h7⟩:=id h4
 injection h5 with h5
 rw [h5] at h4 he
 exact ⟨a,b,c,d,e,f,he,h4⟩
theorem IsL.len {es:List (List PV)} {l:List Pt2} {k:Nat} (h:IsL (.sl es) l k):es.length = l.length:=by
 obtain ⟨es',h1,h2,h3⟩:=h
 cases h1
 exact h2
theorem IsL.of {L:List RP} {k:Nat} (h:∀ p ∈ L,p.wf) (hs:∀ p ∈ L,p.small k = true) (hk:1 ≤ k):IsL (rline L) (L.map RP.p) k:=by
 refine ⟨L.map RP.cs,rfl,by simp,fun i e p he hp=>?_⟩
 rw [List.getElem?_map,Option.map_eq_some_iff] at he hp
 obtain ⟨r,hr,rfl⟩:=he
 obtain ⟨r',hr',rfl⟩:=hp
 rw [hr] at hr'
 cases hr'
 have hm:=List.mem_of_getElem? hr
 exact RP.is (h r hm) (hs r hm) hk
def plist (l:List Pt2):PV:=.sl (l.map pcs)
theorem IsL.pl {l:List Pt2} {k:Nat} (h:∀ p ∈ l,Pb p k):IsL (plist l) l k:=by
 refine ⟨l.map pcs,rfl,by simp,fun i e p he hp=>?_⟩
 rw [List.getElem?_map,hp] at he
 cases he
 exact IsP.pc (h p (List.mem_of_getElem? hp))
theorem IsL.more {v:PV} {l:List Pt2} {k k':Nat} (h:IsL v l k) (hk:k ≤ k'):IsL v l k':=by
 obtain ⟨es,h1,h2,h3⟩:=h
 exact ⟨es,h1,h2,fun i e p he hp=>(h3 i e p he hp).more hk⟩
theorem IsL.b {v:PV} {l:List Pt2} {k:Nat} (h:IsL v l k):∀ p ∈ l,Pb p k:=by
 intro p hp
 obtain ⟨es,rfl,h2,h3⟩:=id h
 obtain ⟨i,hi⟩:=List.mem_iff_getElem?.1 hp
 obtain ⟨_,_,_,_,_,_,_,h4⟩:=h.at hi
 exact h4.b
section
variable {P:Program} {R:PV → Prop} {ρ:List PV} {C:List (List PV → Prop)} {k:VC}
theorem ok_for {vars:List SV} (N:Nat) (J:Nat → List PV → Prop) (h0:J 0 (pvs ρ vars)) (hJ:∀ i us,J i us → ∃ t,us = .raw (.int .i64 (i:Int)) :: t)
 (hs:∀ (i:Nat) (us:List PV) (D:List PV → Prop),i ≤ N → J i us → (∀ us',i < N → J (i + 1) us' → D us') → k.ok P R (ρ ++ us) (D :: C)):(VC.loop vars k).ok P R ρ C:=by
 refine ⟨fun us=>∃ i,i ≤ N ∧ J i us,fun us=>match us with
  | .raw (.int _ i) :: _=>N - i.toNat
  | _=>0,⟨0,Nat.zero_le _,h0⟩,?_⟩
 rintro us _ ⟨i,hi,h⟩
 refine hs i us _ hi h fun us' hlt h'=>⟨⟨i + 1,hlt,h'⟩,?_⟩
 obtain ⟨t,rfl⟩:=hJ _ _ h
 obtain ⟨t',rfl⟩:=hJ _ _ h'
 simp only [Int.toNat_natCast]
 omega
theorem ok_again {d:Nat} {vars:List SV} {D:List PV → Prop} (hd:C[d]? = some D) (h:D (pvs ρ vars)):(VC.again d vars).ok P R ρ C:=by
 show (match C[d]? with
  | some J=>J (pvs ρ vars)
  | none=>False)
 rw [hd]
 exact h
theorem wrap_nat {n:Nat} (h:n < 9223372036854775808):IntKind.i64.wrap (n:Int) = (n:Int):=by
 simp [IntKind.wrap,IntKind.bits,IntKind.signed]; omega
theorem ok_inc {args:List SV} {n:Nat} (hp:pvs ρ args = [.raw (.int .i64 (n:Int)),.raw (.int .i64 1)]) (hn:n + 1 < 9223372036854775808) (hk:k.ok P R (ρ ++ [.raw (.int .i64 ((n + 1:Nat):Int))]) C):(VC.prim (.op2 .add false) args k).ok P R ρ C :=
 ok_add hp _ (by have:=wrap_nat hn; rw [← this]; rfl) hk
theorem ok_mk {c n:Nat} {args:List SV} {l:List (List PV)} (h:chunk c n (pvs ρ args) = l) (hk:k.ok P R (ρ ++ [.sl l]) C):(VC.mk c n args k).ok P R ρ C:=by
 show k.ok P R (ρ ++ [.sl (chunk c n (pvs ρ args))]) C
 rw [h]
 exact hk
end
def qmin (a b:Rat):Rat:=if b < a then b else a
def qmax (a b:Rat):Rat:=if a < b then b else a
theorem Qb.min {a b:Rat} {k:Nat} (h:Qb a k) (h':Qb b k):Qb (qmin a b) k:=by unfold qmin; split <;> assumption
theorem Qb.max {a b:Rat} {k:Nat} (h:Qb a k) (h':Qb b k):Qb (qmax a b) k:=by unfold qmax; split <;> assumption
end Gv
namespace Go.Proofs.YtcpgflbfjplheaaGreatDoor
open Go.RowKit Gs Gv
set_option linter.unusedVariables false
theorem g6_Out {p:Pt2} {k:Nat} (h:Pb p k) (hk:k ≤ 400000):Gv.Fn Tryz.prog 92 [pf p] (pc p):=by
 refine Fn.intro mixed vc_ref06_Out rfl ?_
 refine ok_call (g_Out h.x hk) rfl rfl ?_
 try simp only [nr]
 refine ok_call (g_Out h.y hk) rfl rfl ?_
 try simp only [nr]
 exact ok_ret rfl rfl
theorem g6_Of {x y:Int} (h1:-9223372036854775808 ≤ x) (h2:x ≤ 9223372036854775807) (h3:-9223372036854775808 ≤ y) (h4:y ≤ 9223372036854775807):Gv.Fn Tryz.prog 124 [.raw (.int .i64 x),.raw (.int .i64 y)] (pf ((x:Rat),(y:Rat))):=by
 have e:∀ z:Int,qd z 1 = (z:Rat):=fun z=>by rw [qd_div (by decide)]; show (z:Rat) / ((1:Int):Rat) = z; rw [show ((1:Int):Rat) = 1 from rfl]; grind
 have c1:=g_Of h1 h2 (b:=1) (by decide) (by decide)
 have c2:=g_Of h3 h4 (b:=1) (by decide) (by decide)
 rw [e] at c1 c2
 refine Fn.intro mixed vc_ref06_Of rfl ?_
 refine ok_call c1 rfl rfl ?_
 try simp only [nr]
 refine ok_call c2 rfl rfl ?_
 try simp only [nr]
 exact ok_ret rfl rfl
theorem pb_int {x y:Int} (h1:-9223372036854775808 ≤ x) (h2:x ≤ 9223372036854775807) (h3:-9223372036854775808 ≤ y) (h4:y ≤ 9223372036854775807):Pb ((x:Rat),(y:Rat)) 1 :=
 ⟨.int (zs_s (by omega)) (by decide),.int (zs_s (by omega)) (by decide)⟩
theorem l6_P {x y:Int} (h1:-9223372036854775808 ≤ x) (h2:x ≤ 9223372036854775807) (h3:-9223372036854775808 ≤ y) (h4:y ≤ 9223372036854775807):Gv.Fn Tryz.prog 61 [.raw (.int .i64 x),.raw (.int .i64 y)] (pc ((x:Rat),(y:Rat))):=by
 refine Fn.intro mixed vc_law06_P rfl ?_
 refine ok_call (g6_Of h1 h2 h3 h4) rfl rfl ?_
 try simp only [nr]
 refine ok_call (g6_Out (pb_int h1 h2 h3 h4) (by decide)) rfl rfl ?_
 try simp only [nr]
 exact ok_ret rfl rfl
theorem k_SmallPt {p:RP} {n:Int}:Gv.Fn Tryz.prog 57 [.agg p.cs,.raw (.int .i64 n)] (.raw (.bool (p.small n))):=by
 refine Fn.intro mixed vc_keep_SmallPt rfl ?_
 refine ok_call (k_Small (s:=p.x.s) (l:=p.x.l) (m:=p.x.m) (k:=n)) rfl rfl ?_
 try simp only [nr]
 refine ok_ite (t:=p.x.small n) rfl (fun e=>?_) (fun e=>?_)
 ·refine ok_call (k_Small (s:=p.y.s) (l:=p.y.l) (m:=p.y.m) (k:=n)) rfl rfl ?_
  try simp only [nr]
  refine ok_ret ?_ rfl
  unfold RP.small
  rw [e]
  rfl
 ·refine ok_ret ?_ rfl
  unfold RP.small
  rw [e]
  rfl
theorem map_take {α β:Type} {f:α → β} {l:List α} {i:Nat} {x:α} (h:l[i]? = some x):(l.take i).map f ++ [f x] = (l.take (i + 1)).map f:=by
 rw [List.take_add_one,h]
 simp
end Go.Proofs.YtcpgflbfjplheaaGreatDoor
namespace Go.Proofs.YtcpgflbfjplheaaGreatDoor
open Go.ChangeShapes Go.WideShapes Go.ChangeAt Go.RowKit Gs Gv
set_option linter.unusedVariables false
theorem cellsPt:Tryz.prog.cellsOf 29 = 6:=by kernel_rfl
theorem rcs_flat (r:RP):∀ (j:Nat) (p:PV),r.cs[j]? = some p → p.flat = true
 | 0,p,h=>by cases h; rfl
 | 1,p,h=>by cases h; rfl
 | 2,p,h=>by cases h; rfl
 | 3,p,h=>by cases h; rfl
 | 4,p,h=>by cases h; rfl
 | 5,p,h=>by cases h; rfl
 | j + 6,p,h=>by cases h
def PtAt (W:World) (r:RP) (cs:List Value):Prop:=cs.length = 6 ∧ r.wf ∧ ∀ (j:Nat) (p:PV),r.cs[j]? = some p → ∃ v,cs[j]? = some v ∧ Rep W (fun _=>True) p v
set_option maxRecDepth 100000 in
theorem pt_cells {H:Type} {enc:TypeId × Value → H} {W:World} {fuel:Nat} {cs:List Value} {x:DataW H × List MemPlace} (hf:DataW.trod enc Tryz.prog W 0 (fun _=>true) true fuel 29 cs = some x) :
 ∃ r,PtAt W r cs:=by
 obtain ⟨y0,y1,n,hx,hlen,hy0,hy1⟩:=trod_struct2 Tryz.underlying29 hf
 rw [cellsPt] at hlen
 obtain ⟨s,l,m,u,v,e0,hl,hm,hr,hfl,hr',hfl'⟩:=rat_cells hy0
 obtain ⟨s2,l2,m2,u2,v2,e1,hl2,hm2,hr2,hfl2,hr2',hfl2'⟩:=rat_cells hy1
 match cs,hlen with
 | [a,b,c,d,e,f],_ =>
  rw [cellsQ] at e0 e1
  simp at e0 e1
  obtain ⟨rfl,rfl,rfl⟩:=e0
  obtain ⟨rfl,rfl,rfl⟩:=e1
  refine ⟨⟨⟨s,l,m⟩,⟨s2,l2,m2⟩⟩,rfl,⟨⟨hl,hm⟩,⟨hl2,hm2⟩⟩,fun j p hj=>?_⟩
  match j,hj with
  | 0,hj=>cases hj; exact ⟨_,rfl,.raw _⟩
  | 1,hj=>cases hj; exact ⟨_,rfl,hr⟩
  | 2,hj=>cases hj; exact ⟨_,rfl,hr'⟩
  | 3,hj=>cases hj; exact ⟨_,rfl,.raw _⟩
  | 4,hj=>cases hj; exact ⟨_,rfl,hr2⟩
  | 5,hj=>cases hj; exact ⟨_,rfl,hr2'⟩
end Go.Proofs.YtcpgflbfjplheaaGreatDoor
namespace Gv
open Go Go.RowKit Gs
set_option linter.unusedVariables false
def pa (l:List Pt2) (i:Nat):Pt2:=l.getD i (0,0)
theorem at_pa {l:List Pt2} {i:Nat} (h:i < l.length):l[i]? = some (pa l i):=by unfold pa; rw [List.getD,List.getElem?_eq_getElem h]; rfl
theorem pa_mem {l:List Pt2} {i:Nat} (h:i < l.length):pa l i ∈ l:=List.mem_of_getElem? (at_pa h)
theorem mod_lt {l:List Pt2} {i:Nat} (h:i < l.length):(i + 1) % l.length < l.length:=Nat.mod_lt _ (by omega)
theorem Qb.zero:Qb (0:Rat) 1:=.int (z:=0) (zs_s (by decide)) (by decide)
theorem Qb.half:Qb ((1:Rat) / 2) 1:=.one _ (z:=1) (d:=2) (by decide +kernel) (by decide) (by decide) (by decide)
def plo (l:List Pt2):Nat → Pt2
 | 0=>pa l 0
 | i + 1=>(qmin (plo l i).1 (pa l i).1,qmin (plo l i).2 (pa l i).2)
def phi (l:List Pt2):Nat → Pt2
 | 0=>pa l 0
 | i + 1=>(qmax (phi l i).1 (pa l i).1,qmax (phi l i).2 (pa l i).2)
theorem sign_lt0 (x:Rat):decide (x.num.sign < 0) = decide (x < 0):=by
 rw [Bool.eq_iff_iff,decide_eq_true_iff,decide_eq_true_iff,← num_neg_iff]
 constructor
 ·intro h; exact Int.sign_neg_iff.1 h
 ·intro h; exact Int.sign_neg_iff.2 h
theorem zero_is {k:Nat} (hk:1 ≤ k):IsP (.agg [.raw (.bool false),.sl [],.sl [],.raw (.bool false),.sl [],.sl []]) (0,0) k:=by
 have h:IsQ (.agg [.raw (.bool false),.sl [],.sl []]) 0 k:=⟨false,[],[],rfl,Lt.nil _,Lt.nil _,by decide +kernel,by simp,by simp,hk⟩
 exact ⟨_,_,_,_,_,_,rfl,h,h⟩
theorem padd_zero (p:Pt2):padd p (0,0) = p:=by
 unfold padd
 ext <;> simp [Rat.add_zero]
theorem IsL.nil {k:Nat}:IsL (.sl []) [] k:=⟨[],rfl,rfl,fun i e p h=>by simp at h⟩
end Gv
namespace Go.Proofs.YtcpgflbfjplheaaGreatDoor
open Go.RowKit Gs Gv
set_option linter.unusedVariables false
end Go.Proofs.YtcpgflbfjplheaaGreatDoor
namespace Go.Proofs.YtcpgflbfjplheaaGreatDoor
open Go.RowKit Go.Shelf Gs Gv
set_option linter.unusedVariables false
end Go.Proofs.YtcpgflbfjplheaaGreatDoor
namespace Gv
open Go Go.RowKit Gs
set_option linter.unusedVariables false
section
variable {P:Program} {R:PV → Prop} {ρ:List PV} {C:List (List PV → Prop)} {k:VC} {args:List SV}
theorem ok_calln {f:FuncId} {e n:Nat} {ps:List PV} {es:List (List PV)} (h:FnN P f ps e n (· = .sl es)) (hp:pvs ρ args = ps) (hk:k.ok P R (ρ ++ [.sl es]) C):(VC.calln f e n args k).ok P R ρ C:=⟨es,by rw [hp]; exact h,hk⟩
theorem ok_callt {f:FuncId} {e n:Nat} {c:SV} {sh:RSh} {ps:List PV} {es es':List (List PV)} {r:PV} (hc:pv ρ c = .sl es) (h:FnT P f e n es ps (· = .tup [.sl es',r])) (hp:pvs ρ args = ps) (hf:fitsR sh r = true) (hk:k.ok P R (ρ ++ [.tup [.sl es',r]]) C):(VC.callt f e n c args sh k).ok P R ρ C:=⟨es,es',r,hc,by rw [hp]; exact h,hf,hk⟩
theorem ok_callb {f:FuncId} {e n:Nat} {c:SV} {ps:List PV} {es es':List (List PV)} (hc:pv ρ c = .sl es) (h:FnB P f e n es ps (· = .sl es')) (hp:pvs ρ args = ps) (hk:k.ok P R (ρ ++ [.sl es']) C):(VC.callb f e n c args k).ok P R ρ C:=⟨es,es',hc,by rw [hp]; exact h,hk⟩
theorem ok_ldxA {n m:Nat} {es:List (List PV)} {e:List PV} {kk:IntKind} (hp:pvs ρ args = [.sl es,.raw (.int kk (m:Int))]) (he:es[m]? = some e) (hn:e.length = n) (hk:k.ok P R (ρ ++ [.agg e]) C):(VC.prim (.ldx n 0 (some n)) args k).ok P R ρ C:=by
 refine ⟨.agg e,?_,hk⟩
 rw [hp]
 subst hn
 simp [Prim.ev,idxOf,he]
theorem ok_ldx1 {n m off:Nat} {es:List (List PV)} {e:List PV} {p:PV} {kk:IntKind} (hp:pvs ρ args = [.sl es,.raw (.int kk (m:Int))]) (he:es[m]? = some e) (hn:e.length = n) (hx:e[off]? = some p) (hk:k.ok P R (ρ ++ [p]) C):(VC.prim (.ldx n off none) args k).ok P R ρ C:=by
 refine ⟨p,?_,hk⟩
 rw [hp]
 subst hn
 simp [Prim.ev,idxOf,he,hx]
theorem ok_stxA {n m:Nat} {es:List (List PV)} {e cs:List PV} {kk:IntKind} (hp:pvs ρ args = .sl es :: .raw (.int kk (m:Int)) :: cs) (he:es[m]? = some e) (hn:e.length = n) (hc:cs.length = n) (hfl:∀ x ∈ cs,x.flat = true) (hk:k.ok P R (ρ ++ [.sl (es.set m cs)]) C):(VC.prim (.stx n 0) args k).ok P R ρ C:=by
 refine ⟨.sl (es.set m cs),?_,hk⟩
 rw [hp]
 subst hn
 have hall:cs.all PV.flat = true:=List.all_eq_true.2 hfl
 simp [Prim.ev,idxOf,he,hc,hall]
end
theorem pcs_flat (p:Pt2):∀ x ∈ pcs p,x.flat = true:=by
 intro x hx
 simp only [pcs,List.mem_cons,List.not_mem_nil,or_false] at hx
 rcases hx with rfl | rfl | rfl | rfl | rfl | rfl <;> rfl
end Gv
namespace Go.Proofs.YtcpgflbfjplheaaGreatDoor
open Go.RowKit Gs Gv
set_option linter.unusedVariables false
end Go.Proofs.YtcpgflbfjplheaaGreatDoor
namespace Gv
open Go Go.RowKit Gs
set_option linter.unusedVariables false
theorem wrap_nadd {a b:Nat} (h:a + b < 9223372036854775808):IntKind.i64.wrap ((a:Int) + (b:Int)) = ((a + b:Nat):Int):=by
 have:=wrap_nat h
 rw [← this]
 rfl
theorem Pb.lo {l:List Pt2} {k:Nat} (h:∀ p ∈ l,Pb p k) (hl:0 < l.length):∀ i,i ≤ l.length → Pb (plo l i) k
 | 0,_=>h _ (pa_mem hl)
 | i + 1,hi=>⟨(Pb.lo h hl i (by omega)).x.min (h _ (pa_mem (by omega))).x,(Pb.lo h hl i (by omega)).y.min (h _ (pa_mem (by omega))).y⟩
theorem Pb.hi {l:List Pt2} {k:Nat} (h:∀ p ∈ l,Pb p k) (hl:0 < l.length):∀ i,i ≤ l.length → Pb (phi l i) k
 | 0,_=>h _ (pa_mem hl)
 | i + 1,hi=>⟨(Pb.hi h hl i (by omega)).x.max (h _ (pa_mem (by omega))).x,(Pb.hi h hl i (by omega)).y.max (h _ (pa_mem (by omega))).y⟩
theorem lss_lt {a b:Rat}:decide (qcmp a b < 0) = decide (a < b):=by rw [Bool.eq_iff_iff,decide_eq_true_iff,decide_eq_true_iff,qcmp_lt]
theorem gtr_lt {a b:Rat}:decide (qcmp a b > 0) = decide (b < a):=by rw [Bool.eq_iff_iff,decide_eq_true_iff,decide_eq_true_iff,gt_iff_lt,qcmp_gt]
end Gv
namespace Go.Proofs.YtcpgflbfjplheaaGreatDoor
open Go.RowKit Gs Gv
set_option linter.unusedVariables false
end Go.Proofs.YtcpgflbfjplheaaGreatDoor
namespace Gv
open Go Go.RowKit Gs
set_option linter.unusedVariables false
section
variable {P:Program} {R:PV → Prop} {ρ:List PV} {C:List (List PV → Prop)} {k:VC} {args:List SV}
theorem ok_fld {off:Nat} {cs ds:List PV} (hp:pvs ρ args = [.ref cs]) (hd:cs.drop off = ds) (hk:k.ok P R (ρ ++ [.ref ds]) C):(VC.prim (.fld off) args k).ok P R ρ C:=by
 subst hd
 refine ⟨.ref (cs.drop off),?_,hk⟩
 rw [hp]
 rfl
theorem ok_ldT {n:Nat} {cs ds:List PV} (hp:pvs ρ args = [.ref cs]) (hn:n ≤ cs.length) (hd:cs.take n = ds) (hk:k.ok P R (ρ ++ [.agg ds]) C):(VC.prim (.ld (some n)) args k).ok P R ρ C:=by
 subst hd
 refine ⟨.agg (cs.take n),?_,hk⟩
 rw [hp]
 simp [Prim.ev,hn]
theorem ok_mod {n m:Nat} (hp:pvs ρ args = [.raw (.int .i64 (n:Int)),.raw (.int .i64 (m:Int))]) (hm:m ≠ 0) (hk:k.ok P R (ρ ++ [.raw (.int .i64 ((n % m:Nat):Int))]) C):(VC.prim (.op2 .rem false) args k).ok P R ρ C :=
 ok_rem hp (by omega) _ (by rw [← Int.ofNat_tmod]) hk
end
end Gv
namespace Go.Proofs.YtcpgflbfjplheaaGreatDoor
open Go.RowKit Gs Gv
set_option linter.unusedVariables false
end Go.Proofs.YtcpgflbfjplheaaGreatDoor
namespace Gv
open Go Go.RowKit Gs
set_option linter.unusedVariables false
def ip (x y:Int):Pt2:=((x:Rat),(y:Rat))
theorem ip_b {x y:Int} (h1:x.natAbs ≤ 9:=by decide) (h2:y.natAbs ≤ 9:=by decide):Pb (ip x y) 1:=⟨.int (zs_s (by omega)) (by decide),.int (zs_s (by omega)) (by decide)⟩
theorem ztxt2:qtxt ((2:Int):Rat) = ⟨#[50]⟩:=by
 rw [qtxt_one]
 exact str_txt (s:=⟨#[50]⟩) ⟨by decide,by decide,by decide,by decide⟩
end Gv
namespace Go.Proofs.YtcpgflbfjplheaaGreatDoor
open Go.RowKit Gs Gv
set_option linter.unusedVariables false
end Go.Proofs.YtcpgflbfjplheaaGreatDoor
