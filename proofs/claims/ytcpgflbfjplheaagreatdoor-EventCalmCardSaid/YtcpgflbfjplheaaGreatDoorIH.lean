import Derived.Test.YtcpgflbfjplheaaGreatDoorIA
import Derived.Test.YtcpgflbfjplheaaGreatDoorVP
import Derived.Test.YtcpgflbfjplheaaGreatDoorGA
import Derived.Test.YtcpgflbfjplheaaGreatDoorHA
import Derived.SizedLaws
namespace Gv
open Go Go.RowKit
set_option linter.unusedVariables false
set_option linter.unusedSimpArgs false
theorem FnN.pure {P:Program} {f:FuncId} {args:List PV} {e:TypeId} {k:Nat} {es:List (List PV)} (h:FnN P f args e k (· = .sl es)):Fn P f args (.sl es):=by
 refine ⟨h.1,fun w P0 vs hP hl hr=>(h.2 w P0 vs hP hl hr).mono ?_⟩
 rintro x w' ⟨v,es',rfl,e1,hB,hR⟩
 injection e1 with e1
 subst e1
 exact ⟨v,_,rfl,rfl,hR.rep (fun b hb=>hb.1) (fun b hb=>.inr (hR.owns hb).2),hB⟩
def IsE (v:PV) (e:Ed) (k:Nat):Prop:=∃ a1 a2 a3 a4 a5 a6 b1 b2 b3 b4 b5 b6,v = .agg [a1,a2,a3,a4,a5,a6,b1,b2,b3,b4,b5,b6] ∧ IsP (.agg [a1,a2,a3,a4,a5,a6]) e.1 k ∧ IsP (.agg [b1,b2,b3,b4,b5,b6]) e.2 k
def IsEL (v:PV) (l:List Ed) (k:Nat):Prop:=∃ es:List (List PV),v = .sl es ∧ es.length = l.length ∧ ∀ (i:Nat) (c:List PV) (e:Ed),es[i]? = some c → l[i]? = some e → IsE (.agg c) e k
theorem IsEL.at {es:List (List PV)} {l:List Ed} {k m:Nat} (h:IsEL (.sl es) l k) (hm:m < l.length):∃ a1 a2 a3 a4 a5 a6 b1 b2 b3 b4 b5 b6,es[m]? = some [a1,a2,a3,a4,a5,a6,b1,b2,b3,b4,b5,b6] ∧ IsP (.agg [a1,a2,a3,a4,a5,a6]) (eg l m).1 k ∧ IsP (.agg [b1,b2,b3,b4,b5,b6]) (eg l m).2 k:=by
 obtain ⟨es',e1,h2,h3⟩:=h
 cases e1
 have hx:es[m]? = some (es[m]'(by omega)):=List.getElem?_eq_getElem _
 obtain ⟨a1,a2,a3,a4,a5,a6,b1,b2,b3,b4,b5,b6,e2,g1,g2⟩:=h3 m _ _ hx (eg_at hm)
 injection e2 with e2
 exact ⟨a1,a2,a3,a4,a5,a6,b1,b2,b3,b4,b5,b6,by rw [hx,e2],g1,g2⟩
theorem IsEL.len {es:List (List PV)} {l:List Ed} {k:Nat} (h:IsEL (.sl es) l k):es.length = l.length:=by
 obtain ⟨es',e1,h2,_⟩:=h
 cases e1
 exact h2
theorem IsEL.all12 {es:List (List PV)} {l:List Ed} {k:Nat} (h:IsEL (.sl es) l k):∀ e ∈ es,e.length = 12:=by
 intro e he
 obtain ⟨i,hi⟩:=List.mem_iff_getElem?.1 he
 have hlt:=(List.getElem?_eq_some_iff.1 hi).1
 obtain ⟨_,_,_,_,_,_,_,_,_,_,_,_,h1,_⟩:=h.at (show i < l.length by rw [← h.len]; exact hlt)
 rw [hi] at h1
 cases h1
 rfl
theorem IsEL.b {v:PV} {l:List Ed} {k:Nat} (h:IsEL v l k) {i:Nat} (hi:i < l.length):Pb (eg l i).1 k ∧ Pb (eg l i).2 k:=by
 obtain ⟨es,rfl,h2,h3⟩:=id h
 obtain ⟨_,_,_,_,_,_,_,_,_,_,_,_,_,g1,g2⟩:=h.at hi
 exact ⟨g1.b,g2.b⟩
theorem IsEL.nil (k:Nat):IsEL (.sl []) [] k:=⟨[],rfl,rfl,fun i c e h=>by simp at h⟩
theorem IsEL.app {es xs:List (List PV)} {l m:List Ed} {k:Nat} (h:IsEL (.sl es) l k) (h':IsEL (.sl xs) m k):IsEL (.sl (es ++ xs)) (l ++ m) k:=by
 obtain ⟨es',e1,h2,h3⟩:=h
 cases e1
 obtain ⟨xs',e1,g2,g3⟩:=h'
 cases e1
 refine ⟨_,rfl,by simp [h2,g2],fun i c e hc he=>?_⟩
 by_cases hi:i < es.length
 ·rw [List.getElem?_append_left hi] at hc
  rw [List.getElem?_append_left (by omega)] at he
  exact h3 i c e hc he
 ·rw [List.getElem?_append_right (by omega)] at hc
  rw [List.getElem?_append_right (by omega)] at he
  rw [h2] at hc
  exact g3 _ c e hc he
abbrev Gp:=List Ed × Bool
def IsGL (v:PV) (L:List Gp) (k:Nat):Prop:=∃ gs:List (List PV),v = .sl gs ∧ gs.length = L.length ∧ ∀ (i:Nat) (g:List PV) (p:Gp),gs[i]? = some g → L[i]? = some p → ∃ es,g = [.sl es,.raw (.bool p.2)] ∧ IsEL (.sl es) p.1 k
def gall (L:List Gp):List Ed:=(L.map (·.1)).flatten
theorem gall_succ {L:List Gp} {i:Nat} {p:Gp} (h:L[i]? = some p):gall (L.take (i + 1)) = gall (L.take i) ++ p.1:=by
 unfold gall
 rw [List.take_add_one,h]
 simp
theorem gall_le (L:List Gp):∀ i,(gall (L.take i)).length ≤ (gall L).length:=by
 intro i
 have h:gall L = gall (L.take i) ++ gall (L.drop i):=by
  unfold gall
  rw [← List.flatten_append,← List.map_append,List.take_append_drop]
 rw [h,List.length_append]
 omega
section
variable {P:Program} {R:PV → Prop} {ρ:List PV} {C:List (List PV → Prop)} {k:VC} {args:List SV}
theorem ok_rslL {n a:Nat} {es:List (List PV)} {kk:IntKind} (hp:pvs ρ args = [.sl es,.raw (.int kk (a:Int))]) (ha:a ≤ es.length) (h3:∀ x ∈ es,x.length = n) (hk:k.ok P R (ρ ++ [.sl (es.drop a)]) C):(VC.prim (.rsl n true false false) args k).ok P R ρ C:=by
 refine ⟨_,?_,hk⟩
 rw [hp]
 simp [Prim.ev,idxOf]
 exact ⟨ha,h3⟩
end
theorem pmeet_len (a b c d:Pt2):(pmeet a b c d).length ≤ 4:=by
 have h0:(alist a b c d).length ≤ 4:=by
  have h1:=@alstep_len a b c d a []
  have h2:=@alstep_len a b c d b (alstep a b c d [] a)
  have h3:=@alstep_len a b c d c (alstep a b c d (alstep a b c d [] a) b)
  have h4:=@alstep_len a b c d d (alstep a b c d (alstep a b c d (alstep a b c d [] a) b) c)
  show (alstep a b c d (alstep a b c d (alstep a b c d (alstep a b c d [] a) b) c) d).length ≤ 4
  simp only [List.length_nil] at h1
  omega
 unfold pmeet
 split
 ·unfold palong
  split
  ·split <;> simp
  ·exact h0
 ·split <;> simp
theorem cr1_len (a b:Ed):(cr1 a b).length ≤ 4:=by
 unfold cr1
 split
 ·simp
 ·rw [List.length_map]; exact pmeet_len _ _ _ _
theorem crossRow_len (a:Ed):∀ m:List Ed,(crossRow a m).length ≤ 4 * m.length
 | []=>Nat.le_refl _
 | b :: m=>by
  have h1:=crossRow_len a m
  have h2:=cr1_len a b
  unfold crossRow at h1 ⊢
  simp only [List.map_cons,List.flatten_cons,List.length_append,List.length_cons]
  omega
theorem crossRow_snoc {a:Ed} {m:List Ed} {j:Nat} (h:j < m.length):crossRow a (m.take (j + 1)) = crossRow a (m.take j) ++ cr1 a (eg m j):=by
 unfold crossRow
 rw [List.take_add_one,eg_at h]
 simp
theorem crossUp_len (l:List Ed):∀ i,(crossUp l i).length ≤ 4 * l.length * i
 | 0=>Nat.le_refl _
 | i + 1=>by
  have h1:=crossUp_len l i
  have h2:=crossRow_len (eg l i) (l.drop (i + 1))
  rw [List.length_drop] at h2
  unfold crossUp
  rw [List.length_append,Nat.mul_add,Nat.mul_one]
  omega
theorem Pb.meet {a b c d p:Pt2} {k:Nat} (ha:Pb a k) (hb:Pb b k) (hc:Pb c k) (hd:Pb d k) (h:p ∈ pmeet a b c d):Pb p (19 * k + 12):=by
 unfold pmeet at h
 split at h
 ·rcases (palong_mem.1 h).1 with rfl | rfl | rfl | rfl
  ·exact ha.more (by omega)
  ·exact hb.more (by omega)
  ·exact hc.more (by omega)
  ·exact hd.more (by omega)
 ·rename_i hz
  split at h
  ·rw [List.mem_singleton] at h
   subst h
   have bt:Qb (mt a b c d) (16 * k + 10):=((Qb.cross (hc.sub ha) (hd.sub hc)).div (Qb.cross (hb.sub ha) (hd.sub hc)) hz).more (by omega)
   exact (Pb.mix ha hb bt).more (by omega)
  ·simp at h
theorem crossUp_b {l:List Ed} {k:Nat} (hb:∀ i,i < l.length → Pb (eg l i).1 k ∧ Pb (eg l i).2 k) {q:Rat} (h:q ∈ crossUp l l.length):Qb q (19 * k + 12):=by
 rw [crossUp_mem (Nat.le_refl _)] at h
 obtain ⟨i,j,h1,h2,h3,p,h4,rfl⟩:=h
 obtain ⟨g1,g2⟩:=hb i h1
 obtain ⟨g3,g4⟩:=hb j h3
 exact (Pb.meet g1 g2 g3 g4 (pmeet_mem.2 h4)).y
theorem edgesYs_snoc {x0 x1:Rat} {l:List Ed} {i:Nat} (h:i < l.length):edgesYs x0 x1 (l.take (i + 1)) = edgesYs x0 x1 (l.take i) ++ edgeYs x0 x1 (eg l i):=by
 unfold edgesYs
 rw [List.take_add_one,eg_at h]
 simp
theorem edgeYs_len (x0 x1:Rat) (e:Ed):(edgeYs x0 x1 e).length ≤ 4:=by
 unfold edgeYs
 cases pup e x0 <;> cases pup e x1 <;> simp
theorem edgesYs_len (x0 x1:Rat):∀ l:List Ed,(edgesYs x0 x1 l).length ≤ 4 * l.length
 | []=>Nat.le_refl _
 | e :: l=>by
  have h1:=edgesYs_len x0 x1 l
  have h2:=edgeYs_len x0 x1 e
  unfold edgesYs at h1 ⊢
  simp only [List.map_cons,List.flatten_cons,List.length_append,List.length_cons]
  omega
theorem pup_b {e:Ed} {x q:Rat} {k:Nat} (h1:Pb e.1 k) (h2:Pb e.2 k) (hx:Qb x k) (h:pup e x = some q):Qb q (19 * k + 12):=by
 have e0:pup e x = if e.2.1 - e.1.1 = 0 then none else if qbtw x e.1.1 e.2.1 then some (e.1.2 + (e.2.2 - e.1.2) * ((x - e.1.1) / (e.2.1 - e.1.1))) else none:=rfl
 rw [e0] at h
 split at h
 ·cases h
 ·rename_i hz
  split at h
  ·cases h
   exact (h1.y.add ((h2.y.sub h1.y).mul ((hx.sub h1.x).div (h2.x.sub h1.x) hz))).more (by omega)
  ·cases h
theorem edgeYs_b {e:Ed} {x0 x1 q:Rat} {k:Nat} (h1:Pb e.1 k) (h2:Pb e.2 k) (hx0:Qb x0 k) (hx1:Qb x1 k) (h:q ∈ edgeYs x0 x1 e):Qb q (19 * k + 12):=by
 unfold edgeYs at h
 simp only [List.mem_append,List.mem_cons,List.not_mem_nil,or_false,Option.mem_toList] at h
 rcases h with ((rfl | rfl) | h) | h
 ·exact h1.y.more (by omega)
 ·exact h2.y.more (by omega)
 ·exact pup_b h1 h2 hx0 h
 ·exact pup_b h1 h2 hx1 h
theorem edgesYs_b {l:List Ed} {x0 x1 q:Rat} {k:Nat} (hb:∀ i,i < l.length → Pb (eg l i).1 k ∧ Pb (eg l i).2 k) (hx0:Qb x0 k) (hx1:Qb x1 k) (h:q ∈ edgesYs x0 x1 l):Qb q (19 * k + 12):=by
 unfold edgesYs at h
 rw [List.mem_flatten] at h
 obtain ⟨t,ht,hq⟩:=h
 obtain ⟨e,he,rfl⟩:=List.mem_map.1 ht
 obtain ⟨i,hi⟩:=List.mem_iff_getElem?.1 he
 have hlt:=(List.getElem?_eq_some_iff.1 hi).1
 rw [eg_at hlt] at hi
 cases hi
 exact edgeYs_b (hb i hlt).1 (hb i hlt).2 hx0 hx1 hq
theorem qdel_inner (y0 y1:Rat) (l:List Rat):(l.filter fun y=>!(decide (y ≤ y0) || decide (y1 ≤ y))) = qinner y0 y1 l:=by
 unfold qinner
 refine List.filter_congr fun y _=>?_
 rw [Bool.eq_iff_iff]
 simp only [Bool.not_eq_true',Bool.or_eq_false_iff,decide_eq_false_iff_not,Bool.and_eq_true,decide_eq_true_eq]
 grind
theorem qd_zero:qd 0 1 = 0:=by decide +kernel
end Gv
namespace Go.Proofs.YtcpgflbfjplheaaGreatDoor
open Go Go.RowKit Gs Gv
set_option linter.unusedVariables false
def cmpV:PV:=.clo (.func 20) [] []
theorem x_sorted1 {a b:Rat} {k:Nat} (ha:Qb a k) (hb:Qb b k) (hk:k ≤ 50000):Gv.Fn Tryz.prog 146 [qc a,qc b,.ref [cmpV]] (.raw (.bool (decide (a = b)))):=by
 refine Fn.introC mixed vc_event_sorted_api_Rat_1 rfl ?_
 refine ok_prim1 cmpV rfl rfl ?_
 try simp only [nr]
 refine ok_callv (v:=cmpV) (r:=.raw (.int .i64 (qcmp a b))) (show FnV _ _ [qc a,qc b] _ from q_Cmp (IsQ.qc ha) (IsQ.qc hb) (by omega)) rfl rfl rfl ?_
 try simp only [nr]
 refine ok_eq rfl (decide (a = b)) (by rw [Bool.eq_iff_iff,beq_iff_eq,qcmp_zero,decide_eq_true_iff]) ?_
 try simp only [nr]
 exact ok_ret rfl rfl
theorem x_sorted {qs:List Rat} {k:Nat} (hb:∀ q ∈ qs,Qb q k) (hk:k ≤ 40000) (hn:qs.length ≤ 1000000) :
 FnB Tryz.prog 82 27 3 (qs.map qs3) [cmpV] (· = .sl ((norm qs).map qs3)):=by
 refine FnB.intro mixed vc_event_sorted_api_Rat_back (by decide) rfl ?_
 refine ok_callt (r:=.tup []) rfl (sort_rat hb hk hn) rfl rfl ?_
 try simp only [nr]
 have hl:(qsort qs).length = qs.length:=(qsort_perm qs).length_eq
 refine ok_callb (es:=(qsort qs).map qs3) rfl (compact_rat (fv:=.clo (.func 146) [] [.ref [cmpV]]) rfl (fun q hq=>hb q ((qsort_perm qs).mem_iff.1 hq)) (fun a b h1 h2=>x_sorted1 h1 h2 (by omega)) (by omega)) rfl ?_
 try simp only [nr]
 rw [qcompact_sort]
 exact ok_ret rfl rfl
theorem x_good {u:PV} {a:Rat} {k:Nat} (ha:IsQ u a k) (hk:k + 1 ≤ 100000):Gv.Fn Tryz.prog 79 [u] (qc a):=by
 have c1:Gv.Fn Tryz.prog 54 [.raw (.int .i64 0),.raw (.int .i64 1)] (qc 0):=by rw [← qd_zero]; exact q_Of (by decide) (by decide) (by decide) (by decide)
 have c2:=q_Add ha (IsQ.qc (show Qb 0 1 from Qb.int (z:=0) (zs_s (by decide)) (by decide))) hk
 rw [show a + 0 = a by grind] at c2
 obtain ⟨s5,l5,m5,rfl,_⟩:=ha
 refine Fn.intro mixed vc_event_good rfl ?_
 refine ok_call c1 rfl rfl ?_
 try simp only [nr]
 refine ok_call c2 rfl rfl ?_
 try simp only [nr]
 exact ok_ret rfl rfl
theorem x_beyond {u0 u1 v0 v1:PV} {a0 a1 b0 b1:Rat} {k:Nat} (h0:IsQ u0 a0 k) (h1:IsQ u1 a1 k) (g0:IsQ v0 b0 k) (g1:IsQ v1 b1 k) (hk:k ≤ 50000):Gv.Fn Tryz.prog 155 [u0,u1,v0,v1] (.raw (.bool (qbeyond a0 a1 b0 b1))):=by
 have c1:=q_Cmp h0 g0 (by omega)
 have c2:=q_Cmp h0 g1 (by omega)
 have c3:=q_Cmp h1 g0 (by omega)
 have c4:=q_Cmp h1 g1 (by omega)
 obtain ⟨s1,l1,m1,rfl,_⟩:=h0
 obtain ⟨s2,l2,m2,rfl,_⟩:=h1
 obtain ⟨s3,l3,m3,rfl,_⟩:=g0
 obtain ⟨s4,l4,m4,rfl,_⟩:=g1
 refine Fn.introC mixed vc_event_apart_1 rfl ?_
 refine ok_call c1 rfl rfl ?_
 try simp only [nr]
 refine ok_lss rfl (decide (a0 < b0)) lss_lt ?_
 try simp only [nr]
 refine ok_ite rfl (fun e1=>?_) (fun e1=>?_)
 ·refine ok_call c2 rfl rfl ?_
  try simp only [nr]
  refine ok_lss rfl (decide (a0 < b1)) lss_lt ?_
  try simp only [nr]
  refine ok_ite rfl (fun e2=>?_) (fun e2=>?_)
  ·refine ok_call c3 rfl rfl ?_
   try simp only [nr]
   refine ok_lss rfl (decide (a1 < b0)) lss_lt ?_
   try simp only [nr]
   refine ok_ite rfl (fun e3=>?_) (fun e3=>?_)
   ·refine ok_call c4 rfl rfl ?_
    try simp only [nr]
    refine ok_lss rfl (decide (a1 < b1)) lss_lt ?_
    try simp only [nr]
    exact ok_ret rfl (by unfold qbeyond; rw [e1,e2,e3,Bool.true_and,Bool.true_and,Bool.true_and]; rfl)
   ·exact ok_ret rfl (by unfold qbeyond; rw [e1,e2,e3,Bool.true_and,Bool.true_and,Bool.false_and]; rfl)
  ·exact ok_ret rfl (by unfold qbeyond; rw [e1,e2,Bool.true_and,Bool.false_and]; rfl)
 ·exact ok_ret rfl (by unfold qbeyond; rw [e1,Bool.false_and]; rfl)
theorem x_apart {u v:PV} {a b:Ed} {k:Nat} (ha:IsE u a k) (hb:IsE v b k) (hk:k ≤ 50000):Gv.Fn Tryz.prog 91 [u,v] (.raw (.bool (papart a.1 a.2 b.1 b.2))):=by
 obtain ⟨a1,a2,a3,a4,a5,a6,a7,a8,a9,a10,a11,a12,rfl,⟨_,_,_,_,_,_,e1,i1,i2⟩,_,_,_,_,_,_,e2,i3,i4⟩:=ha
 obtain ⟨b1,b2,b3,b4,b5,b6,b7,b8,b9,b10,b11,b12,rfl,⟨_,_,_,_,_,_,e3,j1,j2⟩,_,_,_,_,_,_,e4,j3,j4⟩:=hb
 cases e1
 cases e2
 cases e3
 cases e4
 refine Fn.intro mixed vc_event_apart rfl ?_
 refine ok_call (x_beyond i1 i3 j1 j3 hk) rfl rfl ?_
 try simp only [nr]
 refine ok_ite rfl (fun h1=>?_) (fun h1=>?_)
 ·exact ok_ret rfl (by unfold papart; rw [h1,Bool.true_or]; rfl)
 refine ok_call (x_beyond j1 j3 i1 i3 hk) rfl rfl ?_
 try simp only [nr]
 refine ok_ite rfl (fun h2=>?_) (fun h2=>?_)
 ·exact ok_ret rfl (by unfold papart; rw [h1,h2,Bool.true_or,Bool.or_true]; rfl)
 refine ok_call (x_beyond i2 i4 j2 j4 hk) rfl rfl ?_
 try simp only [nr]
 refine ok_ite rfl (fun h3=>?_) (fun h3=>?_)
 ·exact ok_ret rfl (by unfold papart; rw [h1,h2,h3,Bool.true_or,Bool.or_true,Bool.or_true]; rfl)
 refine ok_call (x_beyond j2 j4 i2 i4 hk) rfl rfl ?_
 try simp only [nr]
 exact ok_ret rfl (by unfold papart; rw [h1,h2,h3,Bool.false_or,Bool.false_or,Bool.false_or]; rfl)
set_option maxHeartbeats 4000000 in
theorem x_CrossN {v:PV} {l:List Ed} {k:Nat} (h:IsEL v l k) (hk:k ≤ 1000) (hn:l.length ≤ 400) :
 FnN Tryz.prog 37 [v] 27 3 (· = .sl ((norm (crossUp l l.length)).map qs3)):=by
 obtain ⟨es,rfl,hel,_⟩:=id h
 have h12:=h.all12
 refine FnN.intro mixed vc_event_Cross_fresh (by decide) rfl ?_
 refine ok_lenS (es:=es) rfl (l.length:Int) (by rw [hel]) ?_
 try simp only [nr]
 refine ok_mk (l:=[]) rfl ?_
 try simp only [nr]
 refine ok_for l.length (fun i us=>us = [.raw (.int .i64 (i:Int)),.sl ((crossUp l i).map qs3)]) rfl (fun i us h=>⟨_,h⟩) ?_
 try simp only [nr]
 rintro i us D hi rfl hD
 try simp only [nr]
 refine ok_lss rfl (decide (i < l.length)) (by simp) ?_
 try simp only [nr]
 refine ok_ite rfl (fun h0=>?_) (fun h0=>?_)
 ·have hlt:i < l.length:=of_decide_eq_true h0
  obtain ⟨a1,a2,a3,a4,a5,a6,a7,a8,a9,a10,a11,a12,hea,hA,hB⟩:=h.at hlt
  have hcl:=crossUp_len l i
  have hcl2:4 * l.length * i ≤ 4 * 400 * 400:=Nat.mul_le_mul (Nat.mul_le_mul_left 4 hn) (by omega)
  refine ok_idx rfl hea rfl ?_
  try simp only [nr]
  refine ok_ld rfl rfl ?_
  try simp only [nr]
  refine ok_inc (n:=i) rfl (by omega) ?_
  try simp only [nr]
  refine ok_rslL (a:=i + 1) (es:=es) rfl (by omega) h12 ?_
  try simp only [nr]
  refine ok_lenS (es:=es.drop (i + 1)) rfl ((l.length - (i + 1):Nat):Int) (by rw [List.length_drop,hel]) ?_
  try simp only [nr]
  refine ok_for (l.length - (i + 1)) (fun j us=>us = [.raw (.int .i64 (j:Int)),.sl ((crossUp l i ++ crossRow (eg l i) ((l.drop (i + 1)).take j)).map qs3)]) (by simp [crossRow]; rfl) (fun j us h=>⟨_,h⟩) ?_
  try simp only [nr]
  rintro j us D2 hj rfl hD2
  try simp only [nr]
  refine ok_lss rfl (decide (j < l.length - (i + 1))) (by rw [Bool.eq_iff_iff,decide_eq_true_iff,decide_eq_true_iff]; omega) ?_
  try simp only [nr]
  refine ok_ite rfl (fun h1=>?_) (fun h1=>?_)
  ·have hjl:j < l.length - (i + 1):=of_decide_eq_true h1
   have hjd:j < (l.drop (i + 1)).length:=by rw [List.length_drop]; exact hjl
   obtain ⟨b1,b2,b3,b4,b5,b6,b7,b8,b9,b10,b11,b12,heb,hA2,hB2⟩:=h.at (show i + 1 + j < l.length by omega)
   have hed:eg (l.drop (i + 1)) j = eg l (i + 1 + j):=by
    unfold eg
    rw [List.getD,List.getD,List.getElem?_drop]
   have hrl:=crossRow_len (eg l i) ((l.drop (i + 1)).take j)
   rw [List.length_take,List.length_drop] at hrl
   have heb':(es.drop (i + 1))[j]? = some [b1,b2,b3,b4,b5,b6,b7,b8,b9,b10,b11,b12]:=by rw [List.getElem?_drop]; exact heb
   have hsn:=crossRow_snoc (a:=eg l i) hjd
   rw [hed] at hsn
   refine ok_idx rfl heb' rfl ?_
   try simp only [nr]
   refine ok_ld rfl rfl ?_
   try simp only [nr]
   refine ok_call (x_apart (a:=eg l i) (b:=eg l (i + 1 + j)) ⟨_,_,_,_,_,_,_,_,_,_,_,_,rfl,hA,hB⟩ ⟨_,_,_,_,_,_,_,_,_,_,_,_,rfl,hA2,hB2⟩ (by omega)) rfl rfl ?_
   try simp only [nr]
   refine ok_ite rfl (fun h2=>?_) (fun h2=>?_)
   ·refine ok_inc (n:=j) rfl (by omega) ?_
    try simp only [nr]
    refine ok_again rfl (hD2 _ hjl ?_)
    rw [hsn,show cr1 (eg l i) (eg l (i + 1 + j)) = [] by unfold cr1; rw [if_pos h2],List.append_nil]
    rfl
   ·have hcr:cr1 (eg l i) (eg l (i + 1 + j)) = (pmeet (eg l i).1 (eg l i).2 (eg l (i + 1 + j)).1 (eg l (i + 1 + j)).2).map (·.2):=by unfold cr1; rw [if_neg (by rw [h2]; exact Bool.noConfusion)]
    have hml:=pmeet_len (eg l i).1 (eg l i).2 (eg l (i + 1 + j)).1 (eg l (i + 1 + j)).2
    refine ok_call (s_Meet hA hB hA2 hB2 hk) rfl rfl ?_
    try simp only [nr]
    generalize pmeet (eg l i).1 (eg l i).2 (eg l (i + 1 + j)).1 (eg l (i + 1 + j)).2 = M at hcr hml ⊢
    refine ok_lenS (es:=M.map pcs) rfl (M.length:Int) (by simp) ?_
    try simp only [nr]
    refine ok_for M.length (fun m us=>us = [.raw (.int .i64 (m:Int)),.sl ((crossUp l i ++ crossRow (eg l i) ((l.drop (i + 1)).take j) ++ (M.take m).map (·.2)).map qs3)]) (by simp; rfl) (fun j us h=>⟨_,h⟩) ?_
    try simp only [nr]
    rintro m us D3 hm rfl hD3
    try simp only [nr]
    refine ok_lss rfl (decide (m < M.length)) (by simp) ?_
    try simp only [nr]
    refine ok_ite rfl (fun h3=>?_) (fun h3=>?_)
    ·have hml':m < M.length:=of_decide_eq_true h3
     refine ok_idx rfl (pl_at hml') rfl ?_
     try simp only [nr]
     refine ok_ld rfl rfl ?_
     try simp only [nr]
     refine ok_mk (l:=[qs3 (pa M m).2]) rfl ?_
     try simp only [nr]
     refine ok_app (n:=3) (es:=(crossUp l i ++ crossRow (eg l i) ((l.drop (i + 1)).take j) ++ (M.take m).map (·.2)).map qs3) (xs:=[qs3 (pa M m).2]) rfl (by simp only [List.length_map,List.length_append,List.length_take,List.length_cons,List.length_nil]; omega) (by simp only [List.length_map,List.length_append,List.length_take,List.length_cons,List.length_nil]; omega) (fun x hx=>by rw [List.mem_singleton] at hx; rw [hx]; rfl) ?_
     try simp only [nr]
     refine ok_inc (n:=m) rfl (by omega) ?_
     try simp only [nr]
     refine ok_again rfl (hD3 _ hml' ?_)
     have e1:(M.take (m + 1)).map (·.2) = (M.take m).map (·.2) ++ [(pa M m).2]:=by rw [List.take_add_one,at_pa hml']; simp
     rw [e1,← List.append_assoc,List.map_append (l₂:=[(pa M m).2])]
     rfl
    ·have hge:m = M.length:=by have:=of_decide_eq_false h3; omega
     subst hge
     refine ok_inc (n:=j) rfl (by omega) ?_
     try simp only [nr]
     refine ok_again rfl (hD2 _ hjl ?_)
     rw [hsn,hcr,List.take_length,← List.append_assoc]
     rfl
  ·have hge:j = l.length - (i + 1):=by have:=of_decide_eq_false h1; omega
   subst hge
   refine ok_inc (n:=i) rfl (by omega) ?_
   try simp only [nr]
   refine ok_again rfl (hD _ hlt ?_)
   rw [List.take_of_length_le (by rw [List.length_drop]; exact Nat.le_refl _)]
   rfl
 ·have hge:i = l.length:=by have:=of_decide_eq_false h0; omega
  subst hge
  have hcl:=crossUp_len l l.length
  have hcl2:4 * l.length * l.length ≤ 4 * 400 * 400:=Nat.mul_le_mul (Nat.mul_le_mul_left 4 hn) hn
  refine ok_callb (es:=(crossUp l l.length).map qs3) rfl (x_sorted (fun q hq=>crossUp_b (fun i hi=>h.b hi) hq) (by omega) (by omega)) rfl ?_
  try simp only [nr]
  exact ok_ret rfl rfl
theorem x_Cross {v:PV} {l:List Ed} {k:Nat} (h:IsEL v l k) (hk:k ≤ 1000) (hn:l.length ≤ 400):Gv.Fn Tryz.prog 37 [v] (qlist (norm (crossUp l l.length))):=(x_CrossN h hk hn).pure
theorem x_del {y y0 y1:Rat} {k:Nat} {c0 c1:List PV} (hy:Qb y k) (h0:IsQ (.agg c0) y0 k) (h1:IsQ (.agg c1) y1 k) (hk:k ≤ 50000):Gv.Fn Tryz.prog 81 [qc y,.ref c0,.ref c1] (.raw (.bool (decide (y ≤ y0) || decide (y1 ≤ y)))):=by
 have e1:=q_Cmp (IsQ.qc hy) h0 (by omega)
 have e2:=q_Cmp (IsQ.qc hy) h1 (by omega)
 obtain ⟨s1,l1,m1,g1,_⟩:=h0
 obtain ⟨s2,l2,m2,g2,_⟩:=h1
 cases g1
 cases g2
 refine Fn.introC mixed vc_event_Levels_1 rfl ?_
 refine ok_ld rfl rfl ?_
 try simp only [nr]
 refine ok_call e1 rfl rfl ?_
 try simp only [nr]
 refine ok_leq rfl (decide (y ≤ y0)) leqQ ?_
 try simp only [nr]
 refine ok_ite rfl (fun h=>?_) (fun h=>?_)
 ·exact ok_ret rfl (by rw [h,Bool.true_or]; rfl)
 refine ok_ld rfl rfl ?_
 try simp only [nr]
 refine ok_call e2 rfl rfl ?_
 try simp only [nr]
 refine ok_geq rfl (decide (y1 ≤ y)) geqQ ?_
 try simp only [nr]
 exact ok_ret rfl (by rw [h,Bool.false_or]; rfl)
set_option maxHeartbeats 4000000 in
theorem x_Levels {v u0 u1 w0 w1:PV} {L:List Gp} {x0 x1 y0 y1:Rat} {k:Nat} (h:IsGL v L k) (hx0:IsQ u0 x0 k) (hx1:IsQ u1 x1 k) (hy0:IsQ w0 y0 k) (hy1:IsQ w1 y1 k) (hk:k ≤ 1000) (hL:L.length ≤ 1000) (hn:(gall L).length ≤ 400) :
 Gv.Fn Tryz.prog 31 [v,u0,u1,w0,w1] (qlist (plevels (gall L) x0 x1 y0 y1)):=by
 obtain ⟨gs,rfl,hgl,hg⟩:=h
 have cx:=q_Cmp hx0 hx1 (by omega)
 have cy:=q_Cmp hy0 hy1 (by omega)
 have g0:=x_good hy0 (by omega)
 have g1:=x_good hy1 (by omega)
 have bx0:=hx0.b
 have bx1:=hx1.b
 have by0:=hy0.b
 have by1:=hy1.b
 have up0:=fun {u v:PV} {a b:Pt2} (ha:IsP u a k) (hb:IsP v b k)=>s_Upright ha hb hx0 (by omega)
 have up1:=fun {u v:PV} {a b:Pt2} (ha:IsP u a k) (hb:IsP v b k)=>s_Upright ha hb hx1 (by omega)
 obtain ⟨p0,p1,p2,rfl,_⟩:=hx0
 obtain ⟨p3,p4,p5,rfl,_⟩:=hx1
 have hy0':=hy0
 have hy1':=hy1
 obtain ⟨p6,p7,p8,rfl,_⟩:=hy0
 obtain ⟨p9,p10,p11,rfl,_⟩:=hy1
 refine Fn.introG mixed vc_event_Levels rfl ?_
 refine ok_call cx rfl rfl ?_
 try simp only [nr]
 refine ok_geq rfl (decide (x1 ≤ x0)) geqQ ?_
 try simp only [nr]
 refine ok_ite rfl (fun e1=>?_) (fun e1=>?_)
 ·have e:plevels (gall L) x0 x1 y0 y1 = []:=by unfold plevels; rw [if_pos (.inl (of_decide_eq_true e1))]
  rw [e]
  exact ok_ret rfl rfl
 refine ok_call cy rfl rfl ?_
 try simp only [nr]
 refine ok_geq rfl (decide (y1 ≤ y0)) geqQ ?_
 try simp only [nr]
 refine ok_ite rfl (fun e2=>?_) (fun e2=>?_)
 ·have e:plevels (gall L) x0 x1 y0 y1 = []:=by unfold plevels; rw [if_pos (.inr (of_decide_eq_true e2))]
  rw [e]
  exact ok_ret rfl rfl
 have e:plevels (gall L) x0 x1 y0 y1 = norm (qinner y0 y1 (norm (crossUp (gall L) (gall L).length) ++ edgesYs x0 x1 (gall L)) ++ [y0,y1]):=by unfold plevels; rw [if_neg (fun c=>c.elim (of_decide_eq_false e1) (of_decide_eq_false e2))]
 rw [e]
 refine ok_lenS (es:=gs) rfl (L.length:Int) (by rw [hgl]) ?_
 try simp only [nr]
 refine ok_mk (l:=[]) rfl ?_
 try simp only [nr]
 refine ok_for L.length (fun i us=>∃ es,us = [.raw (.int .i64 (i:Int)),.sl es] ∧ IsEL (.sl es) (gall (L.take i)) k) ⟨[],rfl,IsEL.nil k⟩ (fun i us ⟨_,h,_⟩=>⟨_,h⟩) ?_
 try simp only [nr]
 rintro i us D hi ⟨es,rfl,hes⟩ hD
 try simp only [nr]
 refine ok_lss rfl (decide (i < L.length)) (by simp) ?_
 try simp only [nr]
 refine ok_ite rfl (fun h0=>?_) (fun h0=>?_)
 ·have hlt:i < L.length:=of_decide_eq_true h0
  have hLi:L[i]? = some (L[i]'hlt):=List.getElem?_eq_getElem _
  have hgi:gs[i]? = some (gs[i]'(by omega)):=List.getElem?_eq_getElem _
  obtain ⟨ee,e3,hee⟩:=hg i _ _ hgi hLi
  rw [e3] at hgi
  have hsu:=gall_succ hLi
  have hle:=gall_le L (i + 1)
  have hle0:=hes.len
  have hle1:=hee.len
  rw [hsu,List.length_append] at hle
  refine ok_idx rfl hgi rfl ?_
  try simp only [nr]
  refine ok_ld rfl rfl ?_
  try simp only [nr]
  refine ok_app (n:=12) (es:=es) (xs:=ee) rfl (by omega) (by omega) hee.all12 ?_
  try simp only [nr]
  refine ok_inc (n:=i) rfl (by omega) ?_
  try simp only [nr]
  exact ok_again rfl (hD _ hlt ⟨_,rfl,by rw [hsu]; exact hes.app hee⟩)
 have hge:i = L.length:=by have:=of_decide_eq_false h0; omega
 subst hge
 rw [List.take_length] at hes
 generalize gall L = l at hes hn ⊢
 have hel:=hes.len
 have hNb:∀ q ∈ norm (crossUp l l.length),Qb q (19 * k + 12):=fun q hq=>crossUp_b (fun i hi=>hes.b hi) (norm_mem.1 hq)
 have hNl:(norm (crossUp l l.length)).length ≤ 640000:=by
  have h1:=@norm_length (crossUp l l.length)
  have hcl:=crossUp_len l l.length
  have hcl2:4 * l.length * l.length ≤ 4 * 400 * 400:=Nat.mul_le_mul (Nat.mul_le_mul_left 4 hn) hn
  omega
 refine ok_calln (x_CrossN hes hk hn) rfl ?_
 try simp only [nr]
 generalize norm (crossUp l l.length) = N at hNb hNl ⊢
 refine ok_lenS (es:=es) rfl (l.length:Int) (by rw [hel]) ?_
 try simp only [nr]
 refine ok_for l.length (fun i us=>us = [.raw (.int .i64 (i:Int)),.sl ((N ++ edgesYs x0 x1 (l.take i)).map qs3)]) (by simp [edgesYs]; rfl) (fun i us h=>⟨_,h⟩) ?_
 try simp only [nr]
 rintro i us D2 hi rfl hD2
 try simp only [nr]
 refine ok_lss rfl (decide (i < l.length)) (by simp) ?_
 try simp only [nr]
 refine ok_ite rfl (fun h0=>?_) (fun h0=>?_)
 ·have hlt:i < l.length:=of_decide_eq_true h0
  obtain ⟨a1,a2,a3,a4,a5,a6,a7,a8,a9,a10,a11,a12,hea,hA,hB⟩:=hes.at hlt
  obtain ⟨_,_,_,_,_,_,q1,i1,i2⟩:=id hA
  cases q1
  obtain ⟨_,_,_,_,_,_,q1,j1,j2⟩:=id hB
  cases q1
  have hsn:=edgesYs_snoc (x0:=x0) (x1:=x1) hlt
  have hyl:=edgesYs_len x0 x1 (l.take i)
  rw [List.length_take] at hyl
  have c0:=up0 hA hB
  have c1:=up1 hA hB
  change Gv.Fn _ _ _ (ptup (pup (eg l i) x0)) at c0
  change Gv.Fn _ _ _ (ptup (pup (eg l i) x1)) at c1
  have hEd:edgeYs x0 x1 (eg l i) = [(eg l i).1.2,(eg l i).2.2] ++ (pup (eg l i) x0).toList ++ (pup (eg l i) x1).toList:=rfl
  generalize edgesYs x0 x1 (l.take i) = Y at hsn hyl ⊢
  refine ok_idx rfl hea rfl ?_
  try simp only [nr]
  refine ok_ldxA rfl hea rfl ?_
  try simp only [nr]
  refine ok_call (x_good i2 (by omega)) rfl rfl ?_
  try simp only [nr]
  refine ok_call (x_good j2 (by omega)) rfl rfl ?_
  try simp only [nr]
  refine ok_mk (l:=[qs3 (eg l i).1.2,qs3 (eg l i).2.2]) rfl ?_
  try simp only [nr]
  refine ok_app (n:=3) (es:=(N ++ Y).map qs3) (xs:=[qs3 (eg l i).1.2,qs3 (eg l i).2.2]) rfl (by simp only [List.length_map,List.length_append,List.length_cons,List.length_nil]; omega) (by simp only [List.length_map,List.length_append,List.length_cons,List.length_nil]; omega) (fun x hx=>by simp only [List.mem_cons,List.not_mem_nil,or_false] at hx; rcases hx with rfl | rfl <;> rfl) ?_
  try simp only [nr]
  cases ho0:pup (eg l i) x0 with
  | none =>
   rw [ho0] at c0 hEd
   refine ok_call c0 rfl rfl ?_
   try simp only [nr]
   refine ok_false rfl ?_
   cases ho1:pup (eg l i) x1 with
   | none =>
    rw [ho1] at c1 hEd
    refine ok_call c1 rfl rfl ?_
    try simp only [nr]
    refine ok_false rfl ?_
    refine ok_inc (n:=i) rfl (by omega) ?_
    try simp only [nr]
    refine ok_again rfl (hD2 _ hlt ?_)
    rw [hsn,hEd]
    simp
    rfl
   | some q =>
    rw [ho1] at c1 hEd
    refine ok_call c1 rfl rfl ?_
    try simp only [nr]
    refine ok_true rfl ?_
    refine ok_mk (l:=[qs3 q]) rfl ?_
    try simp only [nr]
    refine ok_app (n:=3) (es:=(N ++ Y).map qs3 ++ [qs3 (eg l i).1.2,qs3 (eg l i).2.2]) (xs:=[qs3 q]) rfl (by simp only [List.length_map,List.length_append,List.length_cons,List.length_nil]; omega) (by simp only [List.length_map,List.length_append,List.length_cons,List.length_nil]; omega) (fun x hx=>by rw [List.mem_singleton] at hx; rw [hx]; rfl) ?_
    try simp only [nr]
    refine ok_inc (n:=i) rfl (by omega) ?_
    try simp only [nr]
    refine ok_again rfl (hD2 _ hlt ?_)
    rw [hsn,hEd]
    simp
    rfl
  | some q0 =>
   rw [ho0] at c0 hEd
   refine ok_call c0 rfl rfl ?_
   try simp only [nr]
   refine ok_true rfl ?_
   refine ok_mk (l:=[qs3 q0]) rfl ?_
   try simp only [nr]
   refine ok_app (n:=3) (es:=(N ++ Y).map qs3 ++ [qs3 (eg l i).1.2,qs3 (eg l i).2.2]) (xs:=[qs3 q0]) rfl (by simp only [List.length_map,List.length_append,List.length_cons,List.length_nil]; omega) (by simp only [List.length_map,List.length_append,List.length_cons,List.length_nil]; omega) (fun x hx=>by rw [List.mem_singleton] at hx; rw [hx]; rfl) ?_
   try simp only [nr]
   cases ho1:pup (eg l i) x1 with
   | none =>
    rw [ho1] at c1 hEd
    refine ok_call c1 rfl rfl ?_
    try simp only [nr]
    refine ok_false rfl ?_
    refine ok_inc (n:=i) rfl (by omega) ?_
    try simp only [nr]
    refine ok_again rfl (hD2 _ hlt ?_)
    rw [hsn,hEd]
    simp
    rfl
   | some q =>
    rw [ho1] at c1 hEd
    refine ok_call c1 rfl rfl ?_
    try simp only [nr]
    refine ok_true rfl ?_
    refine ok_mk (l:=[qs3 q]) rfl ?_
    try simp only [nr]
    refine ok_app (n:=3) (es:=(N ++ Y).map qs3 ++ [qs3 (eg l i).1.2,qs3 (eg l i).2.2] ++ [qs3 q0]) (xs:=[qs3 q]) rfl (by simp only [List.length_map,List.length_append,List.length_cons,List.length_nil]; omega) (by simp only [List.length_map,List.length_append,List.length_cons,List.length_nil]; omega) (fun x hx=>by rw [List.mem_singleton] at hx; rw [hx]; rfl) ?_
    try simp only [nr]
    refine ok_inc (n:=i) rfl (by omega) ?_
    try simp only [nr]
    refine ok_again rfl (hD2 _ hlt ?_)
    rw [hsn,hEd]
    simp
    rfl
 have hge:i = l.length:=by have:=of_decide_eq_false h0; omega
 subst hge
 rw [List.take_length]
 have hyl:=edgesYs_len x0 x1 l
 have hAb:∀ q ∈ N ++ edgesYs x0 x1 l,Qb q (19 * k + 12):=fun q hq=>(List.mem_append.1 hq).elim (hNb q) fun hq=>edgesYs_b (fun i hi=>hes.b hi) bx0 bx1 hq
 have hAl:(N ++ edgesYs x0 x1 l).length ≤ 700000:=by rw [List.length_append]; omega
 generalize N ++ edgesYs x0 x1 l = A at hAb hAl ⊢
 have hdel:=delete_rat (fv:=.clo (.func 81) [] [.ref [.raw (.bool p6),u64s p7,u64s p8],.ref [.raw (.bool p9),u64s p10,u64s p11]]) (d:=fun y=>decide (y ≤ y0) || decide (y1 ≤ y)) (qs:=A) rfl (fun q hq=>x_del (hAb q hq) (hy0'.more (by omega)) (hy1'.more (by omega)) (by omega)) (by omega)
 rw [qdel_inner] at hdel
 refine ok_callb (es:=A.map qs3) rfl hdel rfl ?_
 try simp only [nr]
 have hIl:(qinner y0 y1 A).length ≤ 700000:=Nat.le_trans (List.length_filter_le _ _) hAl
 have hIb:∀ q ∈ qinner y0 y1 A ++ [y0,y1],Qb q (19 * k + 12):=by
  intro q hq
  rcases List.mem_append.1 hq with hq | hq
  ·exact hAb q (qinner_mem.1 hq).1
  ·simp only [List.mem_cons,List.not_mem_nil,or_false] at hq
   rcases hq with rfl | rfl
   ·exact by0.more (by omega)
   ·exact by1.more (by omega)
 generalize qinner y0 y1 A = I at hIl hIb ⊢
 refine ok_call g0 rfl rfl ?_
 try simp only [nr]
 refine ok_call g1 rfl rfl ?_
 try simp only [nr]
 refine ok_mk (l:=[qs3 y0,qs3 y1]) rfl ?_
 try simp only [nr]
 refine ok_app (n:=3) (es:=I.map qs3) (xs:=[qs3 y0,qs3 y1]) rfl (by simp only [List.length_map,List.length_cons,List.length_nil]; omega) (by simp only [List.length_map,List.length_cons,List.length_nil]; omega) (fun x hx=>by simp only [List.mem_cons,List.not_mem_nil,or_false] at hx; rcases hx with rfl | rfl <;> rfl) ?_
 try simp only [nr]
 refine ok_callb (es:=(I ++ [y0,y1]).map qs3) (by rw [List.map_append]; rfl) (x_sorted hIb (by omega) (by rw [List.length_append]; simp only [List.length_cons,List.length_nil]; omega)) rfl ?_
 try simp only [nr]
 exact ok_ret rfl rfl
end Go.Proofs.YtcpgflbfjplheaaGreatDoor
namespace Gv
open Go Go.RowKit
set_option linter.unusedVariables false
set_option linter.unusedSimpArgs false
def ecs (e:Ed):List PV:=pcs e.1 ++ pcs e.2
def elist (l:List Ed):PV:=.sl (l.map ecs)
def gg (L:List Gp) (i:Nat):Gp:=L.getD i ([],false)
theorem gg_at {L:List Gp} {i:Nat} (h:i < L.length):L[i]? = some (gg L i):=by simp [gg,List.getD,h]
theorem IsEL.elist {l:List Ed} {k:Nat} (hb:∀ i,i < l.length → Pb (eg l i).1 k ∧ Pb (eg l i).2 k):IsEL (elist l) l k:=by
 refine ⟨_,rfl,List.length_map _,fun i c e hc he=>?_⟩
 have hlt:=(List.getElem?_eq_some_iff.1 he).1
 rw [List.getElem?_map,he] at hc
 rw [eg_at hlt] at he
 cases he
 cases hc
 exact ⟨_,_,_,_,_,_,_,_,_,_,_,_,rfl,IsP.pc (hb i hlt).1,IsP.pc (hb i hlt).2⟩
end Gv
namespace Go.Proofs.YtcpgflbfjplheaaGreatDoor
open Go Go.RowKit Gs Gv
set_option linter.unusedVariables false
end Go.Proofs.YtcpgflbfjplheaaGreatDoor
namespace Gv
open Go Go.RowKit
set_option linter.unusedVariables false
set_option linter.unusedSimpArgs false
structure RE where
 a:RP
 b:RP
def RE.cs (e:RE):List PV:=e.a.cs ++ e.b.cs
def RE.wf (e:RE):Prop:=e.a.wf ∧ e.b.wf
def RE.e (e:RE):Ed:=(e.a.p,e.b.p)
def RE.small (e:RE) (k:Int):Bool:=e.a.small k && e.b.small k
structure RG where
 e:List RE
 odd:Bool
def RG.cs (g:RG):List PV:=[.sl (g.e.map RE.cs),.raw (.bool g.odd)]
def RG.wf (g:RG):Prop:=∀ x ∈ g.e,x.wf
def RG.g (g:RG):Gp:=(g.e.map RE.e,g.odd)
def RG.small (g:RG):Bool:=g.e.all fun x=>x.small 2
def rgl (L:List RG):PV:=.sl (L.map RG.cs)
structure RB where
 x0:RQ
 x1:RQ
 y0:RQ
 y1:RQ
def RB.cs (b:RB):List PV:=[.raw (.bool b.x0.s),u64s b.x0.l,u64s b.x0.m,.raw (.bool b.x1.s),u64s b.x1.l,u64s b.x1.m,.raw (.bool b.y0.s),u64s b.y0.l,u64s b.y0.m,.raw (.bool b.y1.s),u64s b.y1.l,u64s b.y1.m]
def RB.wf (b:RB):Prop:=b.x0.wf ∧ b.x1.wf ∧ b.y0.wf ∧ b.y1.wf
def RB.small (b:RB):Bool:=b.x0.small 2 && (b.x1.small 2 && (b.y0.small 2 && b.y1.small 2))
def rg (L:List RG) (i:Nat):RG:=L.getD i ⟨[],false⟩
theorem rg_at {L:List RG} {i:Nat} (h:i < L.length):L[i]? = some (rg L i):=by simp [rg,List.getD,h]
theorem rg_mem {L:List RG} {i:Nat} (h:i < L.length):rg L i ∈ L:=List.mem_of_getElem? (rg_at h)
def gn (L:List RG) (i:Nat):Nat:=((L.take i).map fun g=>g.e.length).sum
theorem gn_succ {L:List RG} {i:Nat} (h:i < L.length):gn L (i + 1) = gn L i + (rg L i).e.length:=by
 unfold gn
 rw [List.take_add_one,rg_at h]
 simp
def fairAt (L:List RG) (most:Int) (i:Nat):Bool:=decide ((gn L (i + 1):Int) ≤ most) && (rg L i).small
def pfair (L:List RG) (most:Int):Bool:=((List.range L.length).all (fairAt L most)) && decide ((L.length:Int) ≤ 6)
theorem pfair_false {L:List RG} {most:Int} {i:Nat} (h:i < L.length) (hf:fairAt L most i = false):pfair L most = false:=by
 unfold pfair
 have:(List.range L.length).all (fairAt L most) = false:=by
  rw [List.all_eq_false]
  exact ⟨i,List.mem_range.2 h,by rw [hf]; exact Bool.noConfusion⟩
 rw [this,Bool.false_and]
theorem gall_len (L:List RG):(gall (L.map RG.g)).length = gn L L.length:=by
 unfold gall gn
 rw [List.take_length]
 induction L with
 | nil=>rfl
 | cons g L ih =>
  simp only [List.map_cons,List.flatten_cons,List.length_append,List.sum_cons,ih]
  simp [RG.g]
theorem pfair_inv {L:List RG} {most:Int} (h:pfair L most = true):L.length ≤ 6 ∧ (0 ≤ most → ((gall (L.map RG.g)).length:Int) ≤ most) ∧ ∀ g ∈ L,g.small = true:=by
 unfold pfair at h
 rw [Bool.and_eq_true,List.all_eq_true,decide_eq_true_iff] at h
 obtain ⟨h1,h2⟩:=h
 have h3:∀ i,i < L.length → (gn L (i + 1):Int) ≤ most ∧ (rg L i).small = true:=fun i hi=>by
  have:=h1 i (List.mem_range.2 hi)
  unfold fairAt at this
  rwa [Bool.and_eq_true,decide_eq_true_iff] at this
 refine ⟨by omega,fun h0=>?_,fun g hg=>?_⟩
 ·rw [gall_len]
  rcases Nat.eq_zero_or_pos L.length with e | e
  ·rw [e]; show ((0:Nat):Int) ≤ most; omega
  ·have:=(h3 (L.length - 1) (by omega)).1
   rwa [show L.length - 1 + 1 = L.length by omega] at this
 ·obtain ⟨i,hi⟩:=List.mem_iff_getElem?.1 hg
  have hlt:=(List.getElem?_eq_some_iff.1 hi).1
  rw [rg_at hlt] at hi
  cases hi
  exact (h3 i hlt).2
theorem IsE.of {e:RE} (h:e.wf) (hs:e.small 2 = true):IsE (.agg e.cs) e.e 2:=by
 unfold RE.small at hs
 rw [Bool.and_eq_true] at hs
 exact ⟨_,_,_,_,_,_,_,_,_,_,_,_,rfl,RP.is h.1 hs.1 (by decide),RP.is h.2 hs.2 (by decide)⟩
theorem IsEL.of {l:List RE} (h:∀ x ∈ l,x.wf) (hs:∀ x ∈ l,x.small 2 = true):IsEL (.sl (l.map RE.cs)) (l.map RE.e) 2:=by
 refine ⟨_,rfl,by simp,fun i c e hc he=>?_⟩
 rw [List.getElem?_map,Option.map_eq_some_iff] at hc he
 obtain ⟨x,hx,rfl⟩:=hc
 obtain ⟨y,hy,rfl⟩:=he
 rw [hx] at hy
 cases hy
 exact IsE.of (h x (List.mem_of_getElem? hx)) (hs x (List.mem_of_getElem? hx))
theorem IsGL.of {L:List RG} (h:∀ g ∈ L,g.wf) (hs:∀ g ∈ L,g.small = true):IsGL (rgl L) (L.map RG.g) 2:=by
 refine ⟨_,rfl,by simp,fun i c p hc hp=>?_⟩
 rw [List.getElem?_map,Option.map_eq_some_iff] at hc hp
 obtain ⟨x,hx,rfl⟩:=hc
 obtain ⟨y,hy,rfl⟩:=hp
 rw [hx] at hy
 cases hy
 refine ⟨_,rfl,IsEL.of (h x (List.mem_of_getElem? hx)) fun e he=>?_⟩
 have:=hs x (List.mem_of_getElem? hx)
 unfold RG.small at this
 exact List.all_eq_true.1 this e he
theorem IsGL.b {v:PV} {L:List Gp} {k:Nat} (h:IsGL v L k):∀ i,i < (gall L).length → Pb (eg (gall L) i).1 k ∧ Pb (eg (gall L) i).2 k:=by
 obtain ⟨gs,rfl,hl,hg⟩:=h
 intro i hi
 have hm:eg (gall L) i ∈ gall L:=List.mem_of_getElem? (eg_at hi)
 unfold gall at hm
 rw [List.mem_flatten] at hm
 obtain ⟨t,ht,hq⟩:=hm
 obtain ⟨g,hgm,rfl⟩:=List.mem_map.1 ht
 obtain ⟨j,hj⟩:=List.mem_iff_getElem?.1 hgm
 have hjl:=(List.getElem?_eq_some_iff.1 hj).1
 obtain ⟨es,_,hes⟩:=hg j _ g (List.getElem?_eq_getElem (show j < gs.length by omega)) hj
 obtain ⟨m,hm⟩:=List.mem_iff_getElem?.1 hq
 have hml:=(List.getElem?_eq_some_iff.1 hm).1
 have hbm:=hes.b hml
 rw [eg_at hml] at hm
 have e:eg g.1 m = eg (gall L) i:=Option.some.inj hm
 rw [← e]
 exact hbm
theorem RB.parts {b:RB} (h:b.wf) (hs:b.small = true):IsQ (.agg b.x0.cs) b.x0.q 2 ∧ IsQ (.agg b.x1.cs) b.x1.q 2 ∧ IsQ (.agg b.y0.cs) b.y0.q 2 ∧ IsQ (.agg b.y1.cs) b.y1.q 2:=by
 unfold RB.small at hs
 rw [Bool.and_eq_true,Bool.and_eq_true,Bool.and_eq_true] at hs
 obtain ⟨s1,s2,s3,s4⟩:=hs
 obtain ⟨w1,w2,w3,w4⟩:=h
 exact ⟨RQ.is w1 s1 (by decide),RQ.is w2 s2 (by decide),RQ.is w3 s3 (by decide),RQ.is w4 s4 (by decide)⟩
end Gv
namespace Go.Proofs.YtcpgflbfjplheaaGreatDoor
open Go Go.RowKit Gs Gv
set_option linter.unusedVariables false
theorem l24_within {u v w:PV} {x a b:Rat} {k:Nat} (hx:IsQ u x k) (ha:IsQ v a k) (hb:IsQ w b k) (hk:k ≤ 50000):Gv.Fn Tryz.prog 40 [u,v,w] (.raw (.bool (decide (a < x) && decide (x < b)))):=by
 have c1:=q_Cmp hx ha (by omega)
 have c2:=q_Cmp hx hb (by omega)
 obtain ⟨s1,l1,m1,rfl,_⟩:=hx
 obtain ⟨s2,l2,m2,rfl,_⟩:=ha
 obtain ⟨s3,l3,m3,rfl,_⟩:=hb
 refine Fn.intro mixed vc_law24_within rfl ?_
 refine ok_call c1 rfl rfl ?_
 try simp only [nr]
 refine ok_gtr rfl (decide (a < x)) gtr_lt ?_
 try simp only [nr]
 refine ok_ite rfl (fun h=>?_) (fun h=>?_)
 ·refine ok_call c2 rfl rfl ?_
  try simp only [nr]
  refine ok_lss rfl (decide (x < b)) lss_lt ?_
  try simp only [nr]
  exact ok_ret rfl (by rw [h,Bool.true_and]; rfl)
 ·exact ok_ret rfl (by rw [h,Bool.false_and]; rfl)
theorem l24_Small (b:RB):Gv.Fn Tryz.prog 28 [.agg b.cs] (.raw (.bool b.small)):=by
 refine Fn.intro mixed vc_law24_Box_Small rfl ?_
 refine ok_call (k_Small (s:=b.x0.s) (l:=b.x0.l) (m:=b.x0.m) (k:=2)) rfl rfl ?_
 try simp only [nr]
 refine ok_ite (t:=b.x0.small 2) rfl (fun h=>?_) (fun h=>?_)
 ·refine ok_call (k_Small (s:=b.x1.s) (l:=b.x1.l) (m:=b.x1.m) (k:=2)) rfl rfl ?_
  try simp only [nr]
  refine ok_ite (t:=b.x1.small 2) rfl (fun h2=>?_) (fun h2=>?_)
  ·refine ok_call (k_Small (s:=b.y0.s) (l:=b.y0.l) (m:=b.y0.m) (k:=2)) rfl rfl ?_
   try simp only [nr]
   refine ok_ite (t:=b.y0.small 2) rfl (fun h3=>?_) (fun h3=>?_)
   ·refine ok_call (k_Small (s:=b.y1.s) (l:=b.y1.l) (m:=b.y1.m) (k:=2)) rfl rfl ?_
    try simp only [nr]
    exact ok_ret rfl (by unfold RB.small; rw [h,h2,h3,Bool.true_and,Bool.true_and,Bool.true_and]; rfl)
   ·exact ok_ret rfl (by unfold RB.small; rw [h,h2,h3,Bool.true_and,Bool.true_and,Bool.false_and]; rfl)
  ·exact ok_ret rfl (by unfold RB.small; rw [h,h2,Bool.true_and,Bool.false_and]; rfl)
 ·exact ok_ret rfl (by unfold RB.small; rw [h,Bool.false_and]; rfl)
set_option maxHeartbeats 1000000 in
theorem l24_Fair {L:List RG} {most:Int} (hm:0 ≤ most) (hm2:most ≤ 1000) (hL:L.length < 9223372036854775807) (he:∀ g ∈ L,g.e.length ≤ 140737488355328):Gv.Fn Tryz.prog 27 [rgl L,.raw (.int .i64 most)] (.raw (.bool (pfair L most))):=by
 refine Fn.intro mixed vc_law24_Fair rfl ?_
 refine ok_for L.length (fun i us=>us = [.raw (.int .i64 (i:Int)),.raw (.int .i64 (gn L i:Int))] ∧ ∀ j,j < i → fairAt L most j = true) ⟨rfl,fun j h=>by omega⟩ (fun i us h=>⟨_,h.1⟩) ?_
 try simp only [nr]
 rintro i us D hi ⟨rfl,hall⟩ hD
 try simp only [nr]
 refine ok_lenS (es:=L.map RG.cs) rfl (L.length:Int) (by simp) ?_
 try simp only [nr]
 refine ok_lss rfl (decide (i < L.length)) (by simp) ?_
 try simp only [nr]
 refine ok_ite rfl (fun h0=>?_) (fun h0=>?_)
 ·have hlt:i < L.length:=of_decide_eq_true h0
  have hga:(L.map RG.cs)[i]? = some (rg L i).cs:=by rw [List.getElem?_map,rg_at hlt]; rfl
  have hel:=he _ (rg_mem hlt)
  have hgn:(gn L i:Int) ≤ 1000:=by
   rcases Nat.eq_zero_or_pos i with e | e
   ·rw [e]; show ((0:Nat):Int) ≤ 1000; omega
   ·have:=hall (i - 1) (by omega)
    unfold fairAt at this
    rw [Bool.and_eq_true,decide_eq_true_iff,show i - 1 + 1 = i by omega] at this
    omega
  have hsu:=gn_succ hlt
  refine ok_idx rfl hga rfl ?_
  try simp only [nr]
  refine ok_fld (ds:=(rg L i).cs) rfl rfl ?_
  try simp only [nr]
  refine ok_prim1 (.sl ((rg L i).e.map RE.cs)) rfl rfl ?_
  try simp only [nr]
  refine ok_lenS (es:=(rg L i).e.map RE.cs) rfl ((rg L i).e.length:Int) (by simp) ?_
  try simp only [nr]
  refine ok_add rfl (gn L (i + 1):Int) (by rw [hsu,wrap_nadd (by omega)]) ?_
  try simp only [nr]
  refine ok_gtr rfl (decide (most < (gn L (i + 1):Int))) rfl ?_
  try simp only [nr]
  refine ok_ite rfl (fun h1=>?_) (fun h1=>?_)
  ·have h1':=of_decide_eq_true h1
   refine ok_ret ?_ rfl
   rw [pfair_false hlt (by unfold fairAt; rw [Bool.and_eq_false_iff,decide_eq_false_iff_not]; exact .inl (by omega))]
   rfl
  ·have h1':=of_decide_eq_false h1
   have hgt:∀ k,k < (rg L i).e.length → ((rg L i).e.map RE.cs)[k]? = some ((rg L i).e.getD k ⟨⟨⟨false,[],[]⟩,⟨false,[],[]⟩⟩,⟨⟨false,[],[]⟩,⟨false,[],[]⟩⟩⟩).cs:=fun k hk=>by
    rw [List.getElem?_map,List.getD,List.getElem?_eq_getElem hk]
    rfl
   have hnf:∀ k,k < (rg L i).e.length → ((rg L i).e.getD k ⟨⟨⟨false,[],[]⟩,⟨false,[],[]⟩⟩,⟨⟨false,[],[]⟩,⟨false,[],[]⟩⟩⟩).small 2 = false → pfair L most = false:=fun k hk hs=>by
    refine pfair_false hlt ?_
    unfold fairAt RG.small
    rw [Bool.and_eq_false_iff]
    refine .inr ?_
    rw [List.all_eq_false]
    refine ⟨_,?_,by rw [hs]; exact Bool.noConfusion⟩
    rw [List.getD,List.getElem?_eq_getElem hk]
    exact List.getElem_mem _
   refine ok_for (rg L i).e.length (fun k us=>us = [.raw (.int .i64 (k:Int))] ∧ ∀ m,m < k → ((rg L i).e.getD m ⟨⟨⟨false,[],[]⟩,⟨false,[],[]⟩⟩,⟨⟨false,[],[]⟩,⟨false,[],[]⟩⟩⟩).small 2 = true) ⟨rfl,fun j h=>by omega⟩ (fun i us h=>⟨_,h.1⟩) ?_
   try simp only [nr]
   rintro k us D2 hk ⟨rfl,hsm⟩ hD2
   try simp only [nr]
   refine ok_idx rfl hga rfl ?_
   try simp only [nr]
   refine ok_fld (ds:=(rg L i).cs) rfl rfl ?_
   try simp only [nr]
   refine ok_prim1 (.sl ((rg L i).e.map RE.cs)) rfl rfl ?_
   try simp only [nr]
   refine ok_lenS (es:=(rg L i).e.map RE.cs) rfl ((rg L i).e.length:Int) (by simp) ?_
   try simp only [nr]
   refine ok_lss rfl (decide (k < (rg L i).e.length)) (by simp) ?_
   try simp only [nr]
   refine ok_ite rfl (fun h2=>?_) (fun h2=>?_)
   ·have hkl:k < (rg L i).e.length:=of_decide_eq_true h2
    have hke:=hgt k hkl
    have hkn:=hnf k hkl
    have hku:∀ e:RE,e.small 2 = (e.a.small 2 && e.b.small 2):=fun e=>rfl
    generalize hx:(rg L i).e.getD k ⟨⟨⟨false,[],[]⟩,⟨false,[],[]⟩⟩,⟨⟨false,[],[]⟩,⟨false,[],[]⟩⟩⟩ = x at hke hkn
    rw [hku] at hkn
    refine ok_idx rfl hga rfl ?_
    try simp only [nr]
    refine ok_fld (ds:=(rg L i).cs) rfl rfl ?_
    try simp only [nr]
    refine ok_prim1 (.sl ((rg L i).e.map RE.cs)) rfl rfl ?_
    try simp only [nr]
    refine ok_idx rfl hke rfl ?_
    try simp only [nr]
    refine ok_fld (ds:=x.cs) rfl rfl ?_
    try simp only [nr]
    refine ok_ldT (ds:=x.a.cs) rfl (show 6 ≤ 12 by decide) rfl ?_
    try simp only [nr]
    refine ok_call (k_SmallPt (p:=x.a) (n:=2)) rfl rfl ?_
    try simp only [nr]
    refine ok_not rfl ?_
    try simp only [nr]
    refine ok_ite rfl (fun h3=>?_) (fun h3=>?_)
    ·refine ok_ret ?_ rfl
     rw [hkn (by rw [Bool.and_eq_false_iff]; exact .inl (by simpa using h3))]
     rfl
    refine ok_idx rfl hga rfl ?_
    try simp only [nr]
    refine ok_fld (ds:=(rg L i).cs) rfl rfl ?_
    try simp only [nr]
    refine ok_prim1 (.sl ((rg L i).e.map RE.cs)) rfl rfl ?_
    try simp only [nr]
    refine ok_idx rfl hke rfl ?_
    try simp only [nr]
    refine ok_fld (ds:=x.b.cs) rfl rfl ?_
    try simp only [nr]
    refine ok_ldT (ds:=x.b.cs) rfl (show 6 ≤ 6 by decide) rfl ?_
    try simp only [nr]
    refine ok_call (k_SmallPt (p:=x.b) (n:=2)) rfl rfl ?_
    try simp only [nr]
    refine ok_not rfl ?_
    try simp only [nr]
    refine ok_ite rfl (fun h4=>?_) (fun h4=>?_)
    ·refine ok_ret ?_ rfl
     rw [hkn (by rw [Bool.and_eq_false_iff]; exact .inr (by simpa using h4))]
     rfl
    refine ok_inc (n:=k) rfl (by omega) ?_
    try simp only [nr]
    exact ok_again rfl (hD2 _ hkl ⟨rfl,fun m hm=>by
     rcases Nat.lt_succ_iff_lt_or_eq.1 hm with c | c
     ·exact hsm m c
     ·rw [c,hx,hku,Bool.and_eq_true]; exact ⟨by simpa using h3,by simpa using h4⟩⟩)
   ·have hge:k = (rg L i).e.length:=by have:=of_decide_eq_false h2; omega
    subst hge
    refine ok_inc (n:=i) rfl (by omega) ?_
    try simp only [nr]
    refine ok_again rfl (hD _ hlt ⟨rfl,fun j hj=>?_⟩)
    rcases Nat.lt_succ_iff_lt_or_eq.1 hj with c | c
    ·exact hall j c
    ·rw [c]
     unfold fairAt RG.small
     rw [Bool.and_eq_true,decide_eq_true_iff,List.all_eq_true]
     refine ⟨by omega,fun e he=>?_⟩
     obtain ⟨m,hm⟩:=List.mem_iff_getElem?.1 he
     have hml:=(List.getElem?_eq_some_iff.1 hm).1
     have:=hsm m hml
     rw [List.getD,hm] at this
     exact this
 ·have hge:i = L.length:=by have:=of_decide_eq_false h0; omega
  subst hge
  refine ok_lenS (es:=L.map RG.cs) rfl (L.length:Int) (by simp) ?_
  try simp only [nr]
  refine ok_leq rfl (decide ((L.length:Int) ≤ 6)) rfl ?_
  try simp only [nr]
  refine ok_ret ?_ rfl
  have:(List.range L.length).all (fairAt L most) = true:=by
   rw [List.all_eq_true]
   exact fun j hj=>hall j (List.mem_range.1 hj)
  unfold pfair
  rw [this,Bool.true_and]
  rfl
end Go.Proofs.YtcpgflbfjplheaaGreatDoor
namespace Gv
open Go Go.RowKit
set_option linter.unusedVariables false
set_option linter.unusedSimpArgs false
theorem rows_rep {W:World} {α:Type} [Inhabited α] (cs:α → List PV) (k:Nat) (hflat:∀ (r:α) (j:Nat) (p:PV),(cs r)[j]? = some p → p.flat = true) (hk:∀ r,(cs r).length = k) {n0 c:Nat} {a:Addr} (hl:n0 ≤ c) (hc:c ≤ 9223372036854775807) (Q:α → Prop)
 (hall:∀ i,i < n0 → ∃ (r:α) (vs:List Value),W.cells? 0 (a.add (i * k)) k = some vs ∧ vs.length = k ∧ Q r ∧ ∀ (j:Nat) (p:PV),(cs r)[j]? = some p → ∃ v,vs[j]? = some v ∧ Rep W (fun _=>True) p v) :
 ∃ L:List α,L.length = n0 ∧ (∀ r ∈ L,Q r) ∧ Rep W (fun _=>True) (.sl (L.map cs)) (.slice (some a) n0 c):=by
 haveI:Inhabited (α × List Value):=⟨⟨default,[]⟩⟩
 obtain ⟨F,hF⟩:=Go.Deep.choose_lt (α:=α × List Value) (n:=n0) (p:=fun i x=>W.cells? 0 (a.add (i * k)) k = some x.2 ∧ x.2.length = k ∧ Q x.1 ∧ ∀ (j:Nat) (p:PV),(cs x.1)[j]? = some p → ∃ v,x.2[j]? = some v ∧ Rep W (fun _=>True) p v) (fun i hi=>by
  obtain ⟨r,vs,h1,h2,h3,h4⟩:=hall i hi
  exact ⟨(r,vs),h1,h2,h3,h4⟩)
 have hget:∀ (i:Nat) (e:List PV),(((List.range n0).map fun i=>(F i).1).map cs)[i]? = some e → i < n0 ∧ e = cs (F i).1:=by
  intro i e he
  rw [List.getElem?_map,List.getElem?_map,Option.map_eq_some_iff] at he
  obtain ⟨r,hr,rfl⟩:=he
  rw [Option.map_eq_some_iff] at hr
  obtain ⟨j,hj,rfl⟩:=hr
  have hlt:=(List.getElem?_eq_some_iff.1 hj).1
  rw [List.length_range] at hlt
  rw [List.getElem?_range hlt] at hj
  cases hj
  exact ⟨hlt,rfl⟩
 have hlen:(((List.range n0).map fun i=>(F i).1).map cs).length = n0:=by simp
 refine ⟨(List.range n0).map fun i=>(F i).1,by simp,fun r hr=>?_,?_⟩
 ·obtain ⟨i,hi,rfl⟩:=List.mem_map.1 hr
  exact (hF i (List.mem_range.1 hi)).2.2.1
 ·have key:=Rep.sl (w:=W) (P:=fun _=>True) k (((List.range n0).map fun i=>(F i).1).map cs) a c (fun i j=>((F i).2).getD j undef) (fun i e he=>by obtain ⟨_,rfl⟩:=hget i e he; exact hk _)
   (by rw [hlen]; exact hl) hc (fun i e he j p hj=>by obtain ⟨_,rfl⟩:=hget i e he; exact hflat _ j p hj)
   (fun i e he j p hj=>by
    obtain ⟨hi,rfl⟩:=hget i e he
    obtain ⟨h1,h6,_,h2⟩:=hF i hi
    obtain ⟨u,hu,_⟩:=h2 j p hj
    have hj6:j < k:=by rw [← h6]; exact (List.getElem?_eq_some_iff.1 hu).1
    have h3:=(World.cells?_some h1).2.2 j hj6
    rw [Gv.add_add] at h3
    refine ⟨trivial,?_⟩
    show W.cell? (a.add (i * k + j)) = some ((F i).2.getD j undef)
    rw [h3,List.getD,hu]
    rfl)
   (fun i e he j p hj=>by
    obtain ⟨hi,rfl⟩:=hget i e he
    obtain ⟨h1,h6,_,h2⟩:=hF i hi
    obtain ⟨u,hu,hru⟩:=h2 j p hj
    show Rep W _ p ((F i).2.getD j undef)
    rw [List.getD,hu]
    exact hru)
  rw [hlen] at key
  exact key
theorem weightsAll_mem {H:Type} {P:Program} {e:TypeId}:∀ {l:List (DataW H)} {d:DataW H},d ∈ l → ∀ n ∈ d.weights P e,n ∈ DataW.weightsAll P e l
 | [],_,h,_,_=>by simp at h
 | x :: l,d,h,n,hn=>by
  simp only [DataW.weightsAll,List.mem_append]
  rcases List.mem_cons.1 h with rfl | h
  ·exact .inl hn
  ·exact .inr (weightsAll_mem h n hn)
instance:Inhabited RE:=⟨⟨⟨⟨false,[],[]⟩,⟨false,[],[]⟩⟩,⟨⟨false,[],[]⟩,⟨false,[],[]⟩⟩⟩⟩
instance:Inhabited RG:=⟨⟨[],false⟩⟩
end Gv
namespace Go.Proofs.YtcpgflbfjplheaaGreatDoor
open Go Go.RowKit Go.ChangeShapes Go.WideShapes Go.ChangeAt Gs Gv
set_option linter.unusedVariables false
theorem cellsEd:Tryz.prog.cellsOf 79 = 12:=by kernel_rfl
theorem cellsGp:Tryz.prog.cellsOf 77 = 2:=by kernel_rfl
theorem cellsEds:Tryz.prog.cellsOf 72 = 1:=by kernel_rfl
theorem cellsBx:Tryz.prog.cellsOf 58 = 12:=by kernel_rfl
theorem bytesEd:Tryz.prog.bytesOf 79 = 224:=by kernel_rfl
theorem recs_flat (r:RE) (j:Nat) (p:PV) (h:r.cs[j]? = some p):p.flat = true:=by
 unfold RE.cs at h
 by_cases hj:j < 6
 ·rw [List.getElem?_append_left (by exact hj)] at h
  exact rcs_flat _ _ _ h
 ·rw [List.getElem?_append_right (by show 6 ≤ j; omega)] at h
  exact rcs_flat _ _ _ h
theorem rgcs_flat (r:RG):∀ (j:Nat) (p:PV),r.cs[j]? = some p → p.flat = true
 | 0,p,h=>by cases h; rfl
 | 1,p,h=>by cases h; rfl
 | j + 2,p,h=>by cases h
set_option maxRecDepth 100000 in
theorem edge_cells {H:Type} {enc:TypeId × Value → H} {W:World} {fuel:Nat} {cs:List Value} {x:DataW H × List MemPlace} (hf:DataW.trod enc Tryz.prog W 0 (fun _=>true) true fuel 79 cs = some x) :
 ∃ r:RE,cs.length = 12 ∧ r.wf ∧ ∀ (j:Nat) (p:PV),r.cs[j]? = some p → ∃ v,cs[j]? = some v ∧ Rep W (fun _=>True) p v:=by
 obtain ⟨y0,y1,n,hx,hlen,hy0,hy1⟩:=trod_struct2 Tryz.underlying79 hf
 rw [cellsEd] at hlen
 obtain ⟨r0,h0,w0,k0⟩:=pt_cells hy0
 obtain ⟨r1,h1,w1,k1⟩:=pt_cells hy1
 refine ⟨⟨r0,r1⟩,hlen,⟨w0,w1⟩,fun j p hj=>?_⟩
 unfold RE.cs at hj
 by_cases hj6:j < 6
 ·rw [List.getElem?_append_left (by exact hj6)] at hj
  obtain ⟨v,hv,hr⟩:=k0 j p hj
  rw [cellsPt,List.getElem?_take,if_pos hj6,List.getElem?_drop] at hv
  rw [Nat.zero_add] at hv
  exact ⟨v,hv,hr⟩
 ·rw [List.getElem?_append_right (by show 6 ≤ j; omega)] at hj
  obtain ⟨v,hv,hr⟩:=k1 (j - 6) p hj
  have hj2:j - 6 < 6:=(List.getElem?_eq_some_iff.1 hj).1
  rw [cellsPt,List.getElem?_take,if_pos hj2,List.getElem?_drop] at hv
  refine ⟨v,?_,hr⟩
  rw [← hv]
  congr 1
  show j = 6 + (j - 6)
  omega
set_option maxRecDepth 100000 in
theorem edges_cells {H:Type} {enc:TypeId × Value → H} {W:World} {fuel:Nat} {cs:List Value} {x:DataW H × List MemPlace} (hf:DataW.trod enc Tryz.prog W 0 (fun _=>true) true fuel 72 cs = some x) (hw:∀ n ∈ x.1.weights Tryz.prog 72,n ≤ reachBytes) :
 ∃ (l:List RE) (v:Value),cs = [v] ∧ (∀ e ∈ l,e.wf) ∧ l.length ≤ 140737488355328 ∧ Rep W (fun _=>True) (.sl (l.map RE.cs)) v:=by
 rcases Go.Deep.open_slice Tryz.underlying72 hf with ⟨hcs,hx⟩ | ⟨a,len,cap,m,n,D,Pl,hcs,_,hl,hm,hmm,hx,hall⟩
 ·exact ⟨[],_,hcs,fun e h=>by simp at h,by simp,.nil none 0 (by omega)⟩
 ·have hmm2:m = cap:=hmm
  subst hmm2
  subst hx
  have hsz:=hw ((len + (m - len)) * Tryz.prog.bytesOf 79) (by
   simp only [DataW.weights,Tryz.underlying72,List.length_map,List.length_range]
   exact List.mem_cons_self ..)
  rw [bytesEd] at hsz
  have hrb:reachBytes < 140737488355328:=by decide
  obtain ⟨L,h1,h2,h3⟩:=rows_rep (W:=W) RE.cs 12 recs_flat (fun _=>rfl) (n0:=len) (c:=m) (a:=a) hl (by simpa [maxLen] using hm) RE.wf (fun i hi=>by
   obtain ⟨cs',g1,g2⟩:=hall i (by omega)
   rw [cellsEd] at g1
   obtain ⟨r,g3,g4,g5⟩:=edge_cells g2
   exact ⟨r,cs',g1,g3,g4,g5⟩)
  exact ⟨L,_,hcs,h2,by omega,h3⟩
set_option maxRecDepth 100000 in
theorem group_cells {H:Type} {enc:TypeId × Value → H} {W:World} {fuel:Nat} {cs:List Value} {x:DataW H × List MemPlace} (hf:DataW.trod enc Tryz.prog W 0 (fun _=>true) true fuel 77 cs = some x) (hw:∀ n ∈ x.1.weights Tryz.prog 77,n ≤ reachBytes) :
 ∃ r:RG,cs.length = 2 ∧ (r.wf ∧ r.e.length ≤ 140737488355328) ∧ ∀ (j:Nat) (p:PV),r.cs[j]? = some p → ∃ v,cs[j]? = some v ∧ Rep W (fun _=>True) p v:=by
 obtain ⟨y0,y1,n,hx,hlen,hy0,hy1⟩:=trod_struct2 Tryz.underlying77 hf
 rw [cellsGp] at hlen
 subst hx
 obtain ⟨l,v,e0,hl,hsz,hr⟩:=edges_cells hy0 (fun n hn=>hw n (by
  simp only [DataW.weights,Tryz.underlying77,List.map_cons,DataW.weightsEach,List.mem_append]
  exact .inl hn))
 obtain ⟨s,e1,_⟩:=DataW.trod_bool Tryz.underlying4 hy1
 match cs,hlen with
 | [a,b],_ =>
  simp only [cellsEds,cellsBool] at e0 e1
  simp at e0 e1
  subst e0 e1
  refine ⟨⟨l,s⟩,rfl,⟨hl,hsz⟩,fun j p hj=>?_⟩
  match j,hj with
  | 0,hj=>cases hj; exact ⟨_,rfl,hr⟩
  | 1,hj=>cases hj; exact ⟨_,rfl,.raw _⟩
set_option maxRecDepth 100000 in
theorem open_groups {H:Type} {enc:TypeId × Value → H} {W:World} {base:Nat} {v:Value} {d:DataW H} {p:List MemPlace} (hval:Value.okWide Tryz.prog W .any base 56 v)
 (h:DataW.Trod enc Tryz.prog W 0 (fun _=>true) true 56 v d p) (hw:∀ n ∈ d.weights Tryz.prog 56,n ≤ reachBytes) :
 ∃ L:List RG,(∀ r ∈ L,r.wf) ∧ L.length < 9223372036854775807 ∧ (∀ r ∈ L,r.e.length ≤ 140737488355328) ∧ Rep W (fun _=>True) (rgl L) v:=by
 obtain ⟨a0,n0,c0,rfl⟩:=okWide_slice Tryz.underlying56 hval
 obtain ⟨fuel,hf⟩:=h
 rcases Go.Deep.open_slice Tryz.underlying56 hf with ⟨hcs,hx⟩ | ⟨a,len,cap,m,n,D,Pl,hcs,_,hl,hm,hmm,hx,hall⟩
 ·simp [Value.cells] at hcs
  obtain ⟨rfl,rfl,rfl⟩:=hcs
  exact ⟨[],fun r h=>by simp at h,by decide,fun r h=>by simp at h,.nil none 0 (by omega)⟩
 ·simp [Value.cells] at hcs
  obtain ⟨rfl,rfl,rfl⟩:=hcs
  have hmm2:m = c0:=hmm
  subst hmm2
  injection hx with hx1 hx2
  subst hx1
  have hsz:=hw ((n0 + (m - n0)) * Tryz.prog.bytesOf 77) (by
   simp only [DataW.weights,Tryz.underlying56,List.length_map,List.length_range]
   exact List.mem_cons_self ..)
  rw [show Tryz.prog.bytesOf 77 = 32 by kernel_rfl] at hsz
  have hrb:reachBytes < 140737488355328:=by decide
  obtain ⟨L,h1,h2,h3⟩:=rows_rep (W:=W) RG.cs 2 rgcs_flat (fun _=>rfl) (n0:=n0) (c:=m) (a:=a) hl (by simpa [maxLen] using hm) (fun r=>r.wf ∧ r.e.length ≤ 140737488355328) (fun i hi=>by
   obtain ⟨cs',g1,g2⟩:=hall i (by omega)
   rw [cellsGp] at g1
   obtain ⟨r,g3,g4,g5⟩:=group_cells g2 (fun n hn=>hw n (by
    simp only [DataW.weights,Tryz.underlying56]
    refine List.mem_cons_of_mem _ (List.mem_append_left _ (weightsAll_mem (List.mem_map.2 ⟨i,List.mem_range.2 hi,rfl⟩) n hn)))
   )
   exact ⟨r,cs',g1,g3,g4,g5⟩)
  exact ⟨L,fun r hr=>(h2 r hr).1,by omega,fun r hr=>(h2 r hr).2,h3⟩
set_option maxRecDepth 100000 in
theorem open_box {H:Type} {enc:TypeId × Value → H} {W:World} {base:Nat} {v:Value} {d:DataW H} {p:List MemPlace} (hval:Value.okWide Tryz.prog W .any base 58 v)
 (h:DataW.Trod enc Tryz.prog W 0 (fun _=>true) true 58 v d p):∃ b:RB,b.wf ∧ Rep W (fun _=>True) (.agg b.cs) v:=by
 obtain ⟨cs,rfl,hsz⟩:=okWide_struct Tryz.underlying58 hval
 obtain ⟨fuel,hf⟩:=h
 obtain ⟨xs,n,_,_,hl,hlen,hfl⟩:=DataW.trod_struct Tryz.underlying58 hf
 rw [cellsBx] at hl
 match xs,hlen,hfl with
 | [x0,x1,x2,x3],_,hfl =>
  obtain ⟨s0,l0,m0,u0,v0,e0,a0,b0,c0,_,d0,_⟩:=rat_cells (by simpa using hfl 0 _ rfl)
  obtain ⟨s1,l1,m1,u1,v1,e1,a1,b1,c1,_,d1,_⟩:=rat_cells (by simpa using hfl 1 _ rfl)
  obtain ⟨s2,l2,m2,u2,v2,e2,a2,b2,c2,_,d2,_⟩:=rat_cells (by simpa using hfl 2 _ rfl)
  obtain ⟨s3,l3,m3,u3,v3,e3,a3,b3,c3,_,d3,_⟩:=rat_cells (by simpa using hfl 3 _ rfl)
  rw [cellsQ] at e0 e1 e2 e3
  obtain ⟨cl⟩:=cs
  simp only [Value.cells] at hl e0 e1 e2 e3
  match cl,hl with
  | [q0,q1,q2,q3,q4,q5,q6,q7,q8,q9,q10,q11],_ =>
   simp at e0 e1 e2 e3
   obtain ⟨rfl,rfl,rfl⟩:=e0
   obtain ⟨rfl,rfl,rfl⟩:=e1
   obtain ⟨rfl,rfl,rfl⟩:=e2
   obtain ⟨rfl,rfl,rfl⟩:=e3
   refine ⟨⟨⟨s0,l0,m0⟩,⟨s1,l1,m1⟩,⟨s2,l2,m2⟩,⟨s3,l3,m3⟩⟩,⟨⟨a0,b0⟩,⟨a1,b1⟩,⟨a2,b2⟩,⟨a3,b3⟩⟩,.agg _ _ rfl (fun j p hj=>?_) (fun j p hj=>?_)⟩
   ·match j,hj with
    | 0,hj=>cases hj; rfl
    | 1,hj=>cases hj; rfl
    | 2,hj=>cases hj; rfl
    | 3,hj=>cases hj; rfl
    | 4,hj=>cases hj; rfl
    | 5,hj=>cases hj; rfl
    | 6,hj=>cases hj; rfl
    | 7,hj=>cases hj; rfl
    | 8,hj=>cases hj; rfl
    | 9,hj=>cases hj; rfl
    | 10,hj=>cases hj; rfl
    | 11,hj=>cases hj; rfl
   ·match j,hj with
    | 0,hj=>cases hj; exact .raw _
    | 1,hj=>cases hj; exact c0
    | 2,hj=>cases hj; exact d0
    | 3,hj=>cases hj; exact .raw _
    | 4,hj=>cases hj; exact c1
    | 5,hj=>cases hj; exact d1
    | 6,hj=>cases hj; exact .raw _
    | 7,hj=>cases hj; exact c2
    | 8,hj=>cases hj; exact d2
    | 9,hj=>cases hj; exact .raw _
    | 10,hj=>cases hj; exact c3
    | 11,hj=>cases hj; exact d3
end Go.Proofs.YtcpgflbfjplheaaGreatDoor
namespace Gv
open Go Go.RowKit
set_option linter.unusedVariables false
set_option linter.unusedSimpArgs false
def wl0:List Ed:=[(ip 0 0,ip 2 2),(ip 0 2,ip 2 0)]
def wL0:List Gp:=[(wl0,false)]
theorem wl_levels:plevels (gall wL0) ((0:Int):Rat) ((3:Int):Rat) ((0:Int):Rat) ((3:Int):Rat) = [((0:Int):Rat),((1:Int):Rat),((2:Int):Rat),((3:Int):Rat)]:=by decide +kernel
theorem wl_cross:norm (crossUp wl0 wl0.length) = [((1:Int):Rat)]:=by decide +kernel
theorem qd_int3:qd 3 1 = ((3:Int):Rat):=by decide +kernel
theorem qd_int0:qd 0 1 = ((0:Int):Rat):=by decide +kernel
theorem wl_b:∀ i,i < wl0.length → Pb (eg wl0 i).1 1 ∧ Pb (eg wl0 i).2 1:=by
 intro i hi
 match i,hi with
 | 0,_=>exact ⟨ip_b,ip_b⟩
 | 1,_=>exact ⟨ip_b,ip_b⟩
 | i + 2,h=>exact absurd h (by show ¬ i + 2 < 2; omega)
theorem wL_is:IsGL (.sl [[elist wl0,.raw (.bool false)]]) wL0 1:=by
 refine ⟨_,rfl,rfl,fun i g p hg hp=>?_⟩
 match i,hg,hp with
 | 0,hg,hp =>
  cases hg
  cases hp
  exact ⟨_,rfl,IsEL.elist wl_b⟩
 | i + 1,hg,hp=>simp at hg
theorem ztxt1:qtxt ((1:Int):Rat) = ⟨#[49]⟩:=by
 rw [qtxt_one]
 exact str_txt (s:=⟨#[49]⟩) ⟨by decide,by decide,by decide,by decide⟩
theorem ztxt3:qtxt ((3:Int):Rat) = ⟨#[51]⟩:=by
 rw [qtxt_one]
 exact str_txt (s:=⟨#[51]⟩) ⟨by decide,by decide,by decide,by decide⟩
theorem qz_b {z:Int} (h:z.natAbs ≤ 9):Qb (z:Rat) 1:=Qb.int (zs_s (by omega)) (by decide)
theorem plevels_b {l:List Ed} {x0 x1 y0 y1:Rat} {k:Nat} (hb:∀ i,i < l.length → Pb (eg l i).1 k ∧ Pb (eg l i).2 k) (hx0:Qb x0 k) (hx1:Qb x1 k) (hy0:Qb y0 k) (hy1:Qb y1 k):∀ q ∈ plevels l x0 x1 y0 y1,Qb q (19 * k + 12):=by
 intro q hq
 by_cases h:x1 ≤ x0 ∨ y1 ≤ y0
 ·unfold plevels at hq
  rw [if_pos h] at hq
  simp at hq
 ·rw [plevels_mem h] at hq
  rcases hq with rfl | rfl | ⟨_,_,hq | hq⟩
  ·exact hy0.more (by omega)
  ·exact hy1.more (by omega)
  ·exact crossUp_b hb hq
  ·exact edgesYs_b hb hx0 hx1 hq
theorem plevels_len {l:List Ed} {x0 x1 y0 y1:Rat} (hn:l.length ≤ 400):(plevels l x0 x1 y0 y1).length ≤ 700000:=by
 unfold plevels
 split
 ·simp
 ·have h1:=@norm_length (qinner y0 y1 (norm (crossUp l l.length) ++ edgesYs x0 x1 l) ++ [y0,y1])
  have h2:(qinner y0 y1 (norm (crossUp l l.length) ++ edgesYs x0 x1 l)).length ≤ (norm (crossUp l l.length) ++ edgesYs x0 x1 l).length:=List.length_filter_le _ _
  have h3:=@norm_length (crossUp l l.length)
  have hcl:=crossUp_len l l.length
  have hcl2:4 * l.length * l.length ≤ 4 * 400 * 400:=Nat.mul_le_mul (Nat.mul_le_mul_left 4 hn) hn
  have h4:=edgesYs_len x0 x1 l
  simp only [List.length_append,List.length_cons,List.length_nil] at h1 h2
  omega
end Gv
namespace Go.Proofs.YtcpgflbfjplheaaGreatDoor
open Go Go.RowKit Gs Gv
set_option linter.unusedVariables false
theorem l24_E {a b c d:Int} (h1:a.natAbs ≤ 9) (h2:b.natAbs ≤ 9) (h3:c.natAbs ≤ 9) (h4:d.natAbs ≤ 9):Gv.Fn Tryz.prog 77 [.raw (.int .i64 a),.raw (.int .i64 b),.raw (.int .i64 c),.raw (.int .i64 d)] (.agg (ecs (ip a b,ip c d))):=by
 have P:∀ {x y:Int},x.natAbs ≤ 9 → y.natAbs ≤ 9 → Gv.Fn Tryz.prog 61 [.raw (.int .i64 x),.raw (.int .i64 y)] (pc (ip x y)):=fun h1 h2=>l6_P (by omega) (by omega) (by omega) (by omega)
 refine Fn.intro mixed vc_law24_E rfl ?_
 refine ok_call (P h1 h2) rfl rfl ?_
 try simp only [nr]
 refine ok_call (P h3 h4) rfl rfl ?_
 try simp only [nr]
 exact ok_ret rfl rfl
set_option maxHeartbeats 4000000 in
theorem l24_wakes:Gv.Fn Tryz.prog 29 [] (.raw (.bool true)):=by
 have o0:Gv.Fn Tryz.prog 54 [.raw (.int .i64 0),.raw (.int .i64 1)] (qc ((0:Int):Rat)):=by rw [← qd_int0]; exact q_Of (by decide) (by decide) (by decide) (by decide)
 have o3:Gv.Fn Tryz.prog 54 [.raw (.int .i64 3),.raw (.int .i64 1)] (qc ((3:Int):Rat)):=by rw [← qd_int3]; exact q_Of (by decide) (by decide) (by decide) (by decide)
 have b0:Qb ((0:Int):Rat) 1:=qz_b (by decide)
 have b3:Qb ((3:Int):Rat) 1:=qz_b (by decide)
 have cL:=x_Levels wL_is (IsQ.qc b0) (IsQ.qc b3) (IsQ.qc b0) (IsQ.qc b3) (by decide) (by decide) (by decide)
 rw [wl_levels] at cL
 have cC:=x_Cross (IsEL.elist wl_b) (by decide) (by decide)
 rw [wl_cross] at cC
 have t1:=q_Text (IsQ.qc (qz_b (z:=1) (by decide))) (by decide)
 have t2:=q_Text (IsQ.qc (qz_b (z:=2) (by decide))) (by decide)
 have t3:=q_Text (IsQ.qc (qz_b (z:=3) (by decide))) (by decide)
 have e1:=ztxt1
 have e2:=ztxt2
 have e3:=ztxt3
 generalize qtxt ((1:Int):Rat) = s1 at t1 e1
 generalize qtxt ((2:Int):Rat) = s2 at t2 e2
 generalize qtxt ((3:Int):Rat) = s3 at t3 e3
 refine Fn.intro mixed vc_law24_wakes rfl ?_
 refine ok_call (l24_E (by decide) (by decide) (by decide) (by decide)) rfl rfl ?_
 try simp only [nr]
 refine ok_call (l24_E (by decide) (by decide) (by decide) (by decide)) rfl rfl ?_
 try simp only [nr]
 refine ok_mk (l:=wl0.map ecs) rfl ?_
 try simp only [nr]
 refine ok_mk (l:=[[elist wl0,.raw (.bool false)]]) rfl ?_
 try simp only [nr]
 refine ok_call o0 rfl rfl ?_
 try simp only [nr]
 refine ok_call o3 rfl rfl ?_
 try simp only [nr]
 refine ok_call o0 rfl rfl ?_
 try simp only [nr]
 refine ok_call o3 rfl rfl ?_
 try simp only [nr]
 refine ok_call cL rfl rfl ?_
 try simp only [nr]
 refine ok_idx (m:=0) (es:=[[elist wl0,.raw (.bool false)]]) rfl rfl rfl ?_
 try simp only [nr]
 refine ok_ldx1 (m:=0) (off:=0) (es:=[[elist wl0,.raw (.bool false)]]) (p:=elist wl0) rfl rfl rfl rfl ?_
 try simp only [nr]
 refine ok_call cC rfl rfl ?_
 try simp only [nr]
 refine ok_lenS (es:=([((0:Int):Rat),((1:Int):Rat),((2:Int):Rat),((3:Int):Rat)]:List Rat).map qs3) rfl 4 rfl ?_
 try simp only [nr]
 refine ok_eq rfl true rfl ?_
 try simp only [nr]
 refine ok_true rfl ?_
 refine ok_idx (m:=1) (es:=([((0:Int):Rat),((1:Int):Rat),((2:Int):Rat),((3:Int):Rat)]:List Rat).map qs3) rfl rfl rfl ?_
 try simp only [nr]
 refine ok_ld rfl rfl ?_
 try simp only [nr]
 refine ok_call t1 rfl rfl ?_
 try simp only [nr]
 refine ok_seq rfl e1 ?_
 try simp only [nr]
 refine ok_true rfl ?_
 refine ok_idx (m:=2) (es:=([((0:Int):Rat),((1:Int):Rat),((2:Int):Rat),((3:Int):Rat)]:List Rat).map qs3) rfl rfl rfl ?_
 try simp only [nr]
 refine ok_ld rfl rfl ?_
 try simp only [nr]
 refine ok_call t2 rfl rfl ?_
 try simp only [nr]
 refine ok_seq rfl e2 ?_
 try simp only [nr]
 refine ok_true rfl ?_
 refine ok_idx (m:=3) (es:=([((0:Int):Rat),((1:Int):Rat),((2:Int):Rat),((3:Int):Rat)]:List Rat).map qs3) rfl rfl rfl ?_
 try simp only [nr]
 refine ok_ld rfl rfl ?_
 try simp only [nr]
 refine ok_call t3 rfl rfl ?_
 try simp only [nr]
 refine ok_seq rfl e3 ?_
 try simp only [nr]
 refine ok_true rfl ?_
 refine ok_lenS (es:=([((1:Int):Rat)]:List Rat).map qs3) rfl 1 rfl ?_
 try simp only [nr]
 refine ok_eq rfl true rfl ?_
 try simp only [nr]
 refine ok_true rfl ?_
 refine ok_idx (m:=0) (es:=([((1:Int):Rat)]:List Rat).map qs3) rfl rfl rfl ?_
 try simp only [nr]
 refine ok_ld rfl rfl ?_
 try simp only [nr]
 refine ok_call t1 rfl rfl ?_
 try simp only [nr]
 refine ok_seq rfl e1 ?_
 try simp only [nr]
 exact ok_ret rfl rfl
end Go.Proofs.YtcpgflbfjplheaaGreatDoor
namespace Gv
open Go Go.RowKit
set_option linter.unusedVariables false
set_option linter.unusedSimpArgs false
theorem plevels_form {l:List Ed} {x0 x1 y0 y1:Rat} (h:¬(x1 ≤ x0 ∨ y1 ≤ y0)):∃ I,plevels l x0 x1 y0 y1 = y0 :: I ++ [y1]:=by
 rw [levels_same]
 unfold glevels
 rw [if_neg h]
 exact ⟨_,rfl⟩
theorem plevels_none {l:List Ed} {x0 x1 y0 y1:Rat} (h:x1 ≤ x0 ∨ y1 ≤ y0):plevels l x0 x1 y0 y1 = []:=by unfold plevels; rw [if_pos h]
theorem rising_lt {l:List Rat} (h:Rising l) {i j:Nat} (hij:i < j) (hj:j < l.length):qi l i < qi l j:=by
 have h1:=(List.pairwise_iff_getElem.1 h) i j (by omega) hj hij
 have e1:qi l i = l[i]'(by omega):=by simp [qi,List.getD,show i < l.length by omega]
 have e2:qi l j = l[j]'hj:=by simp [qi,List.getD,hj]
 rw [e1,e2]
 exact h1
theorem edgesYs_at {x0 x1 y:Rat} {l:List Ed} {i:Nat} (hi:i < l.length) (h:y ∈ edgeYs x0 x1 (eg l i)):y ∈ edgesYs x0 x1 l:=by
 unfold edgesYs
 rw [List.mem_flatten]
 exact ⟨_,List.mem_map.2 ⟨_,List.mem_of_getElem? (eg_at hi),rfl⟩,h⟩
section
variable {P:Program} {R:PV → Prop} {ρ:List PV} {C:List (List PV → Prop)} {k:VC} {args:List SV}
theorem ok_ldxS {kc m off n:Nat} {es:List (List PV)} {e ds:List PV} {kk:IntKind} (hp:pvs ρ args = [.sl es,.raw (.int kk (m:Int))]) (he:es[m]? = some e) (hn:e.length = kc) (ho:off + n ≤ kc) (hd:(e.drop off).take n = ds) (hk:k.ok P R (ρ ++ [.agg ds]) C):(VC.prim (.ldx kc off (some n)) args k).ok P R ρ C:=by
 refine ⟨_,?_,hk⟩
 rw [hp]
 simp [Prim.ev,idxOf,he,hn,ho,hd]
end
theorem levels_calm {l:List Ed} {x0 x1 y0 y1:Rat} (hc:¬(x1 ≤ x0 ∨ y1 ≤ y0)) {k:Nat} (hk:k + 1 < (plevels l x0 x1 y0 y1).length) {y:Rat} (hy:y ∈ crossUp l l.length ∨ y ∈ edgesYs x0 x1 l) :
 ¬(qi (plevels l x0 x1 y0 y1) k < y ∧ y < qi (plevels l x0 x1 y0 y1) (k + 1)):=by
 rintro ⟨h1,h2⟩
 have hR:=plevels_rising l x0 x1 y0 y1
 have hmem:∀ i,i < (plevels l x0 x1 y0 y1).length → y0 ≤ qi (plevels l x0 x1 y0 y1) i ∧ qi (plevels l x0 x1 y0 y1) i ≤ y1:=by
  intro i hi
  have hm:=qi_mem hi
  rw [plevels_mem hc] at hm
  rcases hm with h | h | ⟨h,h',_⟩ <;> constructor <;> grind
 have a1:=(hmem k (by omega)).1
 have a2:=(hmem (k + 1) hk).2
 have hyv:y ∈ plevels l x0 x1 y0 y1:=(plevels_mem hc).2 (.inr (.inr ⟨by grind,by grind,hy⟩))
 obtain ⟨m,hm⟩:=List.mem_iff_getElem?.1 hyv
 have hml:=(List.getElem?_eq_some_iff.1 hm).1
 rw [qi_some hml] at hm
 injection hm with hm
 by_cases c:m ≤ k
 ·rcases Nat.lt_or_eq_of_le c with c | c
  ·have:=rising_lt hR c (by omega)
   grind
  ·rw [c] at hm; grind
 ·rcases Nat.lt_or_eq_of_le (show k + 1 ≤ m by omega) with c | c
  ·have:=rising_lt hR c hml
   grind
  ·rw [← c] at hm; grind
end Gv
namespace Go.Proofs.YtcpgflbfjplheaaGreatDoor
open Go Go.RowKit Gs Gv
set_option linter.unusedVariables false
set_option maxHeartbeats 8000000 in
theorem law_EventCalm {L:List RG} {b:RB} {z:Int} (hL:∀ g ∈ L,g.wf) (hl:L.length < 9223372036854775807) (he:∀ g ∈ L,g.e.length ≤ 140737488355328) (hb:b.wf) (hz:(Lit.int .u8 z).wf = true):Gv.Fn Tryz.prog 5 [rgl L,.agg b.cs,.raw (.int .u8 z)] (.raw (.bool true)):=by
 have wk:=l24_wakes
 obtain ⟨zn,rfl,hzn⟩:∃ zn:Nat,z = (zn:Int) ∧ zn ≤ 255:=by
  simp [Lit.wf,IntKind.min,IntKind.max,IntKind.bits,IntKind.signed] at hz
  exact ⟨z.toNat,by omega,by omega⟩
 refine Fn.intro mixed vc_law24_EventCalm rfl ?_
 refine ok_call (l24_Fair (by decide) (by decide) hl he) rfl rfl ?_
 try simp only [nr]
 refine ok_not rfl ?_
 try simp only [nr]
 refine ok_ite rfl (fun h1=>?_) (fun h1=>?_)
 ·refine ok_call wk rfl rfl ?_
  try simp only [nr]
  exact ok_ret rfl rfl
 refine ok_call (l24_Small b) rfl rfl ?_
 try simp only [nr]
 refine ok_not rfl ?_
 try simp only [nr]
 refine ok_ite rfl (fun h2=>?_) (fun h2=>?_)
 ·refine ok_call wk rfl rfl ?_
  try simp only [nr]
  exact ok_ret rfl rfl
 obtain ⟨hl6,hn,hs⟩:=pfair_inv (show pfair L 10 = true by simpa using h1)
 have hn:=hn (by decide)
 obtain ⟨i0,i1,i2,i3⟩:=RB.parts hb (show b.small = true by simpa using h2)
 have hG:=IsGL.of hL hs
 have hlen:(L.map RG.g).length = L.length:=List.length_map _
 have bd:=hG.b
 generalize L.map RG.g = G at hG hlen hn bd
 have hn':(gall G).length ≤ 400:=by omega
 have cL:=x_Levels hG i0 i1 i2 i3 (by decide) (by omega) hn'
 have pb:=plevels_b bd i0.b i1.b i2.b i3.b
 have pl:=@plevels_len (gall G) b.x0.q b.x1.q b.y0.q b.y1.q hn'
 have pr:=plevels_rising (gall G) b.x0.q b.x1.q b.y0.q b.y1.q
 refine ok_call cL rfl rfl ?_
 try simp only [nr]
 by_cases hc:b.x1.q ≤ b.x0.q ∨ b.y1.q ≤ b.y0.q
 ·rw [plevels_none hc]
  refine ok_lenS (es:=[]) rfl 0 rfl ?_
  try simp only [nr]
  refine ok_eq rfl true rfl ?_
  try simp only [nr]
  refine ok_true rfl ?_
  refine ok_call (q_Cmp i0 i1 (by decide)) rfl rfl ?_
  try simp only [nr]
  refine ok_geq rfl (decide (b.x1.q ≤ b.x0.q)) geqQ ?_
  try simp only [nr]
  refine ok_ite rfl (fun h3=>?_) (fun h3=>?_)
  ·refine ok_call wk rfl rfl ?_
   try simp only [nr]
   exact ok_ret rfl rfl
  refine ok_call (q_Cmp i2 i3 (by decide)) rfl rfl ?_
  try simp only [nr]
  refine ok_geq rfl (decide (b.y1.q ≤ b.y0.q)) geqQ ?_
  try simp only [nr]
  refine ok_ite rfl (fun h4=>?_) (fun h4=>?_)
  ·refine ok_call wk rfl rfl ?_
   try simp only [nr]
   exact ok_ret rfl rfl
  exact absurd hc fun h=>h.elim (of_decide_eq_false h3) (of_decide_eq_false h4)
 obtain ⟨I,hI⟩:=plevels_form (l:=gall G) hc
 have hcalm:=fun (k:Nat) (h:k + 1 < (plevels (gall G) b.x0.q b.x1.q b.y0.q b.y1.q).length) (y:Rat)=>@levels_calm (gall G) b.x0.q b.x1.q b.y0.q b.y1.q hc k h y
 have hV2:2 ≤ (plevels (gall G) b.x0.q b.x1.q b.y0.q b.y1.q).length:=by rw [hI]; simp
 have hV0:qi (plevels (gall G) b.x0.q b.x1.q b.y0.q b.y1.q) 0 = b.y0.q:=by rw [hI]; simp [qi]
 have hV1:qi (plevels (gall G) b.x0.q b.x1.q b.y0.q b.y1.q) ((plevels (gall G) b.x0.q b.x1.q b.y0.q b.y1.q).length - 1) = b.y1.q:=by rw [hI]; simp [qi]
 generalize plevels (gall G) b.x0.q b.x1.q b.y0.q b.y1.q = V at pb pl pr hcalm hV2 hV0 hV1 ⊢
 clear hI
 refine ok_lenS (es:=V.map qs3) rfl (V.length:Int) (by simp) ?_
 try simp only [nr]
 refine ok_eq rfl false (by rw [beq_eq_false_iff_ne]; omega) ?_
 try simp only [nr]
 refine ok_false rfl ?_
 refine ok_lenS (es:=V.map qs3) rfl (V.length:Int) (by simp) ?_
 try simp only [nr]
 refine ok_lss rfl false (by rw [decide_eq_false_iff_not]; omega) ?_
 try simp only [nr]
 refine ok_false rfl ?_
 refine ok_idx (m:=0) rfl (qs3_at (show 0 < V.length by omega)) rfl ?_
 try simp only [nr]
 refine ok_ld rfl rfl ?_
 try simp only [nr]
 refine ok_call (q_Cmp (IsQ.qc (pb _ (qi_mem (show 0 < V.length by omega)))) i2 (by decide)) rfl rfl ?_
 try simp only [nr]
 refine ok_neq rfl false (by rw [qcmp_eq hV0]; rfl) ?_
 try simp only [nr]
 refine ok_false rfl ?_
 refine ok_lenS (es:=V.map qs3) rfl (V.length:Int) (by simp) ?_
 try simp only [nr]
 refine ok_dec (n:=V.length) rfl (by omega) (by omega) ?_
 try simp only [nr]
 refine ok_idx rfl (qs3_at (show V.length - 1 < V.length by omega)) rfl ?_
 try simp only [nr]
 refine ok_ld rfl rfl ?_
 try simp only [nr]
 refine ok_call (q_Cmp (IsQ.qc (pb _ (qi_mem (show V.length - 1 < V.length by omega)))) i3 (by decide)) rfl rfl ?_
 try simp only [nr]
 refine ok_neq rfl false (by rw [qcmp_eq hV1]; rfl) ?_
 try simp only [nr]
 refine ok_false rfl ?_
 refine ok_cv rfl (zn:Int) (wrap_nat (by omega)) ?_
 try simp only [nr]
 refine ok_lenS (es:=V.map qs3) rfl (V.length:Int) (by simp) ?_
 try simp only [nr]
 refine ok_dec (n:=V.length) rfl (by omega) (by omega) ?_
 try simp only [nr]
 refine ok_mod (n:=zn) (m:=V.length - 1) rfl (by omega) ?_
 try simp only [nr]
 have hk:zn % (V.length - 1) + 1 < V.length:=by
  have:=Nat.mod_lt zn (show 0 < V.length - 1 by omega)
  omega
 generalize zn % (V.length - 1) = k at hk ⊢
 refine ok_idx rfl (qs3_at (show k < V.length by omega)) rfl ?_
 try simp only [nr]
 refine ok_ld rfl rfl ?_
 try simp only [nr]
 refine ok_inc (n:=k) rfl (by omega) ?_
 try simp only [nr]
 refine ok_idx rfl (qs3_at hk) rfl ?_
 try simp only [nr]
 refine ok_ld rfl rfl ?_
 try simp only [nr]
 have blo:=pb _ (qi_mem (show k < V.length by omega))
 have bhi:=pb _ (qi_mem hk)
 have hlh:=rising_lt pr (show k < k + 1 by omega) hk
 refine ok_call (q_Cmp (IsQ.qc blo) (IsQ.qc bhi) (by decide)) rfl rfl ?_
 try simp only [nr]
 refine ok_geq rfl false (by rw [geqQ,decide_eq_false_iff_not]; grind) ?_
 try simp only [nr]
 refine ok_false rfl ?_
 have hwin:∀ {u:PV} {y:Rat},IsQ u y 50 → (y ∈ crossUp (gall G) (gall G).length ∨ y ∈ edgesYs b.x0.q b.x1.q (gall G)) → Gv.Fn Tryz.prog 40 [u,qc (qi V k),qc (qi V (k + 1))] (.raw (.bool false)):=fun {u y} hu hy=>by
  have h:=l24_within hu (IsQ.qc blo) (IsQ.qc bhi) (by decide)
  have e:(decide (qi V k < y) && decide (y < qi V (k + 1))) = false:=by
   rw [Bool.and_eq_false_iff,decide_eq_false_iff_not,decide_eq_false_iff_not]
   have:=hcalm k hk y hy
   by_cases c:qi V k < y
   ·exact .inr fun c2=>this ⟨c,c2⟩
   ·exact .inl c
  rwa [e] at h
 obtain ⟨gs,hgs,hgl,hg⟩:=hG
 have hgs:L.map RG.cs = gs:=by injection hgs
 refine ok_mk (c:=12) (n:=0) (args:=[]) (l:=[]) rfl ?_
 try simp only [nr]
 refine ok_for L.length (fun i us=>∃ es,us = [.raw (.int .i64 (i:Int)),.sl es] ∧ IsEL (.sl es) (gall (G.take i)) 2) ⟨[],rfl,IsEL.nil 2⟩ (fun i us ⟨_,h,_⟩=>⟨_,h⟩) ?_
 try simp only [nr]
 rintro i us D hi ⟨es,rfl,hes⟩ hD
 try simp only [nr]
 refine ok_lenS (es:=L.map RG.cs) rfl (L.length:Int) (by simp) ?_
 try simp only [nr]
 refine ok_lss rfl (decide (i < L.length)) (by simp) ?_
 try simp only [nr]
 refine ok_ite rfl (fun h0=>?_) (fun h0=>?_)
 ·have hlt:i < L.length:=of_decide_eq_true h0
  have hgi:gs[i]? = some (gs[i]'(by omega)):=List.getElem?_eq_getElem _
  obtain ⟨ee,e3,hee⟩:=hg i _ _ hgi (gg_at (show i < G.length by omega))
  rw [e3,← hgs] at hgi
  have hsu:=gall_succ (gg_at (show i < G.length by omega))
  have hle:=gall_le G (i + 1)
  have hle0:=hes.len
  have hle1:=hee.len
  rw [hsu,List.length_append] at hle
  refine ok_idx rfl hgi rfl ?_
  try simp only [nr]
  refine ok_fld (ds:=[.sl ee,.raw (.bool (gg G i).2)]) rfl rfl ?_
  try simp only [nr]
  refine ok_prim1 (.sl ee) rfl rfl ?_
  try simp only [nr]
  refine ok_app (n:=12) (es:=es) (xs:=ee) rfl (by omega) (by omega) hee.all12 ?_
  try simp only [nr]
  refine ok_inc (n:=i) rfl (by omega) ?_
  try simp only [nr]
  exact ok_again rfl (hD _ hlt ⟨_,rfl,by rw [hsu]; exact hes.app hee⟩)
 have hge:i = G.length:=by have:=of_decide_eq_false h0; omega
 subst hge
 rw [List.take_length] at hes
 generalize gall G = l at hes hn' hwin ⊢
 have hel:=hes.len
 refine ok_for l.length (fun i us=>us = [.raw (.int .i64 (i:Int))]) rfl (fun i us h=>⟨_,h⟩) ?_
 try simp only [nr]
 rintro i us D2 hi rfl hD2
 try simp only [nr]
 refine ok_lenS (es:=es) rfl (l.length:Int) (by rw [hel]) ?_
 try simp only [nr]
 refine ok_lss rfl (decide (i < l.length)) (by simp) ?_
 try simp only [nr]
 refine ok_ite rfl (fun h0=>?_) (fun h0=>?_)
 ·have hlt:i < l.length:=of_decide_eq_true h0
  obtain ⟨a1,a2,a3,a4,a5,a6,a7,a8,a9,a10,a11,a12,hea,hA,hB⟩:=hes.at hlt
  obtain ⟨_,_,_,_,_,_,q1,i4,i5⟩:=id hA
  cases q1
  obtain ⟨_,_,_,_,_,_,q1,j1,j2⟩:=id hB
  cases q1
  have bA:=hA.b
  have bB:=hB.b
  have u0:=s_Upright hA hB i0 (by decide)
  have u1:=s_Upright hA hB i1 (by decide)
  change Gv.Fn _ _ _ (ptup (pup (eg l i) b.x0.q)) at u0
  change Gv.Fn _ _ _ (ptup (pup (eg l i) b.x1.q)) at u1
  refine ok_idx rfl hea rfl ?_
  try simp only [nr]
  refine ok_ldxS (off:=0) (n:=6) rfl hea rfl (by decide) (ds:=[a1,a2,a3,a4,a5,a6]) rfl ?_
  try simp only [nr]
  refine ok_idx rfl hea rfl ?_
  try simp only [nr]
  refine ok_ldxS (off:=6) (n:=6) rfl hea rfl (by decide) (ds:=[a7,a8,a9,a10,a11,a12]) rfl ?_
  try simp only [nr]
  refine ok_callR (hwin (i5.more (by decide)) (.inr (edgesYs_at hlt (by unfold edgeYs; simp)))) rfl rfl rfl ?_
  try simp only [nr]
  refine ok_false rfl ?_
  refine ok_callR (hwin (j2.more (by decide)) (.inr (edgesYs_at hlt (by unfold edgeYs; simp)))) rfl rfl rfl ?_
  try simp only [nr]
  refine ok_false rfl ?_
  cases ho0:pup (eg l i) b.x0.q with
  | none =>
   have u0':=u0
   rw [ho0] at u0'
   refine ok_call u0' rfl rfl ?_
   try simp only [nr]
   refine ok_false rfl ?_
   cases ho1:pup (eg l i) b.x1.q with
   | none =>
    have u1':=u1
    rw [ho1] at u1'
    refine ok_call u1' rfl rfl ?_
    try simp only [nr]
    refine ok_false rfl ?_
    refine ok_for i (fun j us=>us = [.raw (.int .i64 (j:Int))]) rfl (fun i us h=>⟨_,h⟩) ?_
    try simp only [nr]
    rintro j us D3 hj rfl hD3
    try simp only [nr]
    refine ok_lss rfl (decide (j < i)) (by rw [Bool.eq_iff_iff,decide_eq_true_iff,decide_eq_true_iff]; omega) ?_
    try simp only [nr]
    refine ok_ite rfl (fun h5=>?_) (fun h5=>?_)
    ·have hjl:j < i:=of_decide_eq_true h5
     obtain ⟨b1,b2,b3,b4,b5,b6,b7,b8,b9,b10,b11,b12,heb,hC,hD'⟩:=hes.at (show j < l.length by omega)
     refine ok_idx rfl heb rfl ?_
     try simp only [nr]
     refine ok_ldxS (off:=0) (n:=6) rfl heb rfl (by decide) (ds:=[b1,b2,b3,b4,b5,b6]) rfl ?_
     try simp only [nr]
     refine ok_idx rfl heb rfl ?_
     try simp only [nr]
     refine ok_ldxS (off:=6) (n:=6) rfl heb rfl (by decide) (ds:=[b7,b8,b9,b10,b11,b12]) rfl ?_
     try simp only [nr]
     refine ok_call (s_Meet hA hB hC hD' (by decide)) rfl rfl ?_
     try simp only [nr]
     have hM:∀ p ∈ pmeet (eg l i).1 (eg l i).2 (eg l j).1 (eg l j).2,p.2 ∈ crossUp l l.length ∧ Qb p.2 50:=fun p hp=>by
      have hm:p.2 ∈ crossUp l l.length:=(crossUp_mem (Nat.le_refl _)).2 ⟨j,i,by omega,hjl,hlt,p,Com.symm (pmeet_mem.1 hp),rfl⟩
      exact ⟨hm,crossUp_b (fun i hi=>hes.b hi) hm⟩
     generalize pmeet (eg l i).1 (eg l i).2 (eg l j).1 (eg l j).2 = M at hM ⊢
     refine ok_lenS (es:=M.map pcs) rfl (M.length:Int) (by simp) ?_
     try simp only [nr]
     refine ok_eq rfl (decide (M.length = 1)) (by rw [Bool.eq_iff_iff,beq_iff_eq,decide_eq_true_iff]; omega) ?_
     try simp only [nr]
     refine ok_ite rfl (fun h6=>?_) (fun h6=>?_)
     ·obtain ⟨p,hp⟩:∃ p,M = [p]:=by
       match M,of_decide_eq_true h6 with
       | [p],_=>exact ⟨p,rfl⟩
      subst hp
      obtain ⟨hm,hpb⟩:=hM p (List.mem_singleton.2 rfl)
      refine ok_idx (m:=0) (es:=[pcs p]) rfl rfl rfl ?_
      try simp only [nr]
      refine ok_fld (ds:=qs3 p.2) rfl rfl ?_
      try simp only [nr]
      refine ok_ld rfl rfl ?_
      try simp only [nr]
      refine ok_callR (hwin (IsQ.qc hpb) (.inl hm)) rfl rfl rfl ?_
      try simp only [nr]
      refine ok_false rfl ?_
      refine ok_inc (n:=j) rfl (by omega) ?_
      try simp only [nr]
      exact ok_again rfl (hD3 _ hjl rfl)
     ·refine ok_inc (n:=j) rfl (by omega) ?_
      try simp only [nr]
      exact ok_again rfl (hD3 _ hjl rfl)
    ·refine ok_inc (n:=i) rfl (by omega) ?_
     try simp only [nr]
     exact ok_again rfl (hD2 _ hlt rfl)
   | some q1 =>
    have u1':=u1
    rw [ho1] at u1'
    refine ok_call u1' rfl rfl ?_
    try simp only [nr]
    refine ok_true rfl ?_
    have hm1:q1 ∈ edgesYs b.x0.q b.x1.q l:=edgesYs_at hlt (by unfold edgeYs; rw [ho1]; simp)
    refine ok_callR (hwin (IsQ.qc (pup_b bA bB i1.b ho1)) (.inr hm1)) rfl rfl rfl ?_
    try simp only [nr]
    refine ok_false rfl ?_
    refine ok_for i (fun j us=>us = [.raw (.int .i64 (j:Int))]) rfl (fun i us h=>⟨_,h⟩) ?_
    try simp only [nr]
    rintro j us D3 hj rfl hD3
    try simp only [nr]
    refine ok_lss rfl (decide (j < i)) (by rw [Bool.eq_iff_iff,decide_eq_true_iff,decide_eq_true_iff]; omega) ?_
    try simp only [nr]
    refine ok_ite rfl (fun h5=>?_) (fun h5=>?_)
    ·have hjl:j < i:=of_decide_eq_true h5
     obtain ⟨b1,b2,b3,b4,b5,b6,b7,b8,b9,b10,b11,b12,heb,hC,hD'⟩:=hes.at (show j < l.length by omega)
     refine ok_idx rfl heb rfl ?_
     try simp only [nr]
     refine ok_ldxS (off:=0) (n:=6) rfl heb rfl (by decide) (ds:=[b1,b2,b3,b4,b5,b6]) rfl ?_
     try simp only [nr]
     refine ok_idx rfl heb rfl ?_
     try simp only [nr]
     refine ok_ldxS (off:=6) (n:=6) rfl heb rfl (by decide) (ds:=[b7,b8,b9,b10,b11,b12]) rfl ?_
     try simp only [nr]
     refine ok_call (s_Meet hA hB hC hD' (by decide)) rfl rfl ?_
     try simp only [nr]
     have hM:∀ p ∈ pmeet (eg l i).1 (eg l i).2 (eg l j).1 (eg l j).2,p.2 ∈ crossUp l l.length ∧ Qb p.2 50:=fun p hp=>by
      have hm:p.2 ∈ crossUp l l.length:=(crossUp_mem (Nat.le_refl _)).2 ⟨j,i,by omega,hjl,hlt,p,Com.symm (pmeet_mem.1 hp),rfl⟩
      exact ⟨hm,crossUp_b (fun i hi=>hes.b hi) hm⟩
     generalize pmeet (eg l i).1 (eg l i).2 (eg l j).1 (eg l j).2 = M at hM ⊢
     refine ok_lenS (es:=M.map pcs) rfl (M.length:Int) (by simp) ?_
     try simp only [nr]
     refine ok_eq rfl (decide (M.length = 1)) (by rw [Bool.eq_iff_iff,beq_iff_eq,decide_eq_true_iff]; omega) ?_
     try simp only [nr]
     refine ok_ite rfl (fun h6=>?_) (fun h6=>?_)
     ·obtain ⟨p,hp⟩:∃ p,M = [p]:=by
       match M,of_decide_eq_true h6 with
       | [p],_=>exact ⟨p,rfl⟩
      subst hp
      obtain ⟨hm,hpb⟩:=hM p (List.mem_singleton.2 rfl)
      refine ok_idx (m:=0) (es:=[pcs p]) rfl rfl rfl ?_
      try simp only [nr]
      refine ok_fld (ds:=qs3 p.2) rfl rfl ?_
      try simp only [nr]
      refine ok_ld rfl rfl ?_
      try simp only [nr]
      refine ok_callR (hwin (IsQ.qc hpb) (.inl hm)) rfl rfl rfl ?_
      try simp only [nr]
      refine ok_false rfl ?_
      refine ok_inc (n:=j) rfl (by omega) ?_
      try simp only [nr]
      exact ok_again rfl (hD3 _ hjl rfl)
     ·refine ok_inc (n:=j) rfl (by omega) ?_
      try simp only [nr]
      exact ok_again rfl (hD3 _ hjl rfl)
    ·refine ok_inc (n:=i) rfl (by omega) ?_
     try simp only [nr]
     exact ok_again rfl (hD2 _ hlt rfl)
  | some q0 =>
   have u0':=u0
   rw [ho0] at u0'
   refine ok_call u0' rfl rfl ?_
   try simp only [nr]
   refine ok_true rfl ?_
   have hm0:q0 ∈ edgesYs b.x0.q b.x1.q l:=edgesYs_at hlt (by unfold edgeYs; rw [ho0]; simp)
   refine ok_callR (hwin (IsQ.qc (pup_b bA bB i0.b ho0)) (.inr hm0)) rfl rfl rfl ?_
   try simp only [nr]
   refine ok_false rfl ?_
   cases ho1:pup (eg l i) b.x1.q with
   | none =>
    have u1':=u1
    rw [ho1] at u1'
    refine ok_call u1' rfl rfl ?_
    try simp only [nr]
    refine ok_false rfl ?_
    refine ok_for i (fun j us=>us = [.raw (.int .i64 (j:Int))]) rfl (fun i us h=>⟨_,h⟩) ?_
    try simp only [nr]
    rintro j us D3 hj rfl hD3
    try simp only [nr]
    refine ok_lss rfl (decide (j < i)) (by rw [Bool.eq_iff_iff,decide_eq_true_iff,decide_eq_true_iff]; omega) ?_
    try simp only [nr]
    refine ok_ite rfl (fun h5=>?_) (fun h5=>?_)
    ·have hjl:j < i:=of_decide_eq_true h5
     obtain ⟨b1,b2,b3,b4,b5,b6,b7,b8,b9,b10,b11,b12,heb,hC,hD'⟩:=hes.at (show j < l.length by omega)
     refine ok_idx rfl heb rfl ?_
     try simp only [nr]
     refine ok_ldxS (off:=0) (n:=6) rfl heb rfl (by decide) (ds:=[b1,b2,b3,b4,b5,b6]) rfl ?_
     try simp only [nr]
     refine ok_idx rfl heb rfl ?_
     try simp only [nr]
     refine ok_ldxS (off:=6) (n:=6) rfl heb rfl (by decide) (ds:=[b7,b8,b9,b10,b11,b12]) rfl ?_
     try simp only [nr]
     refine ok_call (s_Meet hA hB hC hD' (by decide)) rfl rfl ?_
     try simp only [nr]
     have hM:∀ p ∈ pmeet (eg l i).1 (eg l i).2 (eg l j).1 (eg l j).2,p.2 ∈ crossUp l l.length ∧ Qb p.2 50:=fun p hp=>by
      have hm:p.2 ∈ crossUp l l.length:=(crossUp_mem (Nat.le_refl _)).2 ⟨j,i,by omega,hjl,hlt,p,Com.symm (pmeet_mem.1 hp),rfl⟩
      exact ⟨hm,crossUp_b (fun i hi=>hes.b hi) hm⟩
     generalize pmeet (eg l i).1 (eg l i).2 (eg l j).1 (eg l j).2 = M at hM ⊢
     refine ok_lenS (es:=M.map pcs) rfl (M.length:Int) (by simp) ?_
     try simp only [nr]
     refine ok_eq rfl (decide (M.length = 1)) (by rw [Bool.eq_iff_iff,beq_iff_eq,decide_eq_true_iff]; omega) ?_
     try simp only [nr]
     refine ok_ite rfl (fun h6=>?_) (fun h6=>?_)
     ·obtain ⟨p,hp⟩:∃ p,M = [p]:=by
       match M,of_decide_eq_true h6 with
       | [p],_=>exact ⟨p,rfl⟩
      subst hp
      obtain ⟨hm,hpb⟩:=hM p (List.mem_singleton.2 rfl)
      refine ok_idx (m:=0) (es:=[pcs p]) rfl rfl rfl ?_
      try simp only [nr]
      refine ok_fld (ds:=qs3 p.2) rfl rfl ?_
      try simp only [nr]
      refine ok_ld rfl rfl ?_
      try simp only [nr]
      refine ok_callR (hwin (IsQ.qc hpb) (.inl hm)) rfl rfl rfl ?_
      try simp only [nr]
      refine ok_false rfl ?_
      refine ok_inc (n:=j) rfl (by omega) ?_
      try simp only [nr]
      exact ok_again rfl (hD3 _ hjl rfl)
     ·refine ok_inc (n:=j) rfl (by omega) ?_
      try simp only [nr]
      exact ok_again rfl (hD3 _ hjl rfl)
    ·refine ok_inc (n:=i) rfl (by omega) ?_
     try simp only [nr]
     exact ok_again rfl (hD2 _ hlt rfl)
   | some q1 =>
    have u1':=u1
    rw [ho1] at u1'
    refine ok_call u1' rfl rfl ?_
    try simp only [nr]
    refine ok_true rfl ?_
    have hm1:q1 ∈ edgesYs b.x0.q b.x1.q l:=edgesYs_at hlt (by unfold edgeYs; rw [ho1]; simp)
    refine ok_callR (hwin (IsQ.qc (pup_b bA bB i1.b ho1)) (.inr hm1)) rfl rfl rfl ?_
    try simp only [nr]
    refine ok_false rfl ?_
    refine ok_for i (fun j us=>us = [.raw (.int .i64 (j:Int))]) rfl (fun i us h=>⟨_,h⟩) ?_
    try simp only [nr]
    rintro j us D3 hj rfl hD3
    try simp only [nr]
    refine ok_lss rfl (decide (j < i)) (by rw [Bool.eq_iff_iff,decide_eq_true_iff,decide_eq_true_iff]; omega) ?_
    try simp only [nr]
    refine ok_ite rfl (fun h5=>?_) (fun h5=>?_)
    ·have hjl:j < i:=of_decide_eq_true h5
     obtain ⟨b1,b2,b3,b4,b5,b6,b7,b8,b9,b10,b11,b12,heb,hC,hD'⟩:=hes.at (show j < l.length by omega)
     refine ok_idx rfl heb rfl ?_
     try simp only [nr]
     refine ok_ldxS (off:=0) (n:=6) rfl heb rfl (by decide) (ds:=[b1,b2,b3,b4,b5,b6]) rfl ?_
     try simp only [nr]
     refine ok_idx rfl heb rfl ?_
     try simp only [nr]
     refine ok_ldxS (off:=6) (n:=6) rfl heb rfl (by decide) (ds:=[b7,b8,b9,b10,b11,b12]) rfl ?_
     try simp only [nr]
     refine ok_call (s_Meet hA hB hC hD' (by decide)) rfl rfl ?_
     try simp only [nr]
     have hM:∀ p ∈ pmeet (eg l i).1 (eg l i).2 (eg l j).1 (eg l j).2,p.2 ∈ crossUp l l.length ∧ Qb p.2 50:=fun p hp=>by
      have hm:p.2 ∈ crossUp l l.length:=(crossUp_mem (Nat.le_refl _)).2 ⟨j,i,by omega,hjl,hlt,p,Com.symm (pmeet_mem.1 hp),rfl⟩
      exact ⟨hm,crossUp_b (fun i hi=>hes.b hi) hm⟩
     generalize pmeet (eg l i).1 (eg l i).2 (eg l j).1 (eg l j).2 = M at hM ⊢
     refine ok_lenS (es:=M.map pcs) rfl (M.length:Int) (by simp) ?_
     try simp only [nr]
     refine ok_eq rfl (decide (M.length = 1)) (by rw [Bool.eq_iff_iff,beq_iff_eq,decide_eq_true_iff]; omega) ?_
     try simp only [nr]
     refine ok_ite rfl (fun h6=>?_) (fun h6=>?_)
     ·obtain ⟨p,hp⟩:∃ p,M = [p]:=by
       match M,of_decide_eq_true h6 with
       | [p],_=>exact ⟨p,rfl⟩
      subst hp
      obtain ⟨hm,hpb⟩:=hM p (List.mem_singleton.2 rfl)
      refine ok_idx (m:=0) (es:=[pcs p]) rfl rfl rfl ?_
      try simp only [nr]
      refine ok_fld (ds:=qs3 p.2) rfl rfl ?_
      try simp only [nr]
      refine ok_ld rfl rfl ?_
      try simp only [nr]
      refine ok_callR (hwin (IsQ.qc hpb) (.inl hm)) rfl rfl rfl ?_
      try simp only [nr]
      refine ok_false rfl ?_
      refine ok_inc (n:=j) rfl (by omega) ?_
      try simp only [nr]
      exact ok_again rfl (hD3 _ hjl rfl)
     ·refine ok_inc (n:=j) rfl (by omega) ?_
      try simp only [nr]
      exact ok_again rfl (hD3 _ hjl rfl)
    ·refine ok_inc (n:=i) rfl (by omega) ?_
     try simp only [nr]
     exact ok_again rfl (hD2 _ hlt rfl)
 ·refine ok_call wk rfl rfl ?_
  try simp only [nr]
  exact ok_ret rfl rfl
end Go.Proofs.YtcpgflbfjplheaaGreatDoor
